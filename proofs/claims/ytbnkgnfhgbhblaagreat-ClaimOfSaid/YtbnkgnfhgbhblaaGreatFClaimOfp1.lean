/- What the proof of this claim leans on, part 1. -/
import Derived.ProofKit
import Derived.OpenShut
import Derived.Deep.Slices
import Derived.Carry
import Derived.ChangeCalls
import GoSem.Claims
import Derived.Calls
import Derived.Orders
import Derived.Laws.Cells
import Derived.Laws.IdiomCopy
import Derived.Laws.World
import Derived.Laws.Bits
import Derived.Laws.Strings
import Derived.IntWalk
import Derived.Laws.Append
import Derived.Laws.StructEq
import Derived.MapKept
import Derived.LoopN
import Derived.Defers
import Derived.KernelRfl
import Derived.Test.YtbnkgnfhgbhblaaGreatChecked
set_option linter.all false
open Bool renaming and_eq_true→E3R,false_eq_true→E4M,not_eq_true'→E4D,or_eq_true→E4K
open List renaming all_cons→E4x,all_eq_true→E4H,append_assoc→E3U,append_nil→E4f,drop_drop→E4S,drop_eq_getElem_cons→E3V,drop_of_length_le→E32,drop_zero→E39,ext_getElem?→E4I,flatten_cons→E4L,getElem?_append_left→E4r,getElem?_append_right→E35,getElem?_drop→E4G,getElem?_eq_getElem→E3P,getElem?_eq_none→E4q,getElem?_take_of_lt→E4n,getElem_mem→E4u,length_append→E3S,length_cons→E3Z,length_nil→E4h,length_set→E4o,length_take→E4k,map_append→E4J,map_cons→E4R,mem_cons_of_mem→E4a,mem_cons_self→E4c,mem_of_getElem?→E4e,range→E4m,range'→E4s,replicate→E3Q,replicate_succ→E4i,take_of_length_le→E3Y
open Nat renaming add_mul→E4Q,le_refl→E3T,le_trans→E4t,min→E4W,min_eq_left→E4N,mod_eq_of_lt→E4E,zero_add→E4b
open Option renaming bind_eq_some_iff→E3O,bind_some→E3X,map_eq_some_iff→E34,map_some→E4T
namespace Go.Esc
open Go
section
inductive Cell where
 | b (x:Bool)
 | i (k:IntKind) (n:Int)
 | s (x:List UInt8)
 | p (id off:Nat)
 | np
 | sl (id off len sz:Nat)
 | ns
 | f (fn:Nat) (caps:List (Nat × Nat))
 | nf
 | m (id:Nat)
 | nm
 | dark
 | mh
 | hk (agg:Bool) (x:Cell)
 | hx (x:Cell)
 deriving DecidableEq,Inhabited
inductive Part where
 | c (x:Cell)
 | a (l:List Cell)
 deriving Inhabited
inductive Val where
 | un
 | no
 | c (x:Cell)
 | a (l:List Cell)
 | t (l:List Part)
 deriving Inhabited
structure Row where
 cells:List Cell
 rw:Bool
 deriving Inhabited
abbrev A6:=List (Option Row)
abbrev Env:=List (Nat × Val)
def Env.get:Env->Nat->Val
 | [],_=>.un
 | (d,v)::r,t=>bif Nat.beq d t then v else Env.get r t
def Env.keep (e:Env):List Nat->Env
 | []=>[]
 | t::r=>(t,e.get t)::Env.keep e r
def Env.put (e:Env) (d:Option Nat) (v:Val):Env :=
 match d with
 | some d=>(d,v)::e
 | none=>e
inductive Opd where
 | t (n:Nat)
 | v (x:Val)
 deriving Inhabited
def Env.ev (e:Env):Opd->Val
 | .t n=>e.get n
 | .v x=>x
inductive Sh where
 | b
 | i (k:IntKind)
 | s
 deriving DecidableEq,Inhabited
def Cell.sh:Cell->Option Sh
 | .b _=>some .b
 | .i k _=>some (.i k)
 | .s _=>some .s
 | _=>none
inductive AOp where
 | mv (x:Opd)
 | nilrow (sz:Nat)
 | pick (c a b:Opd)
 | alloc (zero:List Cell)
 | box (x:Opd)
 | build (zero:List Cell) (parts:List (Nat × Nat × Opd))
 | buildSl (sz len:Nat) (zero:List Cell) (parts:List (Nat × Nat × Opd))
 | load1 (a:Opd)
 | loadN (n:Nat) (a:Opd)
 | store1 (a x:Opd)
 | storeN (n:Nat) (a x:Opd)
 | bin (op:BinOp) (x y:Opd)
 | eqA (neg:Bool) (sh:List Sh) (x y:Opd)
 | eqB (neg:Bool) (x y:Opd)
 | eqN (fn neg:Bool) (x:Opd)
 | nilc (x:Opd)
 | un (op:UnOp) (x:Opd)
 | conv (k:IntKind) (x:Opd)
 | convS (x:Opd)
 | s2b (x:Opd)
 | b2s (x:Opd)
 | b2sN (own:Option Nat) (x:Opd)
 | mark (x:Opd)
 | mkf (fn:Nat) (caps:List Opd)
 | mkSl (sz:Nat) (zero:List Cell) (len cap:Opd)
 | slS (x:Opd) (lo hi:Option Opd)
 | slL (sz:Nat) (x:Opd) (lo hi:Option Opd)
 | slA (n sz:Nat) (x:Opd) (lo hi:Option Opd)
 | fAddr (x:Opd) (off:Nat)
 | iAddrA (n sz:Nat) (x i:Opd)
 | iAddrL (sz:Nat) (x i:Opd)
 | fld1 (x:Opd) (off:Nat)
 | fldN (x:Opd) (off n:Nat)
 | idxA1 (n:Nat) (x i:Opd)
 | idxAN (n sz:Nat) (x i:Opd)
 | idxS (x i:Opd)
 | ext (x:Opd) (k:Nat)
 | call (f:Nat) (args:List Opd)
 | callV (f:Opd) (args:List Opd)
 | len (x:Opd)
 | lenS (x:Opd)
 | app (sz:Nat) (x y:Opd)
 | appZ (sz:Nat) (zero:List Cell) (x y:Opd)
 | max (x y:Opd)
 | min (x y:Opd)
 | copy (sz:Nat) (x y:Opd)
 | mkMap
 | look (kk:Option IntKind) (zero:Part) (ok:Bool) (m k:Opd)
 | mput (kk:Option IntKind) (m k x:Opd)
 | ment (kk:Option IntKind) (zero:Part) (m k:Opd)
 | mset (m s x:Opd)
 deriving Inhabited
structure AOper where
 dst:Option Nat
 op:AOp
 guard:Option (Nat × Bool):=none
 slot:Option Nat:=none
 deriving Inhabited
inductive ACode where
 | skip
 | ops (l:List AOper)
 | draw (n:Nat) (l:List AOper) (r:List AOper)
 | drawS (n:Nat) (l:List AOper) (s:AOper) (chk:List (Nat × AOp)) (r:List AOper)
 | seq (keep:List Nat) (a b:ACode)
 | cond (c:Opd) (a b:ACode)
 | block (id:Nat) (a:ACode)
 | loop (keep:List Nat) (a:ACode)
 | exit (id:Nat)
 | ret
 deriving Inhabited
def cells? : Val->Option (List Cell)
 | .c x=>some [x]
 | .a l=>some l
 | _=>none
def A9Y (op:BinOp) (k:IntKind) (a b:Int):Option Cell :=
 match op with
 | .add=>some (.i k (k.wrap (a+b)))
 | .sub=>some (.i k (k.wrap (a-b)))
 | .mul=>some (.i k (k.wrap (a*b)))
 | .quo=>if b=0 then none else some (.i k (k.wrap (a.tdiv b)))
 | .rem=>if b=0 then none else some (.i k (a.tmod b))
 | .and=>some (.i k (k.wrap (BitVec.ofInt k.bits a &&& BitVec.ofInt k.bits b).toNat))
 | .or=>some (.i k (k.wrap (BitVec.ofInt k.bits a ||| BitVec.ofInt k.bits b).toNat))
 | .xor=>some (.i k (k.wrap (BitVec.ofInt k.bits a ^^^ BitVec.ofInt k.bits b).toNat))
 | .andNot=>some (.i k (k.wrap (BitVec.ofInt k.bits a &&& ~~~ BitVec.ofInt k.bits b).toNat))
 | .eql=>some (.b (a==b))
 | .neq=>some (.b (a != b))
 | .lss=>some (.b (decide (a<b)))
 | .leq=>some (.b (decide (a<=b)))
 | .gtr=>some (.b (decide (a > b)))
 | .geq=>some (.b (decide (a>=b)))
 | _=>none
def E03 (k:IntKind) (a b:Int):Option Cell:=if b<0 then none else some (.i k (k.wrap (a*2 ^ (E4W b.toNat k.bits))))
def E04 (k:IntKind) (a b:Int):Option Cell:=if b<0 then none else some (.i k (a.fdiv (2 ^ (E4W b.toNat k.bits))))
def J8:List UInt8->List UInt8->Bool
 | _,[]=>false
 | [],_::_=>true
 | a::x,b::y=>decide (a<b)||(a==b&&J8 x y)
def D8p (op:BinOp) (a b:List UInt8):Option Cell :=
 match op with
 | .add=>if a.length+b.length<=1073741824 then some (.s (a++b)) else none
 | .eql=>some (.b (a==b))
 | .neq=>some (.b (!(a==b)))
 | .lss=>some (.b (J8 a b))
 | .leq=>some (.b (J8 a b||a==b))
 | .gtr=>some (.b (!(J8 a b||a==b)))
 | .geq=>some (.b (!J8 a b))
 | _=>none
def N9 (op:BinOp) (x y:Val):Option Val :=
 match x,y with
 | .c (.i k a),.c (.i k' b) =>
  match op with
  | .shl=>(E03 k a b).map .c
  | .shr=>(E04 k a b).map .c
  | op=>bif decide (k=k') then (A9Y op k a b).map .c else none
 | .c (.s a),.c (.s b)=>(D8p op a b).map .c
 | _,_=>none
def D25 (neg:Bool) (x y:Val):Option Val :=
 match x,y with
 | .c (.b a),.c (.b b)=>some (.c (.b (bif neg then !(a==b) else a==b)))
 | _,_=>none
def C93 (fn neg:Bool) (x:Val):Option Val :=
 match fn,x with
 | true,.c .nf=>some (.c (.b (!neg)))
 | true,.c (.f _ _)=>some (.c (.b neg))
 | false,.c .np=>some (.c (.b (!neg)))
 | false,.c (.p _ _)=>some (.c (.b neg))
 | _,_=>none
def A3Z (x:Val):Option Val :=
 match x with
 | .c (.p id off)=>some (.c (.p id off))
 | .c (.f g cs)=>some (.c (.f g cs))
 | _=>none
def aeq (neg:Bool) (sh:List Sh) (x y:Val):Option Val :=
 match x,y with
 | .a l,.a l'=>if l.map Cell.sh=sh.map some/\l'.map Cell.sh=sh.map some then some (.c (.b (bif neg then !(decide (l=l')) else decide (l=l')))) else none
 | _,_=>none
def aun (op:UnOp) (x:Val):Option Val :=
 match op,x with
 | .not,.c (.b b)=>some (.c (.b (!b)))
 | .neg,.c (.i k n)=>some (.c (.i k (k.wrap (0-n))))
 | .xor,.c (.i k n)=>some (.c (.i k (k.wrap (BitVec.ofInt k.bits (if k.signed then -1 else k.max) ^^^ BitVec.ofInt k.bits n).toNat)))
 | _,_=>none
def D1r (c a b:Val):Option Val :=
 match c with
 | .c (.b x)=>some (bif x then a else b)
 | _=>none
def rd (h:A6) (id:Nat):Option Row:=(h[id]?).join
def Cell.isX:Cell->Bool
 | .dark=>true
 | .mh=>true
 | .hk _ _=>true
 | .hx _=>true
 | _=>false
def Cell.isD:Cell->Bool
 | .dark=>true
 | _=>false
def noX (l:List Cell):Bool:=l.all λc=>!c.isX
def B4 (h:A6):Val->Option Val
 | .c (.p id off)=>(rd h id).bind λr=>(r.cells[off]?).bind λc=>bif r.rw || !c.isX then some (.c c) else none
 | _=>none
def C8 (h:A6) (n:Nat):Val->Option Val
 | .c (.p id off)=>(rd h id).bind λr=>if off+n<=r.cells.length/\(r.rw||noX ((r.cells.drop off).take n))=true then some (.a ((r.cells.drop off).take n)) else none
 | _=>none
def lay (cs:List Cell) (off:Nat) (xs:List Cell):List Cell:=cs.take off++(xs++cs.drop (off+xs.length))
def F9 (h:A6) (a x:Val):Option A6 :=
 match a,x with
 | .c (.p id off),.c x=>(rd h id).bind λr=>if r.rw=true/\off<r.cells.length then some (h.set id (some ⟨r.cells.set off x,true⟩)) else none
 | _,_=>none
def E1 (h:A6) (n:Nat) (a x:Val):Option A6 :=
 match a,x with
 | .c (.p id off),.a xs=>(rd h id).bind λr=>if r.rw=true/\xs.length=n/\off+n<=r.cells.length then some (h.set id (some ⟨lay r.cells off xs,true⟩)) else none
 | _,_=>none
def cQ (h:A6) (n0:Nat) (slot:Option Nat) (r:Row):Nat × A6 :=
 match slot with
 | none=>(h.length,h++[some r])
 | some j=>(n0+j,h.set (n0+j) (some r))
def D9 (zero:List Cell):List (Nat × Nat × Val)->Option (List Cell)
 | []=>some zero
 | (off,n,v)::r =>
  match cells? v with
  | some xs=>if xs.length=n/\off+n<=zero.length then D9 (lay zero off xs) r else none
  | none=>none
def D1g (k:IntKind):Val->Option Val
 | .c (.i _ n)=>some (.c (.i k (k.wrap n)))
 | _=>none
def fV (h:A6):Val->Option (List Cell)
 | .c .ns=>some []
 | .c (.sl id off len sz)=>(rd h id).bind λr=>if off+len*sz<=r.cells.length/\(r.rw||noX ((r.cells.drop off).take (len*sz)))=true then some ((r.cells.drop off).take (len*sz)) else none
 | _=>none
def C8E:Cell->Option UInt8
 | .i .u8 n=>if 0<=n/\n<256 then some (UInt8.ofNat n.toNat) else none
 | _=>none
def bytes? : List Cell->Option (List UInt8)
 | []=>some []
 | c::r=>(C8E c).bind λx=>(bytes? r).map λl=>x::l
def C92 (x:Val):Option Val :=
 match x with
 | .c (.s s)=>some (.c (.s s))
 | _=>none
def B3Q (h:A6) (x:Val):Option Val :=
 match x with
 | .c (.sl id off len sz)=>if sz=1 then ((fV h (.c (.sl id off len sz))).bind bytes?).map λs=>.c (.s s) else none
 | .c .ns=>some (.c (.s []))
 | _=>none
def C0i (h:A6) (n0:Nat) (own:Option Nat) (x:Val):Option Val :=
 match own with
 | none=>B3Q h x
 | some j =>
  match x with
  | .c (.sl id off len sz)=>if id=n0+j then B3Q h (.c (.sl id off len sz)) else none
  | _=>none
def A5 (l:List UInt8):List Cell:=l.map λx=>.i .u8 x.toNat
def bound (x:Option Val) (d:Nat):Option Nat :=
 match x with
 | none=>some d
 | some (.c (.i _ n))=>if 0<=n then some n.toNat else none
 | _=>none
def D8O (x:Val) (lo hi:Option Val):Option Val :=
 match x with
 | .c (.s s)=>(bound lo 0).bind λl=>(bound hi s.length).bind λh=>if l<=h/\h<=s.length then some (.c (.s ((s.take h).drop l))) else none
 | _=>none
def D1u (sz:Nat) (x:Val) (lo hi:Option Val):Option Val :=
 match x with
 | .c (.sl id off len sz')=>(bound lo 0).bind λl=>(bound hi len).bind λh=>if l<=h/\h<=len/\sz=sz' then some (.c (.sl id (off+l*sz) (h-l) sz)) else none
 | .c .ns=>(bound lo 0).bind λl=>(bound hi 0).bind λh=>if l=0/\h=0 then some (.c .ns) else none
 | _=>none
def B8P (hp:A6) (n sz:Nat) (x:Val) (lo hi:Option Val):Option Val :=
 match x with
 | .c (.p id off)=>(rd hp id).bind λr=>(bound lo 0).bind λl=>(bound hi n).bind λh =>
   if l<=h/\h<=n/\off+n*sz<=r.cells.length/\(r.rw||(r.cells[off]?).any λc=>!c.isX)=true then some (.c (.sl id (off+l*sz) (h-l) sz)) else none
 | _=>none
def pW (x:Val) (off:Nat):Option Val :=
 match x with
 | .c (.p id o)=>some (.c (.p id (o+off)))
 | _=>none
def J2 (n sz:Nat) (x i:Val):Option Val :=
 match x,i with
 | .c (.p id o),.c (.i _ j)=>if 0<=j/\j<n then some (.c (.p id (o+j.toNat*sz))) else none
 | _,_=>none
def D6 (sz:Nat) (x i:Val):Option Val :=
 match x,i with
 | .c (.sl id o len sz'),.c (.i _ j)=>if 0<=j/\j<len/\sz=sz' then some (.c (.p id (o+j.toNat*sz))) else none
 | _,_=>none
def B5Y (x:Val) (off:Nat):Option Val :=
 match x with
 | .a l=>(l[off]?).map .c
 | _=>none
def D4k (x:Val) (off n:Nat):Option Val :=
 match x with
 | .a l=>if off+n<=l.length then some (.a ((l.drop off).take n)) else none
 | _=>none
def A3f (n:Nat) (x i:Val):Option Val :=
 match x,i with
 | .a l,.c (.i _ j)=>if 0<=j/\j<n then (l[j.toNat]?).map .c else none
 | _,_=>none
def C94 (n sz:Nat) (x i:Val):Option Val :=
 match x,i with
 | .a l,.c (.i _ j)=>if 0<=j/\j<n/\j.toNat*sz+sz<=l.length then some (.a ((l.drop (j.toNat*sz)).take sz)) else none
 | _,_=>none
def C4A (x i:Val):Option Val :=
 match x,i with
 | .c (.s s),.c (.i _ j)=>if 0<=j then (s[j.toNat]?).map λb=>.c (.i .u8 b.toNat) else none
 | _,_=>none
def ofPart:Part->Val
 | .c x=>.c x
 | .a l=>.a l
def D27 (x:Val) (k:Nat):Option Val :=
 match x with
 | .t l=>(l[k]?).map ofPart
 | _=>none
def D1j (x:Val):Option Val :=
 match x with
 | .c (.s s)=>some (.c (.i .i64 s.length))
 | _=>none
def C95 (x:Val):Option Val :=
 match x with
 | .c (.sl _ _ len _)=>some (.c (.i .i64 len))
 | .c .ns=>some (.c (.i .i64 0))
 | _=>none
def O4 (h:A6) (sz:Nat):Val->Option (List Cell)
 | .c (.s s)=>if sz=1 then some (A5 s) else none
 | .c (.sl id off len sz')=>if sz=sz' then fV h (.c (.sl id off len sz')) else none
 | .c .ns=>some []
 | _=>none
def iY (h:A6) (sz:Nat) (x y:Val):Option (Val × A6) :=
 (O4 h sz y).bind λys =>
  match x with
  | .c .ns=>if ys.length/sz<=1073741824 then some (.c (.sl h.length 0 (ys.length/sz) sz),h++[some ⟨ys,true⟩]) else none
  | .c (.sl id off len sz')=>(rd h id).bind λr =>
    if r.rw=true/\off=0/\len*sz=r.cells.length/\sz=sz'/\len+ys.length/sz<=1073741824 then
     some (.c (.sl h.length 0 (len+ys.length/sz) sz),h.set id none++[some ⟨r.cells++ys,true⟩]) else none
  | _=>none
def xJ (h:A6) (x:Val):Option Val :=
 match x with
 | .c (.sl id _ len _)=>(rd h id).bind λr=>if r.rw=true/\0<len then some x else none
 | _=>none
def C4C (x y:Val):Option Val :=
 match x,y with
 | .c (.i k a),.c (.i _ b)=>some (.c (.i k (if b > a then b else a)))
 | _,_=>none
def B5Z (x y:Val):Option Val :=
 match x,y with
 | .c (.i k a),.c (.i _ b)=>some (.c (.i k (if b<a then b else a)))
 | _,_=>none
def C4w (h:A6) (sz:Nat) (x y:Val):Option (Val × A6) :=
 match y with
 | .c (.s _)=>none
 | _=>(O4 h sz y).bind λys =>
  match x with
  | .c (.sl id off len sz')=>(rd h id).bind λr =>
    if r.rw=true/\off+len*sz<=r.cells.length/\sz=sz' then
     some (.c (.i .i64 (E4W (ys.length/sz) len:Nat)),h.set id (some ⟨lay r.cells off (ys.take (E4W (ys.length/sz) len*sz)),true⟩)) else none
  | _=>none
def C4N:List Val->Option (List (Nat × Nat))
 | []=>some []
 | .c (.p id off)::r=>(C4N r).map λl=>(id,off)::l
 | _=>none
def B3V (fn:Nat) (caps:List Val):Option Val:=(C4N caps).map λl=>.c (.f fn l)
abbrev V6:=List (Cell × Part)
def A0M (e:Cell × Part):List Cell :=
 match e.2 with
 | .c x=>[.hk false e.1,.hx x]
 | .a l=>.hk true e.1::l.map .hx
def B4h (es:V6):List Cell:=.mh::es.flatMap A0M
def C5R (c:Cell) (s:List Cell × V6):List Cell × V6 :=
 match c with
 | .hx x=>(x::s.1,s.2)
 | .hk a k=>([],(k,bif a then .a s.1 else .c (s.1.headD .mh))::s.2)
 | _=>s
def D0z (cs:List Cell):V6:=(cs.foldr C5R ([],[])).2
def D2h (r:Row):Option V6:=if r.rw=false/\r.cells=B4h (D0z r.cells) then some (D0z r.cells) else none
def S3 (es:V6):Row:=⟨B4h es,false⟩
def rS (kk:Option IntKind) (c:Cell):Bool :=
 match kk,c with
 | some k,.i k' _=>decide (k'=k)
 | none,.s _=>true
 | _,_=>false
def mgo (k:Cell):V6->Nat->Option (Nat × Part)
 | [],_=>none
 | e::es,i=>if e.1=k then some (i,e.2) else mgo k es (i+1)
def B0a (k:Cell) (es:V6):Option (Nat × Part):=mgo k es 0
def A7y (k:Cell) (p:Part) (es:V6):V6 :=
 match B0a k es with
 | some (i,_)=>es.set i (k,p)
 | none=>es++[(k,p)]
def A3u (kk:Option IntKind) (k:Cell) (es:V6):Bool:=rS kk k&&es.all λe=>rS kk e.1
def D5T (h:A6):Val->Option V6
 | .c .nm=>some []
 | .c (.m id)=>(rd h id).bind D2h
 | _=>none
def C5H:Val->Option Cell
 | .c x=>some x
 | _=>none
def C6e:Val->Option Part
 | .c x=>some (.c x)
 | .a l=>some (.a l)
 | _=>none
def A4B (ok:Bool) (p:Part) (f:Bool):Val:=match ok with
 | true=>.t [p,.c (.b f)]
 | false=>match p with
  | .c x=>.c x
  | .a l=>.a l
def A6O (h:A6) (kk:Option IntKind) (zero:Part) (ok:Bool) (m k:Val):Option Val :=
 (C5H k).bind λk=>(D5T h m).bind λes=>if A3u kk k es=true then
  some (match B0a k es with
   | some (_,p)=>A4B ok p true
   | none=>A4B ok zero false) else none
def A1R (h:A6) (kk:Option IntKind) (m k x:Val):Option A6 :=
 match m with
 | .c (.m id)=>(C5H k).bind λk=>(C6e x).bind λp=>(rd h id).bind λr=>(D2h r).bind λes=>if A3u kk k es=true then
  some (h.set id (some (S3 (A7y k p es)))) else none
 | _=>none
def D1m (h:A6) (kk:Option IntKind) (zero:Part) (m k:Val):Option (Val × A6) :=
 match m with
 | .c (.m id)=>(C5H k).bind λk=>(rd h id).bind λr=>(D2h r).bind λes=>if A3u kk k es=true then
  some (match B0a k es with
   | some (i,p)=>(.t [p,.c (.i .i64 i)],h)
   | none=>(.t [zero,.c (.i .i64 es.length)],h.set id (some (S3 (es++[(k,zero)]))))) else none
 | _=>none
def D1n (h:A6) (m s x:Val):Option A6 :=
 match m,s with
 | .c (.m id),.c (.i .i64 n)=>(C6e x).bind λp=>(rd h id).bind λr=>(D2h r).bind λes=>if 0<=n then (es[n.toNat]?).bind λe=>some (h.set id (some (S3 (es.set n.toNat (e.1,p))))) else none
 | _,_=>none
def A4y:Val->Option Nat
 | .c (.i .i64 n)=>if 0<=n/\n<=1073741824 then some n.toNat else none
 | _=>none
def rows (zero:List Cell) (n:Nat):List Cell:=(E3Q n zero).flatten
def C2p (l:List (Nat × Nat)):List Val:=l.map λq=>.c (.p q.1 q.2)
abbrev N1:=Nat->List Val->A6->Option (Val × A6)
def Row.head (r:Row):Bool :=
 match r.cells with
 | .mh::l=>l.all Cell.isX
 | _=>false
def Row.own (r:Row):Bool:=r.rw||r.head
open Classical in
noncomputable def quiet (h:A6) (r:Option (Val × A6)):Option (Val × A6) :=
 r.bind λp=>if h <+: p.2/\(∀ id x,h.length<=id->rd p.2 id=some x->x.own=true) then some p else none
def A1U (E:N1) (f:Val) (args:List Val) (h:A6):Option (Val × A6) :=
 match f with
 | .c (.f g caps)=>E g (args++C2p caps) h
 | _=>none
def E0r (x:Val):Option (List UInt8) :=
 match x with
 | .c (.s s)=>if s.length<=1073741824 then some s else none
 | _=>none
def A5P (x y:Val):Option Nat:=(A4y x).bind λn=>(A4y y).bind λc=>if n<=c then some n else none
def B5W (h:A6) (sz:Nat) (zero:List Cell) (x y:Val):Option (Val × A6) :=
 (A4y y).bind λn =>
  match x with
  | .c .ns=>some (.c (.sl h.length 0 n sz),h++[some ⟨rows zero n,true⟩])
  | .c (.sl id off len sz')=>(rd h id).bind λr =>
    if r.rw=true/\off=0/\len*sz=r.cells.length/\sz=sz'/\len+n<=1073741824 then
     some (.c (.sl h.length 0 (len+n) sz),h.set id none++[some ⟨r.cells++rows zero n,true⟩]) else none
  | _=>none
variable {R:Type}
def cnd (v:Val) (a b:Option R):Option R :=
 match v with
 | .c (.b x)=>bif x then a else b
 | _=>none
noncomputable def aop (E:N1) (q:Bool) (hr:A6) (n0:Nat) (slot:Option Nat) (o:AOp) (e:Env) (h:A6) (k:Val->A6->Option R):Option R :=
 match o with
 | .mv x=>k (e.ev x) h
 | .nilrow sz=>let p:=cQ h n0 slot ⟨[],true⟩;k (.c (.sl p.1 0 0 sz)) p.2
 | .pick c a b=>(D1r (e.ev c) (e.ev a) (e.ev b)).bind λv=>k v h
 | .alloc zero=>let p:=cQ h n0 slot ⟨zero,true⟩;k (.c (.p p.1 0)) p.2
 | .box x=>(cells? (e.ev x)).bind λcs=>let p:=cQ h n0 slot ⟨cs,true⟩;k (.c (.p p.1 0)) p.2
 | .build zero parts=>(D9 zero (parts.map λp=>(p.1,p.2.1,e.ev p.2.2))).bind λcs=>k (.a cs) h
 | .buildSl sz len zero parts=>(D9 zero (parts.map λp=>(p.1,p.2.1,e.ev p.2.2))).bind λcs=>let p:=cQ h n0 slot ⟨cs,true⟩;k (.c (.sl p.1 0 len sz)) p.2
 | .load1 a=>(B4 hr (e.ev a)).bind λv=>k v h
 | .loadN n a=>(C8 hr n (e.ev a)).bind λv=>k v h
 | .store1 a x=>(F9 h (e.ev a) (e.ev x)).bind λh=>k .un h
 | .storeN n a x=>(E1 h n (e.ev a) (e.ev x)).bind λh=>k .un h
 | .bin op x y=>(N9 op (e.ev x) (e.ev y)).bind λv=>k v h
 | .eqA neg sh x y=>(aeq neg sh (e.ev x) (e.ev y)).bind λv=>k v h
 | .eqB neg x y=>(D25 neg (e.ev x) (e.ev y)).bind λv=>k v h
 | .eqN fn neg x=>(C93 fn neg (e.ev x)).bind λv=>k v h
 | .nilc x=>(A3Z (e.ev x)).bind λv=>k v h
 | .un op x=>(aun op (e.ev x)).bind λv=>k v h
 | .conv kd x=>(D1g kd (e.ev x)).bind λv=>k v h
 | .convS x=>(C92 (e.ev x)).bind λv=>k v h
 | .s2b x=>(E0r (e.ev x)).bind λs=>let p:=cQ h n0 slot ⟨A5 s,true⟩;k (.c (.sl p.1 0 s.length 1)) p.2
 | .b2s x=>(B3Q hr (e.ev x)).bind λv=>k v h
 | .b2sN own x=>(C0i h n0 own (e.ev x)).bind λv=>k v h
 | .mark x=>(xJ h (e.ev x)).bind λv=>k v h
 | .mkf fn caps=>(B3V fn (caps.map e.ev)).bind λv=>k v h
 | .mkSl sz zero len cap=>(A5P (e.ev len) (e.ev cap)).bind λn=>let p:=cQ h n0 slot ⟨rows zero n,true⟩;k (.c (.sl p.1 0 n sz)) p.2
 | .slS x lo hi=>(D8O (e.ev x) (lo.map e.ev) (hi.map e.ev)).bind λv=>k v h
 | .slL sz x lo hi=>(D1u sz (e.ev x) (lo.map e.ev) (hi.map e.ev)).bind λv=>k v h
 | .slA n sz x lo hi=>(B8P hr n sz (e.ev x) (lo.map e.ev) (hi.map e.ev)).bind λv=>k v h
 | .fAddr x off=>(pW (e.ev x) off).bind λv=>k v h
 | .iAddrA n sz x i=>(J2 n sz (e.ev x) (e.ev i)).bind λv=>k v h
 | .iAddrL sz x i=>(D6 sz (e.ev x) (e.ev i)).bind λv=>k v h
 | .fld1 x off=>(B5Y (e.ev x) off).bind λv=>k v h
 | .fldN x off n=>(D4k (e.ev x) off n).bind λv=>k v h
 | .idxA1 n x i=>(A3f n (e.ev x) (e.ev i)).bind λv=>k v h
 | .idxAN n sz x i=>(C94 n sz (e.ev x) (e.ev i)).bind λv=>k v h
 | .idxS x i=>(C4A (e.ev x) (e.ev i)).bind λv=>k v h
 | .ext x j=>(D27 (e.ev x) j).bind λv=>k v h
 | .call f args=>(bif q then quiet h (E f (args.map e.ev) h) else E f (args.map e.ev) h).bind λp=>k p.1 p.2
 | .callV f args=>(bif q then quiet h (A1U E (e.ev f) (args.map e.ev) h) else A1U E (e.ev f) (args.map e.ev) h).bind λp=>k p.1 p.2
 | .len x=>(C95 (e.ev x)).bind λv=>k v h
 | .lenS x=>(D1j (e.ev x)).bind λv=>k v h
 | .app sz x y=>(iY h sz (e.ev x) (e.ev y)).bind λp=>k p.1 p.2
 | .appZ sz zero x y=>(B5W h sz zero (e.ev x) (e.ev y)).bind λp=>k p.1 p.2
 | .max x y=>(C4C (e.ev x) (e.ev y)).bind λv=>k v h
 | .min x y=>(B5Z (e.ev x) (e.ev y)).bind λv=>k v h
 | .copy sz x y=>(C4w h sz (e.ev x) (e.ev y)).bind λp=>k p.1 p.2
 | .mkMap=>let p:=cQ h n0 slot (S3 []);k (.c (.m p.1)) p.2
 | .look kk z ok m x=>(A6O hr kk z ok (e.ev m) (e.ev x)).bind λv=>k v h
 | .mput kk m x y=>(A1R h kk (e.ev m) (e.ev x) (e.ev y)).bind λh=>k .un h
 | .ment kk z m x=>(D1m h kk z (e.ev m) (e.ev x)).bind λp=>k p.1 p.2
 | .mset m x y=>(D1n h (e.ev m) (e.ev x) (e.ev y)).bind λh=>k .un h
def gd (v:Val) (want:Bool) (a b:Option (Val × A6)):Option (Val × A6) :=
 match v with
 | .c (.b x)=>bif x==want then a else b
 | .no=>b
 | _=>none
noncomputable def W3 (E:N1) (q:Bool) (hr:A6) (n0:Nat) (o:AOper) (e:Env) (h:A6) (k:Val->A6->Option R):Option R :=
 match o.guard with
 | none=>aop E q hr n0 o.slot o.op e h k
 | some g=>(gd (e.get g.1) g.2 (aop E q hr n0 o.slot o.op e h λv h=>some (v,h)) (some (.no,h))).bind λp=>k p.1 p.2
noncomputable def A9f (E:N1) (l:List AOper):Env->A6->(Env->A6->Option R)->Option R :=
 List.rec (motive:=λ_=>Env->A6->(Env->A6->Option R)->Option R) (λe h k=>k e h) (λo _ ih e h k=>W3 E false h 0 o e h λv h=>ih (e.put o.dst v) h k) l
theorem C8B (E:N1) (o:AOper) (r:List AOper) (e:Env) (h:A6) (k:Env->A6->Option R):A9f E (o::r) e h k=W3 E false h 0 o e h λv h=>A9f E r (e.put o.dst v) h k:=rfl
noncomputable def B1Y (E:N1) (hr:A6) (n0:Nat) (l:List AOper):Env->A6->(Env->A6->Option R)->Option R :=
 List.rec (motive:=λ_=>Env->A6->(Env->A6->Option R)->Option R) (λe h k=>k e h) (λo _ ih e h k=>W3 E true hr n0 o e h λv h=>ih (e.put o.dst v) h k) l
theorem C4x (E:N1) (hr:A6) (n0:Nat) (o:AOper) (r:List AOper) (e:Env) (h:A6) (k:Env->A6->Option R):B1Y E hr n0 (o::r) e h k=W3 E true hr n0 o e h λv h=>B1Y E hr n0 r (e.put o.dst v) h k:=rfl
def A6j (h:A6) (o:AOp) (e:Env):Option Val :=
 match o with
 | .load1 a=>B4 h (e.ev a)
 | .loadN n a=>C8 h n (e.ev a)
 | _=>none
open Classical in
noncomputable def agn (x:Option Val) (v:Val) (k:Option R):Option R:=if x=some v then k else none
noncomputable def again (l:List (Nat × AOp)) (e:Env) (h:A6) (k:Option R):Option R :=
 List.rec (motive:=λ_=>Option R) k (λc _ ih=>agn (A6j h c.2 e) (e.get c.1) ih) l
theorem C4y (c:Nat × AOp) (l:List (Nat × AOp)) (e:Env) (h:A6) (k:Option R):again (c::l) e h k=agn (A6j h c.2 e) (e.get c.1) (again l e h k):=rfl
inductive AExit where
 | normal
 | exit (id:Nat)
 | ret
abbrev B04 (R:Type):=AExit->Env->A6->Option R
abbrev Sm (R:Type):=B04 R->Env->A6->Option R
def D98 (keep:List Nat) (again:Env->A6->Option R) (k:B04 R):B04 R:=λx e h=>match x with | .normal=>again (e.keep keep) h | .exit id=>k (.exit id) e h | .ret=>k .ret e h
noncomputable def A5Q (c:Sm R) (keep:List Nat) (k:B04 R) (n:Nat):Env->A6->Option R :=
 Nat.rec (motive:=λ_=>Env->A6->Option R) (λ_ _=>none) (λ_ ih e h=>c (D98 keep ih k) e h) n
theorem C0o (c:Sm R) (keep:List Nat) (k:B04 R) (e:Env) (h:A6):A5Q c keep k 0 e h=none:=rfl
theorem C0n (c:Sm R) (keep:List Nat) (k:B04 R) (n:Nat) (e:Env) (h:A6):A5Q c keep k (n+1) e h=c (λx e h=>match x with | .normal=>A5Q c keep k n (e.keep keep) h | .exit id=>k (.exit id) e h | .ret=>k .ret e h) e h:=rfl
def hold {α:Type} (x:α):α:=(λ_=>x) gd
noncomputable def D8u:Sm R:=λk e h=>(λ_=>k .normal e h) (@A9f Nat)
noncomputable def D8t (E:N1) (l:List AOper):Sm R:=λk e h=>A9f E l e h λe h=>k .normal e h
noncomputable def D35 (E:N1) (m:Nat) (l r:List AOper):Sm R:=λk e h=>B1Y E h h.length l e (h++E3Q m none) λe h=>A9f E r e h λe h=>k .normal e h
noncomputable def D0Y (E:N1) (m:Nat) (l:List AOper) (s:AOper) (chk:List (Nat × AOp)) (r:List AOper):Sm R:=λk e h=>B1Y E h h.length l e (h++E3Q m none) λe h=>W3 E false h 0 s e h λv h2=>again chk e h2 (A9f E r (e.put s.dst v) h2 λe h=>k .normal e h)
def D9c (keep:List Nat) (b:Sm R) (k:B04 R):B04 R:=λx e h=>match x with | .normal=>hold (b k (e.keep keep) h) | .exit id=>k (.exit id) e h | .ret=>k .ret e h
def D3x (id:Nat) (k:B04 R):B04 R:=λx e h=>match x with | .exit i=>bif Nat.beq i id then k .normal e h else k (.exit i) e h | .normal=>k .normal e h | .ret=>k .ret e h
noncomputable def D2U (keep:List Nat) (a b:Sm R):Sm R:=λk e h=>a (D9c keep b k) e h
noncomputable def C6s (c:Opd) (a b:Sm R):Sm R:=λk e h=>(λ_=>cnd (e.ev c) (a k e h) (b k e h)) (@A9f Nat)
noncomputable def B67 (id:Nat) (a:Sm R):Sm R:=λk e h=>(λ_=>a (D3x id k) e h) (@A9f Nat)
noncomputable def C6t (n:Nat) (keep:List Nat) (a:Sm R):Sm R:=λk e h=>(λ_=>A5Q a keep k n (e.keep keep) h) (@A9f Nat)
noncomputable def D8s (id:Nat):Sm R:=λk e h=>(λ_=>k (.exit id) e h) (@A9f Nat)
noncomputable def E0d:Sm R:=λk e h=>(λ_=>k .ret e h) (@A9f Nat)
noncomputable def aex (E:N1) (n:Nat):ACode->Sm R
 | .skip=>D8u
 | .ops l=>D8t E l
 | .draw m l r=>D35 E m l r
 | .drawS m l s chk r=>D0Y E m l s chk r
 | .seq keep a b=>D2U keep (aex E n a) (aex E n b)
 | .cond c a b=>C6s c (aex E n a) (aex E n b)
 | .block id a=>B67 id (aex E n a)
 | .loop keep a=>C6t n keep (aex E n a)
 | .exit id=>D8s id
 | .ret=>E0d
noncomputable def ax (E:N1) (n:Nat) (c:ACode):Sm R :=
 ACode.rec (motive:=λ_=>Sm R) D8u (λl=>D8t E l) (λm l r=>D35 E m l r) (λm l s chk r=>D0Y E m l s chk r) (λkeep _ _ a b=>D2U keep a b) (λc _ _ a b=>C6s c a b) (λid _ a=>B67 id a) (λkeep _ a=>C6t n keep a) (λid=>D8s id) E0d c
theorem B52 (E:N1) (n:Nat):∀ c:ACode,(ax E n c:Sm R)=aex E n c
 | .skip=>rfl
 | .ops _=>rfl
 | .draw _ _ _=>rfl
 | .drawS _ _ _ _ _=>rfl
 | .seq keep a b=>by show D2U keep (ax E n a) (ax E n b)=D2U keep (aex E n a) (aex E n b);rw [B52 E n a,B52 E n b]
 | .cond c a b=>by show C6s c (ax E n a) (ax E n b)=C6s c (aex E n a) (aex E n b);rw [B52 E n a,B52 E n b]
 | .block id a=>by show B67 id (ax E n a)=B67 id (aex E n a);rw [B52 E n a]
 | .loop keep a=>by show C6t n keep (ax E n a)=C6t n keep (aex E n a);rw [B52 E n a]
 | .exit _=>rfl
 | .ret=>rfl
inductive ARes where
 | tmp (t:Nat)
 | cell1 (t:Nat)
 | cellN (t n:Nat)
def D5i (e:Env) (h:A6):ARes->Option Val
 | .tmp t=>some (e.get t)
 | .cell1 t=>B4 h (e.get t)
 | .cellN t n=>C8 h n (e.get t)
def oP:Val->Option Part
 | .c x=>some (.c x)
 | .a l=>some (.a l)
 | _=>none
def C0m (e:Env) (h:A6):List ARes->Option (List Part)
 | []=>some []
 | r::l=>(D5i e h r).bind λv=>(oP v).bind λp=>(C0m e h l).map λq=>p::q
def lC (rs:List ARes) (e:Env) (h:A6):Option (Val × A6) :=
 match rs with
 | [r]=>(D5i e h r).map λv=>(v,h)
 | rs=>(C0m e h rs).map λl=>(.t l,h)
def C6E:List (Option Val)->Option (List Part)
 | []=>some []
 | r::l=>r.bind λv=>(oP v).bind λp=>(C6E l).map λq=>p::q
def C6D (l:List (Option Val)) (h:A6):Option (Val × A6):=(C6E l).map λl=>(.t l,h)
structure AFn where
 code:ACode
 res:List ARes
def params:Nat->List Val->Env
 | _,[]=>[]
 | i,v::r=>(i,v)::params (i+1) r
def AFn.fin (f:AFn):AExit->Env->A6->Option (Val × A6)
 | .normal,e,h=>lC f.res e h
 | .ret,e,h=>lC f.res e h
 | .exit _,_,_=>none
noncomputable def AFn.run (f:AFn) (E:N1) (n:Nat) (args:List Val) (h:A6):Option (Val × A6) :=
 aex E n f.code f.fin (params 0 args) h
theorem E0s {f:AFn} {E:N1} {n:Nat} {args:List Val} {h:A6}:f.run E n args h=ax E n f.code f.fin (params 0 args) h:=by
 rw [B52];rfl
def aO (d:Nat) (x:AOp):AOper:={ dst:=some d,op:=x }
def aN (x:AOp):AOper:={ dst:=none,op:=x }
def aG (d g:Nat) (w:Bool) (x:AOp):AOper:={ dst:=some d,op:=x,guard:=some (g,w) }
def aS (d s:Nat) (x:AOp):AOper:={ dst:=some d,op:=x,slot:=some s }
def aM (d t:Nat):AOper:=aO d (.mv (.t t))
def aL (d t:Nat):AOper:=aO d (.load1 (.t t))
def aL' (d n t:Nat):AOper:=aO d (.loadN n (.t t))
def aF (d t k:Nat):AOper:=aO d (.fAddr (.t t) k)
def aB (d t:Nat):AOper:=aO d (.box (.t t))
def sO (k:List Nat) (l:List AOper) (b:ACode):ACode:=.seq k (.ops l) b
end
section
def All2 {α β:Type} (R:α -> β -> Prop):List α -> List β -> Prop
 | [],[]=>True
 | a::l,b::m=>R a b/\All2 R l m
 | _,_=>False
section
variable {α β:Type} {R S:α -> β -> Prop}
@[simp] theorem All2.nil_nil:All2 R [] []=True:=rfl
@[simp] theorem All2.cons_cons {a:α} {l:List α} {b:β} {m:List β}:All2 R (a::l) (b::m)=(R a b/\All2 R l m):=rfl
@[simp] theorem All2.nil_cons {b:β} {m:List β}:All2 R [] (b::m)=False:=rfl
@[simp] theorem All2.cons_nil {a:α} {l:List α}:All2 R (a::l) []=False:=rfl
theorem All2.mono (h:∀ a b,R a b->S a b):∀ {l:List α} {m:List β},All2 R l m->All2 S l m
 | [],[],_=>trivial
 | _::_,_::_,⟨h1,h2⟩=>⟨h _ _ h1,All2.mono h h2⟩
 | [],_::_,h=>h.elim
 | _::_,[],h=>h.elim
theorem All2.length:∀ {l:List α} {m:List β},All2 R l m->l.length=m.length
 | [],[],_=>rfl
 | _::_,_::_,⟨_,h2⟩=>by simp [All2.length h2]
 | [],_::_,h=>h.elim
 | _::_,[],h=>h.elim
theorem All2.get:∀ {l:List α} {m:List β},All2 R l m->∀ (i:Nat) (a:α),l[i]?=some a->∃ b,m[i]?=some b/\R a b
 | [],[],_,i,a,h=>by simp at h
 | x::l,y::m,⟨h1,h2⟩,0,a,h=>by simp at h;subst h;exact ⟨y,rfl,h1⟩
 | x::l,y::m,⟨h1,h2⟩,i+1,a,h=>by simp at h;simpa using All2.get h2 i a h
 | [],_::_,h,_,_,_=>h.elim
 | _::_,[],h,_,_,_=>h.elim
theorem All2.of_get:∀ {l:List α} {m:List β},l.length=m.length->(∀ (i:Nat) (a:α) (b:β),l[i]?=some a->m[i]?=some b->R a b)->All2 R l m
 | [],[],_,_=>trivial
 | x::l,y::m,hl,h=>⟨h 0 x y rfl rfl,All2.of_get (by simpa using hl) λi a b h1 h2=>h (i+1) a b (by simpa using h1) (by simpa using h2)⟩
 | [],_::_,h,_=>by simp at h
 | _::_,[],h,_=>by simp at h
theorem All2.append:∀ {l l':List α} {m m':List β},All2 R l m->All2 R l' m'->All2 R (l++l') (m++m')
 | [],_,[],_,_,h=>h
 | _::_,_,_::_,_,⟨h1,h2⟩,h=>⟨h1,All2.append h2 h⟩
 | [],_,_::_,_,h,_=>h.elim
 | _::_,_,[],_,h,_=>h.elim
theorem All2.take:∀ {l:List α} {m:List β} (n:Nat),All2 R l m->All2 R (l.take n) (m.take n)
 | [],[],n,_=>by simp
 | _::_,_::_,0,_=>by simp
 | _::_,_::_,n+1,⟨h1,h2⟩=>by simpa using ⟨h1,All2.take n h2⟩
 | [],_::_,_,h=>h.elim
 | _::_,[],_,h=>h.elim
theorem All2.drop:∀ {l:List α} {m:List β} (n:Nat),All2 R l m->All2 R (l.drop n) (m.drop n)
 | [],[],n,_=>by simp
 | _::_,_::_,0,h=>by simpa using h
 | _::_,_::_,n+1,⟨_,h2⟩=>by simpa using All2.drop n h2
 | [],_::_,_,h=>h.elim
 | _::_,[],_,h=>h.elim
theorem All2.flatten_replicate {l:List α} {m:List β} (h:All2 R l m):∀ n,All2 R (E3Q n l).flatten (E3Q n m).flatten
 | 0=>trivial
 | n+1=>by simpa [E4i] using h.append (All2.flatten_replicate h n)
end
abbrev Mu:=Nat->Option (Nat × Nat)
def Mu.le (m m':Mu):Prop:=∀ id x,m id=some x->m' id=some x
theorem Mu.le_refl (m:Mu):m.le m:=λ_ _ h=>h
theorem Mu.le_trans {a b c:Mu} (h:a.le b) (k:b.le c):a.le c:=λ_ _ x=>k _ _ (h _ _ x)
def RPtr (μ:Mu) (q:Nat × Nat) (V:Value):Prop:=∃ b n,μ q.1=some (b,n)/\V=.pointer (some ⟨b,q.2,none⟩)
def RC (μ:Mu):Cell->Value->Prop
 | .b x,V=>V=.bool x
 | .i k n,V=>V=.int k n
 | .s x,V=>V=.string ⟨x.toArray⟩
 | .p id off,V=>RPtr μ (id,off) V
 | .np,V=>V=.pointer none
 | .sl id off len sz,V=>(∃ b n cap,μ id=some (b,n)/\len<=cap/\off+cap*sz<=n/\V=.slice (some ⟨b,off,none⟩) len cap)\/(len=0/\∃ a,V=.slice a 0 0)
 | .ns,V=>V=.slice none 0 0
 | .f fn caps,V=>∃ cs:List Value,V=.func (.func fn) #[] cs.toArray/\All2 (RPtr μ) caps cs
 | .nf,V=>V=.nilFunc
 | .m id,V=>∃ b n,μ id=some (b,n)/\V=.map (some b)
 | .nm,V=>V=.map none
 | .dark,_=>False
 | .mh,_=>False
 | .hk _ _,_=>False
 | .hx _,_=>False
theorem RPtr.mono {μ μ':Mu} (h:μ.le μ') {q:Nat × Nat} {V:Value}:RPtr μ q V->RPtr μ' q V :=
 λ⟨b,n,h1,h2⟩=>⟨b,n,h _ _ h1,h2⟩
theorem RC.mono {μ μ':Mu} (h:μ.le μ') {c:Cell} {V:Value} (hc:RC μ c V):RC μ' c V:=by
 cases c with
 | p id off=>exact RPtr.mono h hc
 | sl id off len sz =>
  rcases hc with ⟨b,n,cap,h1,h2⟩ | hc
  ·exact .inl ⟨b,n,cap,h _ _ h1,h2⟩
  ·exact .inr hc
 | f fn caps=>obtain ⟨cs,h1,h2⟩:=hc;exact ⟨cs,h1,h2.mono λ_ _=>RPtr.mono h⟩
 | m id=>obtain ⟨b,n,h1,h2⟩:=hc;exact ⟨b,n,h _ _ h1,h2⟩
 | _=>exact hc
theorem RC.one {μ:Mu} {c:Cell} {V:Value} (hc:RC μ c V):V.oneCell'=true:=by
 cases c with
 | sl id off len sz=>rcases hc with ⟨b,n,cap,_,_,_,rfl⟩ | ⟨_,a,rfl⟩<;>rfl
 | p id off=>obtain ⟨b,n,_,rfl⟩:=hc;rfl
 | f fn caps=>obtain ⟨cs,rfl,_⟩:=hc;rfl
 | m id=>obtain ⟨b,n,_,rfl⟩:=hc;rfl
 | b x=>cases hc;rfl
 | i k n=>cases hc;rfl
 | s x=>cases hc;rfl
 | np=>cases hc;rfl
 | ns=>cases hc;rfl
 | nf=>cases hc;rfl
 | nm=>cases hc;rfl
 | dark=>exact hc.elim
 | mh=>exact hc.elim
 | hk _ _=>exact hc.elim
 | hx _=>exact hc.elim
theorem RC.cells {μ:Mu} {c:Cell} {V:Value} (hc:RC μ c V):V.cells = #[V]:=by
 have:=hc.one;cases V<;>simp_all [Value.oneCell',Value.cells]
def RP (μ:Mu):Part->Value->Prop
 | .c x,V=>RC μ x V
 | .a l,V=>∃ vs:List Value,V=.agg vs.toArray/\All2 (RC μ) l vs
def RV (μ:Mu):Val->Value->Prop
 | .un,_=>True
 | .no,V=>V=undef
 | .c x,V=>RC μ x V
 | .a l,V=>∃ vs:List Value,V=.agg vs.toArray/\All2 (RC μ) l vs
 | .t l,V=>∃ vs:List Value,V=.tuple vs.toArray/\All2 (RP μ) l vs
theorem RP.mono {μ μ':Mu} (h:μ.le μ') {c:Part} {V:Value} (hc:RP μ c V):RP μ' c V:=by
 cases c with
 | c x=>exact RC.mono h hc
 | a l=>obtain ⟨vs,h1,h2⟩:=hc;exact ⟨vs,h1,h2.mono λ_ _=>RC.mono h⟩
theorem RV.mono {μ μ':Mu} (h:μ.le μ') {c:Val} {V:Value} (hc:RV μ c V):RV μ' c V:=by
 cases c with
 | un=>trivial
 | no=>exact hc
 | c x=>exact RC.mono h hc
 | a l=>obtain ⟨vs,h1,h2⟩:=hc;exact ⟨vs,h1,h2.mono λ_ _=>RC.mono h⟩
 | t l=>obtain ⟨vs,h1,h2⟩:=hc;exact ⟨vs,h1,h2.mono λ_ _=>RP.mono h⟩
theorem RV.cells {μ:Mu} {v:Val} {V:Value} {cs:List Cell} (h:RV μ v V) (hc:cells? v=some cs):All2 (RC μ) cs V.cells.toList:=by
 cases v with
 | c x=>simp [cells?] at hc;subst hc;rw [RC.cells h];exact ⟨h,trivial⟩
 | a l=>simp [cells?] at hc;subst hc;obtain ⟨vs,rfl,h2⟩:=h;simpa [Value.cells] using h2
 | un=>simp [cells?] at hc
 | no=>simp [cells?] at hc
 | t l=>simp [cells?] at hc
theorem RV.ofPart {μ:Mu} {p:Part} {V:Value} (h:RP μ p V):RV μ (ofPart p) V:=by
 cases p<;>exact h
theorem RP.ofVal {μ:Mu} {v:Val} {p:Part} {V:Value} (h:RV μ v V) (hp:oP v=some p):RP μ p V:=by
 cases v<;>simp [oP] at hp<;>subst hp<;>exact h
def RL (μ:Mu) (rw:Bool) (c:Cell) (V:Value):Prop:=RC μ c V\/(rw=false/\c.isD=true)
theorem C5G {c:Cell} (h:c.isD=true):c.isX=true:=by cases c<;>simp_all [Cell.isD,Cell.isX]
theorem RL.mono {μ μ':Mu} (h:μ.le μ') {rw:Bool} {c:Cell} {V:Value}:RL μ rw c V->RL μ' rw c V
 | .inl k=>.inl (k.mono h)
 | .inr k=>.inr k
theorem RL.told {μ:Mu} {rw:Bool} {c:Cell} {V:Value} (h:RL μ rw c V) (hx:(rw || !c.isX)=true):RC μ c V:=by
 rcases h with h | ⟨h1,h2⟩
 ·exact h
 ·rw [h1,C5G h2] at hx;cases hx
theorem RL.all {μ:Mu} {rw:Bool}:∀ {l:List Cell} {vs:List Value},All2 (RL μ rw) l vs->(rw||noX l)=true->All2 (RC μ) l vs
 | [],[],_,_=>trivial
 | c::l,V::vs,⟨h1,h2⟩,hx=>by
  have hx':(rw || !c.isX)=true/\(rw||noX l)=true:=by
   cases rw<;>simp_all [noX]
  exact ⟨h1.told hx'.1,RL.all h2 hx'.2⟩
 | [],_::_,h,_=>h.elim
 | _::_,[],h,_=>h.elim
def RE (μ:Mu) (e:Cell × Part) (E:MapEntry):Prop:=RC μ e.1 E.key/\RP μ e.2 E.val
theorem RE.mono {μ μ':Mu} (h:μ.le μ') {e:Cell × Part} {E:MapEntry} (k:RE μ e E):RE μ' e E:=⟨k.1.mono h,k.2.mono h⟩
def MemOk (μ:Mu) (w:World) (b n:Nat) (r:Row):Prop :=
 ∃ C elem fz,w.heap[b]?=some (.cells C elem fz)/\C.size=n/\All2 (RL μ r.rw) r.cells (C.toList.take r.cells.length)/\(r.rw=true->fz.1=fz.2\/n<=fz.1)
def E1C (μ:Mu) (w:World) (b:Nat) (r:Row):Prop :=
 ∃ es E,r=S3 es/\w.heap[b]?=some (.map E E.size)/\All2 (RE μ) es E.toList/\∀ (i:Nat) (e:MapEntry),E[i]?=some e->e.born=i
def E0f (w:World) (b:Nat) (r:Row):Prop:=r.rw=false/\b<w.heap.size/\r.cells.all Cell.isD=true
def RowOk (μ:Mu) (w:World) (id:Nat) (r:Row):Prop :=
 match μ id with
 | none=>r.cells=[]
 | some (b,n)=>MemOk μ w b n r\/E1C μ w b r\/E0f w b r
theorem D0e (e:Cell × Part):∀ c∈A0M e,c.isX=true:=by
 intro c hc;unfold A0M at hc;split at hc
 ·simp at hc;rcases hc with rfl | rfl<;>rfl
 ·simp at hc;rcases hc with rfl | ⟨x,_,rfl⟩<;>rfl
theorem C5O (es:V6):∀ c∈B4h es,c.isX=true:=by
 intro c hc;simp only [B4h,List.mem_cons,List.mem_flatMap] at hc;rcases hc with rfl | ⟨e,_,hc⟩
 ·rfl
 ·exact D0e e c hc
theorem Row.head_mrow (es:V6):(S3 es).head=true:=by
 show (es.flatMap A0M).all Cell.isX=true;rw [E4H];exact λc hc=>C5O es c (E4a _ hc)
theorem Row.head_isX {r:Row} (h:r.head=true):∀ c∈r.cells,c.isX=true:=by
 unfold Row.head at h;split at h
 ·rename_i l hl;intro c hc;rw [hl] at hc;rcases List.mem_cons.1 hc with rfl | hc
  ·rfl
  ·exact List.all_eq_true.1 h c hc
 ·cases h
theorem Row.own_rw {r:Row} (h:r.rw=true):r.own=true:=by simp [Row.own,h]
theorem Row.own_mrow (es:V6):(S3 es).own=true:=by simp [Row.own,Row.head_mrow]
structure Ctx where
 F:Nat->Option Obj
 os:Os
 tape:Nat->Question->Nat
 output:Array (Nat × ByteArray)
 ds:List Deferred:=[]
structure Ctx.ok (Γ:Ctx) (w:World):Prop where
 os:w.os = Γ.os
 tape:w.tape = Γ.tape
 output:w.output = Γ.output
 block:∀ b o,Γ.F b=some o->w.heap[b]?=some o
structure Inv (Γ:Ctx) (μ:Mu) (h:A6) (w:World):Prop where
 rows:∀ id r,rd h id=some r->RowOk μ w id r
 sep:∀ id fX r r' x x',rd h id=some r->rd h fX=some r'->r.own=true->id≠fX -> μ id=some x -> μ fX=some x'->x.1≠x'.1
 own:∀ id r x,rd h id=some r->r.own=true -> μ id=some x -> Γ.F x.1=none
 dom:∀ id,h.length<=id -> μ id=none
 ctx:Γ.ok w
def SEnv (μ:Mu) (e:Env) (a:Act):Prop:=∀ t,RV μ (e.get t) (a.tmps.getD t undef)
theorem SEnv.mono {μ μ':Mu} (h:μ.le μ') {e:Env} {a:Act} (hs:SEnv μ e a):SEnv μ' e a:=λt=>(hs t).mono h
theorem Env.get_put_same (e:Env) (d:Nat) (v:Val):(e.put (some d) v).get d=v:=by simp [Env.put,Env.get]
theorem Env.get_put_other (e:Env) (d t:Nat) (v:Val) (h:d≠t):(e.put (some d) v).get t=e.get t:=by
 have:Nat.beq d t=false:=by cases hb:Nat.beq d t with
  | false=>rfl
  | true=>exact absurd (Nat.eq_of_beq_eq_true hb) h
 simp [Env.put,Env.get,this]
theorem SEnv.put {μ:Mu} {e:Env} {a:Act} (hs:SEnv μ e a) {d:Option Nat} {v:Val} {V:Value} (hd:∀ t,d=some t->t<a.tmps.size) (hv:RV μ v V) :
  SEnv μ (e.put d v) (a.put d V):=by
 cases d with
 | none=>exact hs
 | some d =>
  intro t;by_cases h:d=t
  ·subst h;rw [Env.get_put_same];have:=hd d rfl;simpa [Act.put,Array.getD,this] using hv
  ·rw [Env.get_put_other _ _ _ _ h];have h1:(a.put (some d) V).tmps.getD t undef=a.tmps.getD t undef:=by
    simp [Act.put,Array.getElem?_setIfInBounds_ne h]
   rw [h1];exact hs t
theorem Act.size_put (a:Act) (d:Option Nat) (V:Value):(a.put d V).tmps.size=a.tmps.size:=by
 cases d<;>simp [Act.put]
theorem Env.get_keep (e:Env) (l:List Nat) (t:Nat):(e.keep l).get t=e.get t\/(e.keep l).get t=.un:=by
 induction l with
 | nil=>right;rfl
 | cons x r ih =>
  simp only [Env.keep,Env.get];by_cases h:x=t
  ·subst h;left;simp
  ·have:Nat.beq x t=false:=by cases hb:Nat.beq x t with
    | false=>rfl
    | true=>exact absurd (Nat.eq_of_beq_eq_true hb) h
   simpa [this] using ih
theorem SEnv.keep {μ:Mu} {e:Env} {a:Act} (hs:SEnv μ e a) (l:List Nat):SEnv μ (e.keep l) a:=by
 intro t;rcases Env.get_keep e l t with h | h
 ·rw [h];exact hs t
 ·rw [h];trivial
theorem rd_some {h:A6} {id:Nat} {r:Row}:rd h id=some r↔h[id]?=some (some r):=by
 unfold rd;cases h[id]?<;>simp
theorem C4 {h:A6} {id:Nat} {r:Row} (hr:rd h id=some r):id<h.length:=by
 rw [rd_some] at hr;exact (List.getElem?_eq_some_iff.1 hr).1
theorem D1 {h g:A6} {id:Nat} (hl:id<h.length):rd (h++g) id=rd h id:=by
 unfold rd;rw [E4r hl]
theorem B7 {h g:A6} {id:Nat} {r:Row} (hr:rd h id=some r):rd (h++g) id=some r:=by
 rw [D1 (C4 hr)];exact hr
theorem B6 {h:A6} {id:Nat} {x:Option Row} (hl:id<h.length):rd (h.set id x) id=x:=by
 unfold rd;rw [List.getElem?_set_self hl];rfl
theorem A7 {h:A6} {id fX:Nat} {x:Option Row} (U1:id≠fX):rd (h.set id x) fX=rd h fX:=by
 unfold rd;rw [List.getElem?_set_ne U1]
theorem MemOk.mono {μ μ':Mu} {w w':World} {b n:Nat} {r:Row} (hr:MemOk μ w b n r) (bJ:μ.le μ') (hb:w'.heap[b]?=w.heap[b]?):MemOk μ' w' b n r:=by
 obtain ⟨C,elem,fz,h1,h2,h3,h4⟩:=hr;exact ⟨C,elem,fz,by rw [hb];exact h1,h2,h3.mono λ_ _=>RL.mono bJ,h4⟩
theorem RowOk.mono {μ μ':Mu} {w w':World} {id:Nat} {r:Row} (hr:RowOk μ w id r) (bJ:μ.le μ') (hid:μ' id = μ id)
  (hb:∀ x,μ id=some x->w'.heap[x.1]?=w.heap[x.1]?):RowOk μ' w' id r:=by
 unfold RowOk at *;rw [hid];cases hm:μ id with
 | none=>rw [hm] at hr;exact hr
 | some x =>
  obtain ⟨b,n⟩:=x;rw [hm] at hr;have hb:=hb _ hm;simp only at hb;rcases hr with hr | ⟨es,E,h1,h2,h3,h4⟩ | ⟨h1,h2,h3⟩
  ·exact .inl (hr.mono bJ hb)
  ·exact .inr (.inl ⟨es,E,h1,by rw [hb];exact h2,h3.mono λ_ _=>RE.mono bJ,h4⟩)
  ·refine .inr (.inr ⟨h1,?_,h3⟩);have:w.heap[b]?=some w.heap[b]:=by simp [h2]
   rw [this] at hb;exact (Array.getElem?_eq_some_iff.1 hb).1
theorem RowOk.mem {μ:Mu} {w:World} {id:Nat} {r:Row} (hr:RowOk μ w id r) {b n:Nat} (hm:μ id=some (b,n)) (kK:r.rw=true):MemOk μ w b n r:=by
 unfold RowOk at hr;rw [hm] at hr;rcases hr with hr | ⟨es,E,h1,_⟩ | ⟨h1,_⟩
 ·exact hr
 ·rw [h1] at kK;cases kK
 ·rw [h1] at kK;cases kK
theorem RowOk.seen {μ:Mu} {w:World} {id:Nat} {r:Row} (hr:RowOk μ w id r) {b n:Nat} (hm:μ id=some (b,n)) {c:Cell} (hc:c∈r.cells) (hx:(r.rw || !c.isX)=true):MemOk μ w b n r:=by
 unfold RowOk at hr;rw [hm] at hr;rcases hr with hr | ⟨es,E,h1,_⟩ | ⟨h1,_,h3⟩
 ·exact hr
 ·rw [h1] at hc hx;have:=C5O es c hc;rw [this] at hx;cases hx
 ·have:=C5G (List.all_eq_true.1 h3 c hc);rw [h1,this] at hx;cases hx
theorem RowOk.cell {μ:Mu} {w:World} {id:Nat} {r:Row} (hr:RowOk μ w id r) {b n:Nat} (hm:μ id=some (b,n)) {off:Nat} {c:Cell} (hc:r.cells[off]?=some c) (hx:(r.rw || !c.isX)=true) :
  ∃ V,w.cell? ⟨b,off,none⟩=some V/\RC μ c V:=by
 obtain ⟨C,elem,fz,h1,h2,h3,h4⟩:=hr.seen hm (E4e hc) hx;obtain ⟨V,hV,hR⟩:=h3.get off c hc;refine ⟨V,?_,hR.told hx⟩;have V7:off<r.cells.length:=(List.getElem?_eq_some_iff.1 hc).1;rw [E4n V7] at hV;simp only [World.cell?,h1];simpa using hV
theorem RowOk.cells {μ:Mu} {w:World} {id:Nat} {r:Row} (hr:RowOk μ w id r) {b n:Nat} (hm:μ id=some (b,n)) (off k:Nat) (hk:off+k<=r.cells.length) (hx:(r.rw||noX ((r.cells.drop off).take k))=true) :
  ∃ vs:List Value,All2 (RC μ) ((r.cells.drop off).take k) vs/\vs.length=k/\∀ j v,vs[j]?=some v->w.cell? ⟨b,off+j,none⟩=some v:=by
 by_cases hk0:k=0
 ·subst hk0;exact ⟨[],by simp,rfl,λj v h=>by simp at h⟩
 have vS:MemOk μ w b n r:=by
  have V7:off<r.cells.length:=by omega
  refine hr.seen hm (c:=r.cells[off]) (E4u _) ?_;cases kK:r.rw with
  | true=>rfl
  | false =>
   rw [kK] at hx;simp only [Bool.false_or,noX,E4H] at hx ⊢;refine hx _ ?_;obtain ⟨k',rfl⟩:∃ k',k=k'+1:=⟨k-1,by omega⟩;rw [E3V V7,List.take_succ_cons];exact E4c ..
 obtain ⟨C,elem,fz,h1,h2,h3,h4⟩:=vS;refine ⟨((C.toList.take r.cells.length).drop off).take k,RL.all ((h3.drop off).take k) hx,?_,?_⟩
 ·have:=h3.length;simp at this ⊢;omega
 ·intro j v hv;have hj:j<k:=by
   have:=(List.getElem?_eq_some_iff.1 hv).1;simp at this;omega
  rw [E4n hj,E4G,E4n (by omega)] at hv;simp only [World.cell?,h1];simpa using hv
theorem RowOk.there {μ:Mu} {w:World} {id:Nat} {r:Row} (hr:RowOk μ w id r) {b n:Nat} (hm:μ id=some (b,n)):∃ o,w.heap[b]?=some o:=by
 unfold RowOk at hr;rw [hm] at hr;rcases hr with ⟨C,elem,fz,h1,_⟩ | ⟨es,E,_,h1,_⟩ | ⟨_,h1,_⟩
 ·exact ⟨_,h1⟩
 ·exact ⟨_,h1⟩
 ·exact ⟨w.heap[b],by simp [h1]⟩
theorem D3E (e:Cell × Part) (es:V6):(A0M e).foldr C5R ([],es)=([],e::es):=by
 have hx:∀ (l:List Cell) (s:V6),(l.map Cell.hx).foldr C5R ([],s)=(l,s):=by
  intro l s
  induction l with
  | nil=>rfl
  | cons a l ih=>rw [E4R,List.foldr_cons,ih];rfl
 obtain ⟨k,p⟩:=e;cases p with
 | c x=>rfl
 | a l =>
  show (Cell.hk true k::l.map .hx).foldr C5R ([],es)=_;rw [List.foldr_cons,hx];rfl
theorem A3w (es:V6):D0z (B4h es)=es:=by
 have:∀ es:V6,(es.flatMap A0M).foldr C5R ([],[])=([],es):=by
  intro es
  induction es with
  | nil=>rfl
  | cons e es ih=>rw [List.flatMap_cons,List.foldr_append,ih,D3E]
 show (C5R .mh ((es.flatMap A0M).foldr C5R ([],[]))).2=es;rw [this];rfl
theorem zN (es:V6):D2h (S3 es)=some es:=by
 unfold D2h S3;simp [A3w]
theorem B0T {r:Row} {es:V6} (h:D2h r=some es):r=S3 es:=by
 unfold D2h at h;split at h
 ·rename_i hc;cases h;obtain ⟨cs,rw⟩:=r;obtain ⟨h1,h2⟩:=hc;simp only at h1 h2;subst h1;show Row.mk cs false=⟨_,false⟩;rw [<-h2]
 ·cases h
theorem RowOk.map {μ:Mu} {w:World} {id:Nat} {es:V6} (hr:RowOk μ w id (S3 es)) {b n:Nat} (hm:μ id=some (b,n)) :
  ∃ E:Array MapEntry,w.heap[b]?=some (.map E E.size)/\All2 (RE μ) es E.toList/\∀ (i:Nat) (e:MapEntry),E[i]?=some e->e.born=i:=by
 unfold RowOk at hr;rw [hm] at hr;rcases hr with ⟨C,elem,fz,h1,h2,h3,_⟩ | ⟨es',E,h1,h2,h3,h4⟩ | ⟨_,_,h1⟩
 ·exfalso;have hl:=h3.length;cases hC:C.toList.take (S3 es).cells.length with
  | nil=>rw [hC] at hl;simp [S3,B4h] at hl
  | cons v vs =>
   rw [hC] at h3;rcases h3.1 with h | ⟨_,h⟩
   ·exact h
   ·cases h
 ·have:es=es':=by rw [<-A3w es,<-A3w es'];exact congrArg (λr=>D0z r.cells) h1
  subst this;exact ⟨E,h2,h3,h4⟩
 ·simp [S3,B4h,Cell.isD] at h1
theorem Inv.lt {Γ:Ctx} {μ:Mu} {h:A6} {w:World} (hi:Inv Γ μ h w) {id:Nat} {r:Row} (hr:rd h id=some r) {x:Nat × Nat} (hx:μ id=some x):x.1<w.heap.size:=by
 obtain ⟨o,h1⟩:=(hi.rows id r hr).there hx;exact (Array.getElem?_eq_some_iff.1 h1).1
def Mu.add (μ:Mu) (id:Nat) (x:Nat × Nat):Mu:=λj=>if j=id then some x else μ j
theorem Mu.le_add {μ:Mu} {id:Nat} {x:Nat × Nat} (h:μ id=none):μ.le (μ.add id x):=by
 intro j y hj;unfold Mu.add;by_cases e:j=id
 ·subst e;rw [h] at hj;cases hj
 ·simp [e,hj]
theorem Inv.world {Γ:Ctx} {μ:Mu} {h:A6} {w w':World} (hi:Inv Γ μ h w) (hos:w'.os=w.os) (htape:w'.tape=w.tape) (hout:w'.output=w.output)
  (hb:∀ b,b<w.heap.size->w'.heap[b]?=w.heap[b]?):Inv Γ μ h w' where
 rows id r hr:=(hi.rows id r hr).mono (Mu.le_refl _) rfl λx hx=>hb _ (hi.lt hr hx)
 sep:=hi.sep
 own:=hi.own
 dom:=hi.dom
 ctx:=⟨hos.trans hi.ctx.os,htape.trans hi.ctx.tape,hout.trans hi.ctx.output,λb o ho=>by
  have h1:=hi.ctx.block b o ho;rw [hb b (Array.getElem?_eq_some_iff.1 h1).1];exact h1⟩
theorem Inv.fresh {Γ:Ctx} {μ:Mu} {h:A6} {w w':World} (hi:Inv Γ μ h w) {id:Nat} {r:Row} {h':A6} {n:Nat}
  (hμ:μ id=none) (hos:w'.os=w.os) (htape:w'.tape=w.tape) (hout:w'.output=w.output)
  (hb:∀ b,b<w.heap.size->w'.heap[b]?=w.heap[b]?)
  (hsame:∀ j,j≠id->∀ x,rd h' j=some x->rd h j=some x) (D17:∀ x,rd h' id=some x->x=r) (hlen:h.length<=h'.length) (hid:id<h'.length)
  (hrow:RowOk (μ.add id (w.heap.size,n)) w' id r):Inv Γ (μ.add id (w.heap.size,n)) h' w' where
 rows j x hx:=by
  by_cases e:j=id
  ·subst e;rw [D17 x hx];exact hrow
  ·exact (hi.rows j x (hsame j e x hx)).mono (Mu.le_add hμ) (by simp [Mu.add,e]) λy hy=>hb _ (hi.lt (hsame j e x hx) hy)
 sep j j' x x' y y' hx hx' kK U1 hy hy':=by
  unfold Mu.add at hy hy';by_cases e:j=id
  ·subst e;have e':j'≠j:=λh=>U1 h.symm
   simp at hy;simp [e'] at hy';have:=hi.lt (hsame j' e' x' hx') hy';subst hy;show w.heap.size≠y'.1;omega
  ·simp [e] at hy;by_cases e':j'=id
   ·subst e';simp at hy';have:=hi.lt (hsame j e x hx) hy;subst hy';show y.1≠w.heap.size;omega
   ·simp [e'] at hy';exact hi.sep j j' x x' y y' (hsame j e x hx) (hsame j' e' x' hx') kK U1 hy hy'
 own j x y hx kK hy:=by
  unfold Mu.add at hy;by_cases e:j=id
  ·subst e;simp at hy;subst hy;show Γ.F w.heap.size=none;cases hF:Γ.F w.heap.size with
   | none=>rfl
   | some o=>have:=(Array.getElem?_eq_some_iff.1 (hi.ctx.block _ _ hF)).1;omega
  ·simp [e] at hy;exact hi.own j x y (hsame j e x hx) kK hy
 dom j hj:=by
  have e:j≠id:=by omega
  simp only [Mu.add,e,if_false];exact hi.dom j (by omega)
 ctx:=⟨hos.trans hi.ctx.os,htape.trans hi.ctx.tape,hout.trans hi.ctx.output,λb o ho=>by
  have h1:=hi.ctx.block b o ho;rw [hb b (Array.getElem?_eq_some_iff.1 h1).1];exact h1⟩
theorem Inv.turn {Γ:Ctx} {μ:Mu} {h:A6} {w w':World} (hi:Inv Γ μ h w) {id:Nat} {r r':Row} {b n:Nat} (hr:rd h id=some r) (kK:r.own=true) (E3a:r'.own=true) (hμ:μ id=some (b,n))
  (hos:w'.os=w.os) (htape:w'.tape=w.tape) (hout:w'.output=w.output) (hb:∀ b',b'≠b->w'.heap[b']?=w.heap[b']?)
  (hrow:RowOk μ w' id r'):Inv Γ μ (h.set id (some r')) w' where
 rows j x hx:=by
  by_cases e:j=id
  ·subst e;rw [B6 (C4 hr)] at hx;cases hx;exact hrow
  ·rw [A7 (Ne.symm e)] at hx;exact (hi.rows j x hx).mono (Mu.le_refl _) rfl λy hy=>hb _ (Ne.symm (hi.sep id j r x (b,n) y hr hx kK (Ne.symm e) hμ hy))
 sep j j' x x' y y' hx hx' hxw U1 hy hy':=by
  have get:∀ i z,rd (h.set id (some r')) i=some z->z.own=true->∃ z',rd h i=some z'/\z'.own=true:=by
   intro i z hz hzw;by_cases e:i=id
   ·subst e;exact ⟨r,hr,kK⟩
   ·rw [A7 (Ne.symm e)] at hz;exact ⟨z,hz,hzw⟩
  have get':∀ i z,rd (h.set id (some r')) i=some z->∃ z',rd h i=some z':=by
   intro i z hz;by_cases e:i=id
   ·subst e;exact ⟨r,hr⟩
   ·rw [A7 (Ne.symm e)] at hz;exact ⟨z,hz⟩
  obtain ⟨z,hz,hzw⟩:=get j x hx hxw;obtain ⟨z',hz'⟩:=get' j' x' hx';exact hi.sep j j' z z' y y' hz hz' hzw U1 hy hy'
 own j x y hx hxw hy:=by
  by_cases e:j=id
  ·subst e;exact hi.own j r y hr kK hy
  ·rw [A7 (Ne.symm e)] at hx;exact hi.own j x y hx hxw hy
 dom j hj:=hi.dom j (by simpa using hj)
 ctx:=⟨hos.trans hi.ctx.os,htape.trans hi.ctx.tape,hout.trans hi.ctx.output,λb' o ho=>by
  have U1:b'≠b:=by
   intro e;subst e;have:=hi.own id r (b',n) hr kK hμ;simp at this;rw [ho] at this;cases this
  rw [hb b' U1];exact hi.ctx.block b' o ho⟩
theorem Inv.write {Γ:Ctx} {μ:Mu} {h:A6} {w w':World} (hi:Inv Γ μ h w) {id:Nat} {r:Row} {b n:Nat} {cs:List Cell} (hr:rd h id=some r) (kK:r.rw=true) (hμ:μ id=some (b,n))
  (hos:w'.os=w.os) (htape:w'.tape=w.tape) (hout:w'.output=w.output) (hb:∀ b',b'≠b->w'.heap[b']?=w.heap[b']?)
  (hrow:RowOk μ w' id ⟨cs,true⟩):Inv Γ μ (h.set id (some ⟨cs,true⟩)) w' :=
 hi.turn hr (Row.own_rw kK) rfl hμ hos htape hout hb hrow
end
section
def jK (P:Program) (t:TypeId):Option Bool :=
 match P.underlying t with
 | some (.struct _)=>some true
 | some (.array _ _)=>some true
 | some _=>some false
 | none=>none
def P9 (P:Program) (t:TypeId):Option Nat:=(P.info? t).map (·.size)
def C4M (P:Program) (t:TypeId):Option Nat:=(P.info? t).map (·.bytes)
def wC (P:Program) (t:TypeId):Option Value:=(P.info? t).bind (·.zero)
def sliceB (P:Program) (t:TypeId):Option TypeId:=match P.underlying t with | some (.slice e)=>some e | _=>none
def nJ (P:Program) (t:TypeId):Option (Nat × TypeId):=match P.underlying t with | some (.array n e)=>some (n,e) | _=>none
def A2h (P:Program) (t:TypeId):Option (Array Field):=match P.underlying t with | some (.struct fs)=>some fs | _=>none
def bD (P:Program) (t:TypeId):Bool:=match P.underlying t with | some .string=>true | _=>false
def B4f (P:Program) (t:TypeId):Option IntKind:=match P.underlying t with | some (.int k)=>some k | _=>none
section
variable {P:Program} {w:World} {t:TypeId}
theorem E4 {d:TypeDesc} (h:P.underlying t=some d):(underlying t).run P w=.ok d w:=by simp [underlying,h]
theorem O5 {n:Nat} (h:P9 P t=some n):(sizeOf t).run P w=.ok n w:=by
 unfold P9 at h;cases hi:P.info? t with
 | none=>simp [hi] at h
 | some i=>simp [hi] at h;simp [sizeOf,typeInfo,hi,h]
theorem D6b {n:Nat} (h:C4M P t=some n):∃ i:TypeInfo,(typeInfo t).run P w=.ok i w/\i.bytes=n:=by
 unfold C4M at h;cases hi:P.info? t with
 | none=>simp [hi] at h
 | some i=>simp [hi] at h;exact ⟨i,by simp [typeInfo,hi],h⟩
theorem vX {v:Value} (h:wC P t=some v):(zeroValue t).run P w=.ok v w:=by
 unfold wC at h;cases hi:P.info? t with
 | none=>simp [hi] at h
 | some i=>simp [hi] at h;simp [zeroValue,typeInfo,hi,h]
theorem B0Z {b:Bool} (h:jK P t=some b):(isAgg t).run P w=.ok b w:=by
 unfold jK at h;cases hu:P.underlying t with
 | none=>simp [hu] at h
 | some d=>cases d<;>simp [hu] at h<;>subst h<;>simp [isAgg,E4 hu]
theorem O1 {e:TypeId} (h:sliceB P t=some e):P.underlying t=some (.slice e):=by
 unfold sliceB at h;cases hu:P.underlying t with
 | none=>simp [hu] at h
 | some d=>cases d<;>simp_all
theorem nK {n:Nat} {e:TypeId} (h:nJ P t=some (n,e)):P.underlying t=some (.array n e):=by
 unfold nJ at h;cases hu:P.underlying t with
 | none=>simp [hu] at h
 | some d=>cases d<;>simp_all
theorem A2i {fs:Array Field} (h:A2h P t=some fs):P.underlying t=some (.struct fs):=by
 unfold A2h at h;cases hu:P.underlying t with
 | none=>simp [hu] at h
 | some d=>cases d<;>simp_all
theorem kJ (h:bD P t=true):P.underlying t=some .string:=by
 unfold bD at h;cases hu:P.underlying t with
 | none=>simp [hu] at h
 | some d=>cases d<;>simp_all
theorem A4r {k:IntKind} (h:B4f P t=some k):P.underlying t=some (.int k):=by
 unfold B4f at h;cases hu:P.underlying t with
 | none=>simp [hu] at h
 | some d=>cases d<;>simp_all
end
def C2q:Value->Cell->Bool
 | .bool b,.b x=>b==x
 | .int k n,.i k' n'=>decide (k=k')&&decide (n=n')
 | .string s,.s l=>decide (s.data.toList=l)
 | .slice none 0 0,.ns=>true
 | .nilFunc,.nf=>true
 | .pointer none,.np=>true
 | .map none,.nm=>true
 | .func (.func f) _ cs,.f g l=>decide (f=g)&&l.isEmpty&&cs.isEmpty
 | _,_=>false
def A0F:List Value->List Cell->Bool
 | [],[]=>true
 | v::r,c::l=>C2q v c&&A0F r l
 | _,_=>false
def C4T:Value->Val->Bool
 | .agg vs,.a l=>A0F vs.toList l
 | .tuple vs,.un=>vs.isEmpty
 | v,.c x=>C2q v x
 | _,_=>false
def tF:Value->Bool
 | .func _ f _=>f.isEmpty
 | _=>true
def D6Z:Operand->Opd->Bool
 | .tmp t,.t n=>decide (t=n)
 | .const v,.v x=>C4T v x&&tF v
 | .func f,.v (.c (.f g []))=>decide (f=g)
 | _,_=>false
theorem C4S {μ:Mu} {v:Value} {c:Cell} (h:C2q v c=true) (hf:tF v=true):RC μ c v:=by
 unfold C2q at h;split at h<;>simp_all [RC,tF]
 all_goals first
  | (obtain ⟨s⟩:=‹ByteArray›;rename_i uO;simp [<-uO];done)
  | skip
 ·subst h;rfl
def C5U:Value->Bool
 | .func ..=>false
 | _=>true
theorem C7G {v:Value} (h:C5U v=true):tF v=true:=by cases v<;>simp_all [C5U,tF]
theorem A9n {μ:Mu}:∀ {vs:List Value} {l:List Cell},A0F vs l=true->vs.all C5U=true->All2 (RC μ) l vs
 | [],[],_,_=>trivial
 | v::r,c::l,h,hn=>by
  simp [A0F] at h;simp at hn;exact ⟨C4S h.1 (C7G hn.1),A9n h.2 (by simpa using hn.2)⟩
 | [],_::_,h,_=>by simp [A0F] at h
 | _::_,[],h,_=>by simp [A0F] at h
def iS (v:Value) (l:List Cell):Bool:=A0F v.cells.toList l&&v.cells.toList.all C5U
theorem fI {μ:Mu} {v:Value} {l:List Cell} (h:iS v l=true):All2 (RC μ) l v.cells.toList:=by
 simp only [iS,E3R] at h;exact A9n h.1 h.2
def C8x:Value->Bool
 | .agg vs=>vs.toList.all C5U
 | _=>true
theorem D1E {μ:Mu} {v:Value} {x:Val} (h:C4T v x=true) (hf:tF v=true) (ha:C8x v=true):RV μ x v:=by
 unfold C4T at h;split at h
 ·rename_i vs l;exact ⟨vs.toList,by simp,A9n h ha⟩
 ·trivial
 ·exact C4S h hf
 ·cases h
def D8 (x:Operand) (y:Opd):Bool:=D6Z x y&&(match x with | .const v=>C8x v | _=>true)
theorem C7 {μ:Mu} {e:Env} {a:Act} {x:Operand} {y:Opd} (h:D8 x y=true) (hs:SEnv μ e a):RV μ (e.ev y) (a.eval x):=by
 simp only [D8,E3R] at h;obtain ⟨h,ha⟩:=h;unfold D6Z at h;split at h
 ·simp at h;subst h;exact hs _
 ·simp at h;exact D1E h.1 h.2 ha
 ·simp at h;subst h;exact ⟨[],rfl,trivial⟩
 ·cases h
def A1V:List Operand->List Opd->Bool
 | [],[]=>true
 | x::r,y::l=>D8 x y&&A1V r l
 | _,_=>false
theorem A5U {μ:Mu} {e:Env} {a:Act} (hs:SEnv μ e a):∀ {xs:List Operand} {ys:List Opd},A1V xs ys=true->All2 (RV μ) (ys.map e.ev) (xs.map a.eval)
 | [],[],_=>trivial
 | x::r,y::l,h=>by simp [A1V] at h;exact ⟨C7 h.1 hs,A5U hs h.2⟩
 | [],_::_,h=>by simp [A1V] at h
 | _::_,[],h=>by simp [A1V] at h
def A9p:Option Operand->Option Opd->Bool
 | none,none=>true
 | some x,some y=>D8 x y
 | _,_=>false
end
section
section
variable {P:Program} {μ:Mu} {w:World}
theorem D1A:∀ (x y:List UInt8),Op.bytesLess x y=J8 x y
 | _,[]=>by cases ‹List UInt8› <;> rfl
 | [],_::_=>rfl
 | a::x,b::y=>by simp [Op.bytesLess,J8,D1A x y]
theorem D9w {op:BinOp} {xt:TypeId} {x y v:Val} {X Y:Value} (hx:RV μ x X) (hy:RV μ y Y) (h:N9 op x y=some v) :
  ∃ V,(binOp op xt X Y).run P w=.ok V w/\RV μ v V:=by
 unfold N9 at h;split at h
 ·rename_i k a k' b;have hX:X=.int k a:=hx;have hY:Y=.int k' b:=hy;subst hX hY;have key:∀ o,o≠BinOp.shl->o≠BinOp.shr->∀ v,(bif decide (k=k') then (A9Y o k a b).map Val.c else none)=some v->∃ V,(binOp o xt (.int k a) (.int k' b)).run P w=.ok V w/\RV μ v V:=by
   intro o h1 h2 v hv;by_cases hk:k=k'
   ·subst hk;simp at hv;obtain ⟨c,hc,rfl⟩:=hv;cases o<;>simp only [A9Y] at hc<;>(try cases hc) <;>
     first
      | exact ⟨_,by simp [binOp,Op.intArith,Op.intBits,Op.intCmp],rfl⟩
      | (split at hc<;>cases hc;rename_i hb;exact ⟨_,by simp [binOp,Op.intDiv,hb],rfl⟩)
      | skip
   ·simp [hk] at hv
  split at h
  ·unfold E03 at h;split at h
   ·simp at h
   ·simp at h;subst h;rename_i hb;refine ⟨.int k (k.wrap (a*2 ^ (E4W b.toNat k.bits))),?_,rfl⟩;simp [binOp,Op.shift,hb,Nat.min_def]
  ·unfold E04 at h;split at h
   ·simp at h
   ·simp at h;subst h;rename_i hb;refine ⟨.int k (a.fdiv (2 ^ (E4W b.toNat k.bits))),?_,rfl⟩;simp [binOp,Op.shift,hb,Nat.min_def]
  ·rename_i h1 h2;exact key op h1 h2 v h
 ·rename_i a b;have hX:X=.string ⟨a.toArray⟩:=hx;have hY:Y=.string ⟨b.toArray⟩:=hy;subst hX hY;simp only [E34] at h;obtain ⟨c,hc,rfl⟩:=h;cases op<;>simp only [D8p] at hc<;>(try cases hc)
  ·split at hc<;>cases hc
   rename_i hl;refine ⟨.string (⟨a.toArray⟩++⟨b.toArray⟩),?_,?_⟩
   ·have:¬ (((ByteArray.mk a.toArray).size+(ByteArray.mk b.toArray).size:Nat):Int) > IntKind.i64.max:=by
     show ¬ ((a.toArray.size+b.toArray.size:Nat):Int) > 9223372036854775807;simp;omega
    simp [binOp,Op.stringOp] at this ⊢;exact this
   ·show Value.string _=Value.string _
    congr 1
  all_goals exact ⟨_,rfl,by simp [RV,RC,ByteArray.toList_mk,D1A]⟩
 ·cases h
def D0r (P:Program) (fn:Bool) (t:TypeId) (c:Value):Bool :=
 match fn,P.underlying t,c with
 | true,some (.func ..),.nilFunc=>true
 | false,some (.pointer _),.pointer none=>true
 | _,_,_=>false
theorem D5K {fn:Bool} {t:TypeId} {c:Value} (h:D0r P fn t c=true):(fn=true/\(∃ a b d,P.underlying t=some (.func a b d))/\c=.nilFunc)\/(fn=false/\(∃ a,P.underlying t=some (.pointer a))/\c=.pointer none):=by
 unfold D0r at h;split at h
 ·rename_i h2;exact .inl ⟨rfl,⟨_,_,_,h2⟩,rfl⟩
 ·rename_i h2;exact .inr ⟨rfl,⟨_,h2⟩,rfl⟩
 ·cases h
theorem C5a {xt:TypeId} {a b:Bool} (hu:P.underlying xt=some .bool):(Op.equal xt (.bool a) (.bool b)).run P w=.ok (a==b) w:=by
 unfold Op.equal;rw [show Op.maxDepth=9999+1 from rfl];unfold Op.equalIn;simp only [Sem.run_bind,E4 hu,Result.andThen_ok];rfl
theorem D9z {neg:Bool} {xt:TypeId} {x y v:Val} {X Y:Value} (hu:P.underlying xt=some .bool) (hx:RV μ x X) (hy:RV μ y Y) (h:D25 neg x y=some v) :
  ∃ V,(binOp (bif neg then .neq else .eql) xt X Y).run P w=.ok V w/\RV μ v V:=by
 unfold D25 at h;split at h
 ·rename_i a b;have hX:X=.bool a:=hx;have hY:Y=.bool b:=hy;subst hX hY;cases h;cases neg
  ·exact ⟨_,by show (Op.equal xt (.bool a) (.bool b) >>= λr=>pure (Value.bool r)).run P w=_;rw [Sem.run_bind,C5a hu];rfl,rfl⟩
  ·exact ⟨_,by show (Op.equal xt (.bool a) (.bool b) >>= λr=>pure (Value.bool !r)).run P w=_;rw [Sem.run_bind,C5a hu];rfl,rfl⟩
 ·cases h
theorem D9A {fn neg:Bool} {xt:TypeId} {x v:Val} {X c:Value} (hu:D0r P fn xt c=true) (hx:RV μ x X) (h:C93 fn neg x=some v) :
  ∃ V,(binOp (bif neg then .neq else .eql) xt X c).run P w=.ok V w/\RV μ v V:=by
 unfold C93 at h;have one:∀ (r:Bool),(binOp (bif neg then .neq else .eql) xt X c=(Op.equal xt X c >>= λr=>pure (Value.bool (bif neg then !r else r))))->(Op.equal xt X c).run P w=.ok r w->(binOp (bif neg then .neq else .eql) xt X c).run P w=.ok (.bool (bif neg then !r else r)) w:=by
  intro r e1 he;rw [e1,Sem.run_bind,he];rfl
 rcases D5K hu with ⟨rfl,⟨a,b,d,h2⟩,rfl⟩ | ⟨rfl,⟨a,h2⟩,rfl⟩
 ·have eq:∀ (r:Bool),((X=.nilFunc/\r=true)\/(∃ g cs,X=.func (.func g) #[] cs/\r=false))->(Op.equal xt X .nilFunc).run P w=.ok r w:=by
   intro r h;unfold Op.equal;rw [show Op.maxDepth=9999+1 from rfl];unfold Op.equalIn;rcases h with ⟨rfl,rfl⟩ | ⟨g,cs,rfl,rfl⟩<;>simp only [Sem.run_bind,E4 h2,Result.andThen_ok]<;>rfl
  split at h
  ·cases h;have hX:X=.nilFunc:=hx;subst hX;exact ⟨_,one true (by cases neg<;>rfl) (eq true (.inl ⟨rfl,rfl⟩)),by cases neg<;>rfl⟩
  ·cases h;obtain ⟨cs,hX,_⟩:=hx;subst hX;exact ⟨_,one false (by cases neg<;>rfl) (eq false (.inr ⟨_,_,rfl,rfl⟩)),by cases neg<;>rfl⟩
  ·rename_i h3;cases h3
  ·rename_i h3;cases h3
  ·cases h
 ·have eq:∀ (r:Bool),((X=.pointer none/\r=true)\/(∃ q,X=.pointer (some q)/\r=false))->(Op.equal xt X (.pointer none)).run P w=.ok r w:=by
   intro r h;unfold Op.equal;rw [show Op.maxDepth=9999+1 from rfl];unfold Op.equalIn;rcases h with ⟨rfl,rfl⟩ | ⟨q,rfl,rfl⟩<;>simp only [Sem.run_bind,E4 h2,Result.andThen_ok]<;>rfl
  split at h
  ·rename_i h3;cases h3
  ·rename_i h3;cases h3
  ·cases h;have hX:X=.pointer none:=hx;subst hX;exact ⟨_,one true (by cases neg<;>rfl) (eq true (.inl ⟨rfl,rfl⟩)),by cases neg<;>rfl⟩
  ·cases h;obtain ⟨b,n,_,hX⟩:=hx;subst hX;exact ⟨_,one false (by cases neg<;>rfl) (eq false (.inr ⟨_,rfl,rfl⟩)),by cases neg<;>rfl⟩
  ·cases h
theorem E1p {op:UnOp} {x v:Val} {X:Value} (hx:RV μ x X) (h:aun op x=some v):∃ V,(Op.unary op X).run P w=.ok V w/\RV μ v V:=by
 unfold aun at h;split at h<;>cases h<;>cases hx<;>exact ⟨_,rfl,rfl⟩
theorem jJ (b off k:Nat):(⟨b,off,none⟩:Addr).add k=⟨b,off+k,none⟩:=by
 unfold Addr.add;split<;>simp_all
theorem C9q {t:TypeId} {hp:A6} {a v:Val} {A:Value} (mT:jK P t=some false) (hrow:∀ id r,rd hp id=some r->RowOk μ w id r)
  (ha:RV μ a A) (h:B4 hp a=some v):∃ V,(Instr.loadAt t A).run P w=.ok V w/\RV μ v V:=by
 unfold B4 at h;split at h
 ·rename_i id off;obtain ⟨b,n,hm,rfl⟩:=ha;simp only [E3O] at h;obtain ⟨r,hr,c,hc,h⟩:=h;cases hx:(r.rw || !c.isX) with
  | false=>rw [hx] at h;cases h
  | true =>
  rw [hx] at h;cases h;obtain ⟨V,hV,hR⟩:=(hrow id r hr).cell hm hc hx;refine ⟨V,?_,hR⟩;simp [Instr.loadAt,Instr.sureAddr,loadVar,B0Z mT,hV]
 ·cases h
theorem C9r {t:TypeId} {hp:A6} {a v:Val} {A:Value} {k:Nat} (mT:jK P t=some true) (hsz:P9 P t=some k) (hrow:∀ id r,rd hp id=some r->RowOk μ w id r)
  (ha:RV μ a A) (h:C8 hp k a=some v):∃ V,(Instr.loadAt t A).run P w=.ok V w/\RV μ v V:=by
 unfold C8 at h;split at h
 ·rename_i id off;obtain ⟨b,n,hm,rfl⟩:=ha;simp only [E3O] at h;obtain ⟨r,hr,h⟩:=h;split at h
  ·cases h;rename_i hk;obtain ⟨vs,h1,h2,h3⟩:=(hrow id r hr).cells hm off k hk.1 hk.2;refine ⟨.agg vs.toArray,?_,vs,rfl,h1⟩;have hl:=run_loadCells_list (P:=P) w ⟨b,off,none⟩ vs (λj v hv=>by rw [jJ];exact h3 j v hv);rw [h2] at hl;simp [Instr.loadAt,Instr.sureAddr,loadVar,B0Z mT,O5 hsz,hl]
  ·cases h
 ·cases h
theorem A3D (b:Nat):∀ (vs:List Value) (o:Nat) (w:World) (C:Array Value) (t:TypeId) (fz:Nat × Nat),w.heap[b]?=some (.cells C t fz)->o+vs.length<=C.size ->
  ∃ C':Array Value,(w.setCells b o vs).heap[b]?=some (.cells C' t fz)/\C'.toList=C.toList.take o++(vs++C.toList.drop (o+vs.length))
 | [],o,w,C,t,fz,h,hl=>⟨C,h,by simp⟩
 | v::r,o,w,C,t,fz,h,hl=>by
  simp only [E3Z] at hl;have h1:(w.setCell ⟨b,o,none⟩ v).heap[b]?=some (.cells (C.setIfInBounds o v) t fz):=by
   simp only [World.setCell,Array.getElem?_modify,if_true,h,E4T];simp
  obtain ⟨C',h2,h3⟩:=A3D b r (o+1) (w.setCell ⟨b,o,none⟩ v) (C.setIfInBounds o v) t fz h1 (by simp;omega);refine ⟨C',h2,?_⟩;rw [h3];have ho:o<C.toList.length:=by simp;omega
  simp only [Array.toList_setIfInBounds];rw [List.drop_set_of_lt (by omega),E3Z,show o+1+r.length=o+(r.length+1) by omega];rw [List.take_set,List.take_add_one,List.set_append];have hm:min o C.size=o:=E4N (by simp at ho;omega);simp [E3P ho,hm]
theorem A0Z (b:Nat):∀ (vs:List Value) (o:Nat) (w:World) (b':Nat),b'≠b->(w.setCells b o vs).heap[b']?=w.heap[b']?
 | [],_,_,_,_=>rfl
 | v::r,o,w,b',h=>by
  rw [World.setCells,A0Z b r (o+1) _ b' h];simp [World.setCell,Array.getElem?_modify,Ne.symm h]
theorem B0s (b:Nat):∀ (vs:List Value) (o:Nat) (w:World),(w.setCells b o vs).os=w.os/\(w.setCells b o vs).tape=w.tape/\(w.setCells b o vs).output=w.output
 | [],_,_=>⟨rfl,rfl,rfl⟩
 | v::r,o,w=>by rw [World.setCells];exact B0s b r (o+1) _
theorem All2.lay {μ:Mu} {cs xs:List Cell} {off:Nat} {Cs vs:List Value} (h:All2 (RC μ) cs (Cs.take cs.length)) (hx:All2 (RC μ) xs vs) (hl:off+xs.length<=cs.length) :
  All2 (RC μ) (lay cs off xs) ((Cs.take off++(vs++Cs.drop (off+vs.length))).take (lay cs off xs).length):=by
 have hlen:=h.length;have hxl:=hx.length;have hL:(Esc.lay cs off xs).length=cs.length:=by simp [Esc.lay];omega
 rw [hL];have e:(Cs.take off++(vs++Cs.drop (off+vs.length))).take cs.length=(Cs.take cs.length).take off++(vs++(Cs.take cs.length).drop (off+vs.length)):=by
  have h1:cs.length<=Cs.length:=by simp at hlen;omega
  rw [List.take_append,List.take_append,List.take_take,List.take_take,E4k,List.drop_take,E4N (by omega:off<=cs.length),Nat.min_eq_right (by omega:off<=cs.length),E4N (by omega:off<=Cs.length)];rw [E3Y (by omega:vs.length<=cs.length-off)]
  congr 3
  omega
 rw [e];unfold Esc.lay;rw [<-hxl];exact (h.take off).append (hx.append (h.drop _))
theorem C6v {Γ:Ctx} {h:A6} {id off b n:Nat} {r:Row} {xs:List Cell} {vs:List Value} (hi:Inv Γ μ h w) (hr:rd h id=some r) (kK:r.rw=true) (hm:μ id=some (b,n))
  (hx:All2 (RC μ) xs vs) (hl:off+xs.length<=r.cells.length) :
  (storeCells ⟨b,off,none⟩ vs).run P w=.ok () (w.setCells b off vs)/\Inv Γ μ (h.set id (some ⟨lay r.cells off xs,true⟩)) (w.setCells b off vs):=by
 obtain ⟨C,elem,fz,h1,h2,h3,h4⟩:=(hi.rows id r hr).mem hm kK
 replace h3:=RL.all h3 (by rw [kK];rfl)
 have hlen:=h3.length;have hxl:=hx.length;simp at hlen;have A4n:∀ j,j<vs.length->(w.cell? ⟨b,off+0+j,none⟩).isSome=true:=by
  intro j hj;simp only [World.cell?,h1];simp;omega
 have hfz:∀ j,j<vs.length->w.frozen? ⟨b,off+0+j,none⟩=false:=by
  intro j hj;simp only [World.frozen?,h1];obtain ⟨lo,hi'⟩:=fz;rcases h4 kK with h4 | h4<;>simp at h4 ⊢ <;> omega
 have h1c:∀ v∈vs,v.oneCell'=true:=by
  intro v hv;obtain ⟨i,V7,rfl⟩:=List.getElem_of_mem hv;have:i<xs.length:=by omega
  obtain ⟨V,hV,hR⟩:=hx.get i xs[i] (by simp [this]);rw [E3P V7] at hV;cases hV;exact hR.one
 refine ⟨by simpa using run_storeCells_cells (P:=P) b off vs 0 w A4n hfz h1c,?_⟩;obtain ⟨C',h5,h6⟩:=A3D b vs off w C elem fz h1 (by omega);obtain ⟨ho,ht,hou⟩:=B0s b vs off w;refine hi.write hr kK hm ho ht hou (λb' hb=>A0Z b vs off w b' hb) ?_;unfold RowOk;rw [hm];refine .inl ⟨C',elem,fz,h5,?_,?_,λ_=>h4 kK⟩
 ·have:=congrArg List.length h6;simp at this;omega
 ·rw [h6];exact (All2.lay h3 hx hl).mono λ_ _=>.inl
theorem D33 {Γ:Ctx} {t:TypeId} {h h':A6} {a x:Val} {A X:Value} (hsz:P9 P t=some 1) (hi:Inv Γ μ h w) (ha:RV μ a A) (hx:RV μ x X) (hh:F9 h a x=some h') :
  ∃ w',(Instr.storeAt t A X).run P w=.ok () w'/\Inv Γ μ h' w':=by
 unfold F9 at hh;split at hh
 ·rename_i id off c;obtain ⟨b,n,hm,rfl⟩:=ha;simp only [E3O] at hh;obtain ⟨r,hr,hh⟩:=hh;split at hh
  ·cases hh;rename_i hc;have B6q:X.cells = #[X]:=RC.cells hx;have:=C6v (P:=P) hi hr hc.1 hm (off:=off) (xs:=[c]) (vs:=[X]) ⟨hx,trivial⟩ (by simp;omega);refine ⟨w.setCells b off [X],?_,?_⟩
   ·simp [Instr.storeAt,Instr.sureAddr,storeVar,B6q,O5 hsz,this.1]
   ·have e:lay r.cells off [c]=r.cells.set off c:=by
     simp [lay,List.set_eq_take_append_cons_drop,hc.2]
    rw [<-e];exact this.2
  ·cases hh
 ·cases hh
theorem D34 {Γ:Ctx} {t:TypeId} {h h':A6} {a x:Val} {A X:Value} {k:Nat} (hsz:P9 P t=some k) (hi:Inv Γ μ h w) (ha:RV μ a A) (hx:RV μ x X) (hh:E1 h k a x=some h') :
  ∃ w',(Instr.storeAt t A X).run P w=.ok () w'/\Inv Γ μ h' w':=by
 unfold E1 at hh;split at hh
 ·rename_i id off xs;obtain ⟨b,n,hm,rfl⟩:=ha;obtain ⟨vs,rfl,hvs⟩:=hx;simp only [E3O] at hh;obtain ⟨r,hr,hh⟩:=hh;split at hh
  ·cases hh;rename_i hc;have:=C6v (P:=P) hi hr hc.1 hm (off:=off) hvs (by omega);refine ⟨w.setCells b off vs,?_,this.2⟩;have hl:=hvs.length;have hk:vs.length=k:=by omega
   simp [Instr.storeAt,Instr.sureAddr,storeVar,Value.cells,O5 hsz,hk,this.1]
  ·cases hh
 ·cases hh
end
end
section
section
variable {P:Program} {μ:Mu} {w:World}
theorem D9B {x v:Val} {X:Value} {k:Nat} (hx:RV μ x X) (h:D27 x k=some v):∃ V,(Instr.extract X k).run P w=.ok V w/\RV μ v V:=by
 unfold D27 at h;split at h
 ·rename_i l;obtain ⟨vs,rfl,hvs⟩:=hx;simp only [E34] at h;obtain ⟨p,hp,rfl⟩:=h;obtain ⟨V,hV,hR⟩:=hvs.get k p hp;exact ⟨V,by simp [Instr.extract,hV],RV.ofPart hR⟩
 ·cases h
theorem C9s {t:TypeId} {l:List Cell} {vs:List Value} {off:Nat} {c:Cell} (mT:jK P t=some false) (hvs:All2 (RC μ) l vs) (h:l[off]?=some c) :
  ∃ V,(part t vs.toArray off).run P w=.ok V w/\RC μ c V:=by
 obtain ⟨V,hV,hR⟩:=hvs.get off c h;exact ⟨V,by simp [part,B0Z mT,hV],hR⟩
theorem C9t {t:TypeId} {l:List Cell} {vs:List Value} {off n:Nat} (mT:jK P t=some true) (hsz:P9 P t=some n) (hvs:All2 (RC μ) l vs) (h:off+n<=l.length) :
  ∃ V,(part t vs.toArray off).run P w=.ok V w/\RV μ (.a ((l.drop off).take n)) V:=by
 refine ⟨.agg (vs.toArray.extract off (off+n)),by simp [part,B0Z mT,O5 hsz],(vs.drop off).take n,?_,(hvs.drop off).take n⟩
 congr 1
 apply Array.ext';simp [List.take_drop]
theorem D8g {s:TypeId} {fs:Array Field} {f:Field} {j:Nat} {x v:Val} {X:Value} (hs:A2h P s=some fs) (hf:fs[j]?=some f) (mT:jK P f.type=some false)
  (hx:RV μ x X) (h:B5Y x f.offset=some v):∃ V,(Instr.field s X j).run P w=.ok V w/\RV μ v V:=by
 unfold B5Y at h;split at h
 ·rename_i l;obtain ⟨vs,rfl,hvs⟩:=hx;simp only [E34] at h;obtain ⟨c,hc,rfl⟩:=h;obtain ⟨V,hV,hR⟩:=C9s (P:=P) (w:=w) mT hvs hc;exact ⟨V,by simp [Instr.field,E4 (A2i hs),hf,asAgg,hV],hR⟩
 ·cases h
theorem D8h {s:TypeId} {fs:Array Field} {f:Field} {j n:Nat} {x v:Val} {X:Value} (hs:A2h P s=some fs) (hf:fs[j]?=some f) (mT:jK P f.type=some true) (hsz:P9 P f.type=some n)
  (hx:RV μ x X) (h:D4k x f.offset n=some v):∃ V,(Instr.field s X j).run P w=.ok V w/\RV μ v V:=by
 unfold D4k at h;split at h
 ·rename_i l;obtain ⟨vs,rfl,hvs⟩:=hx;split at h
  ·cases h;rename_i hl;obtain ⟨V,hV,hR⟩:=C9t (P:=P) (w:=w) mT hsz hvs hl;exact ⟨V,by simp [Instr.field,E4 (A2i hs),hf,asAgg,hV],hR⟩
  ·cases h
 ·cases h
theorem D6e {t e:TypeId} {n:Nat} {x i v:Val} {X I:Value} (ha:nJ P t=some (n,e)) (mT:jK P e=some false) (hsz:P9 P e=some 1)
  (hx:RV μ x X) (hi:RV μ i I) (h:A3f n x i=some v):∃ V,(Instr.index t X I).run P w=.ok V w/\RV μ v V:=by
 unfold A3f at h;split at h
 ·rename_i l k j;obtain ⟨vs,rfl,hvs⟩:=hx;have hI:I=.int k j:=hi;subst hI;split at h
  ·rename_i hj;simp only [E34] at h;obtain ⟨c,hc,rfl⟩:=h;obtain ⟨V,hV,hR⟩:=C9s (P:=P) (w:=w) mT hvs hc;exact ⟨V,by simp [Instr.index,E4 (nK ha),asIntOf,hj,O5 hsz,hV],hR⟩
  ·cases h
 ·cases h
theorem D6f {t e:TypeId} {n sz:Nat} {x i v:Val} {X I:Value} (ha:nJ P t=some (n,e)) (mT:jK P e=some true) (hsz:P9 P e=some sz)
  (hx:RV μ x X) (hi:RV μ i I) (h:C94 n sz x i=some v):∃ V,(Instr.index t X I).run P w=.ok V w/\RV μ v V:=by
 unfold C94 at h;split at h
 ·rename_i l k j;obtain ⟨vs,rfl,hvs⟩:=hx;have hI:I=.int k j:=hi;subst hI;split at h
  ·rename_i hj;cases h;obtain ⟨V,hV,hR⟩:=C9t (P:=P) (w:=w) mT hsz hvs hj.2.2;exact ⟨V,by simp [Instr.index,E4 (nK ha),asIntOf,hj.1,hj.2.1,O5 hsz,hV],hR⟩
  ·cases h
 ·cases h
theorem D8i {t:TypeId} {x i v:Val} {X I:Value} (ht:bD P t=true) (hx:RV μ x X) (hi:RV μ i I) (h:C4A x i=some v) :
  ∃ V,(Instr.index t X I).run P w=.ok V w/\RV μ v V:=by
 unfold C4A at h;split at h
 ·rename_i s k j;have hX:X=.string ⟨s.toArray⟩:=hx;have hI:I=.int k j:=hi;subst hX hI;split at h
  ·rename_i hj;simp only [E34] at h;obtain ⟨b,hb,rfl⟩:=h;refine ⟨.int .u8 b.toNat,?_,rfl⟩;have:(ByteArray.mk s.toArray)[j.toNat]?=some b:=by
    have V7:=(List.getElem?_eq_some_iff.1 hb).1;have hsz:j.toNat<(ByteArray.mk s.toArray).size:=by show j.toNat<s.toArray.size;simpa using V7
    rw [E3P V7] at hb;cases hb;rw [getElem?_pos (ByteArray.mk s.toArray) j.toNat hsz];rfl
   simp [Instr.index,E4 (kJ ht),asIntOf,hj,this]
  ·cases h
 ·cases h
theorem D6d {s:TypeId} {fs:Array Field} {f:Field} {j n off:Nat} {x v:Val} {X:Value} (hs:A2h P s=some fs) (hf:fs[j]?=some f) (hsz:P9 P f.type=some n) (hn:n≠0) (ho:f.offset=off)
  (hx:RV μ x X) (h:pW x off=some v):∃ V,(Instr.fieldAt s X j).run P w=.ok V w/\RV μ v V:=by
 unfold pW at h;split at h
 ·rename_i id o;obtain ⟨b,m,hm,rfl⟩:=hx;cases h;refine ⟨.pointer (some ⟨b,o+off,none⟩),?_,b,m,hm,rfl⟩;simp [Instr.fieldAt,Instr.sureAddr,E4 (A2i hs),hf,fieldPlace,O5 hsz,hn,jJ,ho]
 ·cases h
theorem D31 {t e:TypeId} {n sz:Nat} {x i v:Val} {X I:Value} (ha:nJ P t=some (n,e)) (hsz:P9 P e=some sz) (hx:RV μ x X) (hi:RV μ i I) (h:J2 n sz x i=some v) :
  ∃ V,(Instr.indexAt t X I).run P w=.ok V w/\RV μ v V:=by
 unfold J2 at h;split at h
 ·rename_i id o k j;obtain ⟨b,m,hm,rfl⟩:=hx;have hI:I=.int k j:=hi;subst hI;split at h
  ·rename_i hj;cases h;refine ⟨.pointer (some ⟨b,o+j.toNat*sz,none⟩),?_,b,m,hm,rfl⟩;simp [Instr.indexAt,Instr.sureAddr,asIntOf,E4 (nK ha),O5 hsz,hj,jJ]
  ·cases h
 ·cases h
theorem D32 {t e:TypeId} {sz:Nat} {x i v:Val} {X I:Value} (ha:sliceB P t=some e) (hsz:P9 P e=some sz) (hx:RV μ x X) (hi:RV μ i I) (h:D6 sz x i=some v) :
  ∃ V,(Instr.indexAt t X I).run P w=.ok V w/\RV μ v V:=by
 unfold D6 at h;split at h
 ·rename_i id o len sz' k j;have hI:I=.int k j:=hi;subst hI;split at h
  ·rename_i hj;cases h;rcases hx with ⟨b,m,cap,hm,_,_,rfl⟩ | ⟨h0,_⟩
   ·refine ⟨.pointer (some ⟨b,o+j.toNat*sz,none⟩),?_,b,m,hm,rfl⟩;simp [Instr.indexAt,asIntOf,E4 (O1 ha),O5 hsz,hj,jJ]
   ·omega
  ·cases h
 ·cases h
theorem D8k {t:TypeId} {x v:Val} {X:Value} {ty:TypeId} (ht:bD P t=true) (hx:RV μ x X) (h:D1j x=some v):∃ V,(Builtin.len_ #[t] ty #[X]).run P w=.ok V w/\RV μ v V:=by
 unfold D1j at h;split at h<;>cases h
 rename_i s;have hX:X=.string ⟨s.toArray⟩:=hx;subst hX;refine ⟨.int .i64 s.length,?_,rfl⟩;simp [Builtin.len_,E4 (kJ ht),goInt];show ((s.toArray.size:Nat):Int)=_;simp
theorem D9C {t e:TypeId} {x v:Val} {X:Value} {ty:TypeId} (he:sliceB P t=some e) (hx:RV μ x X) (h:C95 x=some v):∃ V,(Builtin.len_ #[t] ty #[X]).run P w=.ok V w/\RV μ v V:=by
 unfold C95 at h;split at h<;>cases h
 ·rcases hx with ⟨b,m,cap,hm,_,_,rfl⟩ | ⟨h0,a,rfl⟩
  ·exact ⟨_,by simp [Builtin.len_,E4 (O1 he),goInt],rfl⟩
  ·subst h0;exact ⟨_,by simp [Builtin.len_,E4 (O1 he),goInt],rfl⟩
 ·cases hx;exact ⟨_,by simp [Builtin.len_,E4 (O1 he),goInt],rfl⟩
theorem D9D {at_:Array TypeId} {ty:TypeId} {x y v:Val} {X Y:Value} (hx:RV μ x X) (hy:RV μ y Y) (h:C4C x y=some v):∃ V,(Builtin.max_ at_ ty #[X,Y]).run P w=.ok V w/\RV μ v V:=by
 unfold C4C at h;split at h<;>cases h
 cases hx;cases hy;exact ⟨_,rfl,rfl⟩
theorem D9E {at_:Array TypeId} {ty:TypeId} {x y v:Val} {X Y:Value} (hx:RV μ x X) (hy:RV μ y Y) (h:B5Z x y=some v):∃ V,(Builtin.min_ at_ ty #[X,Y]).run P w=.ok V w/\RV μ v V:=by
 unfold B5Z at h;split at h<;>cases h
 cases hx;cases hy;exact ⟨_,rfl,rfl⟩
theorem D8e {s d:TypeId} {k ks:IntKind} {x v:Val} {X:Value} (hs:B4f P s=some ks) (hd:B4f P d=some k) (hx:RV μ x X) (h:D1g k x=some v) :
  ∃ V,(convert s d X).run P w=.ok V w/\RV μ v V:=by
 unfold D1g at h;split at h<;>cases h
 cases hx;exact ⟨_,by simp [convert,E4 (A4r hs),E4 (A4r hd),Conv.intToInt],rfl⟩
theorem D6c {s d:TypeId} {x v:Val} {X:Value} (hs:bD P s=true) (hd:bD P d=true) (hx:RV μ x X) (h:C92 x=some v) :
  ∃ V,(convert s d X).run P w=.ok V w/\RV μ v V:=by
 unfold C92 at h;split at h<;>cases h
 cases hx;exact ⟨_,by simp [convert,E4 (kJ hs),E4 (kJ hd)],rfl⟩
theorem C9p {o:Option Val} {O:Option Value} {d n y:Nat} {code:BoundsCode} (hO:match o,O with | none,none=>True | some v,some V=>RV μ v V | _,_=>False) (hb:bound o d=some n) (hn:n<=y) :
  (match O with | some v=>Instr.sliceBound v y code | none=>(pure d:Sem Nat)).run P w=.ok n w:=by
 unfold bound at hb;cases o with
 | none =>
  cases O with
  | none=>simp at hb;subst hb;rfl
  | some _=>exact hO.elim
 | some v =>
  cases O with
  | none=>exact hO.elim
  | some V =>
   simp only at hO hb;split at hb
   ·rename_i uO;cases uO
   ·rename_i k j uO;cases uO;cases hO;split at hb
    ·cases hb;rename_i hj;simp [Instr.sliceBound,asIntOf,hj];omega
    ·cases hb
   ·cases hb
def C9z (μ:Mu):Option Val->Option Value->Prop
 | none,none=>True
 | some v,some V=>RV μ v V
 | _,_=>False
theorem A0Y {isSl:Bool} {len cap l h:Nat} {lo hi:Option Val} {Lo Hi:Option Value} (hlo:C9z μ lo Lo) (hhi:C9z μ hi Hi) (bl:bound lo 0=some l) (bh:bound hi len=some h)
  (h1:l<=h) (h2:h<=cap):(Instr.sliceBounds isSl len cap Lo Hi none).run P w=.ok (l,h,cap) w:=by
 unfold Instr.sliceBounds;have e1:=λcode=>C9p (P:=P) (w:=w) (μ:=μ) (o:=lo) (O:=Lo) (d:=0) (n:=l) (y:=h) (code:=code) (by cases lo<;>cases Lo<;>exact hlo) bl h1
 have e2:=λcode=>C9p (P:=P) (w:=w) (μ:=μ) (o:=hi) (O:=Hi) (d:=len) (n:=h) (y:=cap) (code:=code) (by cases hi<;>cases Hi<;>exact hhi) bh h2
 cases Hi with
 | none =>
  cases Lo with
  | none=>simp at e1 e2 ⊢;exact ⟨e1,e2⟩
  | some L =>
   simp at e1 e2 ⊢;subst e2;rw [e1 .sliceB];rfl
 | some H =>
  cases Lo with
  | none=>simp at e1 e2 ⊢;rw [e2];simp [e1]
  | some L =>
   simp at e1 e2 ⊢;rw [e2];simp [e1 .sliceB]
theorem D9I {t:TypeId} {x v:Val} {lo hi:Option Val} {X:Value} {Lo Hi:Option Value} (ht:bD P t=true) (hx:RV μ x X) (hlo:C9z μ lo Lo) (hhi:C9z μ hi Hi) (h:D8O x lo hi=some v) :
  ∃ V,(Instr.sliceAt t X Lo Hi none).run P w=.ok V w/\RV μ v V:=by
 unfold D8O at h;split at h
 ·rename_i s;have hX:X=.string ⟨s.toArray⟩:=hx;subst hX;simp only [E3O] at h;obtain ⟨l,bl,hh,bh,h⟩:=h;split at h
  ·cases h;rename_i hc;have hsz:(ByteArray.mk s.toArray).size=s.length:=by show s.toArray.size=_;simp
   have:=A0Y (P:=P) (w:=w) (μ:=μ) (isSl:=false) hlo hhi bl bh hc.1 hc.2;refine ⟨.string ((ByteArray.mk s.toArray).extract l hh),?_,?_⟩
   ·simp [Instr.sliceAt,Instr.slice,E4 (kJ ht),hsz,this]
   ·show Value.string _=Value.string _
    congr 1
    apply ByteArray.ext;apply Array.ext';simp [List.drop_take]
  ·cases h
 ·cases h
theorem D9H {t e:TypeId} {sz:Nat} {x v:Val} {lo hi:Option Val} {X:Value} {Lo Hi:Option Value} (ht:sliceB P t=some e) (hsz:P9 P e=some sz) (hx:RV μ x X) (hlo:C9z μ lo Lo) (hhi:C9z μ hi Hi)
  (h:D1u sz x lo hi=some v):∃ V,(Instr.sliceAt t X Lo Hi none).run P w=.ok V w/\RV μ v V:=by
 unfold D1u at h;split at h
 ·rename_i id off len sz';simp only [E3O] at h;obtain ⟨l,bl,hh,bh,h⟩:=h;split at h
  ·cases h;rename_i hc;obtain ⟨hc1,hc2,rfl⟩:=hc;rcases hx with ⟨b,m,cap,hm,hlc,B6p,rfl⟩ | ⟨h0,a,rfl⟩
   ·have:=A0Y (P:=P) (w:=w) (μ:=μ) (isSl:=true) hlo hhi bl bh hc1 (by omega:hh<=cap);by_cases vQ:cap=l
    ·subst vQ;refine ⟨.slice (some ⟨b,off,none⟩) (hh-cap) (cap-cap),by simp [Instr.sliceAt,Instr.slice,E4 (O1 ht),this,O5 hsz],.inr ?_⟩;have h1:hh-cap=0:=by omega
     exact ⟨h1,some ⟨b,off,none⟩,by rw [h1,show cap-cap=0 by omega]⟩
    ·refine ⟨.slice (some ⟨b,off+l*sz,none⟩) (hh-l) (cap-l),by simp [Instr.sliceAt,Instr.slice,E4 (O1 ht),this,O5 hsz,vQ,jJ],.inl ⟨b,m,cap-l,hm,by omega,?_,rfl⟩⟩;have:l*sz+(cap-l)*sz=cap*sz:=by rw [<-E4Q];congr 1;omega
     omega
   ·have:=A0Y (P:=P) (w:=w) (μ:=μ) (isSl:=true) (cap:=0) hlo hhi bl bh hc1 (by omega);have h1:hh=0:=by omega
    have h2:l=0:=by omega
    subst h0 h1 h2;exact ⟨.slice a 0 0,by simp [Instr.sliceAt,Instr.slice,E4 (O1 ht),this,O5 hsz],.inr ⟨rfl,a,rfl⟩⟩
  ·cases h
 ·simp only [E3O] at h;obtain ⟨l,bl,hh,bh,h⟩:=h;split at h
  ·cases h;rename_i hc;obtain ⟨rfl,rfl⟩:=hc;cases hx;have:=A0Y (P:=P) (w:=w) (μ:=μ) (isSl:=true) (cap:=0) hlo hhi bl bh (E3T _) (E3T _);exact ⟨.slice none 0 0,by simp [Instr.sliceAt,Instr.slice,E4 (O1 ht),this,O5 hsz],rfl⟩
  ·cases h
 ·cases h
theorem D9G {t e:TypeId} {n sz:Nat} {hp:A6} {x v:Val} {lo hi:Option Val} {X:Value} {Lo Hi:Option Value} (ht:nJ P t=some (n,e)) (hsz:P9 P e=some sz)
  (hrow:∀ id r,rd hp id=some r->RowOk μ w id r) (hx:RV μ x X) (hlo:C9z μ lo Lo) (hhi:C9z μ hi Hi) (h:B8P hp n sz x lo hi=some v) :
  ∃ V,(Instr.sliceAt t X Lo Hi none).run P w=.ok V w/\RV μ v V:=by
 unfold B8P at h;split at h
 ·rename_i id off;obtain ⟨b,m,hm,rfl⟩:=hx;simp only [E3O] at h;obtain ⟨r,hr,l,bl,hh,bh,h⟩:=h;split at h
  ·cases h;rename_i hc;simp at hm;obtain ⟨hc1,hc2,hc3,hc4⟩:=hc;have hc:l<=hh/\hh<=n/\off+n*sz<=r.cells.length:=⟨hc1,hc2,hc3⟩;have vS:MemOk μ w b m r:=by
    cases kK:r.rw with
    | true=>exact (hrow id r hr).mem hm kK
    | false =>
     rw [kK] at hc4;simp only [Bool.false_or] at hc4;cases A4n:r.cells[off]? with
     | none=>rw [A4n] at hc4;cases hc4
     | some c=>rw [A4n] at hc4;exact (hrow id r hr).seen hm (E4e A4n) (by rw [kK];simpa using hc4)
   obtain ⟨C,elem,fz,h1,h2,h3,h4⟩:=vS;have hlen:=h3.length;simp at hlen;have:=A0Y (P:=P) (w:=w) (μ:=μ) (isSl:=false) hlo hhi bl bh hc.1 hc.2.1;by_cases vQ:n=l
   ·subst vQ;refine ⟨.slice (some ⟨b,off,none⟩) (hh-n) (n-n),by simp [Instr.sliceAt,Instr.sureAddr,E4 (nK ht),this,O5 hsz],.inr ?_⟩;have h1:hh-n=0:=by omega
    exact ⟨h1,some ⟨b,off,none⟩,by rw [h1,show n-n=0 by omega]⟩
   ·refine ⟨.slice (some ⟨b,off+l*sz,none⟩) (hh-l) (n-l),by simp [Instr.sliceAt,Instr.sureAddr,E4 (nK ht),this,O5 hsz,vQ,jJ],.inl ⟨b,m,n-l,hm,by omega,?_,rfl⟩⟩;have:l*sz+(n-l)*sz=n*sz:=by rw [<-E4Q];congr 1;omega
    omega
  ·cases h
 ·cases h
theorem B4s {hp:A6} {x:Val} {X:Value} {cs:List Cell} (hrow:∀ id r,rd hp id=some r->RowOk μ w id r) (hx:RV μ x X) (h:fV hp x=some cs) :
  ∃ len cap a vs,X=.slice a len cap/\All2 (RC μ) cs vs/\(∀ sz,(∀ id off l sz',x=.c (.sl id off l sz')->sz=sz')->vs.length=len*sz)/\(a=none->vs=[])/\(∀ b,a=some b->∀ j v,vs[j]?=some v->w.cell? (b.add j)=some v):=by
 unfold fV at h;split at h
 ·cases h;cases hx;exact ⟨0,0,none,[],rfl,trivial,λ_ _=>by simp,λ_=>rfl,λb hb=>(by cases hb)⟩
 ·rename_i id off len sz;simp only [E3O] at h;obtain ⟨r,hr,h⟩:=h;split at h
  ·cases h;rename_i hl;rcases hx with ⟨b,m,cap,hm,hlc,B6p,rfl⟩ | ⟨h0,a,rfl⟩
   ·obtain ⟨vs,h1,h2,h3⟩:=(hrow id r hr).cells hm off (len*sz) hl.1 hl.2;refine ⟨len,cap,_,vs,rfl,h1,λs hs=>(by rw [h2,hs id off len sz rfl]),λh=>(by cases h),λb' hb j v hv=>?_⟩;cases hb;rw [jJ];exact h3 j v hv
   ·subst h0;exact ⟨0,0,a,[],rfl,by simp,λ_ _=>by simp,λ_=>rfl,λb hb j v hv=>by simp at hv⟩
  ·cases h
 ·cases h
theorem D6T {c:Cell} {b:UInt8} {V:Value} (h:C8E c=some b) (hr:RC μ c V):V=.int .u8 b.toNat:=by
 unfold C8E at h;split at h
 ·split at h
  ·cases h;rename_i n hn;have hV:V=.int .u8 n:=hr;subst hV
   congr 1
   have:(UInt8.ofNat n.toNat).toNat=n.toNat:=by simp [UInt8.toNat_ofNat'];omega
   rw [this];omega
  ·cases h
 ·cases h
theorem C8G:∀ {cs:List Cell} {s:List UInt8} {vs:List Value},bytes? cs=some s->All2 (RC μ) cs vs->vs=s.map λb=>Value.int .u8 b.toNat
 | [],s,[],h,_=>by simp [bytes?] at h;subst h;rfl
 | c::r,s,v::vs,h,⟨h1,h2⟩=>by
  simp only [bytes?,E3O,E34] at h;obtain ⟨b,hb,l,hl,rfl⟩:=h;rw [E4R,D6T hb h1,C8G hl h2]
 | [],_,_::_,_,h=>h.elim
 | _::_,_,[],_,h=>h.elim
theorem D1w:∀ (s:List UInt8) (acc:ByteArray),(forIn (s.map λb=>Value.int .u8 b.toNat) acc (λc r=>do
   let .int .u8 n := c | stuck "bytesToString: byte expected"
   let r:=r.push (UInt8.ofNat n.toNat)
   pure PUnit.unit
   pure (ForInStep.yield r)):Sem ByteArray).run P w=.ok ⟨acc.data++s.toArray⟩ w
 | [],acc=>by simp
 | b::s,acc=>by
  simp only [E4R,List.forIn_cons,Sem.run_bind];have:=D1w s (acc.push b);simp at this ⊢;rw [this]
theorem D23 {h:A6} {n0:Nat} {own:Option Nat} {x v:Val} (hp:C0i h n0 own x=some v):B3Q h x=some v:=by
 unfold C0i at hp;split at hp
 ·exact hp
 ·split at hp
  ·split at hp
   ·exact hp
   ·cases hp
  ·cases hp
theorem D42 {s d e:TypeId} {hp:A6} {x:Val} {X:Value} {cs:List Cell} {l:List UInt8} (hs:sliceB P s=some e) (he:B4f P e=some .u8) (hd:bD P d=true)
  (hrow:∀ id r,rd hp id=some r->RowOk μ w id r) (hx:RV μ x X) (h1:fV hp x=some cs) (h2:bytes? cs=some l) (B6q:∀ id off l sz',x=.c (.sl id off l sz')->1=sz') :
  (convert s d X).run P w=.ok (.string ⟨l.toArray⟩) w:=by
 obtain ⟨len,cap,a,vs,rfl,hvs,hlen,C5u,A4n⟩:=B4s hrow hx h1;have hl:vs.length=len:=by simpa using hlen 1 B6q
 have hv:=C8G h2 hvs;have hc:(convert s d (.slice a len cap)).run P w=(Conv.bytesToString (.slice a len cap)).run P w:=by
  simp [convert,E4 (O1 hs),E4 (kJ hd),E4 (A4r he)]
 rw [hc];cases a with
 | none =>
  have:l=[]:=by have:=C5u rfl;rw [hv] at this;simpa using this
  subst this;rfl
 | some b =>
  have hl2:=run_loadCells_list (P:=P) w b vs (A4n b rfl);rw [hl] at hl2;simp only [Conv.bytesToString,Sem.run_bind,hl2,Result.andThen_ok];rw [hv];have:=D1w (P:=P) (w:=w) l ByteArray.empty;simp at this ⊢;rw [this]
theorem D2L {s d e:TypeId} {hp:A6} {x v:Val} {X:Value} (hs:sliceB P s=some e) (he:B4f P e=some .u8) (hd:bD P d=true)
  (hrow:∀ id r,rd hp id=some r->RowOk μ w id r) (hx:RV μ x X) (h:B3Q hp x=some v):∃ V,(convert s d X).run P w=.ok V w/\RV μ v V:=by
 unfold B3Q at h;split at h
 ·split at h
  ·rename_i id off len sz hsz;simp only [E34,E3O] at h;obtain ⟨l,⟨cs,hcs,hl⟩,rfl⟩:=h;exact ⟨_,D42 hs he hd hrow hx hcs hl (λ_ _ _ _ h=>by cases h;exact hsz.symm),rfl⟩
  ·cases h
 ·cases h;exact ⟨_,D42 (hp:=hp) (cs:=[]) (l:=[]) hs he hd hrow hx rfl rfl (λ_ _ _ _ h=>by cases h),rfl⟩
 ·cases h
end
end
section
section
variable {P:Program} {μ:Mu} {w:World}
def sR (μ:Mu) (h:A6) (n0:Nat):Option Nat->Prop
 | none=>True
 | some j=>μ (n0+j)=none/\n0+j<h.length
def Keeps (μ μ':Mu) (h:A6) (n0:Nat) (slot:Option Nat):Prop:=∀ id,id<h.length->(∀ j,slot=some j->id≠n0+j) -> μ' id = μ id
theorem Keeps.refl (μ:Mu) (h:A6) (n0:Nat) (slot:Option Nat):Keeps μ μ h n0 slot:=λ_ _ _=>rfl
theorem Keeps.new {μ:Mu} {h:A6} {n0:Nat} {slot:Option Nat} {r:Row} {x:Nat × Nat}:Keeps μ (μ.add (cQ h n0 slot r).1 x) h n0 slot:=by
 intro id h1 h2;have:id≠(cQ h n0 slot r).1:=by
  cases slot with
  | none=>simp only [cQ];omega
  | some j=>exact h2 j rfl
 simp [Mu.add,this]
theorem oD {h:A6} {n0:Nat} {slot:Option Nat} {r:Row} (hs:sR μ h n0 slot) (hd:∀ id,h.length<=id -> μ id=none) :
  μ (cQ h n0 slot r).1=none/\(∀ j,j≠(cQ h n0 slot r).1->∀ x,rd (cQ h n0 slot r).2 j=some x->rd h j=some x)/\(∀ x,rd (cQ h n0 slot r).2 (cQ h n0 slot r).1=some x->x=r) /\
   h.length<=(cQ h n0 slot r).2.length/\(cQ h n0 slot r).1<(cQ h n0 slot r).2.length/\rd (cQ h n0 slot r).2 (cQ h n0 slot r).1=some r:=by
 cases slot with
 | none =>
  simp only [cQ];have e:rd (h++[some r]) h.length=some r:=by rw [rd_some];simp
  refine ⟨hd _ (E3T _),?_,?_,by simp,by simp,e⟩
  ·intro j hj x hx;rw [rd_some] at hx ⊢;by_cases hl:j<h.length
   ·rwa [E4r hl] at hx
   ·have:j-h.length≠0:=by omega
    rw [E35 (by omega)] at hx;have:([some r]:A6)[j-h.length]?=none:=by apply E4q;simp;omega
    rw [this] at hx;cases hx
  ·intro x hx;rw [e] at hx;cases hx;rfl
 | some j =>
  obtain ⟨h1,h2⟩:=hs;simp only [cQ];have e:rd (h.set (n0+j) (some r)) (n0+j)=some r:=B6 h2;refine ⟨h1,?_,?_,by simp,by simpa using h2,e⟩
  ·intro i hi x hx;rwa [A7 (Ne.symm hi)] at hx
  ·intro x hx;rw [e] at hx;cases hx;rfl
theorem B4j {Γ:Ctx} {h:A6} {n0:Nat} {slot:Option Nat} {cs:List Cell} {C:List Value} {t:TypeId} (hi:Inv Γ μ h w) (hs:sR μ h n0 slot) (hc:All2 (RC μ) cs (C.take cs.length)) :
  Inv Γ (μ.add (cQ h n0 slot ⟨cs,true⟩).1 (w.heap.size,C.length)) (cQ h n0 slot ⟨cs,true⟩).2 (w.alloc (.cells C.toArray t)):=by
 obtain ⟨h1,h2,h3,h4,h5,h6⟩:=oD (r:=⟨cs,true⟩) hs hi.dom;refine hi.fresh h1 rfl rfl rfl (λb hb=>?_) h2 h3 h4 h5 ?_
 ·show (w.heap.push _)[b]?=_;rw [Array.getElem?_push,if_neg (by omega)]
 ·unfold RowOk;simp only [Mu.add,if_true];refine .inl ⟨C.toArray,t,(0,0),by show (w.heap.push _)[w.heap.size]?=_;simp,by simp,?_,λ_=>.inl rfl⟩;exact hc.mono λ_ _ h=>.inl (RC.mono (Mu.le_add h1) h)
theorem A4a {Γ:Ctx} {h:A6} {n0:Nat} {slot:Option Nat} (hi:Inv Γ μ h w) (hs:sR μ h n0 slot):Inv Γ μ (cQ h n0 slot ⟨[],true⟩).2 w:=by
 obtain ⟨h1,h2,h3,h4,h5,h6⟩:=oD (r:=⟨[],true⟩) hs hi.dom;generalize cQ h n0 slot ⟨[],true⟩=p at *;refine ⟨λid r hr=>?_,λid fX r r' x x' hr hr' kK U1 hx hx'=>?_,λid r x hr kK hx=>?_,λid hid=>hi.dom id (by omega),hi.ctx⟩
 ·by_cases e:id=p.1
  ·subst e;rw [h3 r hr];unfold RowOk;rw [h1]
  ·exact hi.rows id r (h2 id e r hr)
 ·have e:id≠p.1:=by intro e;subst e;rw [h1] at hx;cases hx
  have e':fX≠p.1:=by intro e;subst e;rw [h1] at hx';cases hx'
  exact hi.sep id fX r r' x x' (h2 id e r hr) (h2 fX e' r' hr') kK U1 hx hx'
 ·have e:id≠p.1:=by intro e;subst e;rw [h1] at hx;cases hx
  exact hi.own id r x (h2 id e r hr) kK hx
theorem fU (t:TypeId) (C:Array Value):(newRow t C).run P w=.ok ⟨w.heap.size,0,none⟩ (w.alloc (.cells C t)):=by
 rfl
theorem T8 (m:Mu) (id:Nat) (x:Nat × Nat):(m.add id x) id=some x:=by simp [Mu.add]
theorem D6a {Γ:Ctx} {h:A6} {n0:Nat} {slot:Option Nat} {t:TypeId} {z:Value} {zero:List Cell} {old:Value} (hi:Inv Γ μ h w) (hs:sR μ h n0 slot) (hz:wC P t=some z) (hc:iS z zero=true) :
  ∃ V w' μ',(Instr.alloc t true old).run P w=.ok V w' /\ μ.le μ'/\RV μ' (.c (.p (cQ h n0 slot ⟨zero,true⟩).1 0)) V/\Inv Γ μ' (cQ h n0 slot ⟨zero,true⟩).2 w'/\Keeps μ μ' h n0 slot:=by
 have hcs:=fI (μ:=μ) hc;have hn:=B4j (t:=t) hi hs (cs:=zero) (C:=z.cells.toList) (by rw [E3Y (by rw [hcs.length];exact E3T _)];exact hcs);refine ⟨.pointer (some ⟨w.heap.size,0,none⟩),_,_,?_,Mu.le_add (oD (r:=⟨zero,true⟩) hs hi.dom).1,⟨_,_,T8 _ _ _,rfl⟩,hn,Keeps.new⟩;cases old<;>simp [Instr.alloc,vX hz,newVar,fU]
theorem D9x {Γ:Ctx} {h:A6} {n0:Nat} {slot:Option Nat} {t:TypeId} {x:Val} {X:Value} {cs:List Cell} (hi:Inv Γ μ h w) (hs:sR μ h n0 slot) (hx:RV μ x X) (hc:cells? x=some cs) :
  ∃ V w' μ',(Instr.box t X).run P w=.ok V w' /\ μ.le μ'/\RV μ' (.c (.p (cQ h n0 slot ⟨cs,true⟩).1 0)) V/\Inv Γ μ' (cQ h n0 slot ⟨cs,true⟩).2 w'/\Keeps μ μ' h n0 slot:=by
 have hcs:=hx.cells hc;have hn:=B4j (t:=t) hi hs (cs:=cs) (C:=X.cells.toList) (by rw [E3Y (by rw [hcs.length];exact E3T _)];exact hcs);refine ⟨.pointer (some ⟨w.heap.size,0,none⟩),_,_,?_,Mu.le_add (oD (r:=⟨cs,true⟩) hs hi.dom).1,⟨_,_,T8 _ _ _,rfl⟩,hn,Keeps.new⟩;simp [Instr.box,newVar,fU]
theorem foldl_set (vs:List Value):∀ (k off:Nat) (cs:Array Value),off+k+vs.length<=cs.size ->
  ((vs.zipIdx k).foldl (λcs (x:Value × Nat)=>cs.setIfInBounds (off+x.2) x.1) cs).toList=cs.toList.take (off+k)++(vs++cs.toList.drop (off+k+vs.length)):=by
 induction vs with
 | nil=>intro k off cs h;simp
 | cons v r ih =>
  intro k off cs h;simp only [E3Z] at h;simp only [List.zipIdx_cons,List.foldl_cons];rw [ih (k+1) off _ (by simp;omega)];have ho:off+k<cs.toList.length:=by simp;omega
  simp only [Array.toList_setIfInBounds];rw [List.drop_set_of_lt (by omega),E3Z,show off+(k+1)+r.length=off+k+(r.length+1) by omega];rw [show off+(k+1)=off+k+1 by omega,List.take_set,List.take_add_one,List.set_append];have hm:min (off+k) cs.size=off+k:=E4N (by simp at ho;omega);simp [E3P ho,hm]
def C2W (μ:Mu) (place:Nat->Option (Nat × Nat)):List (Nat × Nat × Val)->List (Nat × Value)->Prop :=
 All2 λp q=>place q.1=some (p.1,p.2.1)/\RV μ p.2.2 q.2
theorem C2t {place:Nat->Option (Nat × Nat)}:∀ {ps:List (Nat × Nat × Val)} {qs:List (Nat × Value)} {zero cs:List Cell} {Z:Array Value},C2W μ place ps qs->All2 (RC μ) zero Z.toList->D9 zero ps=some cs ->
  ∃ Z',Instr.fill place Z qs=some Z'/\All2 (RC μ) cs Z'.toList
 | [],[],zero,cs,Z,_,hz,h=>by simp [D9] at h;subst h;exact ⟨Z,rfl,hz⟩
 | (off,n,v)::ps,(i,V)::qs,zero,cs,Z,⟨⟨h1,h2⟩,h3⟩,hz,h=>by
  simp only [D9] at h;split at h
  ·rename_i xs hxs;split at h
   ·rename_i hc;have hV:=RV.cells h2 hxs;have hVl:=hV.length;have wE:=hz.length;simp at wE hVl;have A0Q:(V.cells.size≠n||off+V.cells.size > Z.size)=false:=by simp;omega
    have hl2:((V.cells.zipIdx.foldl (λcs (x:Value × Nat)=>cs.setIfInBounds (off+x.2) x.1) Z)).toList=Z.toList.take off++(V.cells.toList++Z.toList.drop (off+V.cells.toList.length)):=by
     have:=foldl_set V.cells.toList 0 off Z (by simp;omega);rw [<-Array.foldl_toList,Array.toList_zipIdx];simpa using this
    have E20:All2 (RC μ) (lay zero off xs) (V.cells.zipIdx.foldl (λcs (x:Value × Nat)=>cs.setIfInBounds (off+x.2) x.1) Z).toList:=by
     rw [hl2];unfold lay;rw [hV.length];exact (hz.take off).append (hV.append (hz.drop _))
    obtain ⟨Z',h4,h5⟩:=C2t h3 E20 h;refine ⟨Z',?_,h5⟩;rw [Instr.fill,h1];simp only [A0Q];exact h4
   ·cases h
  ·cases h
 | [],_::_,_,_,_,h,_,_=>h.elim
 | _::_,[],_,_,_,h,_,_=>h.elim
theorem C2k {fs:List Field} {ps:List (Nat × Nat)} (h:fs.map (λf=>(P9 P f.type).map λn=>(f.offset,n))=ps.map some) :
  (fs.mapM λf=>(do pure (f.offset,<-sizeOf f.type):Sem (Nat × Nat))).run P w=.ok ps w:=by
 induction fs generalizing ps with
 | nil=>cases ps<;>simp_all
 | cons f r ih =>
  cases ps with
  | nil=>simp at h
  | cons p ps =>
   simp only [E4R,List.cons.injEq] at h;cases hs:P9 P f.type with
   | none=>simp [hs] at h
   | some n =>
    simp [hs] at h;have:=ih (ps:=ps) (by simpa using h.2);simp at this;simp [List.mapM_cons,O5 hs,this,h.1]
theorem D30 {s:TypeId} {fs:Array Field} {z:Value} {zero cs:List Cell} {pl:List (Nat × Nat)} {ps:List (Nat × Nat × Val)} {qs:List (Nat × Value)} (hs:A2h P s=some fs) (hz:wC P s=some z) (hc:iS z zero=true)
  (hp:fs.toList.map (λf=>(P9 P f.type).map λn=>(f.offset,n))=pl.map some) (hR:C2W μ (pl[·]?) ps qs) (h:D9 zero ps=some cs) :
  ∃ V,(Instr.build s qs.toArray).run P w=.ok V w/\RV μ (.a cs) V:=by
 obtain ⟨Z',h1,h2⟩:=C2t hR (fI hc) h;refine ⟨.agg Z',?_,Z'.toList,by simp,h2⟩;have hm:=C2k (P:=P) (w:=w) hp;simp [Instr.build,vX hz,E4 (A2i hs),Array.mapM_eq_mapM_toList] at hm ⊢;rw [hm];simp [h1]
theorem D3Z {s e:TypeId} {n sz:Nat} {z:Value} {zero cs:List Cell} {ps:List (Nat × Nat × Val)} {qs:List (Nat × Value)} (hs:nJ P s=some (n,e)) (hsz:P9 P e=some sz) (hz:wC P s=some z) (hc:iS z zero=true)
  (hR:C2W μ (λi=>some (i*sz,sz)) ps qs) (h:D9 zero ps=some cs) :
  ∃ V,(Instr.build s qs.toArray).run P w=.ok V w/\RV μ (.a cs) V:=by
 obtain ⟨Z',h1,h2⟩:=C2t hR (fI hc) h;refine ⟨.agg Z',?_,Z'.toList,by simp,h2⟩;simp [Instr.build,vX hz,E4 (nK hs),O5 hsz,h1]
theorem D2M {Γ:Ctx} {h:A6} {n0:Nat} {slot:Option Nat} {s e:TypeId} {len sz:Nat} {z:Value} {zero cs:List Cell} {ps:List (Nat × Nat × Val)} {qs:List (Nat × Value)}
  (hi:Inv Γ μ h w) (lO:sR μ h n0 slot) (hs:sliceB P s=some e) (hsz:P9 P e=some sz) (hz:wC P e=some z) (hlen:len*sz<=2 ^ 24)
  (hc:iS (.agg ((Array.range (len*sz)).map (z.cells[· % z.cells.size]!))) zero=true) (hR:C2W μ (λi=>some (i*sz,sz)) ps qs) (hf:D9 zero ps=some cs) :
  ∃ V w' μ',(Instr.buildSlice s len qs.toArray).run P w=.ok V w' /\ μ.le μ'/\RV μ' (.c (.sl (cQ h n0 slot ⟨cs,true⟩).1 0 len sz)) V/\Inv Γ μ' (cQ h n0 slot ⟨cs,true⟩).2 w'/\Keeps μ μ' h n0 slot:=by
 obtain ⟨Z',h1,h2⟩:=C2t hR (fI hc) hf;have hn:=B4j (t:=e) hi lO (cs:=cs) (C:=Z'.toList) (by rw [E3Y (by rw [h2.length];exact E3T _)];exact h2);have vQ:cs.length=zero.length:=by
  have:∀ (ps:List (Nat × Nat × Val)) (zero cs:List Cell),D9 zero ps=some cs->cs.length=zero.length:=by
   intro ps
   induction ps with
   | nil=>intro zero cs h;simp [D9] at h;rw [h]
   | cons p ps ih =>
    intro zero cs h;obtain ⟨off,n,v⟩:=p;simp only [D9] at h;split at h
    ·split at h
     ·rename_i hc;rw [ih _ _ h];simp [lay];omega
     ·cases h
    ·cases h
  exact this _ _ _ hf
 have wE:zero.length=len*sz:=by
  have:=(fI (μ:=μ) hc).length;simpa [Value.cells] using this
 refine ⟨.slice (some ⟨w.heap.size,0,none⟩) len len,_,_,?_,Mu.le_add (oD (r:=⟨cs,true⟩) lO hi.dom).1,.inl ⟨_,_,len,T8 _ _ _,E3T _,?_,rfl⟩,hn,Keeps.new⟩
 ·have bH:¬ len*sz > 2 ^ 24:=by omega
  have h1:Instr.fill (λi=>some (i*sz,sz)) ((Array.range (len*sz)).map (z.cells[· % z.cells.size]!)) qs=some Z':=h1;by_cases h0:len*sz=0
  ·have e0:((Array.range (len*sz)).map (λi=>z.cells[i%z.cells.size]!)) = #[]:=by simp [h0]
   rw [e0] at h1;have hr0:(Array.range 0).map (λ_=>(default:Value)) = #[]:=by simp
   simp [Instr.buildSlice,E4 (O1 hs),O5 hsz,h0,hr0,h1,fU]
  ·simp only [Instr.buildSlice,Sem.run_bind,E4 (O1 hs),Result.andThen_ok,O5 hsz,if_neg bH,if_neg h0,Sem.run_pure,vX hz,h1,fU,pure_bind]
 ·have:=h2.length;simp at this ⊢;omega
theorem D4Z {Z:Array Value} {zero:List Cell} (hz:All2 (RC μ) zero Z.toList) (n:Nat) (h0:Z.size≠0) :
  All2 (RC μ) (rows zero n) (((Array.range (n*Z.size)).map (Z[· % Z.size]!)).toList):=by
 have e:((Array.range (n*Z.size)).map (Z[· % Z.size]!)).toList=(E3Q n Z.toList).flatten:=by
  simp only [Array.toList_map,Array.toList_range]
  induction n with
  | zero=>simp
  | succ n ih =>
   rw [List.replicate_succ',List.flatten_append,<-ih,E4Q,Nat.one_mul,List.range_add,E4J,List.map_map]
   congr 1
   simp only [E4L,List.flatten_nil,E4f];apply List.ext_getElem
   ·simp
   ·intro i h1 h2;simp at h1 h2;simp [Nat.add_mod,E4E h1,h1]
 rw [e];exact hz.flatten_replicate n
theorem D8n {Γ:Ctx} {h:A6} {n0:Nat} {slot:Option Nat} {s e:TypeId} {n c sz by_:Nat} {z:Value} {zero:List Cell} {x y:Val} {X Y:Value} (hi:Inv Γ μ h w) (lO:sR μ h n0 slot)
  (hs:sliceB P s=some e) (hsz:P9 P e=some sz) (hz:wC P e=some z) (hc:iS z zero=true) (hzs:zero.length=sz) (B4d:sz≠0) (hby:C4M P e=some by_) (hbl:by_<=65536)
  (hx:RV μ x X) (hy:RV μ y Y) (hn:A4y x=some n) (B6p:A4y y=some c) (hnc:n<=c) :
  ∃ V w' μ',(Instr.makeSlice s X Y).run P w=.ok V w' /\ μ.le μ'/\RV μ' (.c (.sl (cQ h n0 slot ⟨rows zero n,true⟩).1 0 n sz)) V/\Inv Γ μ' (cQ h n0 slot ⟨rows zero n,true⟩).2 w'/\Keeps μ μ' h n0 slot:=by
 have key:∀ {v:Val} {V:Value} {m:Nat},RV μ v V->A4y v=some m->V=.int .i64 m/\m<=1073741824:=by
  intro v V m hv hm;unfold A4y at hm;split at hm
  ·split at hm
   ·cases hm;rename_i k hk;have:V=.int .i64 k:=hv;subst this;exact ⟨by congr 1;omega,by omega⟩
   ·cases hm
  ·cases hm
 obtain ⟨rfl,hnb⟩:=key hx hn;obtain ⟨rfl,hcb⟩:=key hy B6p;have hcs:=fI (μ:=μ) hc;have wE:z.cells.size=sz:=by have:=hcs.length;simp at this;omega
 have hrows:=D4Z hcs c (by omega);rw [wE] at hrows;have hrl:∀ m,(rows zero m).length=m*sz:=by intro m;simp [rows,hzs]
 have E0T:rows zero c=rows zero n++rows zero (c-n):=by
  unfold rows;rw [<-List.flatten_append,List.replicate_append_replicate]
  congr 2;omega
 obtain ⟨info,dG,hib⟩:=D6b (P:=P) (w:=w) hby;have hnn:=B4j (t:=e) hi lO (cs:=rows zero n) (C:=((Array.range (c*sz)).map (z.cells[· % sz]!)).toList) (by
  have:=hrows.take (rows zero n).length;rw [E0T,List.take_left] at this;exact this)
 refine ⟨.slice (some ⟨w.heap.size,0,none⟩) n c,_,_,?_,Mu.le_add (oD (r:=⟨rows zero n,true⟩) lO hi.dom).1,.inl ⟨_,_,c,T8 _ _ _,hnc,?_,rfl⟩,hnn,Keeps.new⟩
 ·have w1:IntKind.i64.wrap (n:Int)=n:=IntWalk.i64_in _ (by omega);have w2:IntKind.i64.wrap (c:Int)=c:=IntWalk.i64_in _ (by omega);have hb:¬ ((by_:Int)*(c:Int) > 281474976710656):=by
   have:(by_:Int)*c<=65536*1073741824:=by
    have h1:by_*c<=65536*1073741824:=Nat.mul_le_mul hbl hcb;have h2:((by_*c:Nat):Int)<=((65536*1073741824:Nat):Int):=Int.ofNat_le.2 h1;rw [Int.natCast_mul] at h2;exact h2
   omega
  by_cases h0:c*sz=0
  ·simp [Instr.makeSlice,E4 (O1 hs),asInt,asIntOf,dG,hib,w1,w2,O5 hsz,h0,fU];have q1:¬ ((c:Int)<0\/281474976710656<(by_:Int)*c):=by omega
   have q2:¬ ((n:Int)<0):=by omega
   have q3:¬ (c<n):=by omega
   simp [q1,q2,q3];rw [show (Array.range 0).map (λ_=>(default:Value)) = #[] by simp]
  ·simp [Instr.makeSlice,E4 (O1 hs),asInt,asIntOf,dG,hib,w1,w2,O5 hsz,h0,vX hz,wE,fU];have q1:¬ ((c:Int)<0\/281474976710656<(by_:Int)*c):=by omega
   have q2:¬ ((n:Int)<0):=by omega
   have q3:¬ (c<n):=by omega
   simp [q1,q2,q3];exact congrArg (λx=>w.alloc (Obj.cells x e)) (by apply Array.ext';simp)
 ·simp
end
end
section
section
variable {P:Program} {μ:Mu} {w:World}
theorem D4y (s:List UInt8):All2 (RC μ) (A5 s) (s.map λb=>Value.int .u8 b.toNat):=by
 induction s with
 | nil=>trivial
 | cons b r ih=>exact ⟨rfl,ih⟩
theorem A4 (s:List UInt8):(A5 s).length=s.length:=by simp [A5]
theorem C0j {h:A6} {sz:Nat} {y:Val} {Y:Value} {ys:List Cell} (hrow:∀ id r,rd h id=some r->RowOk μ w id r) (hy:RV μ y Y) (hc:O4 h sz y=some ys) :
  ∃ n vs,(Builtin.lenOf Y).run P w=.ok n w/\(Builtin.firstCells sz n Y).run P w=.ok vs w/\All2 (RC μ) ys vs.toList/\vs.size=n*sz:=by
 unfold O4 at hc;split at hc
 ·split at hc
  ·cases hc;rename_i s hs;subst hs;have hY:Y=.string ⟨s.toArray⟩:=hy;subst hY;refine ⟨s.length,(s.map λb=>Value.int .u8 b.toNat).toArray,?_,?_,D4y s,by simp⟩
   ·simp [Builtin.lenOf];show s.toArray.size=_;simp
   ·have:((ByteArray.mk s.toArray).extract 0 s.length).data=s.toArray:=by
     apply Array.ext';simp
    simp [Builtin.firstCells]
  ·cases hc
 ·split at hc
  ·rename_i id off len sz' hs;subst hs;obtain ⟨len',cap,a,vs,hY,hvs,hlen,C5u,A4n⟩:=B4s hrow hy hc;subst hY;have hl:=hlen sz (λ_ _ _ _ h=>by cases h;rfl);refine ⟨len',vs.toArray,rfl,?_,hvs,by simpa using hl⟩;cases a with
   | none=>have:=C5u rfl;subst this;rfl
   | some b =>
    have:=run_loadCells_list (P:=P) w b vs (A4n b rfl);rw [hl] at this;simpa [Builtin.firstCells] using this
  ·cases hc
 ·cases hc;cases hy;exact ⟨0,#[],rfl,rfl,trivial,by simp⟩
 ·cases hc
theorem Inv.move {Γ:Ctx} {h:A6} {w':World} {id:Nat} {r r':Row} {b n:Nat} (hi:Inv Γ μ h w) (hr:rd h id=some r) (kK:r.rw=true) (E3a:r'.rw=true) (hm:μ id=some (b,n))
  (hos:w'.os=w.os) (htape:w'.tape=w.tape) (hout:w'.output=w.output) (hb:∀ b',b'≠b->w'.heap[b']?=w.heap[b']?)
  (hrow:RowOk (μ.add h.length (b,n)) w' h.length r'):Inv Γ (μ.add h.length (b,n)) (h.set id none++[some r']) w':=by
 replace kK:=Row.own_rw kK
 have E3v:=C4 hr;have qV:∀ j x,rd (h.set id none++[some r']) j=some x->(j=h.length/\x=r')\/(j≠h.length/\j≠id/\rd h j=some x):=by
  intro j x hx;by_cases hj:j<h.length
  ·rw [D1 (by simpa using hj)] at hx;by_cases e:id=j
   ·subst e;rw [B6 hj] at hx;cases hx
   ·rw [A7 e] at hx;exact .inr ⟨by omega,Ne.symm e,hx⟩
  ·rw [rd_some,E35 (by simp;omega)] at hx;have h0:=(List.getElem?_eq_some_iff.1 hx).1;simp at h0;have e:j=h.length:=by omega
   subst e;simp at hx;exact .inl ⟨rfl,hx.symm⟩
 have C5u:μ h.length=none:=hi.dom _ (E3T _);have old:∀ j,j≠h.length->(μ.add h.length (b,n)) j = μ j:=λj hj=>by simp [Mu.add,hj]
 refine ⟨λj x hx=>?_,λj j' x x' y y' hx hx' hxw U1 hy hy'=>?_,λj x y hx hxw hy=>?_,λj hj=>?_,?_⟩
 ·rcases qV j x hx with ⟨rfl,rfl⟩ | ⟨h1,h2,h3⟩
  ·exact hrow
  ·exact (hi.rows j x h3).mono (Mu.le_add C5u) (old j h1) λy hy=>hb _ (Ne.symm (hi.sep id j r x (b,n) y hr h3 kK (Ne.symm h2) hm hy))
 ·rcases qV j x hx with ⟨rfl,rfl⟩ | ⟨h1,h2,h3⟩
  ·rcases qV j' x' hx' with ⟨h4,_⟩ | ⟨h4,h5,h6⟩
   ·exact absurd h4.symm U1
   ·rw [T8] at hy;cases hy;rw [old _ h4] at hy';exact hi.sep id j' r x' (b,n) y' hr h6 kK (Ne.symm h5) hm hy'
  ·rw [old _ h1] at hy;rcases qV j' x' hx' with ⟨h4,_⟩ | ⟨h4,h5,h6⟩
   ·subst h4;rw [T8] at hy';cases hy';exact hi.sep j id x r y (b,n) h3 hr hxw h2 hy hm
   ·rw [old _ h4] at hy';exact hi.sep j j' x x' y y' h3 h6 hxw U1 hy hy'
 ·rcases qV j x hx with ⟨rfl,rfl⟩ | ⟨h1,h2,h3⟩
  ·rw [T8] at hy;cases hy;exact hi.own id r (b,n) hr kK hm
  ·rw [old _ h1] at hy;exact hi.own j x y h3 hxw hy
 ·have:j≠h.length:=by simp at hj;omega
  rw [old _ this];exact hi.dom j (by simp at hj;omega)
 ·refine ⟨hos.trans hi.ctx.os,htape.trans hi.ctx.tape,hout.trans hi.ctx.output,λb' o ho=>?_⟩;have U1:b'≠b:=by
   intro e;subst e;have:=hi.own id r (b',n) hr kK hm;simp at this;rw [ho] at this;cases this
  rw [hb b' U1];exact hi.ctx.block b' o ho
theorem Inv.drop {Γ:Ctx} {h:A6} (hi:Inv Γ μ h w) (id:Nat):Inv Γ μ (h.set id none) w:=by
 have qV:∀ j x,rd (h.set id none) j=some x->rd h j=some x:=by
  intro j x hx;by_cases e:id=j
  ·subst e;by_cases hl:id<h.length
   ·rw [B6 hl] at hx;cases hx
   ·rw [List.set_eq_of_length_le (by omega)] at hx;exact hx
  ·rwa [A7 e] at hx
 exact ⟨λj x hx=>hi.rows j x (qV j x hx),λj j' x x' y y' hx hx'=>hi.sep j j' x x' y y' (qV j x hx) (qV j' x' hx'),λj x y hx=>hi.own j x y (qV j x hx),λj hj=>hi.dom j (by simpa using hj),hi.ctx⟩
theorem C5q (n:Nat):∀ (k c:Nat),c<=n->Builtin.growBy n k c<=n+(n+768)/4
 | 0,c,h=>by simp [Builtin.growBy];omega
 | k+1,c,h=>by
  unfold Builtin.growBy;split
  ·omega
  ·rename_i hc;by_cases h2:c+(c+768)/4<=n
   ·exact C5q n k _ h2
   ·have:Builtin.growBy n k (c+(c+768)/4)=c+(c+768)/4:=by
     cases k with
     | zero=>rfl
     | succ k=>unfold Builtin.growBy;rw [if_pos (by omega)]
    rw [this];omega
theorem C5T (n c:Nat) (h:c<=n):Builtin.nextslicecap n c<=2*n+1000:=by
 unfold Builtin.nextslicecap;split
 ·omega
 ·split
  ·omega
  ·have:=C5q n 4 c h;omega
theorem A6k {s e yt ty:TypeId} {i:TypeInfo} {n sLen sCap:Nat} {z:Value} {base:Option Addr} {Y:Value} {old new:Array Value} {oc nc:List Cell} {Γ:Ctx} {h:A6}
  (hi:Inv Γ μ h w) (hs:P.underlying s=some (.slice e)) (dG:P.info? e=some i) (hbl:i.bytes<=65536) (hz:i.zero=some z) (wE:z.cells.size=i.size)
  (hyt:P.underlying yt=some .string\/∃ e',P.underlying yt=some (.slice e')) (hlen:(Builtin.lenOf Y).run P w=.ok n w) (hb0:i.bytes≠0)
  (D17:(Builtin.firstCells i.size n Y).run P w.drew=.ok new w.drew) (hold:(Builtin.firstCells i.size sLen (.slice base sLen sCap)).run P w.drew=.ok old w.drew)
  (D7r:¬ sLen+n<=sCap) (B6p:sLen<=sCap) (E0D:sLen+n<=1073741824)
  (ho:All2 (RC μ) oc old.toList) (hn:All2 (RC μ) nc new.toList) (hol:old.size=sLen*i.size) (hnl:new.size=n*i.size) :
  ∃ w' c,(Builtin.append_ #[s,yt] ty #[.slice base sLen sCap,Y]).run P w=.ok (.slice (some ⟨w.heap.size,0,none⟩) (sLen+n) c) w'/\sLen+n<=c /\
   Inv Γ (μ.add h.length (w.heap.size,c*i.size)) (h++[some ⟨oc++nc,true⟩]) w':=by
 have hnc:=C5T (sLen+n) sCap (by omega);have bJ:¬ (281474976710656<Builtin.nextslicecap (sLen+n) sCap*i.bytes):=by
  have:Builtin.nextslicecap (sLen+n) sCap*i.bytes<=2147484648*65536:=Nat.mul_le_mul (by omega) hbl;omega
 have hc0:sLen+n<=grownCap w (sLen+n) sCap e:=by show sLen+n<=sLen+n+_%_;omega
 have hw:Inv Γ μ h w.drew:=hi.world rfl rfl rfl λ_ _=>rfl
 have D19:(Builtin.zeroCells z.cells (grownCap w (sLen+n) sCap e-(sLen+n))).size=(grownCap w (sLen+n) sCap e-(sLen+n))*i.size:=by
  simp [Builtin.zeroCells,wE]
 have hC:(old++new++Builtin.zeroCells z.cells (grownCap w (sLen+n) sCap e-(sLen+n))).toList.length=grownCap w (sLen+n) sCap e*i.size:=by
  have:(sLen+n)*i.size+(grownCap w (sLen+n) sCap e-(sLen+n))*i.size=grownCap w (sLen+n) sCap e*i.size:=by
   rw [<-E4Q];congr 1;omega
  have h2:(sLen+n)*i.size=sLen*i.size+n*i.size:=E4Q ..;rw [Array.length_toList,Array.size_append,Array.size_append,D19,hol,hnl];omega
 have hrow:=B4j (t:=e) hw (slot:=none) (n0:=0) trivial (cs:=oc++nc) (C:=(old++new++Builtin.zeroCells z.cells (grownCap w (sLen+n) sCap e-(sLen+n))).toList) (by
  have h1:(old++new++Builtin.zeroCells z.cells (grownCap w (sLen+n) sCap e-(sLen+n))).toList=(old.toList++new.toList)++(Builtin.zeroCells z.cells (grownCap w (sLen+n) sCap e-(sLen+n))).toList:=by simp
  rw [h1,show (oc++nc).length=(old.toList++new.toList).length by rw [(ho.append hn).length],List.take_left];exact ho.append hn)
 refine ⟨w.drew.alloc (.cells (old++new++Builtin.zeroCells z.cells (grownCap w (sLen+n) sCap e-(sLen+n))) e),grownCap w (sLen+n) sCap e,?_,hc0,?_⟩
 ·have h63:¬ (9223372036854775807<((sLen+n:Nat):Int)/\False):=by simp
  have E11:IntKind.i64.max=9223372036854775807:=by decide
  rcases hyt with hyt | ⟨e',hyt⟩ <;>
   simp [Builtin.append_,E4 hs,E4 hyt,sizeOf,typeInfo,zeroValue,dG,hz,hlen,D7r,hb0,bJ,Question.forced,D17,hold,fU,grownCap]
 ·rw [hC] at hrow;exact hrow
theorem A6l {s e yt ty:TypeId} {i:TypeInfo} {n sLen sCap:Nat} {base:Option Addr} {Y:Value} {new:Array Value} {w':World}
  (hs:P.underlying s=some (.slice e)) (dG:P.info? e=some i) (hyt:P.underlying yt=some .string\/∃ e',P.underlying yt=some (.slice e')) (hlen:(Builtin.lenOf Y).run P w=.ok n w)
  (D17:(Builtin.firstCells i.size n Y).run P w=.ok new w) (A0T:sLen+n<=sCap)
  (uP:∀ a,base=some a->(storeCells (a.add (sLen*i.size)) new.toList).run P w=.ok () w') (bH:base=none->w'=w) :
  (Builtin.append_ #[s,yt] ty #[.slice base sLen sCap,Y]).run P w=.ok (.slice base (sLen+n) sCap) w':=by
 cases base with
 | none =>
  have:=bH rfl;subst this;rcases hyt with hyt | ⟨e',hyt⟩<;>simp [Builtin.append_,E4 hs,E4 hyt,sizeOf,typeInfo,dG,hlen,A0T,D17]
 | some a =>
  have:=uP a rfl;rcases hyt with hyt | ⟨e',hyt⟩<;>simp [Builtin.append_,E4 hs,E4 hyt,sizeOf,typeInfo,dG,hlen,A0T,D17,this]
theorem A2g {Γ:Ctx} {h:A6} {id b m:Nat} {r:Row} {ys:List Cell} {vs:List Value} (hi:Inv Γ μ h w) (hr:rd h id=some r) (kK:r.rw=true) (hm:μ id=some (b,m))
  (hx:All2 (RC μ) ys vs) (hl:r.cells.length+ys.length<=m) :
  (storeCells ⟨b,r.cells.length,none⟩ vs).run P w=.ok () (w.setCells b r.cells.length vs)/\Inv Γ (μ.add h.length (b,m)) (h.set id none++[some ⟨r.cells++ys,true⟩]) (w.setCells b r.cells.length vs):=by
 obtain ⟨C,elem,fz,h1,h2,h3,h4⟩:=(hi.rows id r hr).mem hm kK
 replace h3:=RL.all h3 (by rw [kK];rfl)
 have hlen:=h3.length;have hxl:=hx.length;simp at hlen;have A4n:∀ j,j<vs.length->(w.cell? ⟨b,r.cells.length+0+j,none⟩).isSome=true:=by
  intro j hj;simp only [World.cell?,h1];simp;omega
 have hfz:∀ j,j<vs.length->w.frozen? ⟨b,r.cells.length+0+j,none⟩=false:=by
  intro j hj;simp only [World.frozen?,h1];obtain ⟨lo,hi'⟩:=fz;rcases h4 kK with h4 | h4<;>simp at h4 ⊢ <;> omega
 have h1c:∀ v∈vs,v.oneCell'=true:=by
  intro v hv;obtain ⟨i,V7,rfl⟩:=List.getElem_of_mem hv;have:i<ys.length:=by omega
  obtain ⟨V,hV,hR⟩:=hx.get i ys[i] (by simp [this]);rw [E3P V7] at hV;cases hV;exact hR.one
 refine ⟨by simpa using run_storeCells_cells (P:=P) b r.cells.length vs 0 w A4n hfz h1c,?_⟩;obtain ⟨C',h5,h6⟩:=A3D b vs r.cells.length w C elem fz h1 (by omega);obtain ⟨ho,ht,hou⟩:=B0s b vs r.cells.length w;have bJ:=Mu.le_add (x:=(b,m)) (hi.dom h.length (E3T _));refine hi.move hr kK rfl hm ho ht hou (λb' hb=>A0Z b vs r.cells.length w b' hb) ?_;unfold RowOk;rw [T8];refine .inl ⟨C',elem,fz,h5,?_,?_,λ_=>h4 kK⟩
 ·have:=congrArg List.length h6;simp at this;omega
 ·rw [h6];have e:(C.toList.take r.cells.length++(vs++C.toList.drop (r.cells.length+vs.length))).take (r.cells++ys).length=C.toList.take r.cells.length++vs:=by
   rw [<-E3U,List.take_left'];simp;omega
  rw [e];exact ((h3.mono λ_ _=>RC.mono bJ).append (hx.mono λ_ _=>RC.mono bJ)).mono λ_ _=>.inl
theorem D9v {s e yt ty:TypeId} {i:TypeInfo} {z:Value} {x y v:Val} {X Y:Value} {Γ:Ctx} {h h':A6}
  (hi:Inv Γ μ h w) (hs:P.underlying s=some (.slice e)) (dG:P.info? e=some i) (hbl:i.bytes<=65536) (hb0:i.bytes≠0) (hz:i.zero=some z) (wE:z.cells.size=i.size) (B4d:i.size≠0)
  (hyt:P.underlying yt=some .string\/∃ e',P.underlying yt=some (.slice e')) (hx:RV μ x X) (hy:RV μ y Y) (hc:iY h i.size x y=some (v,h')) :
  ∃ V w' μ',(Builtin.append_ #[s,yt] ty #[X,Y]).run P w=.ok V w' /\ μ.le μ'/\RV μ' v V/\Inv Γ μ' h' w'/\(∀ id,id<h.length -> μ' id = μ id):=by
 unfold iY at hc;simp only [E3O] at hc;obtain ⟨ys,hys,hc⟩:=hc;obtain ⟨n,vs,hlen,B83,hvs,hvl⟩:=C0j (P:=P) hi.rows hy hys;obtain ⟨n2,vs2,hlen2,D0m,hvs2,E0W⟩:=C0j (P:=P) (w:=w.drew) (hi.world (w':=w.drew) rfl rfl rfl λ_ _=>rfl).rows hy hys;have hyl:ys.length/i.size=n:=by
  have:=hvs.length;simp at this;rw [this,hvl];exact Nat.mul_div_cancel _ (by omega)
 have hn2:n2=n:=by
  have h1:=hvs.length;have h2:=hvs2.length;simp at h1 h2;exact Nat.eq_of_mul_eq_mul_right (by omega:0<i.size) (by omega)
 rw [hyl] at hc;subst hn2;have D0l:μ h.length=none:=hi.dom _ (E3T _);have bG:∀ x id,id<h.length->(μ.add h.length x) id = μ id:=λx id hid=>by
  have:id≠h.length:=by omega
  simp [Mu.add,this]
 split at hc
 ·
  split at hc
  ·cases hc;rename_i hb;cases hx;by_cases h0:n2=0
   ·subst h0;have hy0:ys=[]:=by
     have:=hvs.length;simp [hvl] at this;exact this
    subst hy0;have hr:=A6l (P:=P) (ty:=ty) (sLen:=0) (sCap:=0) (base:=none) (w':=w) hs dG hyt hlen B83 (by omega) (λa h=>by cases h) (λ_=>rfl);exact ⟨_,w,μ,hr,Mu.le_refl _,.inr ⟨rfl,none,rfl⟩,A4a (slot:=none) (n0:=0) hi trivial,λ_ _=>rfl⟩
   ·obtain ⟨w',c,hr,hc1,hI⟩:=A6k (P:=P) (ty:=ty) (sLen:=0) (sCap:=0) (base:=none) (old:=#[]) (oc:=[]) hi hs dG hbl hz wE hyt hlen hb0 D0m (by simp [Builtin.firstCells]) (by omega) (E3T _) (by omega) trivial hvs2 (by simp) E0W;refine ⟨_,w',_,hr,Mu.le_add D0l,.inl ⟨w.heap.size,c*i.size,c,T8 _ _ _,by omega,by simp,by simp⟩,hI,bG _⟩
  ·cases hc
 ·rename_i id off len sz';simp only [E3O] at hc;obtain ⟨r,hr,hc⟩:=hc;split at hc
  ·cases hc;rename_i A0Q;obtain ⟨kK,rfl,vQ,hsz,hbd⟩:=A0Q;subst hsz;rcases hx with ⟨b,m,cap,hm,hlc,B6p,rfl⟩ | ⟨h0,a,rfl⟩
   ·by_cases A0T:len+n2<=cap
    ·have D87:r.cells.length+ys.length<=m:=by
      have h1:=hvs.length;simp at h1;have h2:(len+n2)*i.size<=cap*i.size:=Nat.mul_le_mul_right _ A0T;rw [E4Q] at h2;omega
     have uP:=A2g (P:=P) hi hr kK hm hvs D87;have hr':=A6l (P:=P) (ty:=ty) (sLen:=len) (sCap:=cap) (base:=some ⟨b,0,none⟩) (w':=w.setCells b r.cells.length vs.toList) hs dG hyt hlen B83 A0T
      (λa ha=>by cases ha;rw [jJ,vQ,E4b];exact uP.1) (λh=>by cases h)
     exact ⟨_,_,_,hr',Mu.le_add D0l,.inl ⟨b,m,cap,T8 _ _ _,A0T,B6p,rfl⟩,uP.2,bG _⟩
    ·have hrow:=hi.rows id r hr;obtain ⟨olds,ho1,ho2,ho3⟩:=hrow.cells hm 0 (len*i.size) (by omega) (by rw [kK];rfl);have mU:(r.cells.drop 0).take (len*i.size)=r.cells:=by rw [E39,vQ,List.take_length]
     rw [mU] at ho1;have hold:=run_loadCells_list (P:=P) w.drew ⟨b,0,none⟩ olds (λj v hv=>by rw [jJ];exact ho3 j v hv);rw [ho2] at hold;obtain ⟨w',c,hr',hc1,hI⟩:=A6k (P:=P) (ty:=ty) (sLen:=len) (sCap:=cap) (base:=some ⟨b,0,none⟩) (old:=olds.toArray) (oc:=r.cells) hi hs dG hbl hz wE hyt hlen hb0 D0m
      (by simpa [Builtin.firstCells] using hold) A0T hlc (by omega) ho1 hvs2 (by simpa using ho2) E0W
     refine ⟨_,w',_,hr',Mu.le_add D0l,.inl ⟨w.heap.size,c*i.size,c,T8 _ _ _,by omega,by simp,by simp⟩,?_,bG _⟩;have:=hI.drop id
     rwa [List.set_append_left _ _ (C4 hr)] at this
   ·subst h0;have hrc:r.cells=[]:=by
     have:r.cells.length=0:=by omega
     exact List.length_eq_zero_iff.1 this
    by_cases h0:n2=0
    ·subst h0;have hy0:ys=[]:=by
      have:=hvs.length;simp [hvl] at this;exact this
     subst hy0;have E3e:vs = #[]:=by simpa using hvl
     subst E3e;have hr':=A6l (P:=P) (ty:=ty) (sLen:=0) (sCap:=0) (base:=a) (w':=w) hs dG hyt hlen B83 (by omega) (λa h=>by simp [storeCells]) (λ_=>rfl);refine ⟨_,w,μ,hr',Mu.le_refl _,.inr ⟨rfl,a,rfl⟩,?_,λ_ _=>rfl⟩;have:=(A4a (slot:=none) (n0:=0) hi trivial).drop id;rw [hrc];simp only [cQ] at this
     rwa [List.set_append_left _ _ (C4 hr)] at this
    ·obtain ⟨w',c,hr',hc1,hI⟩:=A6k (P:=P) (ty:=ty) (sLen:=0) (sCap:=0) (base:=a) (old:=#[]) (oc:=[]) hi hs dG hbl hz wE hyt hlen hb0 D0m
      (by cases a<;>simp [Builtin.firstCells,loadCells,loadCellsFrom]) (by omega) (E3T _) (by omega) trivial hvs2 (by simp) E0W
     refine ⟨_,w',_,hr',Mu.le_add D0l,.inl ⟨w.heap.size,c*i.size,c,T8 _ _ _,by omega,by simp,by simp⟩,?_,bG _⟩;have:=hI.drop id;rw [hrc]
     rwa [List.set_append_left _ _ (C4 hr)] at this
  ·cases hc
 ·cases hc
theorem A3A {s e yt ty:TypeId} {k:IntKind} {i:TypeInfo} {n sLen sCap:Nat} {z:Value} {base:Option Addr} {old:Array Value} {oc nc:List Cell} {Γ:Ctx} {h:A6}
  (hi:Inv Γ μ h w) (hs:P.underlying s=some (.slice e)) (dG:P.info? e=some i) (hbl:i.bytes<=65536) (hz:i.zero=some z) (wE:z.cells.size=i.size)
  (hyt:P.underlying yt=some (.int k)) (hb0:i.bytes≠0) (hp0:i.size≠0)
  (hold:(Builtin.firstCells i.size sLen (.slice base sLen sCap)).run P w.drew=.ok old w.drew)
  (D7r:¬ sLen+n<=sCap) (B6p:sLen<=sCap) (E0D:sLen+n<=1073741824)
  (ho:All2 (RC μ) oc old.toList) (hn:All2 (RC μ) nc (Builtin.zeroCells z.cells n).toList) (hol:old.size=sLen*i.size) :
  ∃ w' c,(Builtin.append_ #[s,yt] ty #[.slice base sLen sCap,.int .i64 n]).run P w=.ok (.slice (some ⟨w.heap.size,0,none⟩) (sLen+n) c) w'/\sLen+n<=c /\
   Inv Γ (μ.add h.length (w.heap.size,c*i.size)) (h++[some ⟨oc++nc,true⟩]) w':=by
 have hnl:(Builtin.zeroCells z.cells n).size=n*i.size:=by simp [Builtin.zeroCells,wE]
 have hnc:=C5T (sLen+n) sCap (by omega);have bJ:¬ (281474976710656<Builtin.nextslicecap (sLen+n) sCap*i.bytes):=by
  have:Builtin.nextslicecap (sLen+n) sCap*i.bytes<=2147484648*65536:=Nat.mul_le_mul (by omega) hbl;omega
 have hc0:sLen+n<=grownCap w (sLen+n) sCap e:=by show sLen+n<=sLen+n+_%_;omega
 have hw:Inv Γ μ h w.drew:=hi.world rfl rfl rfl λ_ _=>rfl
 have D19:(Builtin.zeroCells z.cells (grownCap w (sLen+n) sCap e-(sLen+n))).size=(grownCap w (sLen+n) sCap e-(sLen+n))*i.size:=by
  simp [Builtin.zeroCells,wE]
 have hC:(old++Builtin.zeroCells z.cells n++Builtin.zeroCells z.cells (grownCap w (sLen+n) sCap e-(sLen+n))).toList.length=grownCap w (sLen+n) sCap e*i.size:=by
  have:(sLen+n)*i.size+(grownCap w (sLen+n) sCap e-(sLen+n))*i.size=grownCap w (sLen+n) sCap e*i.size:=by
   rw [<-E4Q];congr 1;omega
  have h2:(sLen+n)*i.size=sLen*i.size+n*i.size:=E4Q ..;rw [Array.length_toList,Array.size_append,Array.size_append,D19,hol,hnl];omega
 have hrow:=B4j (t:=e) hw (slot:=none) (n0:=0) trivial (cs:=oc++nc) (C:=(old++Builtin.zeroCells z.cells n++Builtin.zeroCells z.cells (grownCap w (sLen+n) sCap e-(sLen+n))).toList) (by
  have h1:(old++Builtin.zeroCells z.cells n++Builtin.zeroCells z.cells (grownCap w (sLen+n) sCap e-(sLen+n))).toList=(old.toList++(Builtin.zeroCells z.cells n).toList)++(Builtin.zeroCells z.cells (grownCap w (sLen+n) sCap e-(sLen+n))).toList:=by simp
  rw [h1,show (oc++nc).length=(old.toList++(Builtin.zeroCells z.cells n).toList).length by rw [(ho.append hn).length],List.take_left];exact ho.append hn)
 refine ⟨w.drew.alloc (.cells (old++Builtin.zeroCells z.cells n++Builtin.zeroCells z.cells (grownCap w (sLen+n) sCap e-(sLen+n))) e),grownCap w (sLen+n) sCap e,?_,hc0,?_⟩
 ·have E11:IntKind.i64.max=9223372036854775807:=by decide
  have w1:IntKind.i64.wrap (n:Int)=n:=IntWalk.i64_in _ (by omega);have q1:¬ (n:Int)<0:=by omega
  have q2:¬ ((n:Int)*(i.bytes:Int) > 281474976710656):=by
   have h1:n*i.bytes<=1073741824*65536:=Nat.mul_le_mul (by omega) hbl;have h2:((n*i.bytes:Nat):Int)<=((1073741824*65536:Nat):Int):=Int.ofNat_le.2 h1;rw [Int.natCast_mul] at h2;omega
  have q3:¬ (9223372036854775807<((sLen:Int)+(n:Int))):=by omega
  have q4:¬ (281474976710656<(n:Int)*(i.bytes:Int)):=by omega
  by_cases h0:n=0
  ·omega
  ·have h1:¬ (n*i.size=0):=Nat.mul_ne_zero h0 hp0;simp [Builtin.append_,E4 hs,E4 hyt,sizeOf,typeInfo,zeroValue,dG,hz,asInt,asIntOf,w1,q1,q4,E11,q3,D7r,hb0,bJ,Question.forced,hold,fU,grownCap,h1]
 ·rw [hC] at hrow;exact hrow
theorem A3B {s e yt ty:TypeId} {k:IntKind} {i:TypeInfo} {n sLen sCap:Nat} {z:Value} {base:Option Addr} {w':World}
  (hs:P.underlying s=some (.slice e)) (dG:P.info? e=some i) (hbl:i.bytes<=65536) (hz:i.zero=some z) (wE:z.cells.size=i.size) (hp0:i.size≠0) (hyt:P.underlying yt=some (.int k)) (hnb:n<=1073741824) (A0T:sLen+n<=sCap)
  (uP:∀ a,base=some a->(storeCells (a.add (sLen*i.size)) (Builtin.zeroCells z.cells n).toList).run P w=.ok () w') (bH:base=none->w'=w) :
  (Builtin.append_ #[s,yt] ty #[.slice base sLen sCap,.int .i64 n]).run P w=.ok (.slice base (sLen+n) sCap) w':=by
 have w1:IntKind.i64.wrap (n:Int)=n:=IntWalk.i64_in _ (by omega);have q1:¬ (n:Int)<0:=by omega
 have q4:¬ (281474976710656<(n:Int)*(i.bytes:Int)):=by
  have h1:n*i.bytes<=1073741824*65536:=Nat.mul_le_mul hnb hbl;have h2:((n*i.bytes:Nat):Int)<=((1073741824*65536:Nat):Int):=Int.ofNat_le.2 h1;rw [Int.natCast_mul] at h2;omega
 by_cases h0:n=0
 ·subst h0;have hzc:(Builtin.zeroCells z.cells 0) = #[]:=by simp [Builtin.zeroCells]
  have w0:IntKind.i64.wrap 0=0:=IntWalk.i64_in _ (by omega);rw [hzc] at uP;cases base with
  | none =>
   have:=bH rfl;subst this;have hr0:sLen<=sCap:=by omega
   simp [Builtin.append_,E4 hs,E4 hyt,sizeOf,typeInfo,dG,asInt,asIntOf,hr0,w0]
  | some a =>
   have:=uP a rfl;simp [storeCells] at this;subst this;have hr0:sLen<=sCap:=by omega
   simp [Builtin.append_,E4 hs,E4 hyt,sizeOf,typeInfo,dG,asInt,asIntOf,storeCells,hr0,w0]
 ·have h1:¬ (n*i.size=0):=Nat.mul_ne_zero h0 hp0;cases base with
  | none =>
   have:=bH rfl;subst this;simp [Builtin.append_,E4 hs,E4 hyt,sizeOf,typeInfo,zeroValue,dG,hz,asInt,asIntOf,w1,q1,q4,A0T,h1]
  | some a =>
   have:=uP a rfl;simp [Builtin.append_,E4 hs,E4 hyt,sizeOf,typeInfo,zeroValue,dG,hz,asInt,asIntOf,w1,q1,q4,A0T,h1,this]
theorem D8d {s e yt ty:TypeId} {kk:IntKind} {i:TypeInfo} {z:Value} {zero:List Cell} {x y v:Val} {X Y:Value} {Γ:Ctx} {h h':A6}
  (hi:Inv Γ μ h w) (hs:P.underlying s=some (.slice e)) (dG:P.info? e=some i) (hbl:i.bytes<=65536) (hb0:i.bytes≠0) (hz:i.zero=some z) (wE:z.cells.size=i.size) (B4d:i.size≠0)
  (hyt:P.underlying yt=some (.int kk)) (hzc:All2 (RC μ) zero z.cells.toList) (hx:RV μ x X) (hy:RV μ y Y) (hc:B5W h i.size zero x y=some (v,h')) :
  ∃ V w' μ',(Builtin.append_ #[s,yt] ty #[X,Y]).run P w=.ok V w' /\ μ.le μ'/\RV μ' v V/\Inv Γ μ' h' w'/\(∀ id,id<h.length -> μ' id = μ id):=by
 unfold B5W at hc;simp only [E3O] at hc;obtain ⟨n2,hn2,hc⟩:=hc;have hY:Y=.int .i64 n2/\n2<=1073741824:=by
  unfold A4y at hn2;split at hn2
  ·split at hn2
   ·cases hn2;rename_i k hk;have:Y=.int .i64 k:=hy;subst this;exact ⟨by congr 1;omega,by omega⟩
   ·cases hn2
  ·cases hn2
 obtain ⟨rfl,hnb⟩:=hY;have hvs:All2 (RC μ) (rows zero n2) (Builtin.zeroCells z.cells n2).toList:=by
  have:=D4Z hzc n2 (by omega);simpa [Builtin.zeroCells] using this
 have hvl:(Builtin.zeroCells z.cells n2).size=n2*i.size:=by simp [Builtin.zeroCells,wE]
 have D0l:μ h.length=none:=hi.dom _ (E3T _);have bG:∀ x id,id<h.length->(μ.add h.length x) id = μ id:=λx id hid=>by
  have:id≠h.length:=by omega
  simp [Mu.add,this]
 split at hc
 ·
  ·cases hc;cases hx;by_cases h0:n2=0
   ·subst h0;have hr:=A3B (P:=P) (ty:=ty) (sLen:=0) (sCap:=0) (base:=none) (w':=w) (n:=0) hs dG hbl hz wE B4d hyt (by omega) (by omega) (λa h=>by cases h) (λ_=>rfl);exact ⟨_,w,μ,hr,Mu.le_refl _,.inr ⟨rfl,none,rfl⟩,A4a (slot:=none) (n0:=0) hi trivial,λ_ _=>rfl⟩
   ·obtain ⟨w',c,hr,hc1,hI⟩:=A3A (P:=P) (ty:=ty) (sLen:=0) (sCap:=0) (base:=none) (old:=#[]) (oc:=[]) (n:=n2) hi hs dG hbl hz wE hyt hb0 B4d (by simp [Builtin.firstCells]) (by omega) (E3T _) (by omega) trivial hvs (by simp);refine ⟨_,w',_,hr,Mu.le_add D0l,.inl ⟨w.heap.size,c*i.size,c,T8 _ _ _,by omega,by simp,by simp⟩,hI,bG _⟩
 ·rename_i id off len sz';simp only [E3O] at hc;obtain ⟨r,hr,hc⟩:=hc;split at hc
  ·cases hc;rename_i A0Q;obtain ⟨kK,rfl,vQ,hsz,hbd⟩:=A0Q;subst hsz;rcases hx with ⟨b,m,cap,hm,hlc,B6p,rfl⟩ | ⟨h0,a,rfl⟩
   ·by_cases A0T:len+n2<=cap
    ·have D87:r.cells.length+(rows zero n2).length<=m:=by
      have h1:=hvs.length;simp at h1;have h2:(len+n2)*i.size<=cap*i.size:=Nat.mul_le_mul_right _ A0T;rw [E4Q] at h2;omega
     have uP:=A2g (P:=P) hi hr kK hm hvs D87;have hr':=A3B (P:=P) (ty:=ty) (sLen:=len) (sCap:=cap) (base:=some ⟨b,0,none⟩) (w':=w.setCells b r.cells.length (Builtin.zeroCells z.cells n2).toList) hs dG hbl hz wE B4d hyt hnb A0T
      (λa ha=>by cases ha;rw [jJ,vQ,E4b];exact uP.1) (λh=>by cases h)
     exact ⟨_,_,_,hr',Mu.le_add D0l,.inl ⟨b,m,cap,T8 _ _ _,A0T,B6p,rfl⟩,uP.2,bG _⟩
    ·have hrow:=hi.rows id r hr;obtain ⟨olds,ho1,ho2,ho3⟩:=hrow.cells hm 0 (len*i.size) (by omega) (by rw [kK];rfl);have mU:(r.cells.drop 0).take (len*i.size)=r.cells:=by rw [E39,vQ,List.take_length]
     rw [mU] at ho1;have hold:=run_loadCells_list (P:=P) w.drew ⟨b,0,none⟩ olds (λj v hv=>by rw [jJ];exact ho3 j v hv);rw [ho2] at hold;obtain ⟨w',c,hr',hc1,hI⟩:=A3A (P:=P) (ty:=ty) (sLen:=len) (sCap:=cap) (base:=some ⟨b,0,none⟩) (old:=olds.toArray) (oc:=r.cells) (n:=n2) hi hs dG hbl hz wE hyt hb0 B4d
      (by simpa [Builtin.firstCells] using hold) A0T hlc (by omega) ho1 hvs (by simpa using ho2)
     refine ⟨_,w',_,hr',Mu.le_add D0l,.inl ⟨w.heap.size,c*i.size,c,T8 _ _ _,by omega,by simp,by simp⟩,?_,bG _⟩;have:=hI.drop id
     rwa [List.set_append_left _ _ (C4 hr)] at this
   ·subst h0;have hrc:r.cells=[]:=by
     have:r.cells.length=0:=by omega
     exact List.length_eq_zero_iff.1 this
    by_cases h0:n2=0
    ·subst h0;have hr':=A3B (P:=P) (ty:=ty) (sLen:=0) (sCap:=0) (base:=a) (w':=w) (n:=0) (z:=z) hs dG hbl hz wE B4d hyt (by omega) (by omega) (λa h=>by simp [storeCells,Builtin.zeroCells]) (λ_=>rfl);refine ⟨_,w,μ,hr',Mu.le_refl _,.inr ⟨rfl,a,rfl⟩,?_,λ_ _=>rfl⟩;have:=(A4a (slot:=none) (n0:=0) hi trivial).drop id;rw [hrc];simp only [cQ] at this
     rwa [List.set_append_left _ _ (C4 hr)] at this
    ·obtain ⟨w',c,hr',hc1,hI⟩:=A3A (P:=P) (ty:=ty) (sLen:=0) (sCap:=0) (base:=a) (old:=#[]) (oc:=[]) (n:=n2) hi hs dG hbl hz wE hyt hb0 B4d
      (by cases a<;>simp [Builtin.firstCells,loadCells,loadCellsFrom]) (by omega) (E3T _) (by omega) trivial hvs (by simp)
     refine ⟨_,w',_,hr',Mu.le_add D0l,.inl ⟨w.heap.size,c*i.size,c,T8 _ _ _,by omega,by simp,by simp⟩,?_,bG _⟩;have:=hI.drop id;rw [hrc]
     rwa [List.set_append_left _ _ (C4 hr)] at this
  ·cases hc
 ·cases hc
end
end
section
section
variable {P:Program} {μ:Mu} {w:World}
theorem Inv.marked {Γ:Ctx} {h:A6} {id b n:Nat} {r:Row} (hi:Inv Γ μ h w) (hr:rd h id=some r) (kK:r.rw=true) (hm:μ id=some (b,n)) :
  ∃ w',(markStringish ⟨b,0,none⟩).run P w=.ok () w'/\Inv Γ μ h w'/\∀ off,(markStringish ⟨b,off,none⟩).run P w=.ok () w':=by
 obtain ⟨C,elem,fz,h1,h2,h3,h4⟩:=(hi.rows id r hr).mem hm kK;have hsh:w.shape? b=some (elem,n):=by simp [World.shape?,h1,h2]
 have A7u:∀ off,(markStringish ⟨b,off,none⟩).run P w=.ok () (w.freeze ⟨b,n,none⟩ 1):=by
  intro off;simp [markStringish,hsh]
 refine ⟨w.freeze ⟨b,n,none⟩ 1,A7u 0,?_,A7u⟩;have C8X:∀ b',(w.freeze ⟨b,n,none⟩ 1).heap[b']?=if b=b' then some (.cells C elem (if fz.1==fz.2 then (n,n+1) else (min fz.1 n,max fz.2 (n+1)))) else w.heap[b']? := by
  intro b';simp only [World.freeze,if_neg (show ¬ (1:Nat)=0 by omega),Array.getElem?_modify];split
  ·rename_i e;subst e;rw [h1];simp
  ·rfl
 have E0Q:∀ b',b'≠b->(w.freeze ⟨b,n,none⟩ 1).heap[b']?=w.heap[b']? := λb' hb=>by rw [C8X,if_neg (Ne.symm hb)]
 have:=hi.write hr kK hm (w':=w.freeze ⟨b,n,none⟩ 1) (cs:=r.cells) rfl rfl rfl E0Q (by
  unfold RowOk;rw [hm];refine .inl ⟨C,elem,_,by rw [C8X,if_pos rfl],h2,(kK ▸ h3:All2 (RL μ true) _ _),λ_=>.inr ?_⟩;have h5:=h4 kK;split
  ·exact E3T _
  ·rename_i U1;rcases h5 with h5 | h5
   ·simp [h5] at U1
   ·show n<=min fz.1 n;omega)
 have e:h.set id (some ⟨r.cells,true⟩)=h:=by
  apply E4I;intro j;by_cases hj:id=j
  ·subst hj;rw [List.getElem?_set_self (C4 hr)];rw [rd_some] at hr;rw [hr,<-kK]
  ·rw [List.getElem?_set_ne hj]
 rwa [e] at this
theorem run_mark {Γ:Ctx} {s e:TypeId} {h:A6} {x v:Val} {X:Value} (hi:Inv Γ μ h w) (hs:sliceB P s=some e) (he:B4f P e=some .u8) (hx:RV μ x X) (hc:xJ h x=some v) :
  ∃ w',(convert s s X).run P w=.ok X w'/\v=x/\Inv Γ μ h w':=by
 unfold xJ at hc;split at hc
 ·rename_i id off len sz;simp only [E3O] at hc;obtain ⟨r,hr,hc⟩:=hc;split at hc
  ·cases hc;rename_i A0Q;rcases hx with ⟨b,m,cap,hm,hlc,B6p,rfl⟩ | ⟨h0,a,rfl⟩
   ·obtain ⟨w',h1,h2,h3⟩:=hi.marked (P:=P) hr A0Q.1 hm;exact ⟨w',by simp [convert,E4 (O1 hs),E4 (A4r he),h3 off],rfl,h2⟩
   ·omega
  ·cases hc
 ·cases hc
theorem D9F {Γ:Ctx} {h:A6} {n0:Nat} {slot:Option Nat} {s d e:TypeId} {l:List UInt8} (hi:Inv Γ μ h w) (lO:sR μ h n0 slot) (hs:bD P s=true) (hd:sliceB P d=some e) (he:B4f P e=some .u8) (hl:l.length<=1073741824) :
  ∃ V w' μ',(convert s d (.string ⟨l.toArray⟩)).run P w=.ok V w' /\ μ.le μ'/\RV μ' (.c (.sl (cQ h n0 slot ⟨A5 l,true⟩).1 0 l.length 1)) V/\Inv Γ μ' (cQ h n0 slot ⟨A5 l,true⟩).2 w'/\Keeps μ μ' h n0 slot:=by
 have hsz:(ByteArray.mk l.toArray).size=l.length:=by show l.toArray.size=_;simp
 have B6p:l.length<=(Question.appendCap l.length 0 e).cut (w.tape w.drawn (.appendCap l.length 0 e)):=by show l.length<=l.length+_%_;omega
 generalize hk:(Question.appendCap l.length 0 e).cut (w.tape w.drawn (.appendCap l.length 0 e))=cap at B6p;have hC:((l.toArray.map λ(b:UInt8)=>Value.int .u8 b.toNat)++Array.replicate (cap-l.length) (Value.int .u8 0)).toList=(l.map λ(b:UInt8)=>Value.int .u8 b.toNat)++E3Q (cap-l.length) (Value.int .u8 0):=by simp
 have hw:Inv Γ μ h w.drew:=hi.world rfl rfl rfl λ_ _=>rfl
 have hn:=B4j (t:=e) hw lO (cs:=A5 l) (C:=(l.map λ(b:UInt8)=>Value.int .u8 b.toNat)++E3Q (cap-l.length) (Value.int .u8 0)) (by
  rw [show (A5 l).length=(l.map λ(b:UInt8)=>Value.int .u8 b.toNat).length by simp [A5],List.take_left];exact D4y l)
 have hsp:=oD (r:=⟨A5 l,true⟩) lO hi.dom;obtain ⟨w',h1,h2,h3⟩:=hn.marked (P:=P) hsp.2.2.2.2.2 rfl (T8 _ _ _);refine ⟨.slice (some ⟨w.heap.size,0,none⟩) l.length cap,w',_,?_,Mu.le_add hsp.1,.inl ⟨_,_,cap,T8 _ _ _,B6p,by simp;omega,rfl⟩,h2,Keeps.new⟩;have h1:(markStringish ⟨w.heap.size,0,none⟩).run P (w.drew.alloc (.cells ((l.map λ(b:UInt8)=>Value.int .u8 b.toNat)++E3Q (cap-l.length) (Value.int .u8 0)).toArray e))=.ok () w':=h1;rw [<-hC,Array.toArray_toList] at h1;have hfo:(Question.appendCap l.length 0 e).forced=false:=rfl;simp only [convert,Sem.run_bind,E4 (kJ hs),Result.andThen_ok,E4 (O1 hd),E4 (A4r he),Conv.stringToBytes,run_choose,hsz,hfo,E4M,if_false,hk,fU];have hdr:({ w with drawn:=w.drawn+1 }:World)=w.drew:=rfl;rw [hdr,h1];rfl
theorem D8f {Γ:Ctx} {h h':A6} {s e yt ty:TypeId} {sz:Nat} {x y v:Val} {X Y:Value} (hi:Inv Γ μ h w) (hs:sliceB P s=some e) (hsz:P9 P e=some sz) (B4d:sz≠0) (hx:RV μ x X) (hy:RV μ y Y) (hc:C4w h sz x y=some (v,h')) :
  ∃ V w',(Builtin.copy_ #[s,yt] ty #[X,Y]).run P w=.ok V w'/\RV μ v V/\Inv Γ μ h' w':=by
 unfold C4w at hc;split at hc
 ·cases hc
 rename_i E26;simp only [E3O] at hc;obtain ⟨ys,hys,hc⟩:=hc;split at hc
 ·rename_i id off len sz';simp only [E3O] at hc;obtain ⟨r,hr,hc⟩:=hc;split at hc
  ·cases hc;rename_i A0Q;obtain ⟨kK,D87,rfl⟩:=A0Q;have src:∃ n vs,(Builtin.lenOf Y).run P w=.ok n w/\All2 (RC μ) ys vs/\vs.length=n*sz/\∀ m,m<=n->(Builtin.firstCells sz m Y).run P w=.ok (vs.take (m*sz)).toArray w:=by
    cases y with
    | c c =>
     cases c with
     | sl id2 off2 len2 sz2 =>
      simp only [O4] at hys;split at hys
      ·rename_i hs2;subst hs2;obtain ⟨len',cap,a,vs,rfl,hvs,hlen,C5u,A4n⟩:=B4s hi.rows hy hys;have hl:=hlen sz (λ_ _ _ _ h=>by cases h;rfl);refine ⟨len',vs,rfl,hvs,hl,λm hm=>?_⟩;cases a with
       | none=>have:=C5u rfl;subst this;simp [Builtin.firstCells]
       | some b =>
        have hml:(vs.take (m*sz)).length=m*sz:=by
         have:=Nat.mul_le_mul_right sz hm;simp;omega
        have:=run_loadCells_list (P:=P) w b (vs.take (m*sz)) (λj v hv=>A4n b rfl j v (by
         have hj:=(List.getElem?_eq_some_iff.1 hv).1;rw [E4n (by omega)] at hv;exact hv))
        rw [hml] at this;simpa [Builtin.firstCells] using this
      ·cases hys
     | ns =>
      simp only [O4] at hys;cases hys;cases hy;exact ⟨0,[],rfl,trivial,by simp,λm hm=>by simp [Builtin.firstCells]⟩
     | s l=>exact absurd rfl (E26 l)
     | _=>simp [O4] at hys
    | _=>simp [O4] at hys
   obtain ⟨n,vs,hlen,hvs,hvl,B83⟩:=src;have hyl:ys.length/sz=n:=by rw [hvs.length,hvl];exact Nat.mul_div_cancel _ (by omega)
   rw [hyl];have hf:=B83 (E4W n len) (Nat.min_le_left _ _);have hml:(ys.take (E4W n len*sz)).length=E4W n len*sz:=by
    have h1:=hvs.length;have h2:E4W n len*sz<=n*sz:=Nat.mul_le_mul_right sz (Nat.min_le_left n len);rw [E4k];omega
   have E1U:off+(ys.take (E4W n len*sz)).length<=r.cells.length:=by
    have h2:E4W n len*sz<=len*sz:=Nat.mul_le_mul_right sz (Nat.min_le_right n len);omega
   rcases hx with ⟨b,m,cap,hm,hlc,B6p,rfl⟩ | ⟨h0,a,rfl⟩
   ·have uP:=C6v (P:=P) hi hr kK hm (off:=off) (hvs.take (E4W n len*sz)) E1U;refine ⟨_,_,?_,rfl,uP.2⟩;simp [Builtin.copy_,E4 (O1 hs),hlen,O5 hsz,hf,uP.1,goInt]
   ·subst h0;refine ⟨_,w,?_,rfl,?_⟩
    ·have hz:(Builtin.firstCells sz 0 Y).run P w=.ok #[] w:=by simpa using B83 0 (Nat.zero_le _)
     cases a<;>simp [Builtin.copy_,E4 (O1 hs),hlen,O5 hsz,hz,goInt,storeCells]
    ·have e0:lay r.cells off (ys.take (E4W n 0*sz))=r.cells:=by simp [lay]
     rw [e0];have e:h.set id (some ⟨r.cells,true⟩)=h:=by
      apply E4I;intro j;by_cases hj:id=j
      ·subst hj;rw [List.getElem?_set_self (C4 hr)];rw [rd_some] at hr;rw [hr,<-kK]
      ·rw [List.getElem?_set_ne hj]
     rw [e];exact hi
  ·cases hc
 ·cases hc
end
end
section
def C5K (leaf:TypeId->Option (List Sh)) (P:Program):Nat->List Field->Option (List Sh)
 | _,[]=>some []
 | off,f::fs=>(leaf f.type).bind λl =>
   if f.name ≠ "_" ∧ f.offset = off ∧ P9 P f.type = some l.length then (C5K leaf P (off + l.length) fs).map λr => l ++ r else none
def A96 (P:Program):Nat->TypeId->Option (List Sh)
 | 0,_=>none
 | d+1,t =>
  match P.underlying t with
  | some .bool=>some [.b]
  | some (.int k)=>some [.i k]
  | some .string=>some [.s]
  | some (.struct fs)=>if P.stoodInHeld t=false then C5K (A96 P d) P 0 fs.toList else none
  | some (.array n e)=>(A96 P d e).bind λl=>if P9 P e=some l.length then some (E3Q n l).flatten else none
  | _=>none
section
variable {P:Program} {μ:Mu} {w:World}
def mkv (P:Program) (t:TypeId) (vs:List Value):Value :=
 if jK P t=some true then .agg vs.toArray else vs.headD undef
theorem D45 {c:Cell} {k:IntKind} (h:c.sh=some (.i k)):∃ n,c=.i k n:=by
 cases c<;>simp [Cell.sh] at h
 subst h;exact ⟨_,rfl⟩
theorem D44 {c:Cell} (h:c.sh=some .b):∃ x,c=.b x:=by
 cases c<;>simp [Cell.sh] at h
 exact ⟨_,rfl⟩
theorem D46 {c:Cell} (h:c.sh=some .s):∃ x,c=.s x:=by
 cases c<;>simp [Cell.sh] at h
 exact ⟨_,rfl⟩
theorem B9c {q:Sh} {xs:List Cell} {Xs:List Value} (h:xs.map Cell.sh=[q].map some) (hX:All2 (RC μ) xs Xs):∃ x X,xs=[x]/\Xs=[X]/\x.sh=some q/\RC μ x X:=by
 cases xs with
 | nil=>simp at h
 | cons x r =>
  cases r with
  | cons y r=>simp at h
  | nil =>
   cases Xs with
   | nil=>exact hX.elim
   | cons X R =>
    cases R with
    | nil=>exact ⟨x,X,rfl,rfl,by simpa using h,hX.1⟩
    | cons Y R=>exact hX.2.elim
theorem D4t {α:Type} [DecidableEq α] (a b:α):(a==b)=decide (a=b):=by rw [Bool.eq_iff_iff];simp
theorem B58 {a b c d:List Cell} (h:a.length=c.length):decide (a++b=c++d)=(decide (a=c)&&decide (b=d)):=by
 rw [Bool.eq_iff_iff];simp only [E3R,decide_eq_true_eq];exact ⟨λk=>List.append_inj k h,λ⟨h,k⟩=>by rw [h,k]⟩
def E0g (P:Program) (D:Nat) (t:TypeId) (l:List Sh):Prop :=
 ∀ (μ:Mu) (w:World) (xs ys:List Cell) (Xs Ys:List Value),xs.map Cell.sh=l.map some->ys.map Cell.sh=l.map some->All2 (RC μ) xs Xs->All2 (RC μ) ys Ys ->
  (Op.equalIn D t (mkv P t Xs) (mkv P t Ys)).run P w=.ok (decide (xs=ys)) w
theorem B6V {t:TypeId} {l:List Sh} {xs:List Cell} {Xs:List Value} {off:Nat} (hsz:P9 P t=some l.length) (mT:jK P t=some true\/(jK P t=some false/\l.length=1))
  (hX:All2 (RC μ) xs Xs) (hl:off+l.length<=xs.length):(part t Xs.toArray off).run P w=.ok (mkv P t ((Xs.drop off).take l.length)) w:=by
 have hlen:=hX.length;rcases mT with h | ⟨h,h1⟩
 ·simp [part,B0Z h,O5 hsz,mkv,h,List.take_drop]
 ·have V7:off<Xs.length:=by omega
  have:((Xs.drop off).take l.length).headD undef=Xs[off]:=by
   rw [h1,E3V V7];rfl
  unfold mkv;rw [if_neg (by rw [h];simp),this];simp [part,B0Z h,V7]
theorem D29 {t:TypeId} {d:Nat} {l:List Sh} (h:A96 P d t=some l):jK P t=some true\/(jK P t=some false/\l.length=1):=by
 cases d with
 | zero=>simp [A96] at h
 | succ d =>
  unfold A96 at h;unfold jK;split at h
  ·rename_i hu;cases h;right;simp [hu]
  ·rename_i hu;cases h;right;simp [hu]
  ·rename_i hu;cases h;right;simp [hu]
  ·rename_i hu;left;simp [hu]
  ·rename_i hu;left;simp [hu]
  ·cases h
theorem C8R {leaf:TypeId->Option (List Sh)} {D:Nat} (hok:∀ t l,leaf t=some l->E0g P D t l) (mT:∀ t l,leaf t=some l->jK P t=some true\/(jK P t=some false/\l.length=1)) :
  ∀ (fs:List Field) (off:Nat) (l:List Sh) (μ:Mu) (w:World) (xs ys:List Cell) (Xs Ys:List Value),C5K leaf P off fs=some l->xs.length=off+l.length->ys.length=off+l.length ->
   (xs.drop off).map Cell.sh=l.map some->(ys.drop off).map Cell.sh=l.map some->All2 (RC μ) xs Xs->All2 (RC μ) ys Ys ->
   (Op.eqFields D Xs.toArray Ys.toArray fs).run P w=.ok (decide (xs.drop off=ys.drop off)) w
 | [],off,l,μ,w,xs,ys,Xs,Ys,hl,h1,h2,hs1,hs2,hX,hY=>by
  simp [C5K] at hl;subst hl;simp at h1 h2;rw [E32 (by omega),E32 (by omega)];simp [Op.eqFields]
 | f::fs,off,l,μ,w,xs,ys,Xs,Ys,hl,h1,h2,hs1,hs2,hX,hY=>by
  simp only [C5K,E3O] at hl;obtain ⟨lf,hlf,hl⟩:=hl;split at hl
  ·rename_i hc;obtain ⟨D16,E27,hsz⟩:=hc;simp only [E34] at hl;obtain ⟨r,hr,rfl⟩:=hl;simp only [E3S] at h1 h2;have e:∀ zs:List Cell,(zs.drop off).map Cell.sh=(lf++r).map some->zs.length=off+(lf.length+r.length)->((zs.drop off).take lf.length).map Cell.sh=lf.map some/\(zs.drop (off+lf.length)).map Cell.sh=r.map some:=by
    intro zs hz wE;constructor
    ·rw [List.map_take,hz,E4J,List.take_left' (by simp)]
    ·rw [<-E4S,List.map_drop,hz,E4J,List.drop_left' (by simp)]
   obtain ⟨a1,a2⟩:=e xs hs1 h1;obtain ⟨b1,b2⟩:=e ys hs2 h2;have hp1:=B6V (P:=P) (w:=w) (off:=off) hsz (mT _ _ hlf) hX (by omega);have hp2:=B6V (P:=P) (w:=w) (off:=off) hsz (mT _ _ hlf) hY (by omega);have uO:=hok _ _ hlf μ w _ _ _ _ a1 b1 ((hX.drop off).take lf.length) ((hY.drop off).take lf.length);have ih:=C8R hok mT fs (off+lf.length) r μ w xs ys Xs Ys hr (by omega) (by omega) a2 b2 hX hY;have split:∀ zs:List Cell,zs.drop off=(zs.drop off).take lf.length++zs.drop (off+lf.length):=by
    intro zs;rw [<-E4S];exact (List.take_append_drop _ _).symm
   have hd:decide (xs.drop off=ys.drop off)=(decide ((xs.drop off).take lf.length=(ys.drop off).take lf.length)&&decide (xs.drop (off+lf.length)=ys.drop (off+lf.length))):=by
    have hlen:((xs.drop off).take lf.length).length=((ys.drop off).take lf.length).length:=by simp;omega
    conv=>lhs;rw [split xs,split ys]
    exact B58 hlen
   subst E27;simp only [Op.eqFields,D16,ne_eq,not_false_eq_true,if_true,Sem.run_bind,hp1,Result.andThen_ok,hp2,uO];rw [hd];cases decide ((xs.drop f.offset).take lf.length=(ys.drop f.offset).take lf.length) with
   | true=>simpa using ih
   | false=>simp
  ·cases hl
def A50 (D:Nat) (e:TypeId) (n:Nat) (xs ys:Array Value):List Nat->Sem Bool
 | []=>pure true
 | i::r=>do
  let a <-part e xs (i*n)
  let b <-part e ys (i*n)
  let q <-Op.equalIn D e a b
  if (!q)=true then pure false else A50 D e n xs ys r
theorem run_equalIn_array {D:Nat} {t e:TypeId} {n sz:Nat} {xs ys:Array Value} (ha:nJ P t=some (n,e)) (hsz:P9 P e=some sz) :
  (Op.equalIn (D+1) t (.agg xs) (.agg ys)).run P w=(A50 D e sz xs ys (E4m n)).run P w:=by
 simp only [Op.equalIn,Sem.run_bind,E4 (nK ha),Result.andThen_ok,O5 hsz];rw [Std.Legacy.Range.forIn_eq_forIn_range'];have hr:E4s (Std.Legacy.Range.start [0:n]) (Std.Legacy.Range.size [0:n]) (Std.Legacy.Range.step [0:n])=E4m n:=by
  simp [List.range_eq_range',Std.Legacy.Range.size]
 rw [hr];generalize E4m n=is
 induction is generalizing w with
 | nil=>simp [A50]
 | cons i is ih =>
  simp only [List.forIn_cons,A50,Sem.run_bind];generalize (part e xs (i*sz)).run P w=r1;cases r1 with
  | ok a w1 =>
   simp only [Result.andThen_ok];generalize (part e ys (i*sz)).run P w1=r2;cases r2 with
   | ok b w2 =>
    simp only [Result.andThen_ok];generalize (Op.equalIn D e a b).run P w2=r3;cases r3 with
    | ok r w3 =>
     cases r
     ·simp
     ·simpa using ih
    | halt x w3=>simp [Result.andThen]
   | halt x w2=>simp [Result.andThen]
  | halt x w1=>simp [Result.andThen]
theorem D1T {D:Nat} {e:TypeId} {l:List Sh} (hok:E0g P D e l) (mT:jK P e=some true\/(jK P e=some false/\l.length=1)) (hsz:P9 P e=some l.length) :
  ∀ (k i:Nat) (μ:Mu) (w:World) (xs ys:List Cell) (Xs Ys:List Value),xs.length=i*l.length+k*l.length->ys.length=i*l.length+k*l.length ->
   (xs.drop (i*l.length)).map Cell.sh=(E3Q k l).flatten.map some->(ys.drop (i*l.length)).map Cell.sh=(E3Q k l).flatten.map some->All2 (RC μ) xs Xs->All2 (RC μ) ys Ys ->
   (A50 D e l.length Xs.toArray Ys.toArray (E4s i k)).run P w=.ok (decide (xs.drop (i*l.length)=ys.drop (i*l.length))) w
 | 0,i,μ,w,xs,ys,Xs,Ys,h1,h2,hs1,hs2,hX,hY=>by
  rw [E32 (by omega),E32 (by omega)];simp [A50]
 | k+1,i,μ,w,xs,ys,Xs,Ys,h1,h2,hs1,hs2,hX,hY=>by
  have hk:(k+1)*l.length=l.length+k*l.length:=by rw [E4Q];omega
  have hi:(i+1)*l.length=i*l.length+l.length:=by rw [E4Q];omega
  rw [hk] at h1 h2;have e:∀ zs:List Cell,(zs.drop (i*l.length)).map Cell.sh=(E3Q (k+1) l).flatten.map some->zs.length=i*l.length+(l.length+k*l.length) ->
    ((zs.drop (i*l.length)).take l.length).map Cell.sh=l.map some/\(zs.drop ((i+1)*l.length)).map Cell.sh=(E3Q k l).flatten.map some:=by
   intro zs hz wE;rw [E4i,E4L] at hz;constructor
   ·rw [List.map_take,hz,E4J,List.take_left' (by simp)]
   ·rw [hi,<-E4S,List.map_drop,hz,E4J,List.drop_left' (by simp)]
  obtain ⟨a1,a2⟩:=e xs hs1 h1;obtain ⟨b1,b2⟩:=e ys hs2 h2;have hp1:=B6V (P:=P) (w:=w) (off:=i*l.length) hsz mT hX (by omega);have hp2:=B6V (P:=P) (w:=w) (off:=i*l.length) hsz mT hY (by omega);have uO:=hok μ w _ _ _ _ a1 b1 ((hX.drop (i*l.length)).take l.length) ((hY.drop (i*l.length)).take l.length);have ih:=D1T hok mT hsz k (i+1) μ w xs ys Xs Ys (by omega) (by omega) a2 b2 hX hY;have split:∀ zs:List Cell,zs.drop (i*l.length)=(zs.drop (i*l.length)).take l.length++zs.drop ((i+1)*l.length):=by
   intro zs;rw [hi,<-E4S];exact (List.take_append_drop _ _).symm
  have hd:decide (xs.drop (i*l.length)=ys.drop (i*l.length))=(decide ((xs.drop (i*l.length)).take l.length=(ys.drop (i*l.length)).take l.length)&&decide (xs.drop ((i+1)*l.length)=ys.drop ((i+1)*l.length))):=by
   have hlen:((xs.drop (i*l.length)).take l.length).length=((ys.drop (i*l.length)).take l.length).length:=by simp;omega
   conv=>lhs;rw [split xs,split ys]
   exact B58 hlen
  rw [List.range'_succ];simp only [A50,Sem.run_bind,hp1,Result.andThen_ok,hp2,uO];rw [hd];cases decide ((xs.drop (i*l.length)).take l.length=(ys.drop (i*l.length)).take l.length) with
  | true=>simpa using ih
  | false=>simp
theorem D4L:∀ (d D:Nat) (t:TypeId) (l:List Sh),d<=D->A96 P d t=some l->E0g P D t l
 | 0,_,_,_,_,h=>by simp [A96] at h
 | d+1,0,_,_,hD,_=>by omega
 | d+1,D+1,t,l,hD,h=>by
  have ih:=λt' l'=>D4L d D t' l' (by omega)
  have mT:=D29 h;intro μ w xs ys Xs Ys hx hy hX hY;unfold A96 at h;split at h
  ·rename_i hu;cases h;obtain ⟨x,X,rfl,rfl,h1,h2⟩:=B9c hx hX;obtain ⟨y,Y,rfl,rfl,h3,h4⟩:=B9c hy hY;obtain ⟨a,rfl⟩:=D44 h1;obtain ⟨b,rfl⟩:=D44 h3;cases h2;cases h4;have hm:∀ v:Value,mkv P t [v]=v:=λv=>by simp [mkv,jK,hu]
   rw [hm,hm,run_equalIn_bool' w D t a b hu,D4t];simp
  ·rename_i k hu;cases h;obtain ⟨x,X,rfl,rfl,h1,h2⟩:=B9c hx hX;obtain ⟨y,Y,rfl,rfl,h3,h4⟩:=B9c hy hY;obtain ⟨a,rfl⟩:=D45 h1;obtain ⟨b,rfl⟩:=D45 h3;cases h2;cases h4;have hm:∀ v:Value,mkv P t [v]=v:=λv=>by simp [mkv,jK,hu]
   rw [hm,hm,run_equalIn_int w D t k k a b hu,D4t];simp
  ·rename_i hu;cases h;obtain ⟨x,X,rfl,rfl,h1,h2⟩:=B9c hx hX;obtain ⟨y,Y,rfl,rfl,h3,h4⟩:=B9c hy hY;obtain ⟨a,rfl⟩:=D46 h1;obtain ⟨b,rfl⟩:=D46 h3;cases h2;cases h4;have hm:∀ v:Value,mkv P t [v]=v:=λv=>by simp [mkv,jK,hu]
   rw [hm,hm,run_equalIn_string w D t _ _ hu,ByteArray.toList_mk,ByteArray.toList_mk,show (a==b)=decide (a=b) by rw [Bool.eq_iff_iff];simp];simp
  ·rename_i fs hu;split at h
   ·rename_i uP;have hm:∀ vs:List Value,mkv P t vs=.agg vs.toArray:=λvs=>by simp [mkv,jK,hu]
    have hfo:P.fieldsOf t=fs:=by simp [Program.fieldsOf,hu]
    rw [hm,hm,run_equalIn_struct w D t _ _ (by rw [hfo];exact hu) uP,hfo];have hxl:xs.length=l.length:=by have:=congrArg List.length hx;simpa using this
    have hyl:ys.length=l.length:=by have:=congrArg List.length hy;simpa using this
    have:=C8R (P:=P) (leaf:=A96 P d) (D:=D) (λt' l' h'=>ih t' l' h') (λt' l' h'=>D29 h') fs.toList 0 l μ w xs ys Xs Ys h (by omega) (by omega) (by simpa using hx) (by simpa using hy) hX hY;simpa using this
   ·cases h
  ·rename_i n e hu;simp only [E3O] at h;obtain ⟨le,bJ,h⟩:=h;split at h
   ·cases h;rename_i hsz;have hm:∀ vs:List Value,mkv P t vs=.agg vs.toArray:=λvs=>by simp [mkv,jK,hu]
    have E2P:nJ P t=some (n,e):=by simp [nJ,hu]
    rw [hm,hm,run_equalIn_array E2P hsz];have hxl:xs.length=n*le.length:=by have:=congrArg List.length hx;simpa using this
    have hyl:ys.length=n*le.length:=by have:=congrArg List.length hy;simpa using this
    have:=D1T (ih e le bJ) (D29 bJ) hsz n 0 μ w xs ys Xs Ys (by omega) (by omega) (by simpa using hx) (by simpa using hy) hX hY;rw [<-List.range_eq_range'] at this;simpa using this
   ·cases h
  ·cases h
theorem D9y {neg:Bool} {t:TypeId} {l:List Sh} {x y v:Val} {X Y:Value} (mT:jK P t=some true) (hl:A96 P 100 t=some l) (hx:RV μ x X) (hy:RV μ y Y) (h:aeq neg l x y=some v) :
  ∃ V,(binOp (bif neg then .neq else .eql) t X Y).run P w=.ok V w/\RV μ v V:=by
 unfold aeq at h;split at h
 ·obtain ⟨Xs,rfl,hX⟩:=hx;obtain ⟨Ys,rfl,hY⟩:=hy;split at h
  ·rename_i hc;cases h;have:=D4L (P:=P) 100 10000 t l (by omega) hl μ w _ _ Xs Ys hc.1 hc.2 hX hY;have hm:∀ vs:List Value,mkv P t vs=.agg vs.toArray:=λvs=>by simp [mkv,mT]
   rw [hm,hm] at this;cases neg
   ·exact ⟨_,by rw [cond_false,run_eql_struct,this];rfl,rfl⟩
   ·exact ⟨_,by rw [cond_true,run_neq_struct,this];rfl,rfl⟩
  ·cases h
 ·cases h
end
end
section
section
variable {P:Program} {μ:Mu} {w:World}
def D0v (P:Program) (t:TypeId):Option (TypeId × TypeId):=match P.underlying t with | some (.map k e)=>some (k,e) | _=>none
theorem A0V {t k e:TypeId} (h:D0v P t=some (k,e)):P.underlying t=some (.map k e):=by
 unfold D0v at h;cases hu:P.underlying t with
 | none=>rw [hu] at h;cases h
 | some d=>rw [hu] at h;cases d<;>simp_all
def A7c (P:Program) (k:TypeId) (kk:Option IntKind):Bool :=
 match P.underlying k,kk with
 | some (.int i),some j=>decide (i=j)
 | some .string,none=>true
 | _,_=>false
def A5V (v:Value):Part->Bool
 | .c x=>v.oneCell'&&iS v [x]
 | .a l=>(match v with | .agg _=>true | _=>false)&&iS v l
theorem B32 {v:Value} {p:Part} (h:A5V v p=true):RP μ p v:=by
 cases p with
 | c x =>
  simp only [A5V,E3R] at h;have h2:=fI (μ:=μ) h.2;have h3:v.cells = #[v]:=by
   have:=h.1;cases v<;>simp_all [Value.oneCell',Value.cells]
  rw [h3] at h2;exact h2.1
 | a l =>
  simp only [A5V,E3R] at h;have h2:=fI (μ:=μ) h.2;cases v with
  | agg vs=>exact ⟨vs.toList,by simp,by simpa [Value.cells] using h2⟩
  | _=>cases h.1
theorem C5F {k:TypeId} {kk:Option IntKind} {d:TypeDesc} {c:Cell} {V:Value} (hd:P.underlying k=some d) (hk:A7c P k kk=true) (hs:rS kk c=true) (hc:RC μ c V):MapKept.IsKey d V:=by
 unfold A7c at hk;rw [hd] at hk;cases d<;>cases kk<;>simp at hk
 all_goals
  cases c<;>simp [rS] at hs
 ·subst hk;subst hs;cases hc;rfl
 ·cases hc;trivial
theorem E05 {kk:Option IntKind} {c c':Cell} {V V':Value} (h1:rS kk c=true) (h2:rS kk c'=true) (hc:RC μ c V) (hc':RC μ c' V'):V=V'↔c=c':=by
 cases kk with
 | none =>
  cases c<;>simp [rS] at h1
  cases c'<;>simp [rS] at h2
  cases hc;cases hc';simp
 | some k =>
  cases c<;>simp [rS] at h1
  cases c'<;>simp [rS] at h2
  cases hc;cases hc';subst h1;subst h2;simp
theorem D0x {d:TypeDesc} {kk:Option IntKind} {k:Cell} {K:Value} (hkd:∀ c V,rS kk c=true->RC μ c V->MapKept.IsKey d V) (hk:rS kk k=true) (hK:RC μ k K) :
  ∀ (es:V6) (E:List MapEntry) (i:Nat),All2 (RE μ) es E->(es.all λe=>rS kk e.1)=true ->
   match mgo k es i with
   | none=>Instr.findNow d K E i=some none
   | some (j,p)=>∃ V,Instr.findNow d K E i=some (some (j,V))/\RP μ p V/\i<=j/\∃ e E',es[j-i]?=some e/\e=(k,p)/\E[j-i]?=some E'/\E'.val=V/\E'.key=K
 | [],[],i,_,_=>rfl
 | e::es,E0::E,i,⟨⟨h1,h2⟩,h3⟩,hs=>by
  simp only [E4x,E3R] at hs;obtain ⟨r,hr,B84⟩:=MapKept.sameNow_of_keys (hkd k K hk hK) (hkd e.1 E0.key hs.1 h1);have hke:=E05 hk hs.1 hK h1;unfold mgo;by_cases he:e.1=k
  ·rw [if_pos he];have:r=true:=B84.2 (hke.2 he.symm);subst this;refine ⟨E0.val,by simp [Instr.findNow,hr],h2,E3T _,e,E0,by simp,by rw [<-he],by simp,rfl,(hke.2 he.symm).symm⟩
  ·rw [if_neg he];have hrf:r=false:=by
    cases r with
    | false=>rfl
    | true=>exact absurd (hke.1 (B84.1 rfl)).symm he
   subst hrf;have ih:=D0x hkd hk hK es E (i+1) h3 hs.2;cases hm:mgo k es (i+1) with
   | none=>rw [hm] at ih;simp only at ih ⊢;simp [Instr.findNow,hr,ih]
   | some jp =>
    obtain ⟨j,p⟩:=jp;rw [hm] at ih;obtain ⟨V,g1,g2,g3,e',E',g4,g5,g6,g7,g8⟩:=ih;refine ⟨V,by simp [Instr.findNow,hr,g1],g2,by omega,e',E',?_,g5,?_,g7,g8⟩
    ·rw [show j-i=(j-(i+1))+1 by omega];simpa using g4
    ·rw [show j-i=(j-(i+1))+1 by omega];simpa using g6
 | [],_::_,_,h,_=>h.elim
 | _::_,[],_,h,_=>h.elim
theorem RP.val {p:Part} {V:Value} (h:RP μ p V):RV μ (A4B false p true) V:=by
 cases p<;>exact h
theorem D3R {p:Part} {b:Bool}:A4B false p b=A4B false p true:=by cases p<;>rfl
theorem D0H {ok b:Bool} {p:Part} {V:Value} (h:RP μ p V):RV μ (A4B ok p b) (if ok then .tuple #[V,.bool b] else V):=by
 cases ok with
 | true=>exact ⟨[V,.bool b],rfl,h,rfl,trivial⟩
 | false =>
  rw [D3R];exact RP.val h
theorem D0s {v:Val} {c:Cell} {V:Value} (h:C5H v=some c) (hv:RV μ v V):RC μ c V:=by
 cases v<;>simp [C5H] at h
 subst h;exact hv
theorem D2A {v:Val} {p:Part} {V:Value} (h:C6e v=some p) (hv:RV μ v V):RP μ p V:=by
 cases v<;>simp [C6e] at h
 ·subst h;exact hv
 ·subst h;exact hv
theorem D9i {hp:A6} {m:Val} {M:Value} {es:V6} (hrow:∀ id r,rd hp id=some r->RowOk μ w id r) (hm:RV μ m M) (h:D5T hp m=some es) :
  (M=.map none/\es=[])\/∃ b E,M=.map (some b)/\w.heap[b]?=some (.map E E.size)/\All2 (RE μ) es E.toList/\∀ (i:Nat) (e:MapEntry),E[i]?=some e->e.born=i:=by
 unfold D5T at h;split at h
 ·cases h;exact .inl ⟨hm,rfl⟩
 ·rename_i id;obtain ⟨b,n,h1,rfl⟩:=hm;simp only [E3O] at h;obtain ⟨r,hr,h⟩:=h;have:=B0T h;subst this;obtain ⟨E,h2,h3,h4⟩:=(hrow id _ hr).map h1;exact .inr ⟨b,E,rfl,h2,h3,h4⟩
 ·cases h
theorem D8l {t kt et:TypeId} {kk:Option IntKind} {z:Value} {zero:Part} {ok:Bool} {hp:A6} {m x v:Val} {M X:Value} (ht:D0v P t=some (kt,et)) (hkk:A7c P kt kk=true) (hz:wC P et=some z) (hc:A5V z zero=true)
  (hrow:∀ id r,rd hp id=some r->RowOk μ w id r) (hm:RV μ m M) (hx:RV μ x X) (h:A6O hp kk zero ok m x=some v) :
  ∃ V,(Instr.lookup t M X ok).run P w=.ok V w/\RV μ v V:=by
 simp only [A6O,E3O] at h;obtain ⟨k,hk,es,hes,h⟩:=h;split at h
 ·cases h;rename_i A14;simp only [A3u,E3R] at A14;have hK:=D0s hk hx;cases hd:P.underlying kt with
  | none=>unfold A7c at hkk;rw [hd] at hkk;cases hkk
  | some d =>
   have hkd:∀ c V,rS kk c=true->RC μ c V->MapKept.IsKey d V:=λc V=>C5F hd hkk
   have hX:=hkd k X A14.1 hK;rcases D9i hrow hm hes with ⟨rfl,rfl⟩ | ⟨b,E,rfl,h1,h2,_⟩
   ·refine ⟨_,?_,D0H (B32 hc)⟩;simp [Instr.lookup,E4 (A0V ht),MapKept.run_checkKey hd hX,MapKept.run_findKey (l:=[]) hd (show Instr.findNow d X [] 0=some none from rfl),vX hz]
   ·have hg:=D0x hkd A14.1 hK es E.toList 0 h2 A14.2;unfold B0a;cases hmg:mgo k es 0 with
    | none =>
     rw [hmg] at hg;refine ⟨_,?_,D0H (B32 hc)⟩;simp [Instr.lookup,E4 (A0V ht),MapKept.run_getObj_map h1,MapKept.run_checkKey hd hX,MapKept.run_findKey hd hg,vX hz]
    | some jp =>
     obtain ⟨j,p⟩:=jp;rw [hmg] at hg;obtain ⟨V,g1,g2,_⟩:=hg;refine ⟨_,?_,D0H g2⟩;simp [Instr.lookup,E4 (A0V ht),MapKept.run_getObj_map h1,MapKept.run_checkKey hd hX,MapKept.run_findKey hd g1]
 ·cases h
theorem A99 {Γ:Ctx} {h:A6} {id b n:Nat} {es es':V6} {E E':Array MapEntry} (hi:Inv Γ μ h w) (hr:rd h id=some (S3 es)) (hm:μ id=some (b,n)) (hb:w.heap[b]?=some (.map E E.size))
  (h1:All2 (RE μ) es' E'.toList) (h2:∀ (i:Nat) (e:MapEntry),E'[i]?=some e->e.born=i):Inv Γ μ (h.set id (some (S3 es'))) { w with heap:=w.heap.setIfInBounds b (.map E' E'.size) }:=by
 obtain ⟨g1,g2⟩:=MapKept.heap_set (o':=.map E' E'.size) hb;refine hi.turn hr (Row.own_mrow _) (Row.own_mrow _) hm rfl rfl rfl g2 ?_;unfold RowOk;rw [hm];exact .inr (.inl ⟨es',E',rfl,g1,h1,h2⟩)
theorem All2.modify {es:V6} {E:List MapEntry} {i:Nat} {e:Cell × Part} {f:MapEntry->MapEntry} (h:All2 (RE μ) es E) (hf:∀ x,E[i]?=some x->RE μ e (f x)):All2 (RE μ) (es.set i e) (E.modify i f):=by
 refine All2.of_get (by simp [h.length]) λj a b ha hb=>?_
 rw [List.getElem?_modify] at hb;by_cases hj:i=j
 ·subst hj;obtain ⟨x,hx,rfl⟩:∃ x,E[i]?=some x/\f x=b:=by
   cases hE:E[i]? with
   | none=>rw [hE] at hb;simp at hb
   | some y=>rw [hE] at hb;simp at hb;exact ⟨y,rfl,hb⟩
  have V7:i<es.length:=by
   have:=(List.getElem?_eq_some_iff.1 hx).1;rw [h.length];exact this
  rw [List.getElem?_set_self V7] at ha;cases ha;exact hf x hx
 ·rw [List.getElem?_set_ne hj] at ha;have hb':E[j]?=some b:=by
   cases hE:E[j]? with
   | none=>rw [hE] at hb;simp at hb
   | some y=>rw [hE] at hb;simp [hj] at hb;rw [hb]
  obtain ⟨y,hy,hR⟩:=h.get j a ha;rw [hb'] at hy;cases hy;exact hR
theorem D2N {Γ:Ctx} {t kt et:TypeId} {kk:Option IntKind} {h h':A6} {m k x:Val} {M K X:Value} (ht:D0v P t=some (kt,et)) (hkk:A7c P kt kk=true)
  (hi:Inv Γ μ h w) (hm:RV μ m M) (hk:RV μ k K) (hx:RV μ x X) (hh:A1R h kk m k x=some h') :
  ∃ w',(Instr.mapUpdate t M K X).run P w=.ok () w'/\Inv Γ μ h' w':=by
 unfold A1R at hh;split at hh
 ·rename_i id;obtain ⟨b,n,hmu,rfl⟩:=hm;simp only [E3O] at hh;obtain ⟨kc,hkc,p,hp,r,hr,es,hes,hh⟩:=hh;split at hh
  ·cases hh;rename_i A14;simp only [A3u,E3R] at A14;have:=B0T hes;subst this;have hK:=D0s hkc hk;have hX:=D2A hp hx;obtain ⟨E,h1,h2,h3⟩:=(hi.rows id _ hr).map hmu;cases hd:P.underlying kt with
   | none=>unfold A7c at hkk;rw [hd] at hkk;cases hkk
   | some d =>
    have hkd:∀ c V,rS kk c=true->RC μ c V->MapKept.IsKey d V:=λc V=>C5F hd hkk
    have D3r:=hkd kc K A14.1 hK;have hg:=D0x hkd A14.1 hK es E.toList 0 h2 A14.2;unfold A7y B0a;cases hmg:mgo kc es 0 with
    | none =>
     rw [hmg] at hg;refine ⟨_,?_,A99 (E':=E.push { key:=K,val:=X,born:=E.size }) hi hr hmu h1 (by rw [Array.toList_push];exact h2.append ⟨⟨hK,hX⟩,trivial⟩) ?_⟩
     ·simp [Instr.mapUpdate,E4 (A0V ht),MapKept.run_getObj_map h1,MapKept.run_checkKey hd D3r,MapKept.run_findKey hd hg,MapKept.run_setObj_map _ h1]
     ·intro i e he;rw [Array.getElem?_push] at he;split at he
      ·cases he;rename_i hh;exact hh.symm
      ·exact h3 i e he
    | some jp =>
     obtain ⟨j,q⟩:=jp;rw [hmg] at hg;obtain ⟨V,g1,g2,_,e0,E0,g4,g5,g6,g7,g8⟩:=hg;simp only [Nat.sub_zero] at g4 g6;have g6':E[j]?=some E0:=by simpa using g6
     refine ⟨_,?_,A99 (E':=E.modify j λe=>{ e with key:=K,val:=X }) hi hr hmu h1 ?_ ?_⟩
     ·simp [Instr.mapUpdate,E4 (A0V ht),MapKept.run_getObj_map h1,MapKept.run_checkKey hd D3r,MapKept.run_findKey hd g1,g6',g8,MapKept.run_keyThatStays D3r,MapKept.run_setObj_map _ h1]
     ·rw [Array.toList_modify];exact All2.modify h2 λx hx=>⟨hK,hX⟩
     ·intro i e he;rw [Array.getElem?_modify] at he;split at he
      ·rw [E34] at he;obtain ⟨e',he',rfl⟩:=he;exact h3 i e' he'
      ·exact h3 i e he
  ·cases hh
 ·cases hh
theorem D8m {Γ:Ctx} {t kt et:TypeId} {kk:Option IntKind} {z:Value} {zero:Part} {h h':A6} {m k v:Val} {M K:Value} (ht:D0v P t=some (kt,et)) (hkk:A7c P kt kk=true) (hz:wC P et=some z) (hc:A5V z zero=true)
  (hi:Inv Γ μ h w) (hm:RV μ m M) (hk:RV μ k K) (hh:D1m h kk zero m k=some (v,h')) :
  ∃ V w',(Instr.mapEntry t M K).run P w=.ok V w'/\RV μ v V/\Inv Γ μ h' w':=by
 unfold D1m at hh;split at hh
 ·rename_i id;obtain ⟨b,n,hmu,rfl⟩:=hm;simp only [E3O] at hh;obtain ⟨kc,hkc,r,hr,es,hes,hh⟩:=hh;split at hh
  ·rename_i A14;simp only [A3u,E3R] at A14;have:=B0T hes;subst this;have hK:=D0s hkc hk;have hZ:RP μ zero z:=B32 hc;obtain ⟨E,h1,h2,h3⟩:=(hi.rows id _ hr).map hmu;cases hd:P.underlying kt with
   | none=>unfold A7c at hkk;rw [hd] at hkk;cases hkk
   | some d =>
    have hkd:∀ c V,rS kk c=true->RC μ c V->MapKept.IsKey d V:=λc V=>C5F hd hkk
    have D3r:=hkd kc K A14.1 hK;have hg:=D0x hkd A14.1 hK es E.toList 0 h2 A14.2;unfold B0a at hh;cases hmg:mgo kc es 0 with
    | none =>
     rw [hmg] at hg hh;cases hh;have hlen:es.length=E.size:=by have:=h2.length;simpa using this
     refine ⟨.tuple #[z,goInt E.size],_,?_,⟨[z,goInt E.size],rfl,hZ,by rw [hlen];rfl,trivial⟩,A99 (E':=E.push { key:=K,val:=z,born:=E.size }) hi hr hmu h1 (by rw [Array.toList_push];exact h2.append ⟨⟨hK,hZ⟩,trivial⟩) ?_⟩
     ·simp [Instr.mapEntry,E4 (A0V ht),MapKept.run_getObj_map h1,MapKept.run_checkKey hd D3r,MapKept.run_findKey hd hg,vX hz,MapKept.run_setObj_map _ h1]
     ·intro i e he;rw [Array.getElem?_push] at he;split at he
      ·cases he;rename_i hh;exact hh.symm
      ·exact h3 i e he
    | some jp =>
     obtain ⟨j,q⟩:=jp;rw [hmg] at hg hh;cases hh;obtain ⟨V,g1,g2,_,e0,E0,g4,g5,g6,g7,g8⟩:=hg;simp only [Nat.sub_zero] at g4 g6;have g6':E[j]?=some E0:=by simpa using g6
     have E1O:=h3 j E0 g6';have E3d:es.set j (kc,q)=es:=by
      apply E4I;intro i;by_cases hij:j=i
      ·subst hij;rw [List.getElem?_set_self (List.getElem?_eq_some_iff.1 g4).1,g4,g5]
      ·rw [List.getElem?_set_ne hij]
     have hI:=A99 (es':=es.set j (kc,q)) (E':=E.modify j λe=>{ e with key:=K }) hi hr hmu h1 (by
      rw [Array.toList_modify];refine All2.modify h2 λx hx=>⟨hK,?_⟩
      rw [g6] at hx;cases hx;show RP μ q E0.val;rw [g7];exact g2) (by
      intro i e he;rw [Array.getElem?_modify] at he;split at he
      ·rw [E34] at he;obtain ⟨e',he',rfl⟩:=he;exact h3 i e' he'
      ·exact h3 i e he)
     rw [E3d] at hI;have hsame:h.set id (some (S3 es))=h:=by
      apply E4I;intro i;by_cases hij:id=i
      ·subst hij;rw [List.getElem?_set_self (C4 hr)];rw [rd_some] at hr;rw [hr]
      ·rw [List.getElem?_set_ne hij]
     rw [hsame] at hI;refine ⟨.tuple #[V,goInt j],_,?_,⟨[V,goInt j],rfl,g2,rfl,trivial⟩,hI⟩;simp [Instr.mapEntry,E4 (A0V ht),MapKept.run_getObj_map h1,MapKept.run_checkKey hd D3r,MapKept.run_findKey hd g1,g6',g8,E1O,MapKept.run_keyThatStays D3r,MapKept.run_setObj_map _ h1]
  ·cases hh
 ·cases hh
theorem D8o {Γ:Ctx} {t:TypeId} {h h':A6} {m s x:Val} {M S X:Value}
  (hi:Inv Γ μ h w) (hm:RV μ m M) (hs:RV μ s S) (hx:RV μ x X) (hh:D1n h m s x=some h') :
  ∃ w',(Instr.entryStore t M S X).run P w=.ok () w'/\Inv Γ μ h' w':=by
 unfold D1n at hh;split at hh
 ·rename_i id n;obtain ⟨b,nn,hmu,rfl⟩:=hm;cases hs;simp only [E3O] at hh;obtain ⟨p,hp,r,hr,es,hes,hh⟩:=hh;split at hh
  ·rename_i hn;simp only [E3O,Option.some.injEq] at hh;obtain ⟨e,he,rfl⟩:=hh;have:=B0T hes;subst this;have hX:=D2A hp hx;obtain ⟨E,h1,h2,h3⟩:=(hi.rows id _ hr).map hmu;obtain ⟨E0,hE0,hR⟩:=h2.get _ _ he;have E2K:E[n.toNat]?=some E0:=by simpa using hE0
   have E1T:E.findIdx? (λe=>(e.born:Int)==n)=some n.toNat:=by
    rw [Array.findIdx?_eq_some_iff_getElem];have V7:=(Array.getElem?_eq_some_iff.1 E2K).1;refine ⟨V7,?_,λj hj=>?_⟩
    ·have:=h3 n.toNat E[n.toNat] (by simp [V7]);simp [this];omega
    ·have:=h3 j E[j] (by simp);simp [this];omega
   refine ⟨_,?_,A99 (E':=E.modify n.toNat λe=>{ e with val:=X }) hi hr hmu h1 ?_ ?_⟩
   ·simp [Instr.entryStore,MapKept.run_getObj_map h1,asInt,asIntOf,E1T,MapKept.run_setObj_map _ h1]
   ·rw [Array.toList_modify];refine All2.modify h2 λx hx=>⟨?_,hX⟩
    rw [hE0] at hx;cases hx;exact hR.1
   ·intro i e' he';rw [Array.getElem?_modify] at he';split at he'
    ·rw [E34] at he';obtain ⟨e'',E2T,rfl⟩:=he';exact h3 i e'' E2T
    ·exact h3 i e' he'
  ·cases hh
 ·cases hh
theorem D6g {Γ:Ctx} {t:TypeId} {h:A6} {n0:Nat} {slot:Option Nat} (hi:Inv Γ μ h w) (hs:sR μ h n0 slot) :
  ∃ V w' μ',(Instr.makeMap t none).run P w=.ok V w' /\ μ.le μ'/\RV μ' (.c (.m (cQ h n0 slot (S3 [])).1)) V/\Inv Γ μ' (cQ h n0 slot (S3 [])).2 w'/\Keeps μ μ' h n0 slot:=by
 obtain ⟨h1,h2,h3,h4,h5,h6⟩:=oD (r:=S3 []) hs hi.dom;refine ⟨.map (some w.heap.size),w.alloc (.map #[] 0),_,rfl,Mu.le_add h1,⟨_,0,T8 _ _ _,rfl⟩,?_,Keeps.new⟩;refine hi.fresh h1 rfl rfl rfl (λb hb=>?_) h2 h3 h4 h5 ?_
 ·show (w.heap.push _)[b]?=_;rw [Array.getElem?_push,if_neg (by omega)]
 ·unfold RowOk;simp only [Mu.add,if_true];refine .inr (.inl ⟨[],#[],rfl,by show (w.heap.push _)[w.heap.size]?=_;simp,trivial,λi e he=>by simp at he⟩)
end
end
section
def A59:Value->Bool
 | .slice none 0 0=>true
 | _=>false
def vH (place:Nat->Option (Nat × Nat)):List (Nat × Operand)->List (Nat × Nat × Opd)->Bool
 | [],[]=>true
 | q::qs,p::ps=>decide (place q.1=some (p.1,p.2.1))&&D8 q.2 p.2.2&&vH place qs ps
 | _,_=>false
def places (P:Program) (fs:Array Field):List (Option (Nat × Nat)):=fs.toList.map λf=>(P9 P f.type).map λn=>(f.offset,n)
def B0I {α:Type}:List (Option α)->Option (List α)
 | []=>some []
 | some a::r=>(B0I r).map λl=>a::l
 | none::_=>none
def A35 (P:Program) (s:TypeId) (j:Nat):Option Field:=(A2h P s).bind λfs=>fs[j]?
def A9q (P:Program) (e:TypeId):Bool :=
 match P.info? e with
 | some i=>decide (i.bytes<=65536)&&decide (i.bytes≠0)&&decide (i.size≠0)&&(match i.zero with | some z=>decide (z.cells.size=i.size) | none=>false)
 | none=>false
def E0t (P:Program) (t:TypeId):Bool :=
 match P.underlying t with
 | some .string=>true
 | some (.slice _)=>true
 | _=>false
def D8U (P:Program) (o:Op):AOp->Bool
 | .mv y=>(match o with | .move x=>D8 x y | .assign x=>D8 x y | _=>false)
 | .nilrow _=>(match o with | .move (.const v)=>A59 v | .assign (.const v)=>A59 v | _=>false)
 | .pick c a b=>(match o with | .pick c' a' b'=>D8 c' c&&D8 a' a&&D8 b' b | _=>false)
 | .alloc z=>(match o with | .alloc t=>(match wC P t with | some v=>iS v z | none=>false) | _=>false)
 | .box y=>(match o with | .box _ x=>D8 x y | _=>false)
 | .build z ps=>(match o with
   | .build t qs=>(match wC P t with | some v=>iS v z | none=>false) &&
     (match A2h P t with
      | some fs=>(match B0I (places P fs) with | some pl=>vH (pl[·]?) qs.toList ps | none=>false)
      | none=>(match nJ P t with | some (_,e)=>(match P9 P e with | some sz=>vH (λi=>some (i*sz,sz)) qs.toList ps | none=>false) | none=>false))
   | _=>false)
 | .buildSl sz len z ps=>(match o with
   | .buildSlice t len' qs=>decide (len=len')&&(match sliceB P t with
     | some e=>decide (P9 P e=some sz)&&decide (len*sz<=2 ^ 24)&&(match wC P e with
       | some v=>iS (.agg ((Array.range (len*sz)).map (v.cells[· % v.cells.size]!))) z
       | none=>false)&&vH (λi=>some (i*sz,sz)) qs.toList ps
     | none=>false)
   | _=>false)
 | .load1 y=>(match o with | .load t x=>decide (jK P t=some false)&&D8 x y | _=>false)
 | .loadN n y=>(match o with | .load t x=>decide (jK P t=some true)&&decide (P9 P t=some n)&&D8 x y | _=>false)
 | .store1 y z=>(match o with | .store t x v=>decide (P9 P t=some 1)&&D8 x y&&D8 v z | _=>false)
 | .storeN n y z=>(match o with | .store t x v=>decide (P9 P t=some n)&&D8 x y&&D8 v z | _=>false)
 | .bin op y z=>(match o with | .binOp op' _ x v _=>decide (op=op')&&D8 x y&&D8 v z | _=>false)
 | .eqA neg sh y z=>(match o with | .binOp op' t x v _=>decide ((bif neg then BinOp.neq else .eql)=op')&&decide (jK P t=some true)&&decide (A96 P 100 t=some sh) && !P.eqGuardType P.depth t&&D8 x y&&D8 v z | _=>false)
 | .eqB neg y z=>(match o with | .binOp op' t x v _=>decide ((bif neg then BinOp.neq else .eql)=op')&&(match P.underlying t with | some .bool=>true | _=>false)&&D8 x y&&D8 v z | _=>false)
 | .eqN fn neg y=>(match o with | .binOp op' t x (.const c) _=>decide ((bif neg then BinOp.neq else .eql)=op')&&D0r P fn t c&&D8 x y | _=>false)
 | .nilc y=>(match o with | .nilCheck x=>D8 x y | _=>false)
 | .un op y=>(match o with | .unOp op' _ x=>decide (op=op')&&D8 x y | _=>false)
 | .conv k y=>(match o with | .convert s d x=>(B4f P s).isSome&&decide (B4f P d=some k)&&D8 x y | _=>false)
 | .convS y=>(match o with | .convert s d x=>bD P s&&bD P d&&D8 x y | _=>false)
 | .s2b y=>(match o with | .convert s d x=>bD P s&&(match sliceB P d with | some e=>decide (B4f P e=some .u8) | none=>false)&&D8 x y | _=>false)
 | .b2s y=>(match o with | .convert s d x=>bD P d&&(match sliceB P s with | some e=>decide (B4f P e=some .u8) | none=>false)&&D8 x y | _=>false)
 | .b2sN _ y=>(match o with | .convert s d x=>bD P d&&(match sliceB P s with | some e=>decide (B4f P e=some .u8) | none=>false)&&D8 x y | _=>false)
 | .mark y=>(match o with | .convert s d x=>decide (s=d)&&(match sliceB P s with | some e=>decide (B4f P e=some .u8) | none=>false)&&D8 x y | _=>false)
 | .mkf f caps=>(match o with | .makeFunc (.func g) first cs=>decide (f=g)&&first.isEmpty&&A1V cs.toList caps | _=>false)
 | .mkSl sz z y y2=>(match o with
   | .makeSlice t x x2=>D8 x y&&D8 x2 y2&&(match sliceB P t with
     | some e=>A9q P e&&decide (P9 P e=some sz)&&decide (z.length=sz)&&(match wC P e with | some v=>iS v z | none=>false)
     | none=>false)
   | _=>false)
 | .slS y lo hi=>(match o with | .slice t x l h none=>bD P t&&D8 x y&&A9p l lo&&A9p h hi | _=>false)
 | .slL sz y lo hi=>(match o with | .slice t x l h none=>(match sliceB P t with | some e=>decide (P9 P e=some sz) | none=>false)&&D8 x y&&A9p l lo&&A9p h hi | _=>false)
 | .slA n sz y lo hi=>(match o with | .slice t x l h none=>(match nJ P t with | some (m,e)=>decide (m=n)&&decide (P9 P e=some sz) | none=>false)&&D8 x y&&A9p l lo&&A9p h hi | _=>false)
 | .fAddr y off=>(match o with | .fieldAddr s x j=>(match A35 P s j with | some f=>decide (f.offset=off)&&(match P9 P f.type with | some n=>decide (n≠0) | none=>false) | none=>false)&&D8 x y | _=>false)
 | .iAddrA n sz y z=>(match o with | .indexAddr t x i=>(match nJ P t with | some (m,e)=>decide (m=n)&&decide (P9 P e=some sz) | none=>false)&&D8 x y&&D8 i z | _=>false)
 | .iAddrL sz y z=>(match o with | .indexAddr t x i=>(match sliceB P t with | some e=>decide (P9 P e=some sz) | none=>false)&&D8 x y&&D8 i z | _=>false)
 | .fld1 y off=>(match o with | .field s x j=>(match A35 P s j with | some f=>decide (f.offset=off)&&decide (jK P f.type=some false) | none=>false)&&D8 x y | _=>false)
 | .fldN y off n=>(match o with | .field s x j=>(match A35 P s j with | some f=>decide (f.offset=off)&&decide (jK P f.type=some true)&&decide (P9 P f.type=some n) | none=>false)&&D8 x y | _=>false)
 | .idxA1 n y z=>(match o with | .index t x i=>(match nJ P t with | some (m,e)=>decide (m=n)&&decide (jK P e=some false)&&decide (P9 P e=some 1) | none=>false)&&D8 x y&&D8 i z | _=>false)
 | .idxAN n sz y z=>(match o with | .index t x i=>(match nJ P t with | some (m,e)=>decide (m=n)&&decide (jK P e=some true)&&decide (P9 P e=some sz) | none=>false)&&D8 x y&&D8 i z | _=>false)
 | .idxS y z=>(match o with | .index t x i=>bD P t&&D8 x y&&D8 i z | _=>false)
 | .ext y k=>(match o with | .extract x k'=>decide (k=k')&&D8 x y | _=>false)
 | .call _ _=>false
 | .callV _ _=>false
 | .len y=>(match o with | .call c=>(match c.callee,c.args.toList,c.argTypes.toList with | .builtin .len,[x],[t]=>(sliceB P t).isSome&&D8 x y | _,_,_=>false) | _=>false)
 | .lenS y=>(match o with | .call c=>(match c.callee,c.args.toList,c.argTypes.toList with | .builtin .len,[x],[t]=>bD P t&&D8 x y | _,_,_=>false) | _=>false)
 | .app sz y z=>(match o with
   | .call c=>(match c.callee,c.args.toList,c.argTypes.toList with
     | .builtin .append,[x,v],[s,yt]=>(match sliceB P s with | some e=>A9q P e&&decide (P9 P e=some sz) | none=>false)&&E0t P yt&&D8 x y&&D8 v z
     | _,_,_=>false)
   | _=>false)
 | .appZ sz zero y z=>(match o with
   | .call c=>(match c.callee,c.args.toList,c.argTypes.toList with
     | .builtin .append,[x,v],[s,yt]=>(match sliceB P s with | some e=>A9q P e&&decide (P9 P e=some sz)&&(match wC P e with | some v=>iS v zero | none=>false) | none=>false)&&(B4f P yt).isSome&&D8 x y&&D8 v z
     | _,_,_=>false)
   | _=>false)
 | .max y z=>(match o with | .call c=>(match c.callee,c.args.toList with | .builtin .max,[x,v]=>D8 x y&&D8 v z | _,_=>false) | _=>false)
 | .min y z=>(match o with | .call c=>(match c.callee,c.args.toList with | .builtin .min,[x,v]=>D8 x y&&D8 v z | _,_=>false) | _=>false)
 | .copy sz y z=>(match o with
   | .call c=>(match c.callee,c.args.toList,c.argTypes.toList with
     | .builtin .copy,[x,v],[s,yt]=>(match sliceB P s with | some e=>decide (P9 P e=some sz)&&decide (sz≠0) | none=>false)&&D8 x y&&D8 v z
     | _,_,_=>false)
   | _=>false)
 | .mkMap=>(match o with | .makeMap _ none=>true | _=>false)
 | .look kk zero ok y z=>(match o with
   | .lookup t m k ok'=>(match D0v P t with
     | some (kt,et)=>A7c P kt kk&&(match wC P et with | some v=>A5V v zero | none=>false)
     | none=>false)&&decide (ok=ok')&&D8 m y&&D8 k z
   | _=>false)
 | .mput kk y z z2=>(match o with
   | .mapUpdate t m k x=>(match D0v P t with
     | some (kt,et)=>A7c P kt kk
     | none=>false)&&D8 m y&&D8 k z&&D8 x z2
   | .insert t m k x=>(match D0v P t with
     | some (kt,et)=>A7c P kt kk
     | none=>false)&&D8 m y&&D8 k z&&D8 x z2
   | _=>false)
 | .ment kk zero y z=>(match o with
   | .mapEntry t m k=>(match D0v P t with
     | some (kt,et)=>A7c P kt kk&&(match wC P et with | some v=>A5V v zero | none=>false)
     | none=>false)&&D8 m y&&D8 k z
   | _=>false)
 | .mset y z z2=>(match o with
   | .entryStore _ m s x=>D8 m y&&D8 s z&&D8 x z2
   | _=>false)
def Res (P:Program) (o:Oper) (a:Act) (w:World) (V:Value) (w':World):Prop :=
 (execOp a.eval o).run P w=.ok (.value V) w'\/((execOp a.eval o).run P w=.ok .skip w'/\V=undef)
section
variable {P:Program} {μ:Mu} {w:World}
theorem zK {e:Env} {a:Act} {x:Option Operand} {y:Option Opd} (h:A9p x y=true) (hs:SEnv μ e a):C9z μ (y.map e.ev) (x.map a.eval):=by
 cases x<;>cases y<;>simp [A9p] at h
 ·trivial
 ·exact C7 h hs
theorem A1W {e:Env} {a:Act} (hs:SEnv μ e a) {place:Nat->Option (Nat × Nat)}:∀ {qs:List (Nat × Operand)} {ps:List (Nat × Nat × Opd)},vH place qs ps=true ->
  C2W μ place (ps.map λp=>(p.1,p.2.1,e.ev p.2.2)) (qs.map λ(i,x)=>(i,a.eval x))
 | [],[],_=>trivial
 | q::qs,p::ps,h=>by
  simp [vH] at h;exact ⟨⟨h.1.1,C7 h.1.2 hs⟩,A1W hs h.2⟩
 | [],_::_,h=>by simp [vH] at h
 | _::_,[],h=>by simp [vH] at h
theorem C4B {α:Type}:∀ {l:List (Option α)} {m:List α},B0I l=some m->l=m.map some
 | [],m,h=>by simp [B0I] at h;subst h;rfl
 | some a::r,m,h=>by
  simp only [B0I,E34] at h;obtain ⟨l,hl,rfl⟩:=h;simp [C4B hl]
 | none::_,m,h=>by simp [B0I] at h
theorem A9r {e:TypeId} (h:A9q P e=true):∃ i z,P.info? e=some i/\i.bytes<=65536/\i.bytes≠0/\i.size≠0/\i.zero=some z/\z.cells.size=i.size:=by
 unfold A9q at h;split at h
 ·rename_i i hi;simp only [E3R,decide_eq_true_eq] at h;obtain ⟨⟨⟨h1,h2⟩,h3⟩,h4⟩:=h;split at h4
  ·rename_i z hz;exact ⟨i,z,hi,h1,h2,h3,hz,by simpa using h4⟩
  ·cases h4
 ·cases h
theorem D8V {t:TypeId} (h:E0t P t=true):P.underlying t=some .string\/∃ e',P.underlying t=some (.slice e'):=by
 unfold E0t at h;split at h
 ·exact .inl ‹_›
 ·exact .inr ⟨_,‹_›⟩
 ·cases h
theorem C8H:∀ {l:List Val} {cs:List (Nat × Nat)} {Vs:List Value},C4N l=some cs->All2 (RV μ) l Vs->All2 (RPtr μ) cs Vs
 | [],cs,[],h,_=>by simp [C4N] at h;subst h;trivial
 | v::r,cs,V::Vs,h,⟨h1,h2⟩=>by
  unfold C4N at h;split at h
  ·rename_i uO;cases uO
  ·rename_i id off r' uO;cases uO;simp only [E34] at h;obtain ⟨l,hl,rfl⟩:=h;exact ⟨h1,C8H hl h2⟩
  ·cases h
 | [],_,_::_,_,h=>h.elim
 | _::_,_,[],_,h=>h.elim
end
end
section
section
variable {P:Program} {μ:Mu} {w:World}
def D8C (P:Program) (Γ:Ctx) (μ:Mu) (o:Oper) (a:Act) (w:World) (h:A6) (n0:Nat) (slot:Option Nat) (v:Val) (h':A6):Prop :=
 ∃ V w' μ',Res P o a w V w' /\ μ.le μ'/\RV μ' v V/\Inv Γ μ' h' w'/\Keeps μ μ' h n0 slot
theorem K0 {Γ:Ctx} {o:Oper} {a:Act} {v:Val} {h:A6} {n0:Nat} {slot:Option Nat} {s:Sem Value} (hi:Inv Γ μ h w) (he:execOp a.eval o=(do pure (Next.value (<-s)))) (hr:∃ V,s.run P w=.ok V w/\RV μ v V):D8C P Γ μ o a w h n0 slot v h:=by
 obtain ⟨V,h1,h2⟩:=hr;exact ⟨V,w,μ,.inl (by rw [he];simp [h1]),Mu.le_refl _,h2,hi,Keeps.refl _ _ _ _⟩
theorem kE {Γ:Ctx} {o:Oper} {a:Act} {v:Val} {h h':A6} {n0:Nat} {slot:Option Nat} {s:Sem Value} (he:execOp a.eval o=(do pure (Next.value (<-s)))) (hr:∃ V w' μ',s.run P w=.ok V w' /\ μ.le μ'/\RV μ' v V/\Inv Γ μ' h' w'/\Keeps μ μ' h n0 slot):D8C P Γ μ o a w h n0 slot v h':=by
 obtain ⟨V,w',μ',h1,h2,h3,h4⟩:=hr;exact ⟨V,w',μ',.inl (by rw [he];simp [h1]),h2,h3,h4⟩
theorem A4z {Γ:Ctx} {o:Oper} {a:Act} {h h':A6} {n0:Nat} {slot:Option Nat} {s:Sem Unit} (he:execOp a.eval o=(do s;pure Next.skip)) (hr:∃ w',s.run P w=.ok () w'/\Inv Γ μ h' w'):D8C P Γ μ o a w h n0 slot .un h':=by
 obtain ⟨w',h1,h2⟩:=hr;exact ⟨undef,w',μ,.inr ⟨by rw [he];simp [h1],rfl⟩,Mu.le_refl _,trivial,h2,Keeps.refl _ _ _ _⟩
theorem C5r {op:BinOp} {t:TypeId} {x y:Operand} {X Y:Value} (hX:∀ c,X≠.agg c) (hX2:X≠.nilIface):(eqGuard op t x y X Y).run P w=.ok () w:=by
 unfold eqGuard;cases X<;>cases Y<;>simp_all<;>split<;>rfl
theorem D24 {op:BinOp} {x y v:Val} {X:Value} (h:N9 op x y=some v) (hx:RV μ x X):(∀ c,X≠.agg c)/\X≠.nilIface:=by
 unfold N9 at h;split at h
 ·cases hx;simp
 ·cases hx;simp
 ·cases h
theorem E1o {Γ:Ctx} {E:N1} {q:Bool} {hr:A6} {n0:Nat} {slot:Option Nat} {o:Oper} {ao:AOp} {e:Env} {h:A6} {a:Act} {v:Val} {h':A6}
  (hc:D8U P o.op ao=true) (hs:SEnv μ e a) (hi:Inv Γ μ h w) (hrd:∀ id r,rd hr id=some r->rd h id=some r) (lO:sR μ h n0 slot)
  (C9:aop E q hr n0 slot ao e h (λv h=>some (v,h))=some (v,h')):D8C P Γ μ o a w h n0 slot v h':=by
 have hrow:∀ id r,rd hr id=some r->RowOk μ w id r:=λid r h1=>hi.rows id r (hrd id r h1)
 obtain ⟨dst,op,type,pos,after,guard⟩:=o;simp only at hc;cases ao<;>simp only [D8U] at hc<;>simp only [aop] at C9
 case mv y =>
  cases C9;split at hc
  ·exact ⟨_,w,μ,.inl rfl,Mu.le_refl _,C7 hc hs,hi,Keeps.refl _ _ _ _⟩
  ·exact ⟨_,w,μ,.inl rfl,Mu.le_refl _,C7 hc hs,hi,Keeps.refl _ _ _ _⟩
  ·cases hc
 case nilrow sz =>
  cases C9;have key:∀ x:Value,A59 x=true->x=.slice none 0 0:=by
   intro x hx;unfold A59 at hx;split at hx<;>first | rfl | cases hx
  split at hc
  ·exact ⟨_,w,μ,.inl rfl,Mu.le_refl _,.inr ⟨rfl,none,key _ hc⟩,A4a hi lO,Keeps.refl _ _ _ _⟩
  ·exact ⟨_,w,μ,.inl rfl,Mu.le_refl _,.inr ⟨rfl,none,key _ hc⟩,A4a hi lO,Keeps.refl _ _ _ _⟩
  ·cases hc
 case pick c x y =>
  simp only [E3O,Option.some.injEq,Prod.mk.injEq] at C9;obtain ⟨_,hp,rfl,rfl⟩:=C9;split at hc
  ·simp only [E3R] at hc;rename_i c' x' y';have h1:RV μ _ _:=C7 hc.1.1 hs;have h2:=C7 hc.1.2 hs;have h3:=C7 hc.2 hs;unfold D1r at hp;split at hp
   ·rename_i b uO;cases hp;rw [uO] at h1;have h1:a.eval c'=.bool b:=h1;cases b
    ·exact ⟨_,w,μ,.inl (by simp [execOp,h1,asBool]),Mu.le_refl _,h3,hi,Keeps.refl _ _ _ _⟩
    ·exact ⟨_,w,μ,.inl (by simp [execOp,h1,asBool]),Mu.le_refl _,h2,hi,Keeps.refl _ _ _ _⟩
   ·cases hp
  ·cases hc
 case alloc z =>
  cases C9;split at hc
  ·split at hc
   ·exact kE rfl (D6a hi lO ‹_› hc)
   ·cases hc
  ·cases hc
 case box y =>
  simp only [E3O,Option.some.injEq,Prod.mk.injEq] at C9;obtain ⟨cs,hp,rfl,rfl⟩:=C9;split at hc
  ·exact kE rfl (D9x hi lO (C7 hc hs) hp)
  ·cases hc
 case build z ps =>
  simp only [E3O,Option.some.injEq,Prod.mk.injEq] at C9;obtain ⟨cs,hp,rfl,rfl⟩:=C9;split at hc
  ·rename_i t qs;simp only [E3R] at hc;obtain ⟨hz,hc⟩:=hc;split at hz
   ·rename_i zv hzv;have uO:∀ qs:Array (Nat × Operand),(qs.map λ(i,x)=>(i,a.eval x))=(qs.toList.map λ(i,x)=>(i,a.eval x)).toArray:=by intro qs;apply Array.ext';simp
    split at hc
    ·rename_i fs hfs;split at hc
     ·rename_i pl hpl;refine K0 hi rfl ?_;rw [uO];exact D30 hfs hzv hz (C4B hpl) (A1W hs hc) hp
     ·cases hc
    ·split at hc
     ·rename_i n e U1;split at hc
      ·rename_i sz hsz;refine K0 hi rfl ?_;rw [uO];exact D3Z U1 hsz hzv hz (A1W hs hc) hp
      ·cases hc
     ·cases hc
   ·cases hz
  ·cases hc
 case buildSl sz len z ps =>
  simp only [E3O,Option.some.injEq,Prod.mk.injEq] at C9;obtain ⟨cs,hp,rfl,rfl⟩:=C9;split at hc
  ·rename_i t len' qs;simp only [E3R,decide_eq_true_eq] at hc;obtain ⟨rfl,hc⟩:=hc;split at hc
   ·rename_i e he;simp only [E3R,decide_eq_true_eq] at hc;obtain ⟨⟨⟨h1,h2⟩,h3⟩,h4⟩:=hc;split at h3
    ·rename_i zv hzv;refine kE rfl ?_;have uO:(qs.map λ(i,x)=>(i,a.eval x))=(qs.toList.map λ(i,x)=>(i,a.eval x)).toArray:=by apply Array.ext';simp
     rw [uO];exact D2M hi lO he h1 hzv h2 h3 (A1W hs h4) hp
    ·cases h3
   ·cases hc
  ·cases hc
 case load1 y =>
  simp only [E3O,Option.some.injEq,Prod.mk.injEq] at C9;obtain ⟨_,hp,rfl,rfl⟩:=C9;split at hc
  ·simp only [E3R,decide_eq_true_eq] at hc;exact K0 hi rfl (C9q hc.1 hrow (C7 hc.2 hs) hp)
  ·cases hc
 case loadN n y =>
  simp only [E3O,Option.some.injEq,Prod.mk.injEq] at C9;obtain ⟨_,hp,rfl,rfl⟩:=C9;split at hc
  ·simp only [E3R,decide_eq_true_eq] at hc;exact K0 hi rfl (C9r hc.1.1 hc.1.2 hrow (C7 hc.2 hs) hp)
  ·cases hc
 case store1 y z =>
  simp only [E3O,Option.some.injEq,Prod.mk.injEq] at C9;obtain ⟨_,hp,rfl,rfl⟩:=C9;split at hc
  ·simp only [E3R,decide_eq_true_eq] at hc;exact A4z rfl (D33 hc.1.1 hi (C7 hc.1.2 hs) (C7 hc.2 hs) hp)
  ·cases hc
 case storeN n y z =>
  simp only [E3O,Option.some.injEq,Prod.mk.injEq] at C9;obtain ⟨_,hp,rfl,rfl⟩:=C9;split at hc
  ·simp only [E3R,decide_eq_true_eq] at hc;exact A4z rfl (D34 hc.1.1 hi (C7 hc.1.2 hs) (C7 hc.2 hs) hp)
  ·cases hc
 case bin op' y z =>
  simp only [E3O,Option.some.injEq,Prod.mk.injEq] at C9;obtain ⟨_,hp,rfl,rfl⟩:=C9;split at hc
  ·rename_i op2 xt x y2 yt;simp only [E3R,decide_eq_true_eq] at hc;obtain ⟨⟨rfl,h1⟩,h2⟩:=hc;have hx:RV μ _ _:=C7 h1 hs;have hy:RV μ _ _:=C7 h2 hs;refine K0 (s:=do eqGuard op' xt x y2 (a.eval x) (a.eval y2);binOp op' xt (a.eval x) (a.eval y2)) hi rfl ?_;obtain ⟨V,h3,h4⟩:=D9w (P:=P) (w:=w) (xt:=xt) hx hy hp;have h5:=D24 hp hx;exact ⟨V,by rw [Sem.run_bind,C5r h5.1 h5.2];exact h3,h4⟩
  ·cases hc
 case eqA neg sh y z =>
  simp only [E3O,Option.some.injEq,Prod.mk.injEq] at C9;obtain ⟨_,hp,rfl,rfl⟩:=C9;split at hc
  ·rename_i op2 xt x y2 yt;simp only [E3R,decide_eq_true_eq,E4D] at hc;obtain ⟨⟨⟨⟨⟨rfl,h1⟩,h2⟩,h3⟩,h4⟩,h5⟩:=hc;have hx:RV μ _ _:=C7 h4 hs;have hy:RV μ _ _:=C7 h5 hs;refine K0 (s:=do eqGuard (bif neg then .neq else .eql) xt x y2 (a.eval x) (a.eval y2);binOp (bif neg then .neq else .eql) xt (a.eval x) (a.eval y2)) hi rfl ?_;obtain ⟨V,h6,h7⟩:=D9y (P:=P) (w:=w) h1 h2 hx hy hp;have hag:(eqGuard (bif neg then BinOp.neq else .eql) xt x y2 (a.eval x) (a.eval y2)).run P w=.ok () w:=by
    unfold aeq at hp;split at hp
    ·rename_i e1 e2;rw [e1] at hx;rw [e2] at hy;obtain ⟨xs,e3,_⟩:=hx;obtain ⟨ys,e4,_⟩:=hy;rw [e3,e4];exact run_eqGuard_agg w _ xt x y2 _ _ h3
    ·cases hp
   exact ⟨V,by rw [Sem.run_bind,hag];exact h6,h7⟩
  ·cases hc
 case eqB neg y z =>
  simp only [E3O,Option.some.injEq,Prod.mk.injEq] at C9;obtain ⟨_,hp,rfl,rfl⟩:=C9;split at hc
  ·rename_i op2 xt x y2 yt;simp only [E3R,decide_eq_true_eq] at hc;obtain ⟨⟨⟨rfl,h1⟩,h4⟩,h5⟩:=hc;split at h1
   ·rename_i hu;have hx:RV μ _ _:=C7 h4 hs;have hy:RV μ _ _:=C7 h5 hs;refine K0 (s:=do eqGuard (bif neg then .neq else .eql) xt x y2 (a.eval x) (a.eval y2);binOp (bif neg then .neq else .eql) xt (a.eval x) (a.eval y2)) hi rfl ?_;obtain ⟨V,h6,h7⟩:=D9z (P:=P) (w:=w) hu hx hy hp;have hag:(eqGuard (bif neg then BinOp.neq else .eql) xt x y2 (a.eval x) (a.eval y2)).run P w=.ok () w:=by
     unfold D25 at hp;split at hp
     ·rename_i e1 e2;rw [e1] at hx;have hx:a.eval x=.bool _:=hx;rw [hx];exact C5r (by simp) (by simp)
     ·cases hp
    exact ⟨V,by rw [Sem.run_bind,hag];exact h6,h7⟩
   ·cases h1
  ·cases hc
 case eqN fn neg y =>
  simp only [E3O,Option.some.injEq,Prod.mk.injEq] at C9;obtain ⟨_,hp,rfl,rfl⟩:=C9;split at hc
  ·rename_i op2 xt x c yt;simp only [E3R,decide_eq_true_eq] at hc;obtain ⟨⟨rfl,h1⟩,h4⟩:=hc;have hx:RV μ _ _:=C7 h4 hs;refine K0 (s:=do eqGuard (bif neg then .neq else .eql) xt x (.const c) (a.eval x) (a.eval (.const c));binOp (bif neg then .neq else .eql) xt (a.eval x) (a.eval (.const c))) hi rfl ?_;obtain ⟨V,h6,h7⟩:=D9A (P:=P) (w:=w) h1 hx hp;have bH:(∀ c,a.eval x≠.agg c)/\a.eval x≠.nilIface:=by
    unfold C93 at hp;split at hp
    ·rename_i e1;rw [e1] at hx;have hx:a.eval x=.nilFunc:=hx;rw [hx];simp
    ·rename_i e1;rw [e1] at hx;obtain ⟨cs,hx,_⟩:=hx;rw [hx];simp
    ·rename_i e1;rw [e1] at hx;have hx:a.eval x=.pointer none:=hx;rw [hx];simp
    ·rename_i e1;rw [e1] at hx;obtain ⟨b,n,_,hx⟩:=hx;rw [hx];simp
    ·cases hp
   exact ⟨V,by rw [Sem.run_bind,C5r bH.1 bH.2];exact h6,h7⟩
  ·cases hc
 case nilc y =>
  simp only [E3O,Option.some.injEq,Prod.mk.injEq] at C9;obtain ⟨_,hp,rfl,rfl⟩:=C9;split at hc
  ·rename_i x;have hx:RV μ _ _:=C7 hc hs;unfold A3Z at hp;split at hp
   ·rename_i e1;cases hp;rw [e1] at hx;have hx':=hx;obtain ⟨b,n,_,hx⟩:=hx;exact ⟨_,w,μ,.inl (by simp only [execOp,hx];rfl),Mu.le_refl _,hx ▸ hx',hi,Keeps.refl _ _ _ _⟩
   ·rename_i e1;cases hp;rw [e1] at hx;have hx':=hx;obtain ⟨cs,hx,_⟩:=hx;exact ⟨_,w,μ,.inl (by simp only [execOp,hx];rfl),Mu.le_refl _,hx ▸ hx',hi,Keeps.refl _ _ _ _⟩
   ·cases hp
  ·cases hc
 case un op' y =>
  simp only [E3O,Option.some.injEq,Prod.mk.injEq] at C9;obtain ⟨_,hp,rfl,rfl⟩:=C9;split at hc
  ·simp only [E3R,decide_eq_true_eq] at hc;obtain ⟨rfl,h1⟩:=hc;exact K0 hi rfl (E1p (C7 h1 hs) hp)
  ·cases hc
 case conv k y =>
  simp only [E3O,Option.some.injEq,Prod.mk.injEq] at C9;obtain ⟨_,hp,rfl,rfl⟩:=C9;split at hc
  ·simp only [E3R,decide_eq_true_eq] at hc;obtain ⟨ks,hks⟩:=Option.isSome_iff_exists.1 hc.1.1;exact K0 hi rfl (D8e hks hc.1.2 (C7 hc.2 hs) hp)
  ·cases hc
 case convS y =>
  simp only [E3O,Option.some.injEq,Prod.mk.injEq] at C9;obtain ⟨_,hp,rfl,rfl⟩:=C9;split at hc
  ·simp only [E3R] at hc;exact K0 hi rfl (D6c hc.1.1 hc.1.2 (C7 hc.2 hs) hp)
  ·cases hc
 case s2b y =>
  simp only [E3O,Option.some.injEq,Prod.mk.injEq] at C9;obtain ⟨l,hp,rfl,rfl⟩:=C9;split at hc
  ·simp only [E3R] at hc;obtain ⟨⟨h1,h2⟩,h3⟩:=hc;split at h2
   ·rename_i e he;have hx:RV μ _ _:=C7 h3 hs;unfold E0r at hp;split at hp
    ·rename_i uO;split at hp
     ·cases hp;rename_i hl;rw [uO] at hx;have hx:a.eval _=.string ⟨l.toArray⟩:=hx;refine kE rfl ?_;rw [hx];exact D9F hi lO h1 he (by simpa using h2) hl
     ·cases hp
    ·cases hp
   ·cases h2
  ·cases hc
 case b2s y =>
  simp only [E3O,Option.some.injEq,Prod.mk.injEq] at C9;obtain ⟨_,hp,rfl,rfl⟩:=C9;split at hc
  ·simp only [E3R] at hc;obtain ⟨⟨h1,h2⟩,h3⟩:=hc;split at h2
   ·exact K0 hi rfl (D2L ‹_› (by simpa using h2) h1 hrow (C7 h3 hs) hp)
   ·cases h2
  ·cases hc
 case b2sN own y =>
  simp only [E3O,Option.some.injEq,Prod.mk.injEq] at C9;obtain ⟨_,hp,rfl,rfl⟩:=C9;have hp:=D23 hp;split at hc
  ·simp only [E3R] at hc;obtain ⟨⟨h1,h2⟩,h3⟩:=hc;split at h2
   ·exact K0 hi rfl (D2L ‹_› (by simpa using h2) h1 hi.rows (C7 h3 hs) hp)
   ·cases h2
  ·cases hc
 case mark y =>
  simp only [E3O,Option.some.injEq,Prod.mk.injEq] at C9;obtain ⟨_,hp,rfl,rfl⟩:=C9;split at hc
  ·simp only [E3R,decide_eq_true_eq] at hc;obtain ⟨⟨rfl,h2⟩,h3⟩:=hc;split at h2
   ·have hx:=C7 (μ:=μ) h3 hs;obtain ⟨w',h4,h5,h6⟩:=run_mark (P:=P) hi ‹_› (by simpa using h2) hx hp;exact kE rfl ⟨_,w',μ,h4,Mu.le_refl _,h5 ▸ hx,h6,Keeps.refl _ _ _ _⟩
   ·cases h2
  ·cases hc
 case mkf f caps =>
  simp only [E3O,Option.some.injEq,Prod.mk.injEq] at C9;obtain ⟨_,hp,rfl,rfl⟩:=C9;split at hc
  ·rename_i g first cs
   simp only [E3R,decide_eq_true_eq] at hc;obtain ⟨⟨rfl,h1⟩,h2⟩:=hc;unfold B3V at hp;simp only [E34] at hp;obtain ⟨l,hl,rfl⟩:=hp;have h3:=C8H hl (A5U hs h2);refine ⟨_,w,μ,.inl rfl,Mu.le_refl _,⟨cs.toList.map a.eval,?_,h3⟩,hi,Keeps.refl _ _ _ _⟩;have:first = #[]:=by simpa using h1
   subst this;show Value.func _ _ _=Value.func _ _ _
   congr 1<;>(apply Array.ext';simp)
  ·cases hc
 case mkSl sz z y y2 =>
  simp only [E3O,Option.some.injEq,Prod.mk.injEq] at C9;obtain ⟨n',hp,rfl,rfl⟩:=C9;unfold A5P at hp;simp only [E3O] at hp;obtain ⟨n,hn,c,hcc,hp⟩:=hp;split at hp
  ·cases hp;rename_i hnc;split at hc
   ·simp only [E3R] at hc;obtain ⟨⟨h1,h2⟩,h3⟩:=hc;split at h3
    ·rename_i e he;simp only [E3R,decide_eq_true_eq] at h3;obtain ⟨⟨⟨h4,h5⟩,h6⟩,h7⟩:=h3;split at h7
     ·rename_i zv hzv;obtain ⟨i,z',hi1,hi2,hi3,hi4,hi5,hi6⟩:=A9r h4;have hsz:i.size=sz:=by simpa [P9,hi1] using h5
      refine kE rfl (D8n hi lO he h5 hzv h7 h6 (by omega) (show C4M P e=some i.bytes by simp [C4M,hi1]) hi2 (C7 h1 hs) (C7 h2 hs) hn hcc hnc)
     ·cases h7
    ·cases h3
   ·cases hc
  ·cases hp
 case slS y lo hi' =>
  simp only [E3O,Option.some.injEq,Prod.mk.injEq] at C9;obtain ⟨_,hp,rfl,rfl⟩:=C9;split at hc
  ·simp only [E3R] at hc;obtain ⟨⟨⟨h1,h2⟩,h3⟩,h4⟩:=hc;exact K0 hi rfl (D9I h1 (C7 h2 hs) (zK h3 hs) (zK h4 hs) hp)
  ·cases hc
 case slL sz y lo hi' =>
  simp only [E3O,Option.some.injEq,Prod.mk.injEq] at C9;obtain ⟨_,hp,rfl,rfl⟩:=C9;split at hc
  ·simp only [E3R] at hc;obtain ⟨⟨⟨h1,h2⟩,h3⟩,h4⟩:=hc;split at h1
   ·exact K0 hi rfl (D9H ‹_› (by simpa using h1) (C7 h2 hs) (zK h3 hs) (zK h4 hs) hp)
   ·cases h1
  ·cases hc
 case slA n sz y lo hi' =>
  simp only [E3O,Option.some.injEq,Prod.mk.injEq] at C9;obtain ⟨_,hp,rfl,rfl⟩:=C9;split at hc
  ·simp only [E3R] at hc;obtain ⟨⟨⟨h1,h2⟩,h3⟩,h4⟩:=hc;split at h1
   ·simp only [E3R,decide_eq_true_eq] at h1;obtain ⟨rfl,h1⟩:=h1;exact K0 hi rfl (D9G ‹_› h1 hrow (C7 h2 hs) (zK h3 hs) (zK h4 hs) hp)
   ·cases h1
  ·cases hc
 case fAddr y off =>
  simp only [E3O,Option.some.injEq,Prod.mk.injEq] at C9;obtain ⟨_,hp,rfl,rfl⟩:=C9;split at hc
  ·simp only [E3R] at hc;obtain ⟨h1,h2⟩:=hc;split at h1
   ·rename_i f hf;simp only [E3R,decide_eq_true_eq] at h1;obtain ⟨h3,h4⟩:=h1;split at h4
    ·simp only [A35,E3O] at hf;obtain ⟨fs,hfs,hf⟩:=hf;exact K0 hi rfl (D6d hfs hf ‹_› (by simpa using h4) h3 (C7 h2 hs) hp)
    ·cases h4
   ·cases h1
  ·cases hc
 case iAddrA n sz y z =>
  simp only [E3O,Option.some.injEq,Prod.mk.injEq] at C9;obtain ⟨_,hp,rfl,rfl⟩:=C9;split at hc
  ·simp only [E3R] at hc;obtain ⟨⟨h1,h2⟩,h3⟩:=hc;split at h1
   ·simp only [E3R,decide_eq_true_eq] at h1;obtain ⟨rfl,h1⟩:=h1;exact K0 hi rfl (D31 ‹_› h1 (C7 h2 hs) (C7 h3 hs) hp)
   ·cases h1
  ·cases hc
 case iAddrL sz y z =>
  simp only [E3O,Option.some.injEq,Prod.mk.injEq] at C9;obtain ⟨_,hp,rfl,rfl⟩:=C9;split at hc
  ·simp only [E3R] at hc;obtain ⟨⟨h1,h2⟩,h3⟩:=hc;split at h1
   ·exact K0 hi rfl (D32 ‹_› (by simpa using h1) (C7 h2 hs) (C7 h3 hs) hp)
   ·cases h1
  ·cases hc
 case fld1 y off =>
  simp only [E3O,Option.some.injEq,Prod.mk.injEq] at C9;obtain ⟨_,hp,rfl,rfl⟩:=C9;split at hc
  ·simp only [E3R] at hc;obtain ⟨h1,h2⟩:=hc;split at h1
   ·rename_i f hf;simp only [E3R,decide_eq_true_eq] at h1;obtain ⟨rfl,h4⟩:=h1;simp only [A35,E3O] at hf;obtain ⟨fs,hfs,hf⟩:=hf;exact K0 hi rfl (D8g hfs hf h4 (C7 h2 hs) hp)
   ·cases h1
  ·cases hc
 case fldN y off n =>
  simp only [E3O,Option.some.injEq,Prod.mk.injEq] at C9;obtain ⟨_,hp,rfl,rfl⟩:=C9;split at hc
  ·simp only [E3R] at hc;obtain ⟨h1,h2⟩:=hc;split at h1
   ·rename_i f hf;simp only [E3R,decide_eq_true_eq] at h1;obtain ⟨⟨rfl,h4⟩,h5⟩:=h1;simp only [A35,E3O] at hf;obtain ⟨fs,hfs,hf⟩:=hf;exact K0 hi rfl (D8h hfs hf h4 h5 (C7 h2 hs) hp)
   ·cases h1
  ·cases hc
 case idxA1 n y z =>
  simp only [E3O,Option.some.injEq,Prod.mk.injEq] at C9;obtain ⟨_,hp,rfl,rfl⟩:=C9;split at hc
  ·simp only [E3R] at hc;obtain ⟨⟨h1,h2⟩,h3⟩:=hc;split at h1
   ·simp only [E3R,decide_eq_true_eq] at h1;obtain ⟨⟨rfl,h4⟩,h5⟩:=h1;exact K0 hi rfl (D6e ‹_› h4 h5 (C7 h2 hs) (C7 h3 hs) hp)
   ·cases h1
  ·cases hc
 case idxAN n sz y z =>
  simp only [E3O,Option.some.injEq,Prod.mk.injEq] at C9;obtain ⟨_,hp,rfl,rfl⟩:=C9;split at hc
  ·simp only [E3R] at hc;obtain ⟨⟨h1,h2⟩,h3⟩:=hc;split at h1
   ·simp only [E3R,decide_eq_true_eq] at h1;obtain ⟨⟨rfl,h4⟩,h5⟩:=h1;exact K0 hi rfl (D6f ‹_› h4 h5 (C7 h2 hs) (C7 h3 hs) hp)
   ·cases h1
  ·cases hc
 case idxS y z =>
  simp only [E3O,Option.some.injEq,Prod.mk.injEq] at C9;obtain ⟨_,hp,rfl,rfl⟩:=C9;split at hc
  ·simp only [E3R] at hc;obtain ⟨⟨h1,h2⟩,h3⟩:=hc;exact K0 hi rfl (D8i h1 (C7 h2 hs) (C7 h3 hs) hp)
  ·cases hc
 case ext y k =>
  simp only [E3O,Option.some.injEq,Prod.mk.injEq] at C9;obtain ⟨_,hp,rfl,rfl⟩:=C9;split at hc
  ·simp only [E3R,decide_eq_true_eq] at hc;obtain ⟨rfl,h1⟩:=hc;exact K0 hi rfl (D9B (C7 h1 hs) hp)
  ·cases hc
 case call=>cases hc
 case callV=>cases hc
 case len y =>
  simp only [E3O,Option.some.injEq,Prod.mk.injEq] at C9;obtain ⟨_,hp,rfl,rfl⟩:=C9;split at hc
  ·rename_i c;split at hc
   ·rename_i x t hca hargs hty;simp only [E3R] at hc;obtain ⟨e,he⟩:=Option.isSome_iff_exists.1 hc.1;have h1:c.args = #[x]:=by cases hcc:c.args;simp_all
    have h2:c.argTypes = #[t]:=by cases hcc:c.argTypes;simp_all
    refine K0 (s:=Builtin.len_ #[t] type #[a.eval x]) hi ?_ (D9C he (C7 hc.2 hs) hp);simp [execOp,resolve,hca,h1,h2,invoke,builtin]
   ·cases hc
  ·cases hc
 case lenS y =>
  simp only [E3O,Option.some.injEq,Prod.mk.injEq] at C9;obtain ⟨_,hp,rfl,rfl⟩:=C9;split at hc
  ·rename_i c;split at hc
   ·rename_i x t hca hargs hty;simp only [E3R] at hc;have h1:c.args = #[x]:=by cases hcc:c.args;simp_all
    have h2:c.argTypes = #[t]:=by cases hcc:c.argTypes;simp_all
    refine K0 (s:=Builtin.len_ #[t] type #[a.eval x]) hi ?_ (D8k hc.1 (C7 hc.2 hs) hp);simp [execOp,resolve,hca,h1,h2,invoke,builtin]
   ·cases hc
  ·cases hc
 case app sz y z =>
  simp only [E3O,Option.some.injEq] at C9;obtain ⟨p,hp,xM⟩:=C9;simp only [Prod.mk.injEq] at xM;obtain ⟨rfl,rfl⟩:=xM;split at hc
  ·rename_i c;split at hc
   ·rename_i x x2 s yt hca hargs hty;simp only [E3R] at hc;obtain ⟨⟨⟨h1,h2⟩,h3⟩,h4⟩:=hc;split at h1
    ·rename_i e he;simp only [E3R,decide_eq_true_eq] at h1;obtain ⟨i,z',hi1,hi2,hi3,hi4,hi5,hi6⟩:=A9r h1.1;have hsz:i.size=sz:=by simpa [P9,hi1] using h1.2
     subst hsz;have e1:c.args = #[x,x2]:=by cases hcc:c.args;simp_all
     have e2:c.argTypes = #[s,yt]:=by cases hcc:c.argTypes;simp_all
     obtain ⟨V,w',μ',g1,g2,g3,g4,g5⟩:=D9v (P:=P) (ty:=type) hi (O1 he) hi1 hi2 hi3 hi5 hi6 hi4 (D8V h2) (C7 h3 hs) (C7 h4 hs) hp;refine kE (s:=Builtin.append_ #[s,yt] type #[a.eval x,a.eval x2]) ?_ ⟨V,w',μ',g1,g2,g3,g4,λid hid _=>g5 id hid⟩;simp [execOp,resolve,hca,e1,e2,invoke,builtin]
    ·cases h1
   ·cases hc
  ·cases hc
 case appZ sz zero y z =>
  simp only [E3O,Option.some.injEq] at C9;obtain ⟨p,hp,xM⟩:=C9;simp only [Prod.mk.injEq] at xM;obtain ⟨rfl,rfl⟩:=xM;split at hc
  ·rename_i c;split at hc
   ·rename_i x x2 s yt hca hargs hty;simp only [E3R] at hc;obtain ⟨⟨⟨h1,h2⟩,h3⟩,h4⟩:=hc;split at h1
    ·rename_i e he;simp only [E3R,decide_eq_true_eq] at h1;obtain ⟨⟨h1,h1s⟩,h1z⟩:=h1;obtain ⟨i,z',hi1,hi2,hi3,hi4,hi5,hi6⟩:=A9r h1;have hsz:i.size=sz:=by simpa [P9,hi1] using h1s
     subst hsz;have e1:c.args = #[x,x2]:=by cases hcc:c.args;simp_all
     have e2:c.argTypes = #[s,yt]:=by cases hcc:c.argTypes;simp_all
     split at h1z
     ·rename_i zv hzv;have hzz:zv=z':=by
       have:=hzv;simp [wC,hi1,hi5] at this;exact this.symm
      subst hzz;obtain ⟨kk,hkk⟩:=Option.isSome_iff_exists.1 h2;obtain ⟨V,w',μ',g1,g2,g3,g4,g5⟩:=D8d (P:=P) (ty:=type) hi (O1 he) hi1 hi2 hi3 hi5 hi6 hi4 (A4r hkk) (fI h1z) (C7 h3 hs) (C7 h4 hs) hp;refine kE (s:=Builtin.append_ #[s,yt] type #[a.eval x,a.eval x2]) ?_ ⟨V,w',μ',g1,g2,g3,g4,λid hid _=>g5 id hid⟩;simp [execOp,resolve,hca,e1,e2,invoke,builtin]
     ·cases h1z
    ·cases h1
   ·cases hc
  ·cases hc
 case max y z =>
  simp only [E3O,Option.some.injEq,Prod.mk.injEq] at C9;obtain ⟨_,hp,rfl,rfl⟩:=C9;split at hc
  ·rename_i c;split at hc
   ·rename_i x x2 hca hargs;simp only [E3R] at hc;have e1:c.args = #[x,x2]:=by cases hcc:c.args;simp_all
    refine K0 (s:=Builtin.max_ c.argTypes type #[a.eval x,a.eval x2]) hi ?_ (D9D (C7 hc.1 hs) (C7 hc.2 hs) hp);simp [execOp,resolve,hca,e1,invoke,builtin]
   ·cases hc
  ·cases hc
 case min y z =>
  simp only [E3O,Option.some.injEq,Prod.mk.injEq] at C9;obtain ⟨_,hp,rfl,rfl⟩:=C9;split at hc
  ·rename_i c;split at hc
   ·rename_i x x2 hca hargs;simp only [E3R] at hc;have e1:c.args = #[x,x2]:=by cases hcc:c.args;simp_all
    refine K0 (s:=Builtin.min_ c.argTypes type #[a.eval x,a.eval x2]) hi ?_ (D9E (C7 hc.1 hs) (C7 hc.2 hs) hp);simp [execOp,resolve,hca,e1,invoke,builtin]
   ·cases hc
  ·cases hc
 case mkMap =>
  cases C9;split at hc
  ·exact kE rfl (D6g hi lO)
  ·cases hc
 case look kk zero ok y z =>
  simp only [E3O,Option.some.injEq,Prod.mk.injEq] at C9;obtain ⟨_,hp,rfl,rfl⟩:=C9;split at hc
  ·simp only [E3R,decide_eq_true_eq] at hc;obtain ⟨⟨⟨h1,h2⟩,h3⟩,h4⟩:=hc;subst h2;split at h1
   ·simp only [E3R] at h1;obtain ⟨h1,h5⟩:=h1;split at h5
    ·exact K0 hi rfl (D8l ‹_› h1 ‹_› h5 hrow (C7 h3 hs) (C7 h4 hs) hp)
    ·cases h5
   ·cases h1
  ·cases hc
 case mput kk y z z2 =>
  simp only [E3O,Option.some.injEq,Prod.mk.injEq] at C9;obtain ⟨_,hp,rfl,rfl⟩:=C9;split at hc
  ·simp only [E3R] at hc;obtain ⟨⟨⟨h1,h2⟩,h3⟩,h4⟩:=hc;split at h1
   ·exact A4z rfl (D2N ‹_› h1 hi (C7 h2 hs) (C7 h3 hs) (C7 h4 hs) hp)
   ·cases h1
  ·simp only [E3R] at hc;obtain ⟨⟨⟨h1,h2⟩,h3⟩,h4⟩:=hc;split at h1
   ·exact A4z rfl (D2N ‹_› h1 hi (C7 h2 hs) (C7 h3 hs) (C7 h4 hs) hp)
   ·cases h1
  ·cases hc
 case ment kk zero y z =>
  simp only [E3O,Option.some.injEq] at C9;obtain ⟨p,hp,xM⟩:=C9;simp only [Prod.mk.injEq] at xM;obtain ⟨rfl,rfl⟩:=xM;split at hc
  ·simp only [E3R] at hc;obtain ⟨⟨h1,h3⟩,h4⟩:=hc;split at h1
   ·simp only [E3R] at h1;obtain ⟨h1,h5⟩:=h1;split at h5
    ·obtain ⟨V,w',h6,h7,h8⟩:=D8m ‹_› h1 ‹_› h5 hi (C7 h3 hs) (C7 h4 hs) hp;exact kE rfl ⟨V,w',μ,h6,Mu.le_refl _,h7,h8,Keeps.refl _ _ _ _⟩
    ·cases h5
   ·cases h1
  ·cases hc
 case mset y z z2 =>
  simp only [E3O,Option.some.injEq,Prod.mk.injEq] at C9;obtain ⟨_,hp,rfl,rfl⟩:=C9;split at hc
  ·simp only [E3R] at hc;obtain ⟨⟨h2,h3⟩,h4⟩:=hc;exact A4z rfl (D8o hi (C7 h2 hs) (C7 h3 hs) (C7 h4 hs) hp)
  ·cases hc
 case copy sz y z =>
  simp only [E3O,Option.some.injEq] at C9;obtain ⟨p,hp,xM⟩:=C9;simp only [Prod.mk.injEq] at xM;obtain ⟨rfl,rfl⟩:=xM;split at hc
  ·rename_i c;split at hc
   ·rename_i x x2 s yt hca hargs hty;simp only [E3R] at hc;obtain ⟨⟨h1,h3⟩,h4⟩:=hc;split at h1
    ·rename_i e he;simp only [E3R,decide_eq_true_eq] at h1;have e1:c.args = #[x,x2]:=by cases hcc:c.args;simp_all
     have e2:c.argTypes = #[s,yt]:=by cases hcc:c.argTypes;simp_all
     obtain ⟨V,w',h5,h6,h7⟩:=D8f (P:=P) (yt:=yt) (ty:=type) hi he h1.1 h1.2 (C7 h3 hs) (C7 h4 hs) hp;refine kE (s:=Builtin.copy_ #[s,yt] type #[a.eval x,a.eval x2]) ?_ ⟨V,w',μ,h5,Mu.le_refl _,h6,h7,Keeps.refl _ _ _ _⟩;simp [execOp,resolve,hca,e1,e2,invoke,builtin]
    ·cases h1
   ·cases hc
  ·cases hc
end
end
section
def jA (P : Program) (f : FuncId) : Prop := ∃ fn : Func, P.funcs[f]? = some fn ∧ (fn.name == "runtime.NumGoroutine") = false ∧ fn.body.isNone = false
def CallOk (P:Program) (f:FuncId) (args:List Val) (h:A6) (v:Val) (h':A6):Prop :=
 ∀ (Γ:Ctx) (μ:Mu) (w:World) (V:List Value),Inv Γ μ h w->All2 (RV μ) args V ->
  Calls P f V.toArray w λe w'=>∃ V' μ',e=.returned V' /\ μ.le μ'/\RV μ' v V'/\Inv Γ μ' h' w'/\∀ id,id<h.length -> μ' id = μ id
def eV (P:Program) (E:N1):Prop:=∀ f args h v h',E f args h=some (v,h')->jA P f/\CallOk P f args h v h'/\h.length<=h'.length
def C99 (o:Op):AOp->Bool
 | .call f args=>(match o with
   | .call c=>(match c.callee with | .value (.func g)=>decide (f=g)&&A1V c.args.toList args | _=>false)
   | _=>false)
 | .callV x args=>(match o with
   | .call c=>(match c.callee with | .value y=>D8 y x&&A1V c.args.toList args | _=>false)
   | _=>false)
 | _=>false
def D1H (ops:Array Oper):Option (Nat × Bool)->Option (Nat × Bool)->Bool
 | none,none=>true
 | some q,some p=>decide (q.2=p.2)&&decide ((ops[q.1]?).bind (·.dst)=some p.1)
 | _,_=>false
def wQ (N:Nat) (d:Option Nat):Bool:=match d with | some d=>decide (d<N) | none=>true
def Z7 (P:Program) (N:Nat) (ops:Array Oper) (o:Oper) (ao:AOper):Bool :=
 decide (o.dst=ao.dst)&&wQ N o.dst&&D1H ops o.guard ao.guard&&(D8U P o.op ao.op||C99 o.op ao.op)
section
variable {P:Program} {R:Type}
theorem D1o (E:N1) (q:Bool) (hr:A6) (n0:Nat) (slot:Option Nat) (o:AOp) (e:Env) (h:A6) (k:Val->A6->Option R) :
  aop E q hr n0 slot o e h k=(aop E q hr n0 slot o e h λv h=>some (v,h)).bind λp=>k p.1 p.2:=by
 cases o<;>simp only [aop,E3X,Option.bind_assoc]
theorem B55 {f:FuncId} (hf:jA P f) (args:Array Value) (w:World):(callFunc f args).run P w=.ok (.enter f args) w:=by
 obtain ⟨fn,h1,h2,h3⟩:=hf;unfold callFunc;simp only [Sem.run_bind,run_program,Result.andThen_ok,h1,h2,h3,E4M,if_false];rfl
theorem B31 {μ:Mu}:∀ {l:List (Nat × Nat)} {cs:List Value},All2 (RPtr μ) l cs->All2 (RV μ) (C2p l) cs
 | [],[],_=>trivial
 | q::l,c::cs,⟨h1,h2⟩=>⟨h1,B31 h2⟩
 | [],_::_,h=>h.elim
 | _::_,[],h=>h.elim
theorem D4v {Γ:Ctx} {μ:Mu} {o:Oper} {a:Act} {w:World} {g:FuncId} {args:List Val} {h h':A6} {v:Val} {c:Call} {y:Operand} {cs:List Value}
  (ho:o.op=.call c) (D3t:c.callee=.value y) (hy:a.eval y=.func (.func g) #[] cs.toArray) (hg:jA P g) (hk:CallOk P g args h v h')
  (hargs:All2 (RV μ) args (c.args.toList.map a.eval++cs)) (hi:Inv Γ μ h w) {next:Act->World->Prop} {Q:Exit->Act->World->Prop}
  {n0:Nat} {slot:Option Nat} (hn:∀ V w' μ',μ.le μ'->RV μ' v V->Inv Γ μ' h' w'->Keeps μ μ' h n0 slot->next (a.put o.dst V) w'):o.wp P a w next Q:=by
 have A7u:(execOp a.eval o).run P w=.ok (.enter g (c.args.toList.map a.eval++cs).toArray) w:=by
  have e:(#[]++c.args.map a.eval++cs.toArray:Array Value)=(c.args.toList.map a.eval++cs).toArray:=by apply Array.ext';simp
  simp only [execOp,ho,resolve,D3t,hy,Deferred.ofValue,pure_bind,invoke];rw [e];exact B55 hg _ _
 unfold Oper.wp;rw [A7u,Oper.upon_enter];refine (hk Γ μ w _ hi hargs).mono ?_;rintro e w' ⟨V,μ',rfl,h1,h2,h3,h4⟩;exact hn V w' μ' h1 h2 h3 λid hid _=>h4 id hid
theorem D6L {N:Nat} {ops:Array Oper} {E:N1} (hE:eV P E) {q:Bool} {o:Oper} {ao:AOp} {e:Env} {h hr:A6} {v:Val} {h':A6} {n0:Nat} {slot:Option Nat} {Γ:Ctx} {μ:Mu} {a:Act} {w:World}
  (hc:(D8U P o.op ao||C99 o.op ao)=true) (hs:SEnv μ e a) (hi:Inv Γ μ h w) (hrd:∀ id r,rd hr id=some r->rd h id=some r) (lO:sR μ h n0 slot)
  (C9:aop E q hr n0 slot ao e h (λv h=>some (v,h))=some (v,h')) {next:Act->World->Prop} {Q:Exit->Act->World->Prop}
  (hn:∀ V w' μ',μ.le μ'->RV μ' v V->Inv Γ μ' h' w'->Keeps μ μ' h n0 slot->next (a.put o.dst V) w'):o.wp P a w next Q:=by
 rw [E4K] at hc;rcases hc with hc | hc
 ·obtain ⟨V,w',μ',h1,h2,h3,h4,h5⟩:=E1o hc hs hi hrd lO C9;unfold Oper.wp;rcases h1 with h1 | ⟨h1,rfl⟩
  ·rw [h1];exact hn V w' μ' h2 h3 h4 h5
  ·rw [h1];exact hn undef w' μ' h2 h3 h4 h5
 ·cases ao<;>simp only [C99] at hc
  case call f args =>
   simp only [aop,E3O,Option.some.injEq] at C9;obtain ⟨p,hp,xM⟩:=C9;simp only [Prod.mk.injEq] at xM;obtain ⟨rfl,rfl⟩:=xM;have hE1:E f (args.map e.ev) h=some (p.1,p.2):=by
    cases q with
    | false=>simpa using hp
    | true =>
     simp only [cond_true,quiet,E3O] at hp;obtain ⟨p',h1,h2⟩:=hp;split at h2
     ·cases h2;exact h1
     ·cases h2
   obtain ⟨hg,hk,_⟩:=hE _ _ _ _ _ hE1;split at hc
   ·rename_i c ho;split at hc
    ·rename_i g D3t;simp only [E3R,decide_eq_true_eq] at hc;obtain ⟨rfl,hargs⟩:=hc;exact D4v ho D3t (cs:=[]) rfl hg hk (by rw [E4f];exact A5U hs hargs) hi hn
    ·cases hc
   ·cases hc
  case callV x args =>
   simp only [aop,E3O,Option.some.injEq] at C9;obtain ⟨p,hp,xM⟩:=C9;simp only [Prod.mk.injEq] at xM;obtain ⟨rfl,rfl⟩:=xM;have hE0:A1U E (e.ev x) (args.map e.ev) h=some (p.1,p.2):=by
    cases q with
    | false=>simpa using hp
    | true =>
     simp only [cond_true,quiet,E3O] at hp;obtain ⟨p',h1,h2⟩:=hp;split at h2
     ·cases h2;exact h1
     ·cases h2
   unfold A1U at hE0;split at hE0
   ·rename_i g caps uO;obtain ⟨hg,hk,_⟩:=hE _ _ _ _ _ hE0;split at hc
    ·rename_i c ho;split at hc
     ·rename_i y D3t;simp only [E3R] at hc;have hy:RV μ _ _:=C7 hc.1 hs;rw [uO] at hy;obtain ⟨cs,h1,h2⟩:=hy;exact D4v ho D3t h1 hg hk ((A5U hs hc.2).append (B31 h2)) hi hn
     ·cases hc
    ·cases hc
   ·cases hE0
  all_goals cases hc
theorem D4f {ops:Array Oper} {j g:Nat} {a:Act} {e:Env} {μ:Mu} {x:Bool} (hj:(ops[j]?).bind (·.dst)=some g) (hs:SEnv μ e a) (he:e.get g=.c (.b x)):yielded ops a.tmps j=some x:=by
 have h1:a.tmps.getD g undef=.bool x:=by have:=hs g;rw [he] at this;exact this
 unfold yielded;rw [hj];simp only [E3X];have:a.tmps[g]?=some (.bool x):=by
  simp only [Array.getD_eq_getD_getElem?] at h1;cases hh:a.tmps[g]? with
  | none=>rw [hh] at h1;simp [undef] at h1
  | some y=>rw [hh] at h1;simpa using h1
 rw [this]
theorem D4e {ops:Array Oper} {j g:Nat} {a:Act} {e:Env} {μ:Mu} (hj:(ops[j]?).bind (·.dst)=some g) (hs:SEnv μ e a) (he:e.get g=.no):yielded ops a.tmps j=none:=by
 have h1:a.tmps.getD g undef=undef:=by have:=hs g;rw [he] at this;exact this
 unfold yielded;rw [hj];simp only [E3X];simp only [Array.getD_eq_getD_getElem?] at h1;cases hh:a.tmps[g]? with
 | none=>rfl
 | some y=>rw [hh] at h1;simp [undef] at h1;subst h1;rfl
theorem D6M {N:Nat} {ops:Array Oper} {E:N1} (hE:eV P E) {q:Bool} {o:Oper} {ao:AOper} {e:Env} {h hr:A6} {n0:Nat} {k:Val->A6->Option R} {r:R}
  (hc:Z7 P N ops o ao=true) (C9:W3 E q hr n0 ao e h k=some r) :
  ∃ v h',k v h'=some r/\W3 E q hr n0 ao e h (λv h=>some (v,h))=some (v,h'):=by
 unfold W3 at C9 ⊢;cases hg:ao.guard with
 | none =>
  simp only [hg] at C9 ⊢;rw [D1o] at C9;simp only [E3O] at C9;obtain ⟨p,hp,hk⟩:=C9;exact ⟨p.1,p.2,hk,hp⟩
 | some g =>
  simp only [hg] at C9 ⊢;simp only [E3O] at C9;obtain ⟨p,hp,hk⟩:=C9;exact ⟨p.1,p.2,hk,by rw [hp];rfl⟩
theorem A30 {N:Nat} {ops:Array Oper} {E:N1} (hE:eV P E) {q:Bool} {o:Oper} {ao:AOper} {e:Env} {h hr:A6} {n0:Nat} {v:Val} {h':A6} {Γ:Ctx} {μ:Mu} {a:Act} {w:World}
  (hc:Z7 P N ops o ao=true) (C9:W3 E q hr n0 ao e h (λv h=>some (v,h))=some (v,h')) (hs:SEnv μ e a) (hi:Inv Γ μ h w) (hrd:∀ id r,rd hr id=some r->rd h id=some r) (lO:sR μ h n0 ao.slot)
  {next:Act->World->Prop} {Q:Exit->Act->World->Prop} (hn:∀ V w' μ',μ.le μ'->RV μ' v V->Inv Γ μ' h' w'->Keeps μ μ' h n0 ao.slot->next (a.put o.dst V) w') :
  if Region.wanted o (yielded ops a.tmps) then o.wp P a w next Q\/(o.asks P a w/\LetsOut Q) else next (a.put o.dst undef) w:=by
 simp only [Z7,E3R] at hc;obtain ⟨⟨⟨_,_⟩,hg⟩,hop⟩:=hc;unfold W3 at C9;unfold D1H at hg;cases hag:ao.guard with
 | none =>
  simp only [hag] at C9 hg;cases hog:o.guard with
  | some _=>simp [hog] at hg
  | none =>
   have hw:Region.wanted o (yielded ops a.tmps)=true:=by simp [Region.wanted,hog]
   rw [if_pos hw];exact .inl (D6L (N:=N) (ops:=ops) hE hop hs hi hrd lO C9 hn)
 | some g =>
  simp only [hag] at C9 hg;cases hog:o.guard with
  | none=>simp [hog] at hg
  | some q2 =>
   simp only [hog,E3R,decide_eq_true_eq] at hg;simp only [E3O] at C9;obtain ⟨p,hp,xM⟩:=C9;simp only [Option.some.injEq,Prod.mk.injEq] at xM;obtain ⟨rfl,rfl⟩:=xM;unfold gd at hp;split at hp
   ·rename_i x uO;have hy:=D4f hg.2 hs uO;have hw:Region.wanted o (yielded ops a.tmps)=(x==g.2):=by
     simp [Region.wanted,hog,hy,hg.1]
    rw [hw];cases hx:(x==g.2) with
    | true =>
     rw [hx] at hp;rw [if_pos rfl];exact .inl (D6L (N:=N) (ops:=ops) hE hop hs hi hrd lO hp hn)
    | false =>
     rw [hx] at hp;simp only [cond_false,Option.some.injEq] at hp;rw [if_neg (by simp)];cases hp;exact hn undef w μ (Mu.le_refl _) rfl hi (Keeps.refl _ _ _ _)
   ·rename_i uO;have hy:=D4e hg.2 hs uO;have hw:Region.wanted o (yielded ops a.tmps)=false:=by
     simp [Region.wanted,hog,hy,hg.1]
    rw [hw,if_neg (by simp)];cases hp;exact hn undef w μ (Mu.le_refl _) rfl hi (Keeps.refl _ _ _ _)
   ·cases hp
end
end
section
def AExit.conv:AExit->Exit
 | .normal=>.normal
 | .exit id=>.exit id
 | .ret=>.ret
def B0H (P:Program) (N L:Nat) (W:(Exit->Act->World->Prop)->Act->World->Prop) (e:Env) (h:A6) (x:AExit) (e':Env) (h':A6):Prop :=
 ∀ (Γ:Ctx) (μ:Mu) (a:Act) (w:World),SEnv μ e a->Inv Γ μ h w->N<=a.tmps.size->a.defers = Γ.ds->∀ Q:Exit->Act->World->Prop,
  (∀ μ' a' w',μ.le μ'->(∀ id,id<L -> μ' id = μ id)->SEnv μ' e' a'->Inv Γ μ' h' w'->N<=a'.tmps.size->a'.defers = Γ.ds->Q x.conv a' w')->W Q a w
def V9:AOp->Bool
 | .alloc _ | .box _ | .nilrow _ | .buildSl .. | .s2b _ | .mkSl .. | .mkMap=>true
 | _=>false
def X3:AOp->Bool
 | .call .. | .callV ..=>true
 | _=>false
def A6f:AOp->Bool
 | .store1 .. | .storeN .. | .app .. | .appZ .. | .copy .. | .mput .. | .ment .. | .mset ..=>false
 | _=>true
def A0U:AOp->Bool
 | .mark _=>true
 | .b2sN none _=>true
 | _=>false
def B6T:AOp->Option Nat
 | .b2sN own _=>own
 | _=>none
def AOp.opds:AOp->List Opd
 | .mv x | .box x | .load1 x | .loadN _ x | .eqN _ _ x | .nilc x | .un _ x | .conv _ x | .convS x | .s2b x | .b2s x | .b2sN _ x | .mark x | .fAddr x _ | .fld1 x _ | .fldN x _ _ | .ext x _ | .len x | .lenS x=>[x]
 | .nilrow _ | .alloc _ | .mkMap=>[]
 | .pick c a b=>[c,a,b]
 | .look _ _ _ a x | .ment _ _ a x=>[a,x]
 | .mput _ a x y | .mset a x y=>[a,x,y]
 | .build _ ps | .buildSl _ _ _ ps=>ps.map (·.2.2)
 | .store1 a x | .storeN _ a x | .bin _ a x | .eqA _ _ a x | .eqB _ a x | .mkSl _ _ a x | .iAddrA _ _ a x | .iAddrL _ a x | .idxA1 _ a x | .idxAN _ _ a x | .idxS a x | .app _ a x | .appZ _ _ a x | .max a x | .min a x | .copy _ a x=>[a,x]
 | .mkf _ cs=>cs
 | .slS x lo hi | .slL _ x lo hi | .slA _ _ x lo hi=>x::(lo.toList++hi.toList)
 | .call _ args=>args
 | .callV f args=>f::args
def E3k:Opd->Option Nat
 | .t n=>some n
 | _=>none
def AOper.reads (o:AOper):List Nat:=o.op.opds.filterMap E3k++(o.guard.toList.map (·.1))
def Y1 (o:Oper):List Nat:=(o.after.toList.filter (Region.binds .any)).map (·.on)
def D0w (acc:List Nat) (o:Oper):Nat:=(Y1 o).foldl (λs p=>s ||| (2 ^ p) ||| acc.getD p 0) 0
def closure:List Oper->List Nat->List Nat
 | [],acc=>acc
 | o::r,acc=>closure r (acc++[D0w acc o])
def P7 (ops:Array Oper):List Nat:=closure ops.toList []
theorem C8V (g:Nat->Nat) (b:Nat):∀ (ds:List Nat) (s:Nat),(ds.foldl (λs p=>s ||| (2 ^ p) ||| g p) s).testBit b=true->s.testBit b=true\/∃ p∈ds,b=p\/(g p).testBit b=true
 | [],s,h=>.inl h
 | d::ds,s,h=>by
  rcases C8V g b ds _ h with h | ⟨p,hp,h⟩
  ·rw [Nat.testBit_or,Nat.testBit_or,Nat.testBit_two_pow] at h;simp only [E4K,decide_eq_true_eq] at h;rcases h with (h | h) | h
   ·exact .inl h
   ·exact .inr ⟨d,by simp,.inl h.symm⟩
   ·exact .inr ⟨d,by simp,.inr h⟩
  ·exact .inr ⟨p,by simp [hp],h⟩
theorem A5X:∀ (os:List Oper) (acc:List Nat) (i:Nat),i<acc.length->(closure os acc).getD i 0=acc.getD i 0
 | [],acc,i,h=>rfl
 | o::r,acc,i,h=>by
  rw [closure,A5X r _ i (by simp;omega)];simp [List.getD,E4r h]
theorem C4Z:∀ (os:List Oper) (acc:List Nat) (k:Nat) (o:Oper),os[k]?=some o->∃ acc',acc'.length=acc.length+k/\(closure os acc).getD (acc.length+k) 0=D0w acc' o/\∀ i,i<acc'.length->(closure os acc).getD i 0=acc'.getD i 0
 | [],acc,k,o,h=>by simp at h
 | x::r,acc,0,o,h=>by
  simp at h;subst h;refine ⟨acc,rfl,?_,λi hi=>?_⟩
  ·rw [closure,A5X r _ _ (by simp)];simp [List.getD]
  ·rw [closure,A5X r _ i (by simp;omega)];simp [List.getD,E4r hi]
 | x::r,acc,k+1,o,h=>by
  simp at h;obtain ⟨acc',h1,h2,h3⟩:=C4Z r (acc++[D0w acc x]) k o h;refine ⟨acc',by simp at h1;omega,?_,λi hi=>by rw [closure];exact h3 i hi⟩;rw [closure,<-h2]
  congr 1;simp;omega
theorem sT {ops:Array Oper} {done:Nat->Bool} (V7:∀ i o,ops[i]?=some o->∀ p∈Y1 o,p<i)
  (cE:∀ i o,ops[i]?=some o->done i=true->∀ p∈Y1 o,done p=true):∀ (i:Nat) (o:Oper),ops[i]?=some o->(∀ p∈Y1 o,done p=true)->∀ b,((P7 ops).getD i 0).testBit b=true->done b=true:=by
 intro i
 induction i using Nat.strongRecOn with
 | _ i ih =>
  intro o ho hd b hb;obtain ⟨acc,h1,h2,h3⟩:=C4Z ops.toList [] i o (by simpa using ho);simp only [E4h,E4b] at h1 h2;rw [P7,h2] at hb;unfold D0w at hb;rcases C8V _ b _ _ hb with hb | ⟨p,hp,rfl | hb⟩
  ·simp at hb
  ·exact hd _ hp
  ·have hpi:=V7 i o ho p hp;have hps:p<ops.size:=by have:=(Array.getElem?_eq_some_iff.1 ho).1;omega
   have hop:ops[p]?=some ops[p]:=by simp [hps]
   refine ih p hpi ops[p] hop (cE p _ hop (hd p hp)) b ?_;rw [P7,h3 p (by omega)];exact hb
section
variable {R:Type}
theorem D4n {E:N1} {q:Bool} {hr:A6} {n0:Nat} {slot:Option Nat} {o:AOp} {e e':Env} {h:A6} {k:Val->A6->Option R} (he:∀ x∈o.opds,e.ev x=e'.ev x):aop E q hr n0 slot o e h k=aop E q hr n0 slot o e' h k:=by
 have parts:∀ ps:List (Nat × Nat × Opd),(∀ x∈ps.map (·.2.2),e.ev x=e'.ev x)->(ps.map λp=>(p.1,p.2.1,e.ev p.2.2))=ps.map λp=>(p.1,p.2.1,e'.ev p.2.2):=λps hp =>
  List.map_congr_left λp hm=>by rw [hp p.2.2 (List.mem_map.2 ⟨p,hm,rfl⟩)]
 have all:∀ l:List Opd,(∀ x∈l,e.ev x=e'.ev x)->l.map e.ev=l.map e'.ev:=λl hl=>List.map_congr_left hl
 have opt:∀ l:Option Opd,(∀ x∈l.toList,e.ev x=e'.ev x)->l.map e.ev=l.map e'.ev:=λl hl=>by cases l with
  | none=>rfl
  | some x=>simp [hl x (by simp)]
 cases o<;>simp only [AOp.opds] at he<;>simp only [aop]
 case build z ps=>rw [parts ps he]
 case buildSl a b z ps=>rw [parts ps he]
 case mkf f cs=>rw [all cs he]
 case call f args=>rw [all args he]
 case callV f args=>rw [he f (by simp),all args λx hx=>he x (by simp [hx])]
 case slS x lo hi=>rw [he x (by simp),opt lo λy hy=>he y (by simp [hy]),opt hi λy hy=>he y (by simp [hy])]
 case slL sz x lo hi=>rw [he x (by simp),opt lo λy hy=>he y (by simp [hy]),opt hi λy hy=>he y (by simp [hy])]
 case slA n sz x lo hi=>rw [he x (by simp),opt lo λy hy=>he y (by simp [hy]),opt hi λy hy=>he y (by simp [hy])]
 all_goals (repeat (rw [he _ (by simp)]))
theorem B8O {E:N1} {q:Bool} {hr:A6} {n0:Nat} {o:AOper} {e e':Env} {h:A6} {k:Val->A6->Option R} (he:∀ t∈o.reads,e.get t=e'.get t):W3 E q hr n0 o e h k=W3 E q hr n0 o e' h k:=by
 have h1:∀ x∈o.op.opds,e.ev x=e'.ev x:=by
  intro x hx;cases x with
  | v x=>rfl
  | t n=>exact he n (List.mem_append_left _ (List.mem_filterMap.2 ⟨.t n,hx,rfl⟩))
 unfold W3;cases hg:o.guard with
 | none=>exact D4n h1
 | some g =>
  have h2:e.get g.1=e'.get g.1:=he g.1 (List.mem_append_right _ (by simp [hg]));simp only;rw [h2,D4n h1]
theorem C4D (E:N1) (q:Bool) (hr:A6) (n0:Nat) (o:AOper) (e:Env) (h:A6) (k:Val->A6->Option R):W3 E q hr n0 o e h k=(W3 E q hr n0 o e h λv h=>some (v,h)).bind λp=>k p.1 p.2:=by
 unfold W3;cases o.guard with
 | none=>exact D1o ..
 | some g=>simp only [Option.bind_assoc,E3X]
theorem C8z {E:N1} {q:Bool} {hr:A6} {n0:Nat} {slot:Option Nat} {o:AOp} {e:Env} {h h':A6} {v:Val} (hq:A6f o=true) (hm:A0U o=false) (how:B6T o=none) (hc:X3 o=false) (hs:V9 o=false)
  (C9:aop E q hr n0 slot o e h (λv h=>some (v,h))=some (v,h')):h'=h/\∀ h2,aop E q hr n0 slot o e h2 (λv h=>some (v,h))=some (v,h2):=by
 have hnb:∀ own x,o≠.b2sN own x:=by
  intro own x he;subst he;simp only [B6T] at how;subst how;simp [A0U] at hm
 cases o<;>simp [A6f,A0U,X3,V9] at hq hm hc hs<;>simp only [aop] at C9 ⊢
 case b2sN own x=>exact absurd rfl (hnb own x)
 case mv=>cases C9;exact ⟨rfl,λ_=>rfl⟩
 all_goals
  simp only [E3O,Option.some.injEq,Prod.mk.injEq] at C9;obtain ⟨_,h1,rfl,rfl⟩:=C9;exact ⟨rfl,λh2=>by rw [h1];rfl⟩
theorem D1c {h h2:A6} {x v:Val} (h1:B3Q h x=some v) (A56:∀ id off len sz r,x=.c (.sl id off len sz)->rd h id=some r->rd h2 id=some r):B3Q h2 x=some v:=by
 unfold B3Q at h1 ⊢;split at h1
 ·rename_i id off len sz;split at h1
  ·rename_i hsz;rw [if_pos hsz];rw [E34] at h1 ⊢;obtain ⟨s,h3,h4⟩:=h1;rw [E3O] at h3;obtain ⟨cs,h5,h6⟩:=h3;refine ⟨s,?_,h4⟩;rw [E3O];refine ⟨cs,?_,h6⟩;unfold fV at h5 ⊢;simp only [E3O] at h5 ⊢;obtain ⟨r,h7,h8⟩:=h5;exact ⟨r,A56 _ _ _ _ r rfl h7,h8⟩
  ·cases h1
 ·exact h1
 ·cases h1
theorem D4p {E:N1} {q:Bool} {hr:A6} {n0 j:Nat} {slot:Option Nat} {o:AOp} {e:Env} {h h':A6} {v:Val} (ho:B6T o=some j)
  (C9:aop E q hr n0 slot o e h (λv h=>some (v,h))=some (v,h')):h'=h/\∀ h2:A6,(∀ x,rd h (n0+j)=some x->rd h2 (n0+j)=some x)->aop E q hr n0 slot o e h2 (λv h=>some (v,h))=some (v,h2):=by
 obtain ⟨x,rfl⟩:∃ x,o=.b2sN (some j) x:=by
  unfold B6T at ho;split at ho
  ·subst ho;exact ⟨_,rfl⟩
  ·cases ho
 simp only [aop,E3O,Option.some.injEq,Prod.mk.injEq] at C9;obtain ⟨v',h1,rfl,rfl⟩:=C9;refine ⟨rfl,λh2 A56=>?_⟩;have:C0i h2 n0 (some j) (e.ev x)=some v':=by
  unfold C0i at h1 ⊢;simp only at h1 ⊢;split at h1
  ·rename_i id off len sz uO;split at h1
   ·rename_i hid;rw [if_pos hid];refine D1c h1 λfX _ _ _ r hx hr=>?_
    cases hx;rw [hid] at hr ⊢;exact A56 r hr
   ·cases h1
  ·cases h1
 simp only [aop,this];rfl
theorem D1p {E:N1} {q:Bool} {hr:A6} {n0:Nat} {slot:Option Nat} {o:AOp} {e:Env} {h h':A6} {v:Val} (hm:A0U o=true)
  (C9:aop E q hr n0 slot o e h (λv h=>some (v,h))=some (v,h')):h'=h/\∀ h2:A6,(∀ id x,rd h id=some x->rd h2 id=some x)->aop E q hr n0 slot o e h2 (λv h=>some (v,h))=some (v,h2):=by
 have lO:∀ (h2:A6) (x:Val) (v:Val),(∀ id x,rd h id=some x->rd h2 id=some x)->B3Q h x=some v->B3Q h2 x=some v:=λh2 x v A56 h1=>D1c h1 λid _ _ _ r _ hr=>A56 id r hr
 by_cases hb:∃ x,o=.b2sN none x
 ·obtain ⟨x,rfl⟩:=hb;simp only [aop,C0i,E3O,Option.some.injEq,Prod.mk.injEq] at C9;obtain ⟨v',h1,rfl,rfl⟩:=C9;exact ⟨rfl,λh2 A56=>by simp only [aop,C0i,lO h2 _ _ A56 h1];rfl⟩
 obtain ⟨x,rfl⟩:∃ x,o=.mark x:=by
  unfold A0U at hm;split at hm
  ·exact ⟨_,rfl⟩
  ·exact absurd ⟨_,rfl⟩ hb
  ·cases hm
 simp only [aop,E3O,Option.some.injEq,Prod.mk.injEq] at C9;obtain ⟨v',h1,rfl,rfl⟩:=C9;refine ⟨rfl,λh2 A56=>?_⟩;have:xJ h2 (e.ev x)=some v':=by
  unfold xJ at h1 ⊢;split at h1
  ·simp only [E3O] at h1 ⊢;obtain ⟨r,hr,h3⟩:=h1;exact ⟨r,A56 _ _ hr,h3⟩
  ·cases h1
 simp only [aop,this];rfl
theorem D1q {E:N1} {q:Bool} {hr:A6} {n0 j:Nat} {o:AOp} {e:Env} {h h':A6} {v:Val} (hs:V9 o=true)
  (C9:aop E q hr n0 (some j) o e h (λv h=>some (v,h))=some (v,h')):∃ r:Row,h'=h.set (n0+j) (some r)/\∀ h2:A6,aop E q hr n0 (some j) o e h2 (λv h=>some (v,h))=some (v,h2.set (n0+j) (some r)):=by
 cases o<;>simp [V9] at hs<;>simp only [aop,cQ] at C9 ⊢
 case alloc z=>cases C9;exact ⟨_,rfl,λ_=>rfl⟩
 case nilrow z=>cases C9;exact ⟨_,rfl,λ_=>rfl⟩
 case mkMap=>cases C9;exact ⟨_,rfl,λ_=>rfl⟩
 all_goals
  simp only [E3O,Option.some.injEq,Prod.mk.injEq] at C9;obtain ⟨_,h1,rfl,rfl⟩:=C9;exact ⟨_,rfl,λh2=>by rw [h1];rfl⟩
def Grows (h h':A6):Prop:=h <+: h'/\∀ id x,h.length<=id->rd h' id=some x->x.own=true
theorem Grows.refl (h:A6):Grows h h:=⟨List.prefix_refl _,λid x hid hx=>by have:=C4 hx;omega⟩
theorem B4o {h:A6} {r:Option (Val × A6)} {p:Val × A6} (hq:quiet h r=some p):r=some p/\Grows h p.2:=by
 simp only [quiet,E3O] at hq;obtain ⟨p',h1,h2⟩:=hq;split at h2
 ·cases h2;exact ⟨h1,‹_›⟩
 ·cases h2
theorem quiet_of {h:A6} {p:Val × A6} (hg:Grows h p.2):quiet h (some p)=some p:=by
 unfold quiet;simp only [E3X];exact if_pos hg
end
end
section
theorem B0Y {h h':A6} (hp:h <+: h') {id:Nat} (hl:id<h.length):rd h' id=rd h id:=by
 obtain ⟨t,rfl⟩:=hp;exact D1 hl
theorem B0i {hD h h':A6} (hl:hD.length=h.length) (id:Nat):rd (hD++h'.drop h.length) id=if id<h.length then rd hD id else rd h' id:=by
 split
 ·rw [D1 (by omega)]
 ·unfold rd;rw [E35 (by omega),E4G,hl]
  congr 2;omega
open Classical in
theorem CallOk.frame {P:Program} {f:FuncId} {args:List Val} {h h' hD:A6} {v:Val} (hk:CallOk P f args h v h') (hg:Grows h h') (hl:hD.length=h.length) (A56:∀ id x,rd h id=some x->rd hD id=some x) :
  CallOk P f args hD v (hD++h'.drop h.length):=by
 intro Γ μ w V hi hargs
 let Γ':Ctx:={ Γ with F:=λb=>match Γ.F b with | some o=>some o | none=>if (∃ id x n,rd h id=none/\rd hD id=some x /\ μ id=some (b,n)) then w.heap[b]? else none }
 have hpl:h.length<=h'.length:=hg.1.length_le;have hΓ:∀ b,Γ'.F b=none -> Γ.F b=none:=by
  intro b hb;cases hF:Γ.F b with
  | none=>rfl
  | some o=>simp only [Γ',hF] at hb;cases hb
 have hex:∀ id x b n,rd h id=none->rd hD id=some x -> μ id=some (b,n)->∃ o,Γ'.F b=some o/\w.heap[b]?=some o:=by
  intro id x b n h1 h2 h3;obtain ⟨ob,h4⟩:=(hi.rows id x h2).there h3;cases hF:Γ.F b with
  | some o=>exact ⟨o,by simp only [Γ',hF],hi.ctx.block b o hF⟩
  | none=>exact ⟨_,by simp only [Γ',hF];rw [if_pos ⟨id,x,n,h1,h2,h3⟩];exact h4,h4⟩
 have hinv:Inv Γ' μ h w:=by
  refine ⟨λid r hr=>hi.rows id r (A56 id r hr),λid fX r r' x x' hr hr'=>hi.sep id fX r r' x x' (A56 _ _ hr) (A56 _ _ hr'),λid r x hr kK hx=>?_,λid hid=>hi.dom id (by omega),⟨hi.ctx.os,hi.ctx.tape,hi.ctx.output,λb o ho=>?_⟩⟩
  ·have h0:=hi.own id r x (A56 _ _ hr) kK hx;simp only [Γ',h0];rw [if_neg];rintro ⟨fX,x',n,h1,h2,h3⟩;have U1:id≠fX:=by intro e;subst e;rw [hr] at h1;cases h1
   exact hi.sep id fX r x' x (x.1,n) (A56 _ _ hr) h2 kK U1 hx h3 rfl
  ·cases hF:Γ.F b with
   | some o'=>simp only [Γ',hF] at ho;cases ho;exact hi.ctx.block b _ hF
   | none =>
    simp only [Γ',hF] at ho;split at ho
    ·exact ho
    ·cases ho
 refine (hk Γ' μ w V hinv hargs).mono ?_;rintro e w' ⟨V',μ',rfl,bJ,hv,hi',bG⟩;refine ⟨V',μ',rfl,bJ,hv,?_,λid hid=>bG id (by omega)⟩;have qV:∀ id x,rd (hD++h'.drop h.length) id=some x->rd h' id=some x\/(id<h.length/\rd h id=none/\rd hD id=some x):=by
  intro id x hx;rw [B0i hl] at hx;split at hx
  ·rename_i V7;cases hh:rd h id with
   | none=>exact .inr ⟨V7,rfl,hx⟩
   | some y =>
    have:=A56 id y hh;rw [hx] at this;cases this;exact .inl (by rw [B0Y hg.1 V7];exact hh)
  ·exact .inl hx
 have hold:∀ id,id<h.length -> μ' id = μ id:=bG;have E0J:∀ id x y,id<h.length->rd h id=none->rd hD id=some x -> μ' id=some y->∃ o,Γ'.F y.1=some o/\w.heap[y.1]?=some o:=by
  intro id x y h1 h2 h3 h4;rw [hold id h1] at h4;exact hex id x y.1 y.2 h2 h3 h4
 refine ⟨λid r hr=>?_,λid fX r r' x x' hr hr' kK U1 hx hx'=>?_,λid r x hr kK hx=>?_,λid hid=>?_,⟨hi'.ctx.os,hi'.ctx.tape,hi'.ctx.output,λb o ho=>hi'.ctx.block b o (by simp only [Γ',ho])⟩⟩
 ·rcases qV id r hr with h1 | ⟨h1,h2,h3⟩
  ·exact hi'.rows id r h1
  ·refine (hi.rows id r h3).mono bJ (hold id h1) λy hy=>?_
   obtain ⟨o,h4,h5⟩:=E0J id r y h1 h2 h3 (by rw [hold id h1];exact hy);rw [h5];exact hi'.ctx.block _ o h4
 ·rcases qV id r hr with h1 | ⟨h1,h2,h3⟩
  ·rcases qV fX r' hr' with h4 | ⟨h4,h5,h6⟩
   ·exact hi'.sep id fX r r' x x' h1 h4 kK U1 hx hx'
   ·have h7:=hi'.own id r x h1 kK hx;obtain ⟨o,h8,_⟩:=E0J fX r' x' h4 h5 h6 hx';intro e;rw [e,h8] at h7;cases h7
  ·rcases qV fX r' hr' with h4 | ⟨h4,h5,h6⟩
   ·obtain ⟨o,h8,_⟩:=E0J id r x h1 h2 h3 hx;by_cases V7:fX<h.length
    ·rw [B0Y hg.1 V7] at h4;rw [hold id h1] at hx;rw [hold fX V7] at hx';exact hi.sep id fX r r' x x' h3 (A56 _ _ h4) kK U1 hx hx'
    ·have h9:=hi'.own fX r' x' h4 (hg.2 fX r' (by omega) h4) hx';intro e;rw [<-e,h8] at h9;cases h9
   ·rw [hold id h1] at hx;rw [hold fX h4] at hx';exact hi.sep id fX r r' x x' h3 h6 kK U1 hx hx'
 ·rcases qV id r hr with h1 | ⟨h1,h2,h3⟩
  ·exact hΓ _ (hi'.own id r x h1 kK hx)
  ·rw [hold id h1] at hx;exact hi.own id r x h3 kK hx
 ·refine hi'.dom id ?_;simp at hid;omega
def yL (P:Program) (N:Nat) (ops:Array Oper) (m:Nat) (l r:List AOper):Bool :=
 let all:=l++r
 let cl:=P7 ops
 let ahead (i j:Nat):Bool:=(cl.getD i 0).testBit j
 P.follows .mixedOrders &&
 decide (ops.size=l.length+r.length) &&
 (ops.toList.zip all).all (λp=>Z7 P N ops p.1 p.2) &&
 (ops.toList.zipIdx).all (λp=>(Y1 p.1).all (λq=>decide (q<p.2))) &&
 l.all (λo=>A6f o.op&&decide (V9 o.op=o.slot.isSome)&&(match o.slot with | some j=>decide (j<m) | none=>true)) &&
 r.all (λo=>decide (o.slot=none)) &&
 l.zipIdx.all (λp=>l.zipIdx.all λq=>decide (p.2=q.2)||(decide (p.1.dst≠q.1.dst\/p.1.dst=none)&&decide (p.1.slot≠q.1.slot\/p.1.slot=none))) &&
 l.zipIdx.all (λp=>l.zipIdx.all λq=>(match q.1.dst with | some d=>!(p.1.reads.contains d)||(ahead p.2 q.2&&decide (q.2<p.2))||(ahead q.2 p.2&&decide (p.2<q.2)) | none=>true)) &&
 l.zipIdx.all (λp=>l.zipIdx.all λq=>!((X3 p.1.op||A0U p.1.op)&&decide (q.2<p.2)&&(X3 q.1.op||V9 q.1.op))||ahead p.2 q.2) &&
 l.zipIdx.all (λp=>match B6T p.1.op with | none=>true | some j=>l.zipIdx.any λq=>decide (q.1.slot=some j)&&ahead p.2 q.2)
def B56 (ops:Array Oper) (a n:Nat):Bool :=
 let cl:=P7 ops
 (E4s a n).all (λi=>(E4m i).all λj=>(cl.getD i 0).testBit j)
structure DrawOk (P:Program) (N:Nat) (ops:Array Oper) (m:Nat) (l r:List AOper):Prop where
 follows:P.follows .mixedOrders=true
 size:ops.size=l.length+r.length
 oper:∀ (i:Nat) (o:Oper) (ao:AOper),ops[i]?=some o->(l++r)[i]?=some ao->Z7 P N ops o ao=true
 dir:∀ (i:Nat) (o:Oper),ops[i]?=some o->∀ p∈Y1 o,p<i
 quiet:∀ (i:Nat) (ao:AOper),l[i]?=some ao->A6f ao.op=true/\V9 ao.op=ao.slot.isSome/\∀ j,ao.slot=some j->j<m
 rslot:∀ ao∈r,ao.slot=none
 apart:∀ (i j:Nat) ai aj,l[i]?=some ai->l[j]?=some aj->i≠j->(∀ d,ai.dst=some d->aj.dst≠some d)/\(∀ s,ai.slot=some s->aj.slot≠some s)
 reads:∀ (i j:Nat) ai aj d,l[i]?=some ai->l[j]?=some aj->aj.dst=some d->d∈ai.reads->(((P7 ops).getD i 0).testBit j=true/\j<i)\/(((P7 ops).getD j 0).testBit i=true/\i<j)
 calls:∀ (i j:Nat) ai aj,l[i]?=some ai->l[j]?=some aj->(X3 ai.op=true\/A0U ai.op=true)->j<i->(X3 aj.op=true\/V9 aj.op=true)->((P7 ops).getD i 0).testBit j=true
 own:∀ (i:Nat) ai j,l[i]?=some ai->B6T ai.op=some j->∃ (k:Nat) (ak:AOper),l[k]?=some ak/\ak.slot=some j/\((P7 ops).getD i 0).testBit k=true
theorem mem_zipIdx {α:Type} {l:List α} {i:Nat} {a:α} (h:l[i]?=some a):(a,i)∈l.zipIdx:=by
 rw [List.mem_zipIdx_iff_getElem?];simpa using h
theorem A5T {P:Program} {N:Nat} {ops:Array Oper} {m:Nat} {l r:List AOper} (hc:yL P N ops m l r=true):DrawOk P N ops m l r:=by
 simp only [yL,E3R,decide_eq_true_eq] at hc;obtain ⟨⟨⟨⟨⟨⟨⟨⟨⟨h1,h2⟩,h3⟩,h4⟩,h5⟩,h6⟩,h7⟩,h8⟩,h9⟩,h10⟩:=hc;simp only [E4H] at h3 h4 h5 h6 h7 h8 h9 h10;refine ⟨h1,h2,?_,?_,?_,?_,?_,?_,?_,?_⟩
 ·intro i o ao ho ha;refine h3 (o,ao) ?_;have:(ops.toList.zip (l++r))[i]?=some (o,ao):=by
   rw [List.getElem?_zip_eq_some];exact ⟨by simpa using ho,ha⟩
  exact E4e this
 ·intro i o ho p hp;have:=h4 (o,i) (mem_zipIdx (by simpa using ho));simpa using this p hp
 ·intro i ao ha;have:=h5 ao (E4e ha);simp only [E3R,decide_eq_true_eq] at this;refine ⟨this.1.1,this.1.2,λj hj=>?_⟩;have h:=this.2;rw [hj] at h;simpa using h
 ·intro ao ha;simpa using h6 ao ha
 ·intro i j ai aj hi hj U1;have:=h7 _ (mem_zipIdx hi) _ (mem_zipIdx hj);simp only [E4K,E3R,decide_eq_true_eq] at this;rcases this with this | ⟨ha,hb⟩
  ·exact absurd this U1
  ·refine ⟨λd hd he=>?_,λs hs he=>?_⟩
   ·rcases ha with ha | ha
    ·exact ha (by rw [hd,he])
    ·rw [hd] at ha;cases ha
   ·rcases hb with hb | hb
    ·exact hb (by rw [hs,he])
    ·rw [hs] at hb;cases hb
 ·intro i j ai aj d hi hj hd hr;have:=h8 _ (mem_zipIdx hi) _ (mem_zipIdx hj);simp only [hd,E4K,E4D,E3R,decide_eq_true_eq] at this;rcases this with (this | this) | this
  ·have hc:ai.reads.contains d=true:=by simpa using hr
   rw [hc] at this;cases this
  ·exact .inl this
  ·exact .inr this
 ·intro i j ai aj hi hj hc V7 hor;have:=h9 _ (mem_zipIdx hi) _ (mem_zipIdx hj);simp only [E4K,E4D] at this;rcases this with this | this
  ·have:((X3 ai.op||A0U ai.op)&&decide (j<i)&&(X3 aj.op||V9 aj.op))=true:=by
    simp only [E3R,decide_eq_true_eq,E4K];exact ⟨⟨hc,V7⟩,hor⟩
   simp_all
  ·exact this
 ·intro i ai j hi ho;have:=h10 _ (mem_zipIdx hi);simp only [ho,List.any_eq_true,E3R,decide_eq_true_eq] at this;obtain ⟨⟨ak,k⟩,hk,hs,ht⟩:=this;rw [List.mem_zipIdx_iff_getElem?] at hk;exact ⟨k,ak,hk,hs,ht⟩
theorem C4W {ops:Array Oper} {a n:Nat} (hc:B56 ops a n=true) (hs:ops.size=a+n):∀ i,a<=i->i<ops.size->∀ j,j<i->((P7 ops).getD i 0).testBit j=true:=by
 intro i hi V7 j hj;simp only [B56,E4H] at hc;exact hc i (by rw [List.mem_range'_1];omega) j (by simpa using hj)
structure Trace (E:N1) (hr:A6) (n0:Nat) (l:List AOper) (es:Nat->Env) (hs:Nat->A6) (vs:Nat->Val):Prop where
 step:∀ (i:Nat) o,l[i]?=some o->W3 E true hr n0 o (es i) (hs i) (λv h=>some (v,h))=some (vs i,hs (i+1))
 env:∀ (i:Nat) o,l[i]?=some o->es (i+1)=(es i).put o.dst (vs i)
theorem C6C {E:N1} {hr:A6} {n0:Nat} {R:Type} {k:Env->A6->Option R} {res:R}:∀ (l:List AOper) (e:Env) (h:A6),B1Y E hr n0 l e h k=some res ->
  ∃ es hs vs,es 0=e/\hs 0=h/\Trace E hr n0 l es hs vs/\k (es l.length) (hs l.length)=some res
 | [],e,h,C9=>⟨λ_=>e,λ_=>h,λ_=>.un,rfl,rfl,⟨λi o ho=>by simp at ho,λi o ho=>by simp at ho⟩,C9⟩
 | o::l,e,h,C9=>by
  rw [C4x,C4D] at C9;simp only [E3O] at C9;obtain ⟨p,hp,C9⟩:=C9;obtain ⟨es,hs,vs,h1,h2,h3,h4⟩:=C6C l _ _ C9;refine ⟨λi=>match i with | 0=>e | i+1=>es i,λi=>match i with | 0=>h | i+1=>hs i,λi=>match i with | 0=>p.1 | i+1=>vs i,rfl,rfl,⟨λi o' ho=>?_,λi o' ho=>?_⟩,h4⟩
  ·cases i with
   | zero=>simp at ho;subst ho;simp only;rw [h2];exact hp
   | succ i=>simp at ho;exact h3.step i o' ho
  ·cases i with
   | zero=>simp at ho;subst ho;exact h1
   | succ i=>simp at ho;exact h3.env i o' ho
def A05 (l:List AOper) (n0:Nat) (i id:Nat):Prop:=∃ ao j,l[i]?=some ao/\ao.slot=some j/\id=n0+j
section
variable {P:Program} {N m:Nat} {ops:Array Oper} {l r:List AOper} {E:N1} {hr:A6} {es:Nat->Env} {hs:Nat->A6} {vs:Nat->Val}
theorem A4H (hq:∀ (i:Nat) (ao:AOper),l[i]?=some ao->A6f ao.op=true/\V9 ao.op=ao.slot.isSome/\∀ j,ao.slot=some j->j<m) (ht:Trace E hr hr.length l es hs vs) {i:Nat} {ao:AOper} (ha:l[i]?=some ao) :
  (X3 ao.op=true/\ao.slot=none/\Grows (hs i) (hs (i+1)))\/(X3 ao.op=false/\(hs (i+1)=hs i\/∃ j row,ao.slot=some j/\hs (i+1)=(hs i).set (hr.length+j) (some row))):=by
 have h1:=ht.step i ao ha;obtain ⟨q1,q2,q3⟩:=hq i ao ha;have key:hs (i+1)=hs i\/∃ v,aop E true hr hr.length ao.slot ao.op (es i) (hs i) (λv h=>some (v,h))=some (v,hs (i+1)):=by
  unfold W3 at h1;cases hgu:ao.guard with
  | none=>rw [hgu] at h1;exact .inr ⟨_,h1⟩
  | some g =>
   rw [hgu] at h1;simp only [E3O,Option.some.injEq] at h1;obtain ⟨⟨v',h2⟩,hp,xM⟩:=h1;cases xM;unfold gd at hp;split at hp
   ·rename_i x _;cases hx:(x==g.2) with
    | true=>rw [hx] at hp;exact .inr ⟨_,hp⟩
    | false=>rw [hx] at hp;simp only [cond_false,Option.some.injEq,Prod.mk.injEq] at hp;exact .inl hp.2.symm
   ·simp only [Option.some.injEq,Prod.mk.injEq] at hp;exact .inl hp.2.symm
   ·cases hp
 cases hc:X3 ao.op with
 | true =>
  left
  have hns:V9 ao.op=false:=by cases hop:ao.op<;>simp_all [X3,V9]
  have hsn:ao.slot=none:=by
   rw [hns] at q2;cases lO:ao.slot with
   | none=>rfl
   | some j=>rw [lO] at q2;cases q2
  refine ⟨rfl,hsn,?_⟩;rcases key with h | ⟨v,h⟩
  ·rw [h];exact Grows.refl _
  ·cases hop:ao.op<;>rw [hop] at hc h<;>simp [X3] at hc
   case call f args =>
    simp only [aop,cond_true,E3O,Option.some.injEq] at h;obtain ⟨⟨v',h2⟩,hp,xM⟩:=h;cases xM;exact (B4o hp).2
   case callV f args =>
    simp only [aop,cond_true,E3O,Option.some.injEq] at h;obtain ⟨⟨v',h2⟩,hp,xM⟩:=h;cases xM;exact (B4o hp).2
 | false =>
  right
  refine ⟨rfl,?_⟩;rcases key with h | ⟨v,h⟩
  ·exact .inl h
  ·cases lO:V9 ao.op with
   | false =>
    cases hmk:A0U ao.op with
    | false =>
     cases tG:B6T ao.op with
     | none=>exact .inl (C8z q1 hmk tG hc lO h).1
     | some j=>exact .inl (D4p tG h).1
    | true=>exact .inl (D1p hmk h).1
   | true =>
    rw [lO] at q2;obtain ⟨j,hj⟩:=Option.isSome_iff_exists.1 q2.symm;rw [hj] at h;obtain ⟨row,h2,_⟩:=D1q lO h;exact .inr ⟨j,row,hj,h2⟩
theorem D2V (hq:∀ (i:Nat) (ao:AOper),l[i]?=some ao->A6f ao.op=true/\V9 ao.op=ao.slot.isSome/\∀ j,ao.slot=some j->j<m) (ht:Trace E hr hr.length l es hs vs) {i:Nat} (hi:i<l.length) :
  (hs i).length<=(hs (i+1)).length:=by
 rcases A4H hq ht (E3P hi) with ⟨_,_,h⟩ | ⟨_,h | ⟨j,row,_,h⟩⟩
 ·exact h.1.length_le
 ·rw [h];exact E3T _
 ·rw [h];simp
theorem A97 (hq:∀ (i:Nat) (ao:AOper),l[i]?=some ao->A6f ao.op=true/\V9 ao.op=ao.slot.isSome/\∀ j,ao.slot=some j->j<m) (ht:Trace E hr hr.length l es hs vs):∀ (t i:Nat),i+t<=l.length->(hs i).length<=(hs (i+t)).length
 | 0,i,_=>E3T _
 | t+1,i,h=>E4t (A97 hq ht t i (by omega)) (D2V hq ht (i:=i+t) (by omega))
theorem A4A (D:DrawOk P N ops m l r) (ht:Trace E hr hr.length l es hs vs) (h0:hs 0=hr++E3Q m none) {i id:Nat} (ho:A05 l hr.length i id):∀ k,k<=i->rd (hs k) id=none:=by
 obtain ⟨ao,j,ha,hj,rfl⟩:=ho;have hjm:=(D.quiet i ao ha).2.2 j hj;have R6:i<l.length:=(List.getElem?_eq_some_iff.1 ha).1;intro k
 induction k with
 | zero =>
  intro _;rw [h0];unfold rd;rw [E35 (by omega)];simp only [List.getElem?_replicate];split<;>rfl
 | succ k ih =>
  intro hk;have ih:=ih (by omega);have hkl:k<l.length:=by omega
  have hin:hr.length+j<(hs k).length:=by
   have:=A97 D.quiet ht k 0 (by omega);rw [h0] at this;simp at this;omega
  rcases A4H D.quiet ht (E3P hkl) with ⟨_,_,h⟩ | ⟨_,h | ⟨j',row,hj',h⟩⟩
  ·rw [B0Y h.1 hin];exact ih
  ·rw [h];exact ih
  ·rw [h];have U1:j≠j':=by
    intro e;subst e;exact (D.apart i k ao l[k] ha (E3P hkl) (by omega)).2 j hj hj'
   rw [A7 (by omega)];exact ih
theorem mV (D:DrawOk P N ops m l r) (ht:Trace E hr hr.length l es hs vs) {k id:Nat} (hid:id<(hs k).length) (bH:∀ i,k<=i->¬ A05 l hr.length i id):∀ t,k+t<=l.length->rd (hs (k+t)) id=rd (hs k) id
 | 0,_=>rfl
 | t+1,hl=>by
  have ih:=mV D ht hid bH t (by omega);have V7:k+t<l.length:=by omega
  have hin:id<(hs (k+t)).length:=Nat.lt_of_lt_of_le hid (A97 D.quiet ht t k (by omega));rw [<-ih];rcases A4H D.quiet ht (E3P V7) with ⟨_,_,h⟩ | ⟨_,h | ⟨j',row,hj',h⟩⟩
  ·exact B0Y h.1 hin
  ·show rd (hs (k+t+1)) id=_;rw [h]
  ·show rd (hs (k+t+1)) id=_;rw [h];have U1:hr.length+j'≠id:=λe=>bH (k+t) (by omega) ⟨l[k+t],j',E3P V7,hj',e.symm⟩
   rw [A7 U1]
def und (l:List AOper) (n0:Nat) (done:Nat->Bool) (id:Nat):Bool:=(E4m l.length).any λi=>!done i&&decide (((l[i]?).bind (·.slot)).map (n0 + ·)=some id)
theorem Y4 {n0:Nat} {done:Nat->Bool} {id:Nat}:und l n0 done id=true↔∃ i,done i=false/\A05 l n0 i id:=by
 unfold und A05;simp only [List.any_eq_true,List.mem_range,E3R,E4D,decide_eq_true_eq,E34,E3O];constructor
 ·rintro ⟨i,hi,hd,j,⟨ao,ha,hj⟩,rfl⟩;exact ⟨i,hd,ao,j,ha,hj,rfl⟩
 ·rintro ⟨i,hd,ao,j,ha,hj,rfl⟩;exact ⟨i,(List.getElem?_eq_some_iff.1 ha).1,hd,j,⟨ao,ha,hj⟩,rfl⟩
def HD (F:A6) (u:Nat->Bool) (L:Nat):A6:=(E4m L).map λid=>if u id=true then none else rd F id
theorem I8 (F:A6) (u:Nat->Bool) (L:Nat):(HD F u L).length=L:=by simp [HD]
theorem rU (F:A6) (u:Nat->Bool) (L id:Nat):rd (HD F u L) id=if id<L/\u id=false then rd F id else none:=by
 unfold HD
 conv=>lhs;unfold rd
 rw [List.getElem?_map];by_cases h:id<L
 ·rw [List.getElem?_range h];cases hu:u id
  ·simp [h,hu];rfl
  ·simp [h,hu]
 ·rw [E4q (by simp;omega)];simp [h]
theorem vR {h h':A6} (hl:h.length=h'.length) (hr:∀ id,id<h.length->rd h id=rd h' id):h=h':=by
 apply List.ext_getElem hl;intro i h1 h2;have:=hr i h1;unfold rd at this;rw [E3P h1,E3P h2] at this;simpa using this
structure Sim (Γ:Ctx) (l:List AOper) (n0 N:Nat) (e:Env) (es:Nat->Env) (hs:Nat->A6) (vs:Nat->Val) (μ0:Mu) (done:Nat->Bool) (q:Nat) (μ:Mu) (a:Act) (w:World):Prop where
 qle:q<=l.length
 calls:∀ (i:Nat) ao,l[i]?=some ao->X3 ao.op=true->(done i=true↔i<q)
 envD:∀ (i:Nat) ao d,l[i]?=some ao->done i=true->ao.dst=some d->RV μ (vs i) (a.tmps.getD d undef)
 envO:∀ t,(∀ (i:Nat) ao,l[i]?=some ao->done i=true->ao.dst≠some t)->RV μ (e.get t) (a.tmps.getD t undef)
 inv:Inv Γ μ (HD (hs l.length) (und l n0 done) (hs q).length) w
 free:∀ id,und l n0 done id=true -> μ id=none
 le:μ0.le μ
 keep:∀ id,id<n0 -> μ id = μ0 id
 size:N<=a.tmps.size
 defers:a.defers = Γ.ds
end
end
section
theorem Env.get_keep_mem (e:Env) (l:List Nat) (t:Nat):(e.keep l).get t=if t∈l then e.get t else .un:=by
 induction l with
 | nil=>rfl
 | cons x r ih =>
  simp only [Env.keep,Env.get];by_cases h:x=t
  ·subst h;simp
  ·have:Nat.beq x t=false:=by cases hb:Nat.beq x t with
    | false=>rfl
    | true=>exact absurd (Nat.eq_of_beq_eq_true hb) h
   rw [this,cond_false,ih];have h':t≠x:=Ne.symm h;simp [h']
section
variable {P:Program} {N m:Nat} {ops:Array Oper} {l r:List AOper} {E:N1} {hr:A6} {e:Env} {es:Nat->Env} {hs:Nat->A6} {vs:Nat->Val} {Γ:Ctx} {μ0:Mu}
theorem oJ (D:DrawOk P N ops m l r) (ht:Trace E hr hr.length l es hs vs) {j t:Nat} {aj:AOper} (mM:l[j]?=some aj) (hd:aj.dst=some t):∀ k,j<k->k<=l.length->(es k).get t=vs j:=by
 intro k
 induction k with
 | zero=>intro h;omega
 | succ k ih =>
  intro hjk hk;rw [ht.env k l[k] (E3P (by omega))];by_cases e:j=k
  ·subst e;have:l[j]=aj:=by have h2:=E3P (l:=l) (i:=j) (by omega);rw [mM] at h2;cases h2;rfl
   rw [this,hd];exact Env.get_put_same _ _ _
  ·have U1:=(D.apart j k aj l[k] mM (E3P (by omega)) e).1 t hd;cases hdk:l[k].dst with
   | none=>exact ih (by omega) (by omega)
   | some d =>
    rw [hdk] at U1;rw [Env.get_put_other _ _ _ _ (by intro h;subst h;exact U1 rfl)];exact ih (by omega) (by omega)
theorem vL (ht:Trace E hr hr.length l es hs vs) (he:es 0=e) {t:Nat}:∀ k,k<=l.length->(∀ (j:Nat) aj,j<k->l[j]?=some aj->aj.dst≠some t)->(es k).get t=e.get t:=by
 intro k
 induction k with
 | zero=>intro _ _;rw [he]
 | succ k ih =>
  intro hk bH;rw [ht.env k l[k] (E3P (by omega))];have U1:=bH k l[k] (by omega) (E3P (by omega));cases hdk:l[k].dst with
  | none=>exact ih (by omega) λj aj hj=>bH j aj (by omega)
  | some d =>
   rw [hdk] at U1;rw [Env.get_put_other _ _ _ _ (by intro h;subst h;exact U1 rfl)];exact ih (by omega) λj aj hj=>bH j aj (by omega)
def mP (done:Nat->Bool) (i:Nat):Nat->Bool:=λk=>decide (k=i)||done k
theorem sW (done:Nat->Bool) (i:Nat):mP done i i=true:=by simp [mP]
theorem X9 (done:Nat->Bool) (i:Nat) {k:Nat} (h:k≠i):mP done i k=done k:=by simp [mP,h]
theorem D9J (D:DrawOk P N ops m l r) (ht:Trace E hr hr.length l es hs vs) (he:es 0=e) {done:Nat->Bool} {q:Nat} {μ:Mu} {a:Act} {w:World}
  (S:Sim Γ l hr.length N e es hs vs μ0 done q μ a w) {i:Nat} {ao:AOper} (ha:l[i]?=some ao) (hnd:done i=false) (hah:∀ b,((P7 ops).getD i 0).testBit b=true->done b=true) (vQ:∀ j,done j=true->∀ b,((P7 ops).getD j 0).testBit b=true->done b=true):SEnv μ ((es i).keep ao.reads) a:=by
 intro t;rw [Env.get_keep_mem];split
 ·rename_i vS;have R6:i<l.length:=(List.getElem?_eq_some_iff.1 ha).1;by_cases hw:∃ (j:Nat) (aj:AOper),l[j]?=some aj/\aj.dst=some t
  ·obtain ⟨j,aj,mM,hd⟩:=hw;rcases D.reads i j ao aj t ha mM hd vS with ⟨h1,h2⟩ | ⟨h1,h2⟩
   ·rw [oJ D ht mM hd i h2 (by omega)];exact S.envD j aj t mM (hah j h1) hd
   ·have hnj:done j=false:=by
     cases hdj:done j with
     | false=>rfl
     | true=>rw [vQ j hdj i h1] at hnd;cases hnd
    have D97:∀ (k:Nat) (ak:AOper),l[k]?=some ak->ak.dst=some t->k=j:=λk ak nN hk=>by
     by_cases e:k=j
     ·exact e
     ·exact absurd hd ((D.apart k j ak aj nN mM e).1 t hk)
    rw [vL ht he i (by omega) λk ak hk nN hkd=>by have:=D97 k ak nN hkd;omega];exact S.envO t λk ak nN hk hkd=>by rw [D97 k ak nN hkd,hnj] at hk;cases hk
  ·have bH:∀ (j:Nat) (aj:AOper),l[j]?=some aj->aj.dst≠some t:=λj aj mM hd=>hw ⟨j,aj,mM,hd⟩
   rw [vL ht he i (by omega) λj aj _ mM=>bH j aj mM];exact S.envO t λj aj mM _=>bH j aj mM
 ·trivial
theorem C88 {n0 i id:Nat} (h:id<n0):¬ A05 l n0 i id:=by
 rintro ⟨ao,j,_,_,rfl⟩;omega
theorem jM (D:DrawOk P N ops m l r) (ht:Trace E hr hr.length l es hs vs) (h0:hs 0=hr++E3Q m none) {k:Nat} (hk:k<=l.length):hr.length+m<=(hs k).length:=by
 have:=A97 D.quiet ht k 0 (by omega);rw [h0] at this;simp at this;omega
theorem D0G (D:DrawOk P N ops m l r) {n0 i id:Nat} (h:A05 l n0 i id):id<n0+m:=by
 obtain ⟨ao,j,ha,hj,rfl⟩:=h;have:=(D.quiet i ao ha).2.2 j hj;omega
theorem C56 (D:DrawOk P N ops m l r) {n0 i k id:Nat} (h:A05 l n0 i id) (h2:A05 l n0 k id):i=k:=by
 obtain ⟨ao,j,ha,hj,rfl⟩:=h;obtain ⟨ao',j',ha',hj',he⟩:=h2;by_cases e:i=k
 ·exact e
 ·have:j=j':=by omega
  subst this;exact absurd hj' ((D.apart i k ao ao' ha ha' e).2 j hj)
theorem D2Q (D:DrawOk P N ops m l r) (ht:Trace E hr hr.length l es hs vs) (h0:hs 0=hr++E3Q m none) {done:Nat->Bool} {q:Nat} {μ:Mu} {a:Act} {w:World}
  (S:Sim Γ l hr.length N e es hs vs μ0 done q μ a w) {i:Nat} {ao:AOper} (ha:l[i]?=some ao) (hnd:done i=false) {V:Value} {w':World} {μ':Mu} {q':Nat} {dst:Option Nat} (yU:dst=ao.dst) (E0I:wQ N dst=true)
  (bJ:μ.le μ') (hv:RV μ' (vs i) V) (hinv:Inv Γ μ' (HD (hs l.length) (und l hr.length (mP done i)) (hs q').length) w') (bG:Keeps μ μ' (HD (hs l.length) (und l hr.length done) (hs q).length) hr.length ao.slot)
  (hq':q'<=l.length) (E0E:∀ (k:Nat) ak,l[k]?=some ak->X3 ak.op=true->(mP done i k=true↔k<q')):Sim Γ l hr.length N e es hs vs μ0 (mP done i) q' μ' (a.put dst V) w':=by
 have qV:∀ t,dst≠some t->(a.put dst V).tmps.getD t undef=a.tmps.getD t undef:=by
  intro t h;cases hd:dst with
  | none=>rfl
  | some d =>
   rw [hd] at h;simp [Act.put,Array.getElem?_setIfInBounds_ne (show d≠t from λe=>h (by rw [e]))]
 refine ⟨hq',E0E,?_,?_,hinv,?_,Mu.le_trans S.le bJ,?_,by rw [Act.size_put];exact S.size,?_⟩
 ·intro k ak d nN hdk hd;by_cases e:k=i
  ·subst e;rw [ha] at nN;cases nN;rw [yU,hd];have V7:d<a.tmps.size:=by
    rw [yU,hd] at E0I;simp [wQ] at E0I;exact Nat.lt_of_lt_of_le E0I S.size
   have:(a.put (some d) V).tmps.getD d undef=V:=by simp [Act.put,Array.getD,V7]
   rw [this];exact hv
  ·rw [X9 _ _ e] at hdk;rw [qV d (by rw [yU];exact λh=>(D.apart i k ao ak ha nN (Ne.symm e)).1 d h hd)];exact (S.envD k ak d nN hdk hd).mono bJ
 ·intro t bH;have h1:=bH i ao ha (sW _ _);rw [qV t (by rw [yU];exact h1)];refine (S.envO t λk ak nN hdk=>?_).mono bJ;by_cases e:k=i
  ·subst e;rw [hnd] at hdk;cases hdk
  ·exact bH k ak nN (by rw [X9 _ _ e];exact hdk)
 ·intro id hid;obtain ⟨k,hk,ho⟩:=Y4.1 hid;have e:k≠i:=by intro e;subst e;rw [sW] at hk;cases hk
  rw [X9 _ _ e] at hk;have h1:=S.free id (Y4.2 ⟨k,hk,ho⟩);rw [<-h1];refine bG id (by rw [I8];have:=jM D ht h0 S.qle;have:=D0G D ho;omega) λj hj he=>e ?_
  exact C56 D ho ⟨ao,j,ha,hj,he⟩
 ·intro id hid;rw [<-S.keep id hid];exact bG id (by rw [I8];have:=jM D ht h0 S.qle;omega) λj hj he=>by omega
 ·have:∀ d:Option Nat,(a.put d V).defers=a.defers:=λd=>by cases d<;>rfl
  rw [this];exact S.defers
theorem B7b (D:DrawOk P N ops m l r) {n0 i id:Nat} {done:Nat->Bool} (h:¬ A05 l n0 i id):und l n0 (mP done i) id=und l n0 done id:=by
 rw [Bool.eq_iff_iff,Y4,Y4];constructor
 ·rintro ⟨k,hk,ho⟩;have e:k≠i:=by intro e;subst e;exact h ho
  exact ⟨k,by rw [X9 _ _ e] at hk;exact hk,ho⟩
 ·rintro ⟨k,hk,ho⟩;have e:k≠i:=by intro e;subst e;exact h ho
  exact ⟨k,by rw [X9 _ _ e];exact hk,ho⟩
theorem D5e (D:DrawOk P N ops m l r) {n0 i id:Nat} {done:Nat->Bool} (h:A05 l n0 i id):und l n0 (mP done i) id=false:=by
 cases hu:und l n0 (mP done i) id with
 | false=>rfl
 | true =>
  obtain ⟨k,hk,ho⟩:=Y4.1 hu;have e:=C56 D ho h;subst e;rw [sW] at hk;cases hk
theorem E1q (D:DrawOk P N ops m l r) (ht:Trace E hr hr.length l es hs vs) (h0:hs 0=hr++E3Q m none) {done:Nat->Bool} {q:Nat} (hq:q<=l.length) (id:Nat) (x:Row) (hx:rd hr id=some x) :
  rd (HD (hs l.length) (und l hr.length done) (hs q).length) id=some x:=by
 have V7:=C4 hx;have hu:und l hr.length done id=false:=by
  cases hu:und l hr.length done id with
  | false=>rfl
  | true=>obtain ⟨k,_,ho⟩:=Y4.1 hu;exact absurd ho (C88 V7)
 rw [rU,if_pos ⟨by have:=jM D ht h0 hq;omega,hu⟩];have:=mV D ht (k:=0) (id:=id) (by rw [h0];simp;omega) (λi _=>C88 V7) l.length (by omega);rw [E4b] at this;rw [this,h0,D1 V7];exact hx
theorem D8r (D:DrawOk P N ops m l r) (ht:Trace E hr hr.length l es hs vs) (h0:hs 0=hr++E3Q m none) {done:Nat->Bool} {q:Nat} {μ:Mu} {a:Act} {w:World}
  (S:Sim Γ l hr.length N e es hs vs μ0 done q μ a w) {i:Nat} {ao:AOper} (ha:l[i]?=some ao) (hnd:done i=false):sR μ (HD (hs l.length) (und l hr.length done) (hs q).length) hr.length ao.slot:=by
 cases lO:ao.slot with
 | none=>trivial
 | some j =>
  refine ⟨S.free _ (Y4.2 ⟨i,hnd,ao,j,ha,lO,rfl⟩),?_⟩;rw [I8];have:=jM D ht h0 S.qle;have:=(D.quiet i ao ha).2.2 j lO;omega
theorem vU (D:DrawOk P N ops m l r) (ht:Trace E hr hr.length l es hs vs) {q:Nat}:∀ t,q+t<=l.length->(∀ (k:Nat) ak,q<=k->k<q+t->l[k]?=some ak->X3 ak.op=false)->(hs (q+t)).length=(hs q).length
 | 0,_,_=>rfl
 | t+1,hl,bH=>by
  have ih:=vU D ht (q:=q) t (by omega) λk ak h1 h2=>bH k ak h1 (by omega)
  rw [<-ih];have hk:q+t<l.length:=by omega
  rcases A4H D.quiet ht (E3P hk) with ⟨h,_,_⟩ | ⟨_,h | ⟨j,row,_,h⟩⟩
  ·have:=bH (q+t) l[q+t] (by omega) (by omega) (E3P hk);rw [h] at this;cases this
  ·show (hs (q+t+1)).length=_;rw [h]
  ·show (hs (q+t+1)).length=_;rw [h];simp
theorem D9L (D:DrawOk P N ops m l r) (ht:Trace E hr hr.length l es hs vs) (h0:hs 0=hr++E3Q m none) {done:Nat->Bool} {q:Nat} {μ:Mu} {a:Act} {w:World}
  (S:Sim Γ l hr.length N e es hs vs μ0 done q μ a w) {i:Nat} {ao:AOper} (ha:l[i]?=some ao) (hah:∀ b,((P7 ops).getD i 0).testBit b=true->done b=true) (hl:X3 ao.op=true\/A0U ao.op=true) :
  ∀ id x,rd (hs i) id=some x->rd (HD (hs l.length) (und l hr.length done) (hs q).length) id=some x:=by
 have R6:i<l.length:=(List.getElem?_eq_some_iff.1 ha).1;have hql:=S.qle;have hlen:(hs i).length<=(hs q).length:=by
  by_cases hiq:i<=q
  ·have:=A97 D.quiet ht (q-i) i (by omega)
   rwa [show i+(q-i)=q by omega] at this
  ·have:=vU D ht (q:=q) (i-q) (by omega) λk ak h1 h2 nN=>by
    cases hck:X3 ak.op with
    | false=>rfl
    | true =>
     have h3:=hah k (D.calls i k ao ak ha nN hl (by omega) (.inl hck));have:=(S.calls k ak nN hck).1 h3;omega
   rw [show q+(i-q)=i by omega] at this;omega
 intro id x hx;have A0R:∀ k,i<=k->¬ A05 l hr.length k id:=λk hk ho'=>by
  have:=A4A D ht h0 ho' i hk;rw [this] at hx;cases hx
 have hu:und l hr.length done id=false:=by
  cases hu:und l hr.length done id with
  | false=>rfl
  | true =>
   obtain ⟨k,hk,ho'⟩:=Y4.1 hu;by_cases e1:i<=k
   ·exact absurd ho' (A0R k e1)
   ·obtain ⟨ak,j,nN,hj,_⟩:=ho';have hsk:V9 ak.op=true:=by have:=(D.quiet k ak nN).2.1;rw [hj] at this;exact this
    have:=hah k (D.calls i k ao ak ha nN hl (by omega) (.inr hsk));rw [hk] at this;cases this
 rw [rU,if_pos ⟨by have:=C4 hx;omega,hu⟩];have:=mV D ht (C4 hx) A0R (l.length-i) (by omega);rw [show i+(l.length-i)=l.length by omega] at this;rw [this];exact hx
theorem D9K (D:DrawOk P N ops m l r) (ht:Trace E hr hr.length l es hs vs) (h0:hs 0=hr++E3Q m none) {done:Nat->Bool} {q:Nat} {μ:Mu} {a:Act} {w:World}
  (S:Sim Γ l hr.length N e es hs vs μ0 done q μ a w) {i j:Nat} {ao:AOper} (ha:l[i]?=some ao) (hah:∀ b,((P7 ops).getD i 0).testBit b=true->done b=true) (tG:B6T ao.op=some j) :
  ∀ x,rd (hs i) (hr.length+j)=some x->rd (HD (hs l.length) (und l hr.length done) (hs q).length) (hr.length+j)=some x:=by
 have R6:i<l.length:=(List.getElem?_eq_some_iff.1 ha).1;have hql:=S.qle;intro x hx;obtain ⟨k,ak,nN,hsk,E2R⟩:=D.own i ao j ha tG;have hO:A05 l hr.length k (hr.length+j):=⟨ak,j,nN,hsk,rfl⟩;have hdk:=hah k E2R;have A0R:∀ k',i<=k'->¬ A05 l hr.length k' (hr.length+j):=λk' hk' ho'=>by
  have:=A4A D ht h0 ho' i hk';rw [this] at hx;cases hx
 have hu:und l hr.length done (hr.length+j)=false:=by
  cases hu:und l hr.length done (hr.length+j) with
  | false=>rfl
  | true =>
   obtain ⟨k',hk',ho'⟩:=Y4.1 hu;have:=C56 D ho' hO;subst this;rw [hk'] at hdk;cases hdk
 rw [rU,if_pos ⟨by have:=jM D ht h0 S.qle;have:=D0G D hO;omega,hu⟩];have:=mV D ht (C4 hx) A0R (l.length-i) (by omega);rw [show i+(l.length-i)=l.length by omega] at this;rw [this];exact hx
open Classical in
theorem D2R (D:DrawOk P N ops m l r) (hE:eV P E) (ht:Trace E hr hr.length l es hs vs) (h0:hs 0=hr++E3Q m none) (he:es 0=e) {done:Nat->Bool} {q:Nat} {μ:Mu} {a:Act} {w:World}
  (S:Sim Γ l hr.length N e es hs vs μ0 done q μ a w) {i:Nat} {ao:AOper} {o:Oper} (ha:l[i]?=some ao) (ho:ops[i]?=some o) (hnd:done i=false)
  (hah:∀ b,((P7 ops).getD i 0).testBit b=true->done b=true) (vQ:∀ j,done j=true->∀ b,((P7 ops).getD j 0).testBit b=true->done b=true)
  {next:Act->World->Prop} {Q:Exit->Act->World->Prop} (hn:∀ V w' μ' q',Sim Γ l hr.length N e es hs vs μ0 (mP done i) q' μ' (a.put o.dst V) w'->next (a.put o.dst V) w') :
  if Region.wanted o (yielded ops a.tmps) then o.wp P a w next Q\/(o.asks P a w/\LetsOut Q) else next (a.put o.dst undef) w:=by
 have R6:i<l.length:=(List.getElem?_eq_some_iff.1 ha).1;have hco:Z7 P N ops o ao=true:=D.oper i o ao ho (by rw [E4r R6];exact ha);have yU:o.dst=ao.dst/\wQ N o.dst=true:=by
  simp only [Z7,E3R,decide_eq_true_eq] at hco;exact ⟨hco.1.1.1,hco.1.1.2⟩
 have C7J:=D9J D ht he S ha hnd hah vQ;have hrd:=E1q D ht h0 (done:=done) S.qle;have D2b:=D8r D ht h0 S ha hnd;have kA:=ht.step i ao ha;have D93:∀ (E:N1) (h:A6),W3 E true hr hr.length ao (es i) h (λv h=>some (v,h))=W3 E true hr hr.length ao ((es i).keep ao.reads) h λv h=>some (v,h) :=
  λE h=>B8O λt ht'=>by rw [Env.get_keep_mem,if_pos ht']
 have hqi:=D.quiet i ao ha;have E3t:=jM D ht h0 S.qle;cases hc:X3 ao.op with
 | false =>
  have key:∃ h2,W3 E true hr hr.length ao (es i) (HD (hs l.length) (und l hr.length done) (hs q).length) (λv h=>some (v,h))=some (vs i,h2)/\h2=HD (hs l.length) (und l hr.length (mP done i)) (hs q).length:=by
   have C0R:hs (i+1)=hs i->HD (hs l.length) (und l hr.length done) (hs q).length=HD (hs l.length) (und l hr.length (mP done i)) (hs q).length:=by
    intro hsame;refine vR (by rw [I8,I8]) λid hid=>?_
    rw [I8] at hid;rw [rU,rU];by_cases tG:A05 l hr.length i id
    ·rw [D5e D tG,Y4.2 ⟨i,hnd,tG⟩];have h1:=A4A D ht h0 tG i (E3T _);have h2:=mV D ht (k:=i+1) (id:=id) (by rw [hsame];have:=jM D ht h0 (k:=i) (by omega);have:=D0G D tG;omega)
      (λk hk ho'=>by have:=C56 D ho' tG;omega) (l.length-(i+1)) (by omega)
     rw [show i+1+(l.length-(i+1))=l.length by omega,hsame,h1] at h2;simp [h2]
    ·rw [B7b D tG]
   have A7u:∀ v h3,aop E true hr hr.length ao.slot ao.op (es i) (hs i) (λv h=>some (v,h))=some (v,h3)->h3=hs (i+1) ->
     ∃ h2,aop E true hr hr.length ao.slot ao.op (es i) (HD (hs l.length) (und l hr.length done) (hs q).length) (λv h=>some (v,h))=some (v,h2)/\h2=HD (hs l.length) (und l hr.length (mP done i)) (hs q).length:=by
    intro v h3 A7u he3;subst he3;cases lO:V9 ao.op with
    | false =>
     cases hmk:A0U ao.op with
     | false =>
      cases tG:B6T ao.op with
      | none =>
       obtain ⟨h4,h5⟩:=C8z hqi.1 hmk tG hc lO A7u;exact ⟨_,h5 _,C0R h4⟩
      | some j =>
       obtain ⟨h4,h5⟩:=D4p tG A7u;exact ⟨_,h5 _ (D9K D ht h0 S ha hah tG),C0R h4⟩
     | true =>
      obtain ⟨h4,h5⟩:=D1p hmk A7u;exact ⟨_,h5 _ (D9L D ht h0 S ha hah (.inr hmk)),C0R h4⟩
    | true =>
     have h6:=hqi.2.1;rw [lO] at h6;obtain ⟨j,hj⟩:=Option.isSome_iff_exists.1 h6.symm;rw [hj] at A7u ⊢;obtain ⟨row,h7,h8⟩:=D1q lO A7u;refine ⟨_,h8 _,?_⟩;have tG:A05 l hr.length i (hr.length+j):=⟨ao,j,ha,hj,rfl⟩;have hjm:=hqi.2.2 j hj;have hbi:=jM D ht h0 (k:=i) (by omega);refine vR (by rw [E4o,I8,I8]) λid hid=>?_
     rw [E4o,I8] at hid;by_cases e1:hr.length+j=id
     ·subst e1;rw [B6 (by rw [I8];omega),rU,if_pos ⟨by omega,D5e D tG⟩];have h9:=mV D ht (k:=i+1) (id:=hr.length+j) (by rw [h7];simp;omega) (λk hk ho'=>by have:=C56 D ho' tG;omega) (l.length-(i+1)) (by omega);rw [show i+1+(l.length-(i+1))=l.length by omega,h7,B6 (by omega)] at h9;exact h9.symm
     ·rw [A7 e1,rU,rU,B7b D];rintro ⟨ao',j',h10,h11,h12⟩;rw [ha] at h10;cases h10;rw [hj] at h11;cases h11;exact e1 h12.symm
   unfold W3 at kA ⊢;cases hgu:ao.guard with
   | none=>rw [hgu] at kA;exact A7u _ _ kA rfl
   | some g =>
    rw [hgu] at kA;simp only [E3O,Option.some.injEq] at kA;obtain ⟨⟨v',h3⟩,hp,xM⟩:=kA;simp only [Prod.mk.injEq] at xM;obtain ⟨hv',hh3⟩:=xM;unfold gd at hp ⊢;split at hp
    ·rename_i x uO;simp only [uO];cases hx:(x==g.2) with
     | true =>
      rw [hx] at hp;obtain ⟨h2,h4,h5⟩:=A7u _ _ hp hh3;exact ⟨h2,by rw [cond_true,h4];simp [hv'],h5⟩
     | false =>
      rw [hx] at hp;simp only [cond_false,Option.some.injEq,Prod.mk.injEq] at hp;refine ⟨_,by rw [cond_false];simp [<-hv',<-hp.1],C0R ?_⟩;rw [<-hh3];exact hp.2.symm
    ·rename_i uO;simp only [uO];simp only [Option.some.injEq,Prod.mk.injEq] at hp;refine ⟨_,by simp [<-hv',<-hp.1],C0R ?_⟩;rw [<-hh3];exact hp.2.symm
    ·cases hp
  obtain ⟨h2,hk1,hk2⟩:=key;rw [D93] at hk1;refine A30 hE hco hk1 C7J S.inv hrd D2b ?_;intro V w' μ' bJ hv hinv bG;subst hk2;refine hn V w' μ' q (D2Q D ht h0 S ha hnd yU.1 yU.2 bJ hv hinv bG S.qle ?_);intro k ak nN hck;have e1:k≠i:=by intro e1;subst e1;rw [ha] at nN;cases nN;rw [hc] at hck;cases hck
  rw [X9 _ _ e1];exact S.calls k ak nN hck
 | true =>
  have hsn:ao.slot=none:=by
   rcases A4H D.quiet ht ha with ⟨_,h,_⟩ | ⟨h,_⟩
   ·exact h
   ·rw [hc] at h;cases h
  have E3N:q<=i:=by
   have:=S.calls i ao ha hc;rw [hnd] at this;have:¬ i<q:=λh=>by have:=this.2 h;cases this
   omega
  have hlen:(hs i).length=(hs q).length:=by
   have:=vU D ht (q:=q) (i-q) (by omega) λk ak h1 h2 nN=>by
    cases hck:X3 ak.op with
    | false=>rfl
    | true =>
     have h3:=hah k (D.calls i k ao ak ha nN (.inl hc) (by omega) (.inl hck));have:=(S.calls k ak nN hck).1 h3;omega
   rwa [show q+(i-q)=i by omega] at this
  have D7t:∀ id,¬ A05 l hr.length i id:=by
   rintro id ⟨ao',j,h1,h2,_⟩;rw [ha] at h1;cases h1;rw [hsn] at h2;cases h2
  have D86:∀ (k:Nat) ak,l[k]?=some ak->X3 ak.op=true->(mP done i k=true↔k<i+1):=by
   intro k ak nN hck;by_cases e1:k=i
   ·subst e1;simp [sW]
   ·rw [X9 _ _ e1];constructor
    ·intro hk;have:¬ i<k:=λh=>by
      have h2:=vQ k hk i (D.calls k i ak ao nN ha (.inl hck) h (.inl hc));rw [hnd] at h2;cases h2
     omega
    ·intro hk;exact hah k (D.calls i k ao ak ha nN (.inl hc) (by omega) (.inl hck))
  have E3y:=D2V D.quiet ht R6;have C0R:hs (i+1)=hs i->HD (hs l.length) (und l hr.length done) (hs q).length=HD (hs l.length) (und l hr.length (mP done i)) (hs (i+1)).length:=by
   intro hsame;rw [hsame,hlen];refine vR (by rw [I8,I8]) λid hid=>?_
   rw [rU,rU,B7b D (D7t id)]
  have A7u:∀ (g:Nat) (args:List Val),quiet (hs i) (E g args (hs i))=some (vs i,hs (i+1)) ->
    ∃ E':N1,eV P E'/\quiet (HD (hs l.length) (und l hr.length done) (hs q).length) (E' g args (HD (hs l.length) (und l hr.length done) (hs q).length))=some (vs i,HD (hs l.length) (und l hr.length (mP done i)) (hs (i+1)).length):=by
   intro g args D7n;obtain ⟨h1,h2⟩:=B4o D7n;obtain ⟨hg,hk,_⟩:=hE _ _ _ _ _ h1;have A56:∀ id x,rd (hs i) id=some x->rd (HD (hs l.length) (und l hr.length done) (hs q).length) id=some x:=by
    intro id x hx;have A0R:∀ k,i<=k->¬ A05 l hr.length k id:=λk hk ho'=>by
     have:=A4A D ht h0 ho' i hk;rw [this] at hx;cases hx
    have hu:und l hr.length done id=false:=by
     cases hu:und l hr.length done id with
     | false=>rfl
     | true =>
      obtain ⟨k,hk,ho'⟩:=Y4.1 hu;by_cases e1:i<=k
      ·exact absurd ho' (A0R k e1)
      ·obtain ⟨ak,j,nN,hj,_⟩:=ho';have hsk:V9 ak.op=true:=by have:=(D.quiet k ak nN).2.1;rw [hj] at this;exact this
       have:=hah k (D.calls i k ao ak ha nN (.inl hc) (by omega) (.inr hsk));rw [hk] at this;cases this
    rw [rU,if_pos ⟨by have:=C4 hx;omega,hu⟩];have:=mV D ht (C4 hx) A0R (l.length-i) (by omega);rw [show i+(l.length-i)=l.length by omega] at this;rw [this];exact hx
   have hfr:=hk.frame h2 (hD:=HD (hs l.length) (und l hr.length done) (hs q).length) (by rw [I8,hlen]) A56;have uO:HD (hs l.length) (und l hr.length done) (hs q).length++(hs (i+1)).drop (hs i).length=HD (hs l.length) (und l hr.length (mP done i)) (hs (i+1)).length:=by
    refine vR (by rw [E3S,I8,I8,List.length_drop];omega) λid hid=>?_
    rw [B0i (by rw [I8,hlen])];split
    ·rw [rU,rU,B7b D (D7t id)];have:id<(hs q).length:=by omega
     have:id<(hs (i+1)).length:=by omega
     simp [*]
    ·rename_i hge;have hbi:=jM D ht h0 (k:=i) (by omega);have bH:∀ k,¬ A05 l hr.length k id:=λk ho'=>by have:=D0G D ho';omega
     have hu:und l hr.length (mP done i) id=false:=by
      cases hu:und l hr.length (mP done i) id with
      | false=>rfl
      | true=>obtain ⟨k,_,ho'⟩:=Y4.1 hu;exact absurd ho' (bH k)
     have V7:id<(hs (i+1)).length:=by
      rw [E3S,I8,List.length_drop] at hid;omega
     rw [rU,if_pos ⟨V7,hu⟩];have:=mV D ht V7 (λk _=>bH k) (l.length-(i+1)) (by omega);rw [show i+1+(l.length-(i+1))=l.length by omega] at this;exact this.symm
   rw [uO] at hfr;have hgr:Grows (HD (hs l.length) (und l hr.length done) (hs q).length) (HD (hs l.length) (und l hr.length (mP done i)) (hs (i+1)).length):=by
    rw [<-uO];refine ⟨List.prefix_append _ _,λid x hid hx=>?_⟩;rw [I8] at hid;rw [B0i (by rw [I8,hlen]),if_neg (by omega)] at hx;exact h2.2 id x (by omega) hx
   refine ⟨λf' a' h'=>if f'=g/\a'=args/\h'=HD (hs l.length) (und l hr.length done) (hs q).length then some (vs i,HD (hs l.length) (und l hr.length (mP done i)) (hs (i+1)).length) else none,?_,?_⟩
   ·intro f' a' h' v' h'' hv';simp only at hv';split at hv'
    ·rename_i A0Q;obtain ⟨rfl,rfl,rfl⟩:=A0Q;cases hv';exact ⟨hg,hfr,by rw [I8,I8];omega⟩
    ·cases hv'
   ·exact (congrArg (quiet _) (if_pos ⟨rfl,rfl,rfl⟩)).trans (quiet_of hgr)
  have key:∃ E':N1,eV P E'/\W3 E' true hr hr.length ao (es i) (HD (hs l.length) (und l hr.length done) (hs q).length) (λv h=>some (v,h))=some (vs i,HD (hs l.length) (und l hr.length (mP done i)) (hs (i+1)).length):=by
   have hop:∀ v h3,aop E true hr hr.length ao.slot ao.op (es i) (hs i) (λv h=>some (v,h))=some (v,h3)->v=vs i->h3=hs (i+1) ->
     ∃ E':N1,eV P E'/\aop E' true hr hr.length ao.slot ao.op (es i) (HD (hs l.length) (und l hr.length done) (hs q).length) (λv h=>some (v,h))=some (vs i,HD (hs l.length) (und l hr.length (mP done i)) (hs (i+1)).length):=by
    intro v h3 hr1 hv1 he3;subst hv1 he3;cases E28:ao.op<;>rw [E28] at hc hr1<;>simp [X3] at hc
    case call f args =>
     simp only [aop,cond_true,E3O,Option.some.injEq] at hr1;obtain ⟨⟨v',h4⟩,hp,xM⟩:=hr1;cases xM;obtain ⟨E',h5,h6⟩:=A7u f _ hp;exact ⟨E',h5,by simp only [aop,cond_true];rw [h6];rfl⟩
    case callV f args =>
     simp only [aop,cond_true,E3O,Option.some.injEq] at hr1;obtain ⟨⟨v',h4⟩,hp,xM⟩:=hr1;cases xM;unfold A1U at hp;split at hp
     ·rename_i g caps uO;obtain ⟨E',h5,h6⟩:=A7u g _ hp;refine ⟨E',h5,?_⟩;simp only [aop,cond_true];unfold A1U;rw [uO];simp only;rw [h6];rfl
     ·simp [quiet] at hp
   unfold W3 at kA ⊢;cases hgu:ao.guard with
   | none=>rw [hgu] at kA;exact hop _ _ kA rfl rfl
   | some g =>
    rw [hgu] at kA;simp only [E3O,Option.some.injEq] at kA;obtain ⟨⟨v',h3⟩,hp,xM⟩:=kA;simp only [Prod.mk.injEq] at xM;obtain ⟨hv',hh3⟩:=xM;unfold gd at hp ⊢;split at hp
    ·rename_i x uO;simp only [uO];cases hx:(x==g.2) with
     | true =>
      rw [hx] at hp;obtain ⟨E',h2,h4⟩:=hop _ _ hp hv' hh3;exact ⟨E',h2,by rw [cond_true,h4];rfl⟩
     | false =>
      rw [hx] at hp;simp only [cond_false,Option.some.injEq,Prod.mk.injEq] at hp;refine ⟨E,hE,?_⟩;rw [cond_false,<-C0R (by rw [<-hh3];exact hp.2.symm)];simp [<-hv',<-hp.1]
    ·rename_i uO;simp only [uO];simp only [Option.some.injEq,Prod.mk.injEq] at hp;refine ⟨E,hE,?_⟩;rw [<-C0R (by rw [<-hh3];exact hp.2.symm)];simp [<-hv',<-hp.1]
    ·cases hp
  obtain ⟨E',hE',hk1⟩:=key;rw [D93] at hk1;refine A30 hE' hco hk1 C7J S.inv hrd D2b ?_;intro V w' μ' bJ hv hinv bG;exact hn V w' μ' (i+1) (D2Q D ht h0 S ha hnd yU.1 yU.2 bJ hv hinv bG (by omega) D86)
end
end
end Go.Esc
