/- What the proof of this claim leans on, part 1. -/
import Derived.ProofKit
import Derived.OpenShut
import Derived.Deep.Slices
import Derived.Carry
import Derived.ChangeCalls
import GoSem.Claims
import Derived.Calls
import Derived.Orders
import Derived.Laws.Cells
import Derived.Laws.IdiomCopy
import Derived.Laws.World
import Derived.Laws.Bits
import Derived.Laws.Strings
import Derived.IntWalk
import Derived.Laws.Append
import Derived.Laws.StructEq
import Derived.MapKept
import Derived.LoopN
import Derived.Defers
import Derived.KernelRfl
import Derived.Test.YtbnkgnfhgbhblaaGreatChecked
set_option linter.all false
open Bool renaming and_eq_true→E42,not_eq_true'→E5O,or_eq_true→E5V
open List renaming all_cons→E5J,all_eq_true→E5S,append_assoc→E45,append_nil→E5t,drop_drop→E5W,drop_eq_getElem_cons→E46,drop_of_length_le→E5c,drop_zero→E5k,getElem?_append_left→E5z,getElem?_append_right→E5e,getElem?_drop→E5R,getElem?_eq_getElem→E40,getElem?_eq_none→E5C,getElem?_take_of_lt→E5B,getElem_mem→E5F,length_append→E43,length_cons→E5a,length_nil→E5u,length_set→E5w,length_take→E5q,map_append→E5T,map_cons→E50,mem_cons_of_mem→E5m,mem_cons_self→E5n,mem_of_getElem?→E5s,range→E5v,range'→E5D,replicate→E41,replicate_succ→E5p,take_of_length_le→E5b
open Nat renaming add_mul→E5Z,le_refl→E44,le_trans→E5E,min_eq_left→E5U,mod_eq_of_lt→E5P,zero_add→E5l
open Option renaming bind_eq_some_iff→E4Z,bind_some→E49,map_eq_some_iff→E5i
namespace Go.Esc
open Go
section
inductive Cell where
 | b (x:Bool)
 | i (k:IntKind) (n:Int)
 | s (x:List UInt8)
 | p (id off:Nat)
 | np
 | sl (id off len sz:Nat)
 | ns
 | f (fn:Nat) (caps:List (Nat × Nat))
 | nf
 | m (id:Nat)
 | nm
 | dark
 | mh
 | hk (agg:Bool) (x:Cell)
 | hx (x:Cell)
 deriving DecidableEq,Inhabited
inductive Part where
 | c (x:Cell)
 | a (l:List Cell)
 deriving Inhabited
inductive Val where
 | un
 | no
 | c (x:Cell)
 | a (l:List Cell)
 | t (l:List Part)
 deriving Inhabited
structure Row where
 cells:List Cell
 rw:Bool
 deriving Inhabited
abbrev A6:=List (Option Row)
abbrev Env:=List (Nat × Val)
def Env.get:Env->Nat->Val
 | [],_=>.un
 | (d,v)::r,t=>bif Nat.beq d t then v else Env.get r t
def Env.keep (e:Env):List Nat->Env
 | []=>[]
 | t::r=>(t,e.get t)::Env.keep e r
def Env.put (e:Env) (d:Option Nat) (v:Val):Env :=
 match d with
 | some d=>(d,v)::e
 | none=>e
inductive Opd where
 | t (n:Nat)
 | v (x:Val)
 deriving Inhabited
def Env.ev (e:Env):Opd->Val
 | .t n=>e.get n
 | .v x=>x
inductive Sh where
 | b
 | i (k:IntKind)
 | s
 deriving DecidableEq,Inhabited
def Cell.sh:Cell->Option Sh
 | .b _=>some .b
 | .i k _=>some (.i k)
 | .s _=>some .s
 | _=>none
inductive AOp where
 | mv (x:Opd)
 | nilrow (sz:Nat)
 | pick (c a b:Opd)
 | alloc (zero:List Cell)
 | box (x:Opd)
 | build (zero:List Cell) (parts:List (Nat × Nat × Opd))
 | buildSl (sz len:Nat) (zero:List Cell) (parts:List (Nat × Nat × Opd))
 | load1 (a:Opd)
 | loadN (n:Nat) (a:Opd)
 | store1 (a x:Opd)
 | storeN (n:Nat) (a x:Opd)
 | bin (op:BinOp) (x y:Opd)
 | eqA (neg:Bool) (sh:List Sh) (x y:Opd)
 | eqB (neg:Bool) (x y:Opd)
 | eqN (fn neg:Bool) (x:Opd)
 | nilc (x:Opd)
 | un (op:UnOp) (x:Opd)
 | conv (k:IntKind) (x:Opd)
 | convS (x:Opd)
 | s2b (x:Opd)
 | b2s (x:Opd)
 | b2sN (own:Option Nat) (x:Opd)
 | mark (x:Opd)
 | mkf (fn:Nat) (caps:List Opd)
 | mkSl (sz:Nat) (zero:List Cell) (len cap:Opd)
 | slS (x:Opd) (lo hi:Option Opd)
 | slL (sz:Nat) (x:Opd) (lo hi:Option Opd)
 | slA (n sz:Nat) (x:Opd) (lo hi:Option Opd)
 | fAddr (x:Opd) (off:Nat)
 | iAddrA (n sz:Nat) (x i:Opd)
 | iAddrL (sz:Nat) (x i:Opd)
 | fld1 (x:Opd) (off:Nat)
 | fldN (x:Opd) (off n:Nat)
 | idxA1 (n:Nat) (x i:Opd)
 | idxAN (n sz:Nat) (x i:Opd)
 | idxS (x i:Opd)
 | ext (x:Opd) (k:Nat)
 | call (f:Nat) (args:List Opd)
 | callV (f:Opd) (args:List Opd)
 | len (x:Opd)
 | lenS (x:Opd)
 | app (sz:Nat) (x y:Opd)
 | appZ (sz:Nat) (zero:List Cell) (x y:Opd)
 | max (x y:Opd)
 | min (x y:Opd)
 | copy (sz:Nat) (x y:Opd)
 | mkMap
 | look (kk:Option IntKind) (zero:Part) (ok:Bool) (m k:Opd)
 | mput (kk:Option IntKind) (m k x:Opd)
 | ment (kk:Option IntKind) (zero:Part) (m k:Opd)
 | mset (m s x:Opd)
 deriving Inhabited
structure AOper where
 dst:Option Nat
 op:AOp
 guard:Option (Nat × Bool):=none
 slot:Option Nat:=none
 deriving Inhabited
inductive ACode where
 | skip
 | ops (l:List AOper)
 | draw (n:Nat) (l:List AOper) (r:List AOper)
 | drawS (n:Nat) (l:List AOper) (s:AOper) (chk:List (Nat × AOp)) (r:List AOper)
 | seq (keep:List Nat) (a b:ACode)
 | cond (c:Opd) (a b:ACode)
 | block (id:Nat) (a:ACode)
 | loop (keep:List Nat) (a:ACode)
 | exit (id:Nat)
 | ret
 deriving Inhabited
def cells? : Val->Option (List Cell)
 | .c x=>some [x]
 | .a l=>some l
 | _=>none
def B0p (op:BinOp) (k:IntKind) (a b:Int):Option Cell :=
 match op with
 | .add=>some (.i k (k.wrap (a+b)))
 | .sub=>some (.i k (k.wrap (a-b)))
 | .mul=>some (.i k (k.wrap (a*b)))
 | .quo=>if b=0 then none else some (.i k (k.wrap (a.tdiv b)))
 | .rem=>if b=0 then none else some (.i k (a.tmod b))
 | .and=>some (.i k (k.wrap (BitVec.ofInt k.bits a &&& BitVec.ofInt k.bits b).toNat))
 | .or=>some (.i k (k.wrap (BitVec.ofInt k.bits a ||| BitVec.ofInt k.bits b).toNat))
 | .xor=>some (.i k (k.wrap (BitVec.ofInt k.bits a ^^^ BitVec.ofInt k.bits b).toNat))
 | .andNot=>some (.i k (k.wrap (BitVec.ofInt k.bits a &&& ~~~ BitVec.ofInt k.bits b).toNat))
 | .eql=>some (.b (a==b))
 | .neq=>some (.b (a != b))
 | .lss=>some (.b (decide (a<b)))
 | .leq=>some (.b (decide (a<=b)))
 | .gtr=>some (.b (decide (a > b)))
 | .geq=>some (.b (decide (a>=b)))
 | _=>none
def E2e (k:IntKind) (a b:Int):Option Cell:=if b<0 then none else some (.i k (k.wrap (a*2 ^ (Nat.min b.toNat k.bits))))
def E2f (k:IntKind) (a b:Int):Option Cell:=if b<0 then none else some (.i k (a.fdiv (2 ^ (Nat.min b.toNat k.bits))))
def K9:List UInt8->List UInt8->Bool
 | _,[]=>false
 | [],_::_=>true
 | a::x,b::y=>decide (a<b)||(a==b&&K9 x y)
def D9t (op:BinOp) (a b:List UInt8):Option Cell :=
 match op with
 | .add=>if a.length+b.length<=1073741824 then some (.s (a++b)) else none
 | .eql=>some (.b (a==b))
 | .neq=>some (.b (!(a==b)))
 | .lss=>some (.b (K9 a b))
 | .leq=>some (.b (K9 a b||a==b))
 | .gtr=>some (.b (!(K9 a b||a==b)))
 | .geq=>some (.b (!K9 a b))
 | _=>none
def N5 (op:BinOp) (x y:Val):Option Val :=
 match x,y with
 | .c (.i k a),.c (.i k' b) =>
  match op with
  | .shl=>(E2e k a b).map .c
  | .shr=>(E2f k a b).map .c
  | op=>bif decide (k=k') then (B0p op k a b).map .c else none
 | .c (.s a),.c (.s b)=>(D9t op a b).map .c
 | _,_=>none
def D4c (neg:Bool) (x y:Val):Option Val :=
 match x,y with
 | .c (.b a),.c (.b b)=>some (.c (.b (bif neg then !(a==b) else a==b)))
 | _,_=>none
def D08 (fn neg:Bool) (x:Val):Option Val :=
 match fn,x with
 | true,.c .nf=>some (.c (.b (!neg)))
 | true,.c (.f _ _)=>some (.c (.b neg))
 | false,.c .np=>some (.c (.b (!neg)))
 | false,.c (.p _ _)=>some (.c (.b neg))
 | _,_=>none
def A4i (x:Val):Option Val :=
 match x with
 | .c (.p id off)=>some (.c (.p id off))
 | .c (.f g cs)=>some (.c (.f g cs))
 | _=>none
def aeq (neg:Bool) (sh:List Sh) (x y:Val):Option Val :=
 match x,y with
 | .a l,.a l'=>if l.map Cell.sh=sh.map some/\l'.map Cell.sh=sh.map some then some (.c (.b (bif neg then !(decide (l=l')) else decide (l=l')))) else none
 | _,_=>none
def aun (op:UnOp) (x:Val):Option Val :=
 match op,x with
 | .not,.c (.b b)=>some (.c (.b (!b)))
 | .neg,.c (.i k n)=>some (.c (.i k (k.wrap (0-n))))
 | .xor,.c (.i k n)=>some (.c (.i k (k.wrap (BitVec.ofInt k.bits (if k.signed then -1 else k.max) ^^^ BitVec.ofInt k.bits n).toNat)))
 | _,_=>none
def D2z (c a b:Val):Option Val :=
 match c with
 | .c (.b x)=>some (bif x then a else b)
 | _=>none
def rd (h:A6) (id:Nat):Option Row:=(h[id]?).join
def Cell.isX:Cell->Bool
 | .dark=>true
 | .mh=>true
 | .hk _ _=>true
 | .hx _=>true
 | _=>false
def Cell.isD:Cell->Bool
 | .dark=>true
 | _=>false
def noX (l:List Cell):Bool:=l.all λc=>!c.isX
def B4 (h:A6):Val->Option Val
 | .c (.p id off)=>(rd h id).bind λr=>(r.cells[off]?).bind λc=>bif r.rw || !c.isX then some (.c c) else none
 | _=>none
def C8 (h:A6) (n:Nat):Val->Option Val
 | .c (.p id off)=>(rd h id).bind λr=>if off+n<=r.cells.length/\(r.rw||noX ((r.cells.drop off).take n))=true then some (.a ((r.cells.drop off).take n)) else none
 | _=>none
def lay (cs:List Cell) (off:Nat) (xs:List Cell):List Cell:=cs.take off++(xs++cs.drop (off+xs.length))
def F9 (h:A6) (a x:Val):Option A6 :=
 match a,x with
 | .c (.p id off),.c x=>(rd h id).bind λr=>if r.rw=true/\off<r.cells.length then some (h.set id (some ⟨r.cells.set off x,true⟩)) else none
 | _,_=>none
def E1 (h:A6) (n:Nat) (a x:Val):Option A6 :=
 match a,x with
 | .c (.p id off),.a xs=>(rd h id).bind λr=>if r.rw=true/\xs.length=n/\off+n<=r.cells.length then some (h.set id (some ⟨lay r.cells off xs,true⟩)) else none
 | _,_=>none
def dA (h:A6) (n0:Nat) (slot:Option Nat) (r:Row):Nat × A6 :=
 match slot with
 | none=>(h.length,h++[some r])
 | some j=>(n0+j,h.set (n0+j) (some r))
def D9 (zero:List Cell):List (Nat × Nat × Val)->Option (List Cell)
 | []=>some zero
 | (off,n,v)::r =>
  match cells? v with
  | some xs=>if xs.length=n/\off+n<=zero.length then D9 (lay zero off xs) r else none
  | none=>none
def D2o (k:IntKind):Val->Option Val
 | .c (.i _ n)=>some (.c (.i k (k.wrap n)))
 | _=>none
def gF (h:A6):Val->Option (List Cell)
 | .c .ns=>some []
 | .c (.sl id off len sz)=>(rd h id).bind λr=>if off+len*sz<=r.cells.length/\(r.rw||noX ((r.cells.drop off).take (len*sz)))=true then some ((r.cells.drop off).take (len*sz)) else none
 | _=>none
def C9F:Cell->Option UInt8
 | .i .u8 n=>if 0<=n/\n<256 then some (UInt8.ofNat n.toNat) else none
 | _=>none
def bytes? : List Cell->Option (List UInt8)
 | []=>some []
 | c::r=>(C9F c).bind λx=>(bytes? r).map λl=>x::l
def D06 (x:Val):Option Val :=
 match x with
 | .c (.s s)=>some (.c (.s s))
 | _=>none
def B4o (h:A6) (x:Val):Option Val :=
 match x with
 | .c (.sl id off len sz)=>if sz=1 then ((gF h (.c (.sl id off len sz))).bind bytes?).map λs=>.c (.s s) else none
 | .c .ns=>some (.c (.s []))
 | _=>none
def C02 (h:A6) (n0:Nat) (own:Option Nat) (x:Val):Option Val :=
 match own with
 | none=>B4o h x
 | some j =>
  match x with
  | .c (.sl id off len sz)=>if id=n0+j then B4o h (.c (.sl id off len sz)) else none
  | _=>none
def A5 (l:List UInt8):List Cell:=l.map λx=>.i .u8 x.toNat
def bound (x:Option Val) (d:Nat):Option Nat :=
 match x with
 | none=>some d
 | some (.c (.i _ n))=>if 0<=n then some n.toNat else none
 | _=>none
def D9U (x:Val) (lo hi:Option Val):Option Val :=
 match x with
 | .c (.s s)=>(bound lo 0).bind λl=>(bound hi s.length).bind λh=>if l<=h/\h<=s.length then some (.c (.s ((s.take h).drop l))) else none
 | _=>none
def D2C (sz:Nat) (x:Val) (lo hi:Option Val):Option Val :=
 match x with
 | .c (.sl id off len sz')=>(bound lo 0).bind λl=>(bound hi len).bind λh=>if l<=h/\h<=len/\sz=sz' then some (.c (.sl id (off+l*sz) (h-l) sz)) else none
 | .c .ns=>(bound lo 0).bind λl=>(bound hi 0).bind λh=>if l=0/\h=0 then some (.c .ns) else none
 | _=>none
def B4w (hp:A6) (n sz:Nat) (x:Val) (lo hi:Option Val):Option Val :=
 match x with
 | .c (.p id off)=>(rd hp id).bind λr=>(bound lo 0).bind λl=>(bound hi n).bind λh =>
   if l<=h/\h<=n/\off+n*sz<=r.cells.length/\(r.rw||(r.cells[off]?).any λc=>!c.isX)=true then some (.c (.sl id (off+l*sz) (h-l) sz)) else none
 | _=>none
def qL (x:Val) (off:Nat):Option Val :=
 match x with
 | .c (.p id o)=>some (.c (.p id (o+off)))
 | _=>none
def J3 (n sz:Nat) (x i:Val):Option Val :=
 match x,i with
 | .c (.p id o),.c (.i _ j)=>if 0<=j/\j<n then some (.c (.p id (o+j.toNat*sz))) else none
 | _,_=>none
def D5 (sz:Nat) (x i:Val):Option Val :=
 match x,i with
 | .c (.sl id o len sz'),.c (.i _ j)=>if 0<=j/\j<len/\sz=sz' then some (.c (.p id (o+j.toNat*sz))) else none
 | _,_=>none
def C06 (x:Val) (off:Nat):Option Val :=
 match x with
 | .a l=>(l[off]?).map .c
 | _=>none
def D5r (x:Val) (off n:Nat):Option Val :=
 match x with
 | .a l=>if off+n<=l.length then some (.a ((l.drop off).take n)) else none
 | _=>none
def A3v (n:Nat) (x i:Val):Option Val :=
 match x,i with
 | .a l,.c (.i _ j)=>if 0<=j/\j<n then (l[j.toNat]?).map .c else none
 | _,_=>none
def D09 (n sz:Nat) (x i:Val):Option Val :=
 match x,i with
 | .a l,.c (.i _ j)=>if 0<=j/\j<n/\j.toNat*sz+sz<=l.length then some (.a ((l.drop (j.toNat*sz)).take sz)) else none
 | _,_=>none
def C5y (x i:Val):Option Val :=
 match x,i with
 | .c (.s s),.c (.i _ j)=>if 0<=j then (s[j.toNat]?).map λb=>.c (.i .u8 b.toNat) else none
 | _,_=>none
def ofPart:Part->Val
 | .c x=>.c x
 | .a l=>.a l
def D4e (x:Val) (k:Nat):Option Val :=
 match x with
 | .t l=>(l[k]?).map ofPart
 | _=>none
def D2r (x:Val):Option Val :=
 match x with
 | .c (.s s)=>some (.c (.i .i64 s.length))
 | _=>none
def D1a (x:Val):Option Val :=
 match x with
 | .c (.sl _ _ len _)=>some (.c (.i .i64 len))
 | .c .ns=>some (.c (.i .i64 0))
 | _=>none
def O5 (h:A6) (sz:Nat):Val->Option (List Cell)
 | .c (.s s)=>if sz=1 then some (A5 s) else none
 | .c (.sl id off len sz')=>if sz=sz' then gF h (.c (.sl id off len sz')) else none
 | .c .ns=>some []
 | _=>none
def jK (h:A6) (sz:Nat) (x y:Val):Option (Val × A6) :=
 (O5 h sz y).bind λys =>
  match x with
  | .c .ns=>if ys.length/sz<=1073741824 then some (.c (.sl h.length 0 (ys.length/sz) sz),h++[some ⟨ys,true⟩]) else none
  | .c (.sl id off len sz')=>(rd h id).bind λr =>
    if r.rw=true/\off=0/\len*sz=r.cells.length/\sz=sz'/\len+ys.length/sz<=1073741824 then
     some (.c (.sl h.length 0 (len+ys.length/sz) sz),h.set id none++[some ⟨r.cells++ys,true⟩]) else none
  | _=>none
def xY (h:A6) (x:Val):Option Val :=
 match x with
 | .c (.sl id _ len _)=>(rd h id).bind λr=>if r.rw=true/\0<len then some x else none
 | _=>none
def C5A (x y:Val):Option Val :=
 match x,y with
 | .c (.i k a),.c (.i _ b)=>some (.c (.i k (if b > a then b else a)))
 | _,_=>none
def B6B (x y:Val):Option Val :=
 match x,y with
 | .c (.i k a),.c (.i _ b)=>some (.c (.i k (if b<a then b else a)))
 | _,_=>none
def C5u (h:A6) (sz:Nat) (x y:Val):Option (Val × A6) :=
 match y with
 | .c (.s _)=>none
 | _=>(O5 h sz y).bind λys =>
  match x with
  | .c (.sl id off len sz')=>(rd h id).bind λr =>
    if r.rw=true/\off+len*sz<=r.cells.length/\sz=sz' then
     some (.c (.i .i64 (Nat.min (ys.length/sz) len:Nat)),h.set id (some ⟨lay r.cells off (ys.take (Nat.min (ys.length/sz) len*sz)),true⟩)) else none
  | _=>none
def C5L:List Val->Option (List (Nat × Nat))
 | []=>some []
 | .c (.p id off)::r=>(C5L r).map λl=>(id,off)::l
 | _=>none
def B4t (fn:Nat) (caps:List Val):Option Val:=(C5L caps).map λl=>.c (.f fn l)
abbrev W0:=List (Cell × Part)
def A01 (e:Cell × Part):List Cell :=
 match e.2 with
 | .c x=>[.hk false e.1,.hx x]
 | .a l=>.hk true e.1::l.map .hx
def B4Q (es:W0):List Cell:=.mh::es.flatMap A01
def C6O (c:Cell) (s:List Cell × W0):List Cell × W0 :=
 match c with
 | .hx x=>(x::s.1,s.2)
 | .hk a k=>([],(k,bif a then .a s.1 else .c (s.1.headD .mh))::s.2)
 | _=>s
def D1G (cs:List Cell):W0:=(cs.foldr C6O ([],[])).2
def D3n (r:Row):Option W0:=if r.rw=false/\r.cells=B4Q (D1G r.cells) then some (D1G r.cells) else none
def S4 (es:W0):Row:=⟨B4Q es,false⟩
def sK (kk:Option IntKind) (c:Cell):Bool :=
 match kk,c with
 | some k,.i k' _=>decide (k'=k)
 | none,.s _=>true
 | _,_=>false
def mgo (k:Cell):W0->Nat->Option (Nat × Part)
 | [],_=>none
 | e::es,i=>if e.1=k then some (i,e.2) else mgo k es (i+1)
def B0E (k:Cell) (es:W0):Option (Nat × Part):=mgo k es 0
def A71 (k:Cell) (p:Part) (es:W0):W0 :=
 match B0E k es with
 | some (i,_)=>es.set i (k,p)
 | none=>es++[(k,p)]
def A3N (kk:Option IntKind) (k:Cell) (es:W0):Bool:=sK kk k&&es.all λe=>sK kk e.1
def D6U (h:A6):Val->Option W0
 | .c .nm=>some []
 | .c (.m id)=>(rd h id).bind D3n
 | _=>none
def C6F:Val->Option Cell
 | .c x=>some x
 | _=>none
def C7a:Val->Option Part
 | .c x=>some (.c x)
 | .a l=>some (.a l)
 | _=>none
def A4Y (ok:Bool) (p:Part) (f:Bool):Val:=match ok with
 | true=>.t [p,.c (.b f)]
 | false=>match p with
  | .c x=>.c x
  | .a l=>.a l
def A7f (h:A6) (kk:Option IntKind) (zero:Part) (ok:Bool) (m k:Val):Option Val :=
 (C6F k).bind λk=>(D6U h m).bind λes=>if A3N kk k es=true then
  some (match B0E k es with
   | some (_,p)=>A4Y ok p true
   | none=>A4Y ok zero false) else none
def A17 (h:A6) (kk:Option IntKind) (m k x:Val):Option A6 :=
 match m with
 | .c (.m id)=>(C6F k).bind λk=>(C7a x).bind λp=>(rd h id).bind λr=>(D3n r).bind λes=>if A3N kk k es=true then
  some (h.set id (some (S4 (A71 k p es)))) else none
 | _=>none
def D2u (h:A6) (kk:Option IntKind) (zero:Part) (m k:Val):Option (Val × A6) :=
 match m with
 | .c (.m id)=>(C6F k).bind λk=>(rd h id).bind λr=>(D3n r).bind λes=>if A3N kk k es=true then
  some (match B0E k es with
   | some (i,p)=>(.t [p,.c (.i .i64 i)],h)
   | none=>(.t [zero,.c (.i .i64 es.length)],h.set id (some (S4 (es++[(k,zero)]))))) else none
 | _=>none
def D2v (h:A6) (m s x:Val):Option A6 :=
 match m,s with
 | .c (.m id),.c (.i .i64 n)=>(C7a x).bind λp=>(rd h id).bind λr=>(D3n r).bind λes=>if 0<=n then (es[n.toNat]?).bind λe=>some (h.set id (some (S4 (es.set n.toNat (e.1,p))))) else none
 | _,_=>none
def A4V:Val->Option Nat
 | .c (.i .i64 n)=>if 0<=n/\n<=1073741824 then some n.toNat else none
 | _=>none
def rows (zero:List Cell) (n:Nat):List Cell:=(E41 n zero).flatten
def C3j (l:List (Nat × Nat)):List Val:=l.map λq=>.c (.p q.1 q.2)
abbrev N4:=Nat->List Val->A6->Option (Val × A6)
def Row.head (r:Row):Bool :=
 match r.cells with
 | .mh::l=>l.all Cell.isX
 | _=>false
def Row.own (r:Row):Bool:=r.rw||r.head
open Classical in
noncomputable def quiet (h:A6) (r:Option (Val × A6)):Option (Val × A6) :=
 r.bind λp=>if h <+: p.2/\(∀ id x,h.length<=id->rd p.2 id=some x->x.own=true) then some p else none
def A2a (E:N4) (f:Val) (args:List Val) (h:A6):Option (Val × A6) :=
 match f with
 | .c (.f g caps)=>E g (args++C3j caps) h
 | _=>none
def E1E (x:Val):Option (List UInt8) :=
 match x with
 | .c (.s s)=>if s.length<=1073741824 then some s else none
 | _=>none
def A1m (x y:Val):Option Nat:=(A4V x).bind λn=>(A4V y).bind λc=>if n<=c then some n else none
def B6z (h:A6) (sz:Nat) (zero:List Cell) (x y:Val):Option (Val × A6) :=
 (A4V y).bind λn =>
  match x with
  | .c .ns=>some (.c (.sl h.length 0 n sz),h++[some ⟨rows zero n,true⟩])
  | .c (.sl id off len sz')=>(rd h id).bind λr =>
    if r.rw=true/\off=0/\len*sz=r.cells.length/\sz=sz'/\len+n<=1073741824 then
     some (.c (.sl h.length 0 (len+n) sz),h.set id none++[some ⟨r.cells++rows zero n,true⟩]) else none
  | _=>none
variable {R:Type}
def cnd (v:Val) (a b:Option R):Option R :=
 match v with
 | .c (.b x)=>bif x then a else b
 | _=>none
noncomputable def aop (E:N4) (q:Bool) (hr:A6) (n0:Nat) (slot:Option Nat) (o:AOp) (e:Env) (h:A6) (k:Val->A6->Option R):Option R :=
 match o with
 | .mv x=>k (e.ev x) h
 | .nilrow sz=>let p:=dA h n0 slot ⟨[],true⟩;k (.c (.sl p.1 0 0 sz)) p.2
 | .pick c a b=>(D2z (e.ev c) (e.ev a) (e.ev b)).bind λv=>k v h
 | .alloc zero=>let p:=dA h n0 slot ⟨zero,true⟩;k (.c (.p p.1 0)) p.2
 | .box x=>(cells? (e.ev x)).bind λcs=>let p:=dA h n0 slot ⟨cs,true⟩;k (.c (.p p.1 0)) p.2
 | .build zero parts=>(D9 zero (parts.map λp=>(p.1,p.2.1,e.ev p.2.2))).bind λcs=>k (.a cs) h
 | .buildSl sz len zero parts=>(D9 zero (parts.map λp=>(p.1,p.2.1,e.ev p.2.2))).bind λcs=>let p:=dA h n0 slot ⟨cs,true⟩;k (.c (.sl p.1 0 len sz)) p.2
 | .load1 a=>(B4 hr (e.ev a)).bind λv=>k v h
 | .loadN n a=>(C8 hr n (e.ev a)).bind λv=>k v h
 | .store1 a x=>(F9 h (e.ev a) (e.ev x)).bind λh=>k .un h
 | .storeN n a x=>(E1 h n (e.ev a) (e.ev x)).bind λh=>k .un h
 | .bin op x y=>(N5 op (e.ev x) (e.ev y)).bind λv=>k v h
 | .eqA neg sh x y=>(aeq neg sh (e.ev x) (e.ev y)).bind λv=>k v h
 | .eqB neg x y=>(D4c neg (e.ev x) (e.ev y)).bind λv=>k v h
 | .eqN fn neg x=>(D08 fn neg (e.ev x)).bind λv=>k v h
 | .nilc x=>(A4i (e.ev x)).bind λv=>k v h
 | .un op x=>(aun op (e.ev x)).bind λv=>k v h
 | .conv kd x=>(D2o kd (e.ev x)).bind λv=>k v h
 | .convS x=>(D06 (e.ev x)).bind λv=>k v h
 | .s2b x=>(E1E (e.ev x)).bind λs=>let p:=dA h n0 slot ⟨A5 s,true⟩;k (.c (.sl p.1 0 s.length 1)) p.2
 | .b2s x=>(B4o hr (e.ev x)).bind λv=>k v h
 | .b2sN own x=>(C02 h n0 own (e.ev x)).bind λv=>k v h
 | .mark x=>(xY h (e.ev x)).bind λv=>k v h
 | .mkf fn caps=>(B4t fn (caps.map e.ev)).bind λv=>k v h
 | .mkSl sz zero len cap=>(A1m (e.ev len) (e.ev cap)).bind λn=>let p:=dA h n0 slot ⟨rows zero n,true⟩;k (.c (.sl p.1 0 n sz)) p.2
 | .slS x lo hi=>(D9U (e.ev x) (lo.map e.ev) (hi.map e.ev)).bind λv=>k v h
 | .slL sz x lo hi=>(D2C sz (e.ev x) (lo.map e.ev) (hi.map e.ev)).bind λv=>k v h
 | .slA n sz x lo hi=>(B4w hr n sz (e.ev x) (lo.map e.ev) (hi.map e.ev)).bind λv=>k v h
 | .fAddr x off=>(qL (e.ev x) off).bind λv=>k v h
 | .iAddrA n sz x i=>(J3 n sz (e.ev x) (e.ev i)).bind λv=>k v h
 | .iAddrL sz x i=>(D5 sz (e.ev x) (e.ev i)).bind λv=>k v h
 | .fld1 x off=>(C06 (e.ev x) off).bind λv=>k v h
 | .fldN x off n=>(D5r (e.ev x) off n).bind λv=>k v h
 | .idxA1 n x i=>(A3v n (e.ev x) (e.ev i)).bind λv=>k v h
 | .idxAN n sz x i=>(D09 n sz (e.ev x) (e.ev i)).bind λv=>k v h
 | .idxS x i=>(C5y (e.ev x) (e.ev i)).bind λv=>k v h
 | .ext x j=>(D4e (e.ev x) j).bind λv=>k v h
 | .call f args=>(bif q then quiet h (E f (args.map e.ev) h) else E f (args.map e.ev) h).bind λp=>k p.1 p.2
 | .callV f args=>(bif q then quiet h (A2a E (e.ev f) (args.map e.ev) h) else A2a E (e.ev f) (args.map e.ev) h).bind λp=>k p.1 p.2
 | .len x=>(D1a (e.ev x)).bind λv=>k v h
 | .lenS x=>(D2r (e.ev x)).bind λv=>k v h
 | .app sz x y=>(jK h sz (e.ev x) (e.ev y)).bind λp=>k p.1 p.2
 | .appZ sz zero x y=>(B6z h sz zero (e.ev x) (e.ev y)).bind λp=>k p.1 p.2
 | .max x y=>(C5A (e.ev x) (e.ev y)).bind λv=>k v h
 | .min x y=>(B6B (e.ev x) (e.ev y)).bind λv=>k v h
 | .copy sz x y=>(C5u h sz (e.ev x) (e.ev y)).bind λp=>k p.1 p.2
 | .mkMap=>let p:=dA h n0 slot (S4 []);k (.c (.m p.1)) p.2
 | .look kk z ok m x=>(A7f hr kk z ok (e.ev m) (e.ev x)).bind λv=>k v h
 | .mput kk m x y=>(A17 h kk (e.ev m) (e.ev x) (e.ev y)).bind λh=>k .un h
 | .ment kk z m x=>(D2u h kk z (e.ev m) (e.ev x)).bind λp=>k p.1 p.2
 | .mset m x y=>(D2v h (e.ev m) (e.ev x) (e.ev y)).bind λh=>k .un h
def gd (v:Val) (want:Bool) (a b:Option (Val × A6)):Option (Val × A6) :=
 match v with
 | .c (.b x)=>bif x==want then a else b
 | .no=>b
 | _=>none
noncomputable def W7 (E:N4) (q:Bool) (hr:A6) (n0:Nat) (o:AOper) (e:Env) (h:A6) (k:Val->A6->Option R):Option R :=
 match o.guard with
 | none=>aop E q hr n0 o.slot o.op e h k
 | some g=>(gd (e.get g.1) g.2 (aop E q hr n0 o.slot o.op e h λv h=>some (v,h)) (some (.no,h))).bind λp=>k p.1 p.2
noncomputable def A9I (E:N4) (l:List AOper):Env->A6->(Env->A6->Option R)->Option R :=
 List.rec (motive:=λ_=>Env->A6->(Env->A6->Option R)->Option R) (λe h k=>k e h) (λo _ ih e h k=>W7 E false h 0 o e h λv h=>ih (e.put o.dst v) h k) l
theorem C9C (E:N4) (o:AOper) (r:List AOper) (e:Env) (h:A6) (k:Env->A6->Option R):A9I E (o::r) e h k=W7 E false h 0 o e h λv h=>A9I E r (e.put o.dst v) h k:=rfl
noncomputable def B2t (E:N4) (hr:A6) (n0:Nat) (l:List AOper):Env->A6->(Env->A6->Option R)->Option R :=
 List.rec (motive:=λ_=>Env->A6->(Env->A6->Option R)->Option R) (λe h k=>k e h) (λo _ ih e h k=>W7 E true hr n0 o e h λv h=>ih (e.put o.dst v) h k) l
theorem C5v (E:N4) (hr:A6) (n0:Nat) (o:AOper) (r:List AOper) (e:Env) (h:A6) (k:Env->A6->Option R):B2t E hr n0 (o::r) e h k=W7 E true hr n0 o e h λv h=>B2t E hr n0 r (e.put o.dst v) h k:=rfl
def A6L (h:A6) (o:AOp) (e:Env):Option Val :=
 match o with
 | .load1 a=>B4 h (e.ev a)
 | .loadN n a=>C8 h n (e.ev a)
 | _=>none
open Classical in
noncomputable def agn (x:Option Val) (v:Val) (k:Option R):Option R:=if x=some v then k else none
noncomputable def again (l:List (Nat × AOp)) (e:Env) (h:A6) (k:Option R):Option R :=
 List.rec (motive:=λ_=>Option R) k (λc _ ih=>agn (A6L h c.2 e) (e.get c.1) ih) l
theorem C5w (c:Nat × AOp) (l:List (Nat × AOp)) (e:Env) (h:A6) (k:Option R):again (c::l) e h k=agn (A6L h c.2 e) (e.get c.1) (again l e h k):=rfl
inductive AExit where
 | normal
 | exit (id:Nat)
 | ret
abbrev B1z (R:Type):=AExit->Env->A6->Option R
abbrev Sm (R:Type):=B1z R->Env->A6->Option R
def E1k (keep:List Nat) (again:Env->A6->Option R) (k:B1z R):B1z R:=λx e h=>match x with | .normal=>again (e.keep keep) h | .exit id=>k (.exit id) e h | .ret=>k .ret e h
noncomputable def A6g (c:Sm R) (keep:List Nat) (k:B1z R) (n:Nat):Env->A6->Option R :=
 Nat.rec (motive:=λ_=>Env->A6->Option R) (λ_ _=>none) (λ_ ih e h=>c (E1k keep ih k) e h) n
theorem C1b (c:Sm R) (keep:List Nat) (k:B1z R) (e:Env) (h:A6):A6g c keep k 0 e h=none:=rfl
theorem C1a (c:Sm R) (keep:List Nat) (k:B1z R) (n:Nat) (e:Env) (h:A6):A6g c keep k (n+1) e h=c (λx e h=>match x with | .normal=>A6g c keep k n (e.keep keep) h | .exit id=>k (.exit id) e h | .ret=>k .ret e h) e h:=rfl
def hold {α:Type} (x:α):α:=(λ_=>x) gd
noncomputable def D9y:Sm R:=λk e h=>(λ_=>k .normal e h) (@A9I Nat)
noncomputable def D9x (E:N4) (l:List AOper):Sm R:=λk e h=>A9I E l e h λe h=>k .normal e h
noncomputable def D5c (E:N4) (m:Nat) (l r:List AOper):Sm R:=λk e h=>B2t E h h.length l e (h++E41 m none) λe h=>A9I E r e h λe h=>k .normal e h
noncomputable def D16 (E:N4) (m:Nat) (l:List AOper) (s:AOper) (chk:List (Nat × AOp)) (r:List AOper):Sm R:=λk e h=>B2t E h h.length l e (h++E41 m none) λe h=>W7 E false h 0 s e h λv h2=>again chk e h2 (A9I E r (e.put s.dst v) h2 λe h=>k .normal e h)
def E0i (keep:List Nat) (b:Sm R) (k:B1z R):B1z R:=λx e h=>match x with | .normal=>hold (b k (e.keep keep) h) | .exit id=>k (.exit id) e h | .ret=>k .ret e h
def D4D (id:Nat) (k:B1z R):B1z R:=λx e h=>match x with | .exit i=>bif Nat.beq i id then k .normal e h else k (.exit i) e h | .normal=>k .normal e h | .ret=>k .ret e h
noncomputable def D30 (keep:List Nat) (a b:Sm R):Sm R:=λk e h=>a (E0i keep b k) e h
noncomputable def C7q (c:Opd) (a b:Sm R):Sm R:=λk e h=>(λ_=>cnd (e.ev c) (a k e h) (b k e h)) (@A9I Nat)
noncomputable def B7N (id:Nat) (a:Sm R):Sm R:=λk e h=>(λ_=>a (D4D id k) e h) (@A9I Nat)
noncomputable def C7r (n:Nat) (keep:List Nat) (a:Sm R):Sm R:=λk e h=>(λ_=>A6g a keep k n (e.keep keep) h) (@A9I Nat)
noncomputable def D9w (id:Nat):Sm R:=λk e h=>(λ_=>k (.exit id) e h) (@A9I Nat)
noncomputable def E1p:Sm R:=λk e h=>(λ_=>k .ret e h) (@A9I Nat)
noncomputable def aex (E:N4) (n:Nat):ACode->Sm R
 | .skip=>D9y
 | .ops l=>D9x E l
 | .draw m l r=>D5c E m l r
 | .drawS m l s chk r=>D16 E m l s chk r
 | .seq keep a b=>D30 keep (aex E n a) (aex E n b)
 | .cond c a b=>C7q c (aex E n a) (aex E n b)
 | .block id a=>B7N id (aex E n a)
 | .loop keep a=>C7r n keep (aex E n a)
 | .exit id=>D9w id
 | .ret=>E1p
noncomputable def ax (E:N4) (n:Nat) (c:ACode):Sm R :=
 ACode.rec (motive:=λ_=>Sm R) D9y (λl=>D9x E l) (λm l r=>D5c E m l r) (λm l s chk r=>D16 E m l s chk r) (λkeep _ _ a b=>D30 keep a b) (λc _ _ a b=>C7q c a b) (λid _ a=>B7N id a) (λkeep _ a=>C7r n keep a) (λid=>D9w id) E1p c
theorem B6E (E:N4) (n:Nat):∀ c:ACode,(ax E n c:Sm R)=aex E n c
 | .skip=>rfl
 | .ops _=>rfl
 | .draw _ _ _=>rfl
 | .drawS _ _ _ _ _=>rfl
 | .seq keep a b=>by show D30 keep (ax E n a) (ax E n b)=D30 keep (aex E n a) (aex E n b);rw [B6E E n a,B6E E n b]
 | .cond c a b=>by show C7q c (ax E n a) (ax E n b)=C7q c (aex E n a) (aex E n b);rw [B6E E n a,B6E E n b]
 | .block id a=>by show B7N id (ax E n a)=B7N id (aex E n a);rw [B6E E n a]
 | .loop keep a=>by show C7r n keep (ax E n a)=C7r n keep (aex E n a);rw [B6E E n a]
 | .exit _=>rfl
 | .ret=>rfl
inductive ARes where
 | tmp (t:Nat)
 | cell1 (t:Nat)
 | cellN (t n:Nat)
def D6l (e:Env) (h:A6):ARes->Option Val
 | .tmp t=>some (e.get t)
 | .cell1 t=>B4 h (e.get t)
 | .cellN t n=>C8 h n (e.get t)
def pA:Val->Option Part
 | .c x=>some (.c x)
 | .a l=>some (.a l)
 | _=>none
def C09 (e:Env) (h:A6):List ARes->Option (List Part)
 | []=>some []
 | r::l=>(D6l e h r).bind λv=>(pA v).bind λp=>(C09 e h l).map λq=>p::q
def mC (rs:List ARes) (e:Env) (h:A6):Option (Val × A6) :=
 match rs with
 | [r]=>(D6l e h r).map λv=>(v,h)
 | rs=>(C09 e h rs).map λl=>(.t l,h)
def C7C:List (Option Val)->Option (List Part)
 | []=>some []
 | r::l=>r.bind λv=>(pA v).bind λp=>(C7C l).map λq=>p::q
def C7B (l:List (Option Val)) (h:A6):Option (Val × A6):=(C7C l).map λl=>(.t l,h)
structure AFn where
 code:ACode
 res:List ARes
def params:Nat->List Val->Env
 | _,[]=>[]
 | i,v::r=>(i,v)::params (i+1) r
def AFn.fin (f:AFn):AExit->Env->A6->Option (Val × A6)
 | .normal,e,h=>mC f.res e h
 | .ret,e,h=>mC f.res e h
 | .exit _,_,_=>none
noncomputable def AFn.run (f:AFn) (E:N4) (n:Nat) (args:List Val) (h:A6):Option (Val × A6) :=
 aex E n f.code f.fin (params 0 args) h
theorem E1F {f:AFn} {E:N4} {n:Nat} {args:List Val} {h:A6}:f.run E n args h=ax E n f.code f.fin (params 0 args) h:=by
 rw [B6E];rfl
def aO (d:Nat) (x:AOp):AOper:={ dst:=some d,op:=x }
def aN (x:AOp):AOper:={ dst:=none,op:=x }
def aG (d g:Nat) (w:Bool) (x:AOp):AOper:={ dst:=some d,op:=x,guard:=some (g,w) }
def aS (d s:Nat) (x:AOp):AOper:={ dst:=some d,op:=x,slot:=some s }
def aM (d t:Nat):AOper:=aO d (.mv (.t t))
def aL (d t:Nat):AOper:=aO d (.load1 (.t t))
def aL' (d n t:Nat):AOper:=aO d (.loadN n (.t t))
def aF (d t k:Nat):AOper:=aO d (.fAddr (.t t) k)
def aB (d t:Nat):AOper:=aO d (.box (.t t))
def sO (k:List Nat) (l:List AOper) (b:ACode):ACode:=.seq k (.ops l) b
end
section
def All2 {α β:Type} (R:α -> β -> Prop):List α -> List β -> Prop
 | [],[]=>True
 | a::l,b::m=>R a b/\All2 R l m
 | _,_=>False
section
variable {α β:Type} {R S:α -> β -> Prop}
@[simp] theorem All2.nil_nil:All2 R [] []=True:=rfl
@[simp] theorem All2.cons_cons {a:α} {l:List α} {b:β} {m:List β}:All2 R (a::l) (b::m)=(R a b/\All2 R l m):=rfl
@[simp] theorem All2.nil_cons {b:β} {m:List β}:All2 R [] (b::m)=False:=rfl
@[simp] theorem All2.cons_nil {a:α} {l:List α}:All2 R (a::l) []=False:=rfl
theorem All2.mono (h:∀ a b,R a b->S a b):∀ {l:List α} {m:List β},All2 R l m->All2 S l m
 | [],[],_=>trivial
 | _::_,_::_,⟨h1,h2⟩=>⟨h _ _ h1,All2.mono h h2⟩
 | [],_::_,h=>h.elim
 | _::_,[],h=>h.elim
theorem All2.length:∀ {l:List α} {m:List β},All2 R l m->l.length=m.length
 | [],[],_=>rfl
 | _::_,_::_,⟨_,h2⟩=>by simp [All2.length h2]
 | [],_::_,h=>h.elim
 | _::_,[],h=>h.elim
theorem All2.get:∀ {l:List α} {m:List β},All2 R l m->∀ (i:Nat) (a:α),l[i]?=some a->∃ b,m[i]?=some b/\R a b
 | [],[],_,i,a,h=>by simp at h
 | x::l,y::m,⟨h1,h2⟩,0,a,h=>by simp at h;subst h;exact ⟨y,rfl,h1⟩
 | x::l,y::m,⟨h1,h2⟩,i+1,a,h=>by simp at h;simpa using All2.get h2 i a h
 | [],_::_,h,_,_,_=>h.elim
 | _::_,[],h,_,_,_=>h.elim
theorem All2.of_get:∀ {l:List α} {m:List β},l.length=m.length->(∀ (i:Nat) (a:α) (b:β),l[i]?=some a->m[i]?=some b->R a b)->All2 R l m
 | [],[],_,_=>trivial
 | x::l,y::m,hl,h=>⟨h 0 x y rfl rfl,All2.of_get (by simpa using hl) λi a b h1 h2=>h (i+1) a b (by simpa using h1) (by simpa using h2)⟩
 | [],_::_,h,_=>by simp at h
 | _::_,[],h,_=>by simp at h
theorem All2.append:∀ {l l':List α} {m m':List β},All2 R l m->All2 R l' m'->All2 R (l++l') (m++m')
 | [],_,[],_,_,h=>h
 | _::_,_,_::_,_,⟨h1,h2⟩,h=>⟨h1,All2.append h2 h⟩
 | [],_,_::_,_,h,_=>h.elim
 | _::_,_,[],_,h,_=>h.elim
theorem All2.take:∀ {l:List α} {m:List β} (n:Nat),All2 R l m->All2 R (l.take n) (m.take n)
 | [],[],n,_=>by simp
 | _::_,_::_,0,_=>by simp
 | _::_,_::_,n+1,⟨h1,h2⟩=>by simpa using ⟨h1,All2.take n h2⟩
 | [],_::_,_,h=>h.elim
 | _::_,[],_,h=>h.elim
theorem All2.drop:∀ {l:List α} {m:List β} (n:Nat),All2 R l m->All2 R (l.drop n) (m.drop n)
 | [],[],n,_=>by simp
 | _::_,_::_,0,h=>by simpa using h
 | _::_,_::_,n+1,⟨_,h2⟩=>by simpa using All2.drop n h2
 | [],_::_,_,h=>h.elim
 | _::_,[],_,h=>h.elim
theorem All2.flatten_replicate {l:List α} {m:List β} (h:All2 R l m):∀ n,All2 R (E41 n l).flatten (E41 n m).flatten
 | 0=>trivial
 | n+1=>by simpa [E5p] using h.append (All2.flatten_replicate h n)
end
abbrev Mu:=Nat->Option (Nat × Nat)
def Mu.le (m m':Mu):Prop:=∀ id x,m id=some x->m' id=some x
theorem Mu.le_refl (m:Mu):m.le m:=λ_ _ h=>h
theorem Mu.le_trans {a b c:Mu} (h:a.le b) (k:b.le c):a.le c:=λ_ _ x=>k _ _ (h _ _ x)
def RPtr (μ:Mu) (q:Nat × Nat) (V:Value):Prop:=∃ b n,μ q.1=some (b,n)/\V=.pointer (some ⟨b,q.2,none⟩)
def RC (μ:Mu):Cell->Value->Prop
 | .b x,V=>V=.bool x
 | .i k n,V=>V=.int k n
 | .s x,V=>V=.string ⟨x.toArray⟩
 | .p id off,V=>RPtr μ (id,off) V
 | .np,V=>V=.pointer none
 | .sl id off len sz,V=>(∃ b n cap,μ id=some (b,n)/\len<=cap/\off+cap*sz<=n/\V=.slice (some ⟨b,off,none⟩) len cap)\/(len=0/\∃ a,V=.slice a 0 0)
 | .ns,V=>V=.slice none 0 0
 | .f fn caps,V=>∃ cs:List Value,V=.func (.func fn) #[] cs.toArray/\All2 (RPtr μ) caps cs
 | .nf,V=>V=.nilFunc
 | .m id,V=>∃ b n,μ id=some (b,n)/\V=.map (some b)
 | .nm,V=>V=.map none
 | .dark,_=>False
 | .mh,_=>False
 | .hk _ _,_=>False
 | .hx _,_=>False
theorem RPtr.mono {μ μ':Mu} (h:μ.le μ') {q:Nat × Nat} {V:Value}:RPtr μ q V->RPtr μ' q V :=
 λ⟨b,n,h1,h2⟩=>⟨b,n,h _ _ h1,h2⟩
theorem RC.mono {μ μ':Mu} (h:μ.le μ') {c:Cell} {V:Value} (hc:RC μ c V):RC μ' c V:=by
 cases c with
 | p id off=>exact RPtr.mono h hc
 | sl id off len sz =>
  rcases hc with ⟨b,n,cap,h1,h2⟩ | hc
  ·exact .inl ⟨b,n,cap,h _ _ h1,h2⟩
  ·exact .inr hc
 | f fn caps=>obtain ⟨cs,h1,h2⟩:=hc;exact ⟨cs,h1,h2.mono λ_ _=>RPtr.mono h⟩
 | m id=>obtain ⟨b,n,h1,h2⟩:=hc;exact ⟨b,n,h _ _ h1,h2⟩
 | _=>exact hc
theorem RC.one {μ:Mu} {c:Cell} {V:Value} (hc:RC μ c V):V.oneCell'=true:=by
 cases c with
 | sl id off len sz=>rcases hc with ⟨b,n,cap,_,_,_,rfl⟩ | ⟨_,a,rfl⟩<;>rfl
 | p id off=>obtain ⟨b,n,_,rfl⟩:=hc;rfl
 | f fn caps=>obtain ⟨cs,rfl,_⟩:=hc;rfl
 | m id=>obtain ⟨b,n,_,rfl⟩:=hc;rfl
 | b x=>cases hc;rfl
 | i k n=>cases hc;rfl
 | s x=>cases hc;rfl
 | np=>cases hc;rfl
 | ns=>cases hc;rfl
 | nf=>cases hc;rfl
 | nm=>cases hc;rfl
 | dark=>exact hc.elim
 | mh=>exact hc.elim
 | hk _ _=>exact hc.elim
 | hx _=>exact hc.elim
theorem RC.cells {μ:Mu} {c:Cell} {V:Value} (hc:RC μ c V):V.cells = #[V]:=by
 have:=hc.one;cases V<;>simp_all [Value.oneCell',Value.cells]
def RP (μ:Mu):Part->Value->Prop
 | .c x,V=>RC μ x V
 | .a l,V=>∃ vs:List Value,V=.agg vs.toArray/\All2 (RC μ) l vs
def RV (μ:Mu):Val->Value->Prop
 | .un,_=>True
 | .no,V=>V=undef
 | .c x,V=>RC μ x V
 | .a l,V=>∃ vs:List Value,V=.agg vs.toArray/\All2 (RC μ) l vs
 | .t l,V=>∃ vs:List Value,V=.tuple vs.toArray/\All2 (RP μ) l vs
theorem RP.mono {μ μ':Mu} (h:μ.le μ') {c:Part} {V:Value} (hc:RP μ c V):RP μ' c V:=by
 cases c with
 | c x=>exact RC.mono h hc
 | a l=>obtain ⟨vs,h1,h2⟩:=hc;exact ⟨vs,h1,h2.mono λ_ _=>RC.mono h⟩
theorem RV.mono {μ μ':Mu} (h:μ.le μ') {c:Val} {V:Value} (hc:RV μ c V):RV μ' c V:=by
 cases c with
 | un=>trivial
 | no=>exact hc
 | c x=>exact RC.mono h hc
 | a l=>obtain ⟨vs,h1,h2⟩:=hc;exact ⟨vs,h1,h2.mono λ_ _=>RC.mono h⟩
 | t l=>obtain ⟨vs,h1,h2⟩:=hc;exact ⟨vs,h1,h2.mono λ_ _=>RP.mono h⟩
theorem RV.cells {μ:Mu} {v:Val} {V:Value} {cs:List Cell} (h:RV μ v V) (hc:cells? v=some cs):All2 (RC μ) cs V.cells.toList:=by
 cases v with
 | c x=>simp [cells?] at hc;subst hc;rw [RC.cells h];exact ⟨h,trivial⟩
 | a l=>simp [cells?] at hc;subst hc;obtain ⟨vs,rfl,h2⟩:=h;simpa [Value.cells] using h2
 | un=>simp [cells?] at hc
 | no=>simp [cells?] at hc
 | t l=>simp [cells?] at hc
theorem RV.ofPart {μ:Mu} {p:Part} {V:Value} (h:RP μ p V):RV μ (ofPart p) V:=by
 cases p<;>exact h
theorem RP.ofVal {μ:Mu} {v:Val} {p:Part} {V:Value} (h:RV μ v V) (hp:pA v=some p):RP μ p V:=by
 cases v<;>simp [pA] at hp<;>subst hp<;>exact h
def RL (μ:Mu) (rw:Bool) (c:Cell) (V:Value):Prop:=RC μ c V\/(rw=false/\c.isD=true)
theorem C6E {c:Cell} (h:c.isD=true):c.isX=true:=by cases c<;>simp_all [Cell.isD,Cell.isX]
theorem RL.mono {μ μ':Mu} (h:μ.le μ') {rw:Bool} {c:Cell} {V:Value}:RL μ rw c V->RL μ' rw c V
 | .inl k=>.inl (k.mono h)
 | .inr k=>.inr k
theorem RL.told {μ:Mu} {rw:Bool} {c:Cell} {V:Value} (h:RL μ rw c V) (hx:(rw || !c.isX)=true):RC μ c V:=by
 rcases h with h | ⟨h1,h2⟩
 ·exact h
 ·rw [h1,C6E h2] at hx;cases hx
theorem RL.all {μ:Mu} {rw:Bool}:∀ {l:List Cell} {vs:List Value},All2 (RL μ rw) l vs->(rw||noX l)=true->All2 (RC μ) l vs
 | [],[],_,_=>trivial
 | c::l,V::vs,⟨h1,h2⟩,hx=>by
  have hx':(rw || !c.isX)=true/\(rw||noX l)=true:=by
   cases rw<;>simp_all [noX]
  exact ⟨h1.told hx'.1,RL.all h2 hx'.2⟩
 | [],_::_,h,_=>h.elim
 | _::_,[],h,_=>h.elim
def RE (μ:Mu) (e:Cell × Part) (E:MapEntry):Prop:=RC μ e.1 E.key/\RP μ e.2 E.val
theorem RE.mono {μ μ':Mu} (h:μ.le μ') {e:Cell × Part} {E:MapEntry} (k:RE μ e E):RE μ' e E:=⟨k.1.mono h,k.2.mono h⟩
def MemOk (μ:Mu) (w:World) (b n:Nat) (r:Row):Prop :=
 ∃ C elem fz,w.heap[b]?=some (.cells C elem fz)/\C.size=n/\All2 (RL μ r.rw) r.cells (C.toList.take r.cells.length)/\(r.rw=true->fz.1=fz.2\/n<=fz.1)
def E2P (μ:Mu) (w:World) (b:Nat) (r:Row):Prop :=
 ∃ es E,r=S4 es/\w.heap[b]?=some (.map E E.size)/\All2 (RE μ) es E.toList/\∀ (i:Nat) (e:MapEntry),E[i]?=some e->e.born=i
def E1r (w:World) (b:Nat) (r:Row):Prop:=r.rw=false/\b<w.heap.size/\r.cells.all Cell.isD=true
def RowOk (μ:Mu) (w:World) (id:Nat) (r:Row):Prop :=
 match μ id with
 | none=>r.cells=[]
 | some (b,n)=>MemOk μ w b n r\/E2P μ w b r\/E1r w b r
theorem D1j (e:Cell × Part):∀ c∈A01 e,c.isX=true:=by
 intro c hc;unfold A01 at hc;split at hc
 ·simp at hc;rcases hc with rfl | rfl<;>rfl
 ·simp at hc;rcases hc with rfl | ⟨x,_,rfl⟩<;>rfl
theorem C6L (es:W0):∀ c∈B4Q es,c.isX=true:=by
 intro c hc;simp only [B4Q,List.mem_cons,List.mem_flatMap] at hc;rcases hc with rfl | ⟨e,_,hc⟩
 ·rfl
 ·exact D1j e c hc
theorem Row.head_mrow (es:W0):(S4 es).head=true:=by
 show (es.flatMap A01).all Cell.isX=true;rw [E5S];exact λc hc=>C6L es c (E5m _ hc)
theorem Row.head_isX {r:Row} (h:r.head=true):∀ c∈r.cells,c.isX=true:=by
 unfold Row.head at h;split at h
 ·rename_i l hl;intro c hc;rw [hl] at hc;rcases List.mem_cons.1 hc with rfl | hc
  ·rfl
  ·exact List.all_eq_true.1 h c hc
 ·cases h
theorem Row.own_rw {r:Row} (h:r.rw=true):r.own=true:=by simp [Row.own,h]
theorem Row.own_mrow (es:W0):(S4 es).own=true:=by simp [Row.own,Row.head_mrow]
structure Ctx where
 F:Nat->Option Obj
 os:Os
 tape:Nat->Question->Nat
 output:Array (Nat × ByteArray)
 ds:List Deferred:=[]
structure Ctx.ok (Γ:Ctx) (w:World):Prop where
 os:w.os = Γ.os
 tape:w.tape = Γ.tape
 output:w.output = Γ.output
 block:∀ b o,Γ.F b=some o->w.heap[b]?=some o
structure Inv (Γ:Ctx) (μ:Mu) (h:A6) (w:World):Prop where
 rows:∀ id r,rd h id=some r->RowOk μ w id r
 sep:∀ id gG r r' x x',rd h id=some r->rd h gG=some r'->r.own=true->id≠gG -> μ id=some x -> μ gG=some x'->x.1≠x'.1
 own:∀ id r x,rd h id=some r->r.own=true -> μ id=some x -> Γ.F x.1=none
 dom:∀ id,h.length<=id -> μ id=none
 ctx:Γ.ok w
def SEnv (μ:Mu) (e:Env) (a:Act):Prop:=∀ t,RV μ (e.get t) (a.tmps.getD t undef)
theorem SEnv.mono {μ μ':Mu} (h:μ.le μ') {e:Env} {a:Act} (hs:SEnv μ e a):SEnv μ' e a:=λt=>(hs t).mono h
theorem Env.get_put_same (e:Env) (d:Nat) (v:Val):(e.put (some d) v).get d=v:=by simp [Env.put,Env.get]
theorem Env.get_put_other (e:Env) (d t:Nat) (v:Val) (h:d≠t):(e.put (some d) v).get t=e.get t:=by
 have:Nat.beq d t=false:=by cases hb:Nat.beq d t with
  | false=>rfl
  | true=>exact absurd (Nat.eq_of_beq_eq_true hb) h
 simp [Env.put,Env.get,this]
theorem SEnv.put {μ:Mu} {e:Env} {a:Act} (hs:SEnv μ e a) {d:Option Nat} {v:Val} {V:Value} (hd:∀ t,d=some t->t<a.tmps.size) (hv:RV μ v V) :
  SEnv μ (e.put d v) (a.put d V):=by
 cases d with
 | none=>exact hs
 | some d =>
  intro t;by_cases h:d=t
  ·subst h;rw [Env.get_put_same];have:=hd d rfl;simpa [Act.put,Array.getD,this] using hv
  ·rw [Env.get_put_other _ _ _ _ h];have h1:(a.put (some d) V).tmps.getD t undef=a.tmps.getD t undef:=by
    simp [Act.put,Array.getElem?_setIfInBounds_ne h]
   rw [h1];exact hs t
theorem Act.size_put (a:Act) (d:Option Nat) (V:Value):(a.put d V).tmps.size=a.tmps.size:=by
 cases d<;>simp [Act.put]
theorem Env.get_keep (e:Env) (l:List Nat) (t:Nat):(e.keep l).get t=e.get t\/(e.keep l).get t=.un:=by
 induction l with
 | nil=>right;rfl
 | cons x r ih =>
  simp only [Env.keep,Env.get];by_cases h:x=t
  ·subst h;left;simp
  ·have:Nat.beq x t=false:=by cases hb:Nat.beq x t with
    | false=>rfl
    | true=>exact absurd (Nat.eq_of_beq_eq_true hb) h
   simpa [this] using ih
theorem SEnv.keep {μ:Mu} {e:Env} {a:Act} (hs:SEnv μ e a) (l:List Nat):SEnv μ (e.keep l) a:=by
 intro t;rcases Env.get_keep e l t with h | h
 ·rw [h];exact hs t
 ·rw [h];trivial
theorem rd_some {h:A6} {id:Nat} {r:Row}:rd h id=some r↔h[id]?=some (some r):=by
 unfold rd;cases h[id]?<;>simp
theorem C5 {h:A6} {id:Nat} {r:Row} (hr:rd h id=some r):id<h.length:=by
 rw [rd_some] at hr;exact (List.getElem?_eq_some_iff.1 hr).1
theorem D4 {h g:A6} {id:Nat} (hl:id<h.length):rd (h++g) id=rd h id:=by
 unfold rd;rw [E5z hl]
theorem B6 {h g:A6} {id:Nat} {r:Row} (hr:rd h id=some r):rd (h++g) id=some r:=by
 rw [D4 (C5 hr)];exact hr
theorem B7 {h:A6} {id:Nat} {x:Option Row} (hl:id<h.length):rd (h.set id x) id=x:=by
 unfold rd;rw [List.getElem?_set_self hl];rfl
theorem A7 {h:A6} {id gG:Nat} {x:Option Row} (T5:id≠gG):rd (h.set id x) gG=rd h gG:=by
 unfold rd;rw [List.getElem?_set_ne T5]
theorem MemOk.mono {μ μ':Mu} {w w':World} {b n:Nat} {r:Row} (hr:MemOk μ w b n r) (bO:μ.le μ') (hb:w'.heap[b]?=w.heap[b]?):MemOk μ' w' b n r:=by
 obtain ⟨C,elem,fz,h1,h2,h3,h4⟩:=hr;exact ⟨C,elem,fz,by rw [hb];exact h1,h2,h3.mono λ_ _=>RL.mono bO,h4⟩
theorem RowOk.mono {μ μ':Mu} {w w':World} {id:Nat} {r:Row} (hr:RowOk μ w id r) (bO:μ.le μ') (hid:μ' id = μ id)
  (hb:∀ x,μ id=some x->w'.heap[x.1]?=w.heap[x.1]?):RowOk μ' w' id r:=by
 unfold RowOk at *;rw [hid];cases hm:μ id with
 | none=>rw [hm] at hr;exact hr
 | some x =>
  obtain ⟨b,n⟩:=x;rw [hm] at hr;have hb:=hb _ hm;simp only at hb;rcases hr with hr | ⟨es,E,h1,h2,h3,h4⟩ | ⟨h1,h2,h3⟩
  ·exact .inl (hr.mono bO hb)
  ·exact .inr (.inl ⟨es,E,h1,by rw [hb];exact h2,h3.mono λ_ _=>RE.mono bO,h4⟩)
  ·refine .inr (.inr ⟨h1,?_,h3⟩);have:w.heap[b]?=some w.heap[b]:=by simp [h2]
   rw [this] at hb;exact (Array.getElem?_eq_some_iff.1 hb).1
theorem RowOk.mem {μ:Mu} {w:World} {id:Nat} {r:Row} (hr:RowOk μ w id r) {b n:Nat} (hm:μ id=some (b,n)) (kY:r.rw=true):MemOk μ w b n r:=by
 unfold RowOk at hr;rw [hm] at hr;rcases hr with hr | ⟨es,E,h1,_⟩ | ⟨h1,_⟩
 ·exact hr
 ·rw [h1] at kY;cases kY
 ·rw [h1] at kY;cases kY
theorem RowOk.seen {μ:Mu} {w:World} {id:Nat} {r:Row} (hr:RowOk μ w id r) {b n:Nat} (hm:μ id=some (b,n)) {c:Cell} (hc:c∈r.cells) (hx:(r.rw || !c.isX)=true):MemOk μ w b n r:=by
 unfold RowOk at hr;rw [hm] at hr;rcases hr with hr | ⟨es,E,h1,_⟩ | ⟨h1,_,h3⟩
 ·exact hr
 ·rw [h1] at hc hx;have:=C6L es c hc;rw [this] at hx;cases hx
 ·have:=C6E (List.all_eq_true.1 h3 c hc);rw [h1,this] at hx;cases hx
theorem RowOk.cell {μ:Mu} {w:World} {id:Nat} {r:Row} (hr:RowOk μ w id r) {b n:Nat} (hm:μ id=some (b,n)) {off:Nat} {c:Cell} (hc:r.cells[off]?=some c) (hx:(r.rw || !c.isX)=true) :
  ∃ V,w.cell? ⟨b,off,none⟩=some V/\RC μ c V:=by
 obtain ⟨C,elem,fz,h1,h2,h3,h4⟩:=hr.seen hm (E5s hc) hx;obtain ⟨V,hV,hR⟩:=h3.get off c hc;refine ⟨V,?_,hR.told hx⟩;have U8:off<r.cells.length:=(List.getElem?_eq_some_iff.1 hc).1;rw [E5B U8] at hV;simp only [World.cell?,h1];simpa using hV
theorem RowOk.cells {μ:Mu} {w:World} {id:Nat} {r:Row} (hr:RowOk μ w id r) {b n:Nat} (hm:μ id=some (b,n)) (off k:Nat) (hk:off+k<=r.cells.length) (hx:(r.rw||noX ((r.cells.drop off).take k))=true) :
  ∃ vs:List Value,All2 (RC μ) ((r.cells.drop off).take k) vs/\vs.length=k/\∀ j v,vs[j]?=some v->w.cell? ⟨b,off+j,none⟩=some v:=by
 by_cases hk0:k=0
 ·subst hk0;exact ⟨[],by simp,rfl,λj v h=>by simp at h⟩
 have wN:MemOk μ w b n r:=by
  have U8:off<r.cells.length:=by omega
  refine hr.seen hm (c:=r.cells[off]) (E5F _) ?_;cases kY:r.rw with
  | true=>rfl
  | false =>
   rw [kY] at hx;simp only [Bool.false_or,noX,E5S] at hx ⊢;refine hx _ ?_;obtain ⟨k',rfl⟩:∃ k',k=k'+1:=⟨k-1,by omega⟩;rw [E46 U8,List.take_succ_cons];exact E5n ..
 obtain ⟨C,elem,fz,h1,h2,h3,h4⟩:=wN;refine ⟨((C.toList.take r.cells.length).drop off).take k,RL.all ((h3.drop off).take k) hx,?_,?_⟩
 ·have:=h3.length;simp at this ⊢;omega
 ·intro j v hv;have hj:j<k:=by
   have:=(List.getElem?_eq_some_iff.1 hv).1;simp at this;omega
  rw [E5B hj,E5R,E5B (by omega)] at hv;simp only [World.cell?,h1];simpa using hv
theorem RowOk.there {μ:Mu} {w:World} {id:Nat} {r:Row} (hr:RowOk μ w id r) {b n:Nat} (hm:μ id=some (b,n)):∃ o,w.heap[b]?=some o:=by
 unfold RowOk at hr;rw [hm] at hr;rcases hr with ⟨C,elem,fz,h1,_⟩ | ⟨es,E,_,h1,_⟩ | ⟨_,h1,_⟩
 ·exact ⟨_,h1⟩
 ·exact ⟨_,h1⟩
 ·exact ⟨w.heap[b],by simp [h1]⟩
theorem D4K (e:Cell × Part) (es:W0):(A01 e).foldr C6O ([],es)=([],e::es):=by
 have hx:∀ (l:List Cell) (s:W0),(l.map Cell.hx).foldr C6O ([],s)=(l,s):=by
  intro l s
  induction l with
  | nil=>rfl
  | cons a l ih=>rw [E50,List.foldr_cons,ih];rfl
 obtain ⟨k,p⟩:=e;cases p with
 | c x=>rfl
 | a l =>
  show (Cell.hk true k::l.map .hx).foldr C6O ([],es)=_;rw [List.foldr_cons,hx];rfl
theorem A3P (es:W0):D1G (B4Q es)=es:=by
 have:∀ es:W0,(es.flatMap A01).foldr C6O ([],[])=([],es):=by
  intro es
  induction es with
  | nil=>rfl
  | cons e es ih=>rw [List.flatMap_cons,List.foldr_append,ih,D4K]
 show (C6O .mh ((es.flatMap A01).foldr C6O ([],[]))).2=es;rw [this];rfl
theorem A0g (es:W0):D3n (S4 es)=some es:=by
 unfold D3n S4;simp [A3P]
theorem B1o {r:Row} {es:W0} (h:D3n r=some es):r=S4 es:=by
 unfold D3n at h;split at h
 ·rename_i hc;cases h;obtain ⟨cs,rw⟩:=r;obtain ⟨h1,h2⟩:=hc;simp only at h1 h2;subst h1;show Row.mk cs false=⟨_,false⟩;rw [<-h2]
 ·cases h
theorem RowOk.map {μ:Mu} {w:World} {id:Nat} {es:W0} (hr:RowOk μ w id (S4 es)) {b n:Nat} (hm:μ id=some (b,n)) :
  ∃ E:Array MapEntry,w.heap[b]?=some (.map E E.size)/\All2 (RE μ) es E.toList/\∀ (i:Nat) (e:MapEntry),E[i]?=some e->e.born=i:=by
 unfold RowOk at hr;rw [hm] at hr;rcases hr with ⟨C,elem,fz,h1,h2,h3,_⟩ | ⟨es',E,h1,h2,h3,h4⟩ | ⟨_,_,h1⟩
 ·exfalso;have hl:=h3.length;cases hC:C.toList.take (S4 es).cells.length with
  | nil=>rw [hC] at hl;simp [S4,B4Q] at hl
  | cons v vs =>
   rw [hC] at h3;rcases h3.1 with h | ⟨_,h⟩
   ·exact h
   ·cases h
 ·have:es=es':=by rw [<-A3P es,<-A3P es'];exact congrArg (λr=>D1G r.cells) h1
  subst this;exact ⟨E,h2,h3,h4⟩
 ·simp [S4,B4Q,Cell.isD] at h1
theorem Inv.lt {Γ:Ctx} {μ:Mu} {h:A6} {w:World} (hi:Inv Γ μ h w) {id:Nat} {r:Row} (hr:rd h id=some r) {x:Nat × Nat} (hx:μ id=some x):x.1<w.heap.size:=by
 obtain ⟨o,h1⟩:=(hi.rows id r hr).there hx;exact (Array.getElem?_eq_some_iff.1 h1).1
def Mu.add (μ:Mu) (id:Nat) (x:Nat × Nat):Mu:=λj=>if j=id then some x else μ j
theorem Mu.le_add {μ:Mu} {id:Nat} {x:Nat × Nat} (h:μ id=none):μ.le (μ.add id x):=by
 intro j y hj;unfold Mu.add;by_cases e:j=id
 ·subst e;rw [h] at hj;cases hj
 ·simp [e,hj]
theorem Inv.world {Γ:Ctx} {μ:Mu} {h:A6} {w w':World} (hi:Inv Γ μ h w) (hos:w'.os=w.os) (htape:w'.tape=w.tape) (hout:w'.output=w.output)
  (hb:∀ b,b<w.heap.size->w'.heap[b]?=w.heap[b]?):Inv Γ μ h w' where
 rows id r hr:=(hi.rows id r hr).mono (Mu.le_refl _) rfl λx hx=>hb _ (hi.lt hr hx)
 sep:=hi.sep
 own:=hi.own
 dom:=hi.dom
 ctx:=⟨hos.trans hi.ctx.os,htape.trans hi.ctx.tape,hout.trans hi.ctx.output,λb o ho=>by
  have h1:=hi.ctx.block b o ho;rw [hb b (Array.getElem?_eq_some_iff.1 h1).1];exact h1⟩
theorem Inv.fresh {Γ:Ctx} {μ:Mu} {h:A6} {w w':World} (hi:Inv Γ μ h w) {id:Nat} {r:Row} {h':A6} {n:Nat}
  (hμ:μ id=none) (hos:w'.os=w.os) (htape:w'.tape=w.tape) (hout:w'.output=w.output)
  (hb:∀ b,b<w.heap.size->w'.heap[b]?=w.heap[b]?)
  (hsame:∀ j,j≠id->∀ x,rd h' j=some x->rd h j=some x) (D3f:∀ x,rd h' id=some x->x=r) (hlen:h.length<=h'.length) (hid:id<h'.length)
  (hrow:RowOk (μ.add id (w.heap.size,n)) w' id r):Inv Γ (μ.add id (w.heap.size,n)) h' w' where
 rows j x hx:=by
  by_cases e:j=id
  ·subst e;rw [D3f x hx];exact hrow
  ·exact (hi.rows j x (hsame j e x hx)).mono (Mu.le_add hμ) (by simp [Mu.add,e]) λy hy=>hb _ (hi.lt (hsame j e x hx) hy)
 sep j j' x x' y y' hx hx' kY T5 hy hy':=by
  unfold Mu.add at hy hy';by_cases e:j=id
  ·subst e;have e':j'≠j:=λh=>T5 h.symm
   simp at hy;simp [e'] at hy';have:=hi.lt (hsame j' e' x' hx') hy';subst hy;show w.heap.size≠y'.1;omega
  ·simp [e] at hy;by_cases e':j'=id
   ·subst e';simp at hy';have:=hi.lt (hsame j e x hx) hy;subst hy';show y.1≠w.heap.size;omega
   ·simp [e'] at hy';exact hi.sep j j' x x' y y' (hsame j e x hx) (hsame j' e' x' hx') kY T5 hy hy'
 own j x y hx kY hy:=by
  unfold Mu.add at hy;by_cases e:j=id
  ·subst e;simp at hy;subst hy;show Γ.F w.heap.size=none;cases hF:Γ.F w.heap.size with
   | none=>rfl
   | some o=>have:=(Array.getElem?_eq_some_iff.1 (hi.ctx.block _ _ hF)).1;omega
  ·simp [e] at hy;exact hi.own j x y (hsame j e x hx) kY hy
 dom j hj:=by
  have e:j≠id:=by omega
  simp only [Mu.add,e,if_false];exact hi.dom j (by omega)
 ctx:=⟨hos.trans hi.ctx.os,htape.trans hi.ctx.tape,hout.trans hi.ctx.output,λb o ho=>by
  have h1:=hi.ctx.block b o ho;rw [hb b (Array.getElem?_eq_some_iff.1 h1).1];exact h1⟩
theorem Inv.turn {Γ:Ctx} {μ:Mu} {h:A6} {w w':World} (hi:Inv Γ μ h w) {id:Nat} {r r':Row} {b n:Nat} (hr:rd h id=some r) (kY:r.own=true) (E4m:r'.own=true) (hμ:μ id=some (b,n))
  (hos:w'.os=w.os) (htape:w'.tape=w.tape) (hout:w'.output=w.output) (hb:∀ b',b'≠b->w'.heap[b']?=w.heap[b']?)
  (hrow:RowOk μ w' id r'):Inv Γ μ (h.set id (some r')) w' where
 rows j x hx:=by
  by_cases e:j=id
  ·subst e;rw [B7 (C5 hr)] at hx;cases hx;exact hrow
  ·rw [A7 (Ne.symm e)] at hx;exact (hi.rows j x hx).mono (Mu.le_refl _) rfl λy hy=>hb _ (Ne.symm (hi.sep id j r x (b,n) y hr hx kY (Ne.symm e) hμ hy))
 sep j j' x x' y y' hx hx' hxw T5 hy hy':=by
  have get:∀ i z,rd (h.set id (some r')) i=some z->z.own=true->∃ z',rd h i=some z'/\z'.own=true:=by
   intro i z hz hzw;by_cases e:i=id
   ·subst e;exact ⟨r,hr,kY⟩
   ·rw [A7 (Ne.symm e)] at hz;exact ⟨z,hz,hzw⟩
  have get':∀ i z,rd (h.set id (some r')) i=some z->∃ z',rd h i=some z':=by
   intro i z hz;by_cases e:i=id
   ·subst e;exact ⟨r,hr⟩
   ·rw [A7 (Ne.symm e)] at hz;exact ⟨z,hz⟩
  obtain ⟨z,hz,hzw⟩:=get j x hx hxw;obtain ⟨z',hz'⟩:=get' j' x' hx';exact hi.sep j j' z z' y y' hz hz' hzw T5 hy hy'
 own j x y hx hxw hy:=by
  by_cases e:j=id
  ·subst e;exact hi.own j r y hr kY hy
  ·rw [A7 (Ne.symm e)] at hx;exact hi.own j x y hx hxw hy
 dom j hj:=hi.dom j (by simpa using hj)
 ctx:=⟨hos.trans hi.ctx.os,htape.trans hi.ctx.tape,hout.trans hi.ctx.output,λb' o ho=>by
  have T5:b'≠b:=by
   intro e;subst e;have:=hi.own id r (b',n) hr kY hμ;simp at this;rw [ho] at this;cases this
  rw [hb b' T5];exact hi.ctx.block b' o ho⟩
theorem Inv.write {Γ:Ctx} {μ:Mu} {h:A6} {w w':World} (hi:Inv Γ μ h w) {id:Nat} {r:Row} {b n:Nat} {cs:List Cell} (hr:rd h id=some r) (kY:r.rw=true) (hμ:μ id=some (b,n))
  (hos:w'.os=w.os) (htape:w'.tape=w.tape) (hout:w'.output=w.output) (hb:∀ b',b'≠b->w'.heap[b']?=w.heap[b']?)
  (hrow:RowOk μ w' id ⟨cs,true⟩):Inv Γ μ (h.set id (some ⟨cs,true⟩)) w' :=
 hi.turn hr (Row.own_rw kY) rfl hμ hos htape hout hb hrow
end
section
def jW (P:Program) (t:TypeId):Option Bool :=
 match P.underlying t with
 | some (.struct _)=>some true
 | some (.array _ _)=>some true
 | some _=>some false
 | none=>none
def P9 (P:Program) (t:TypeId):Option Nat:=(P.info? t).map (·.size)
def C5K (P:Program) (t:TypeId):Option Nat:=(P.info? t).map (·.bytes)
def wW (P:Program) (t:TypeId):Option Value:=(P.info? t).bind (·.zero)
def sliceB (P:Program) (t:TypeId):Option TypeId:=match P.underlying t with | some (.slice e)=>some e | _=>none
def nX (P:Program) (t:TypeId):Option (Nat × TypeId):=match P.underlying t with | some (.array n e)=>some (n,e) | _=>none
def A2x (P:Program) (t:TypeId):Option (Array Field):=match P.underlying t with | some (.struct fs)=>some fs | _=>none
def bI (P:Program) (t:TypeId):Bool:=match P.underlying t with | some .string=>true | _=>false
def B4O (P:Program) (t:TypeId):Option IntKind:=match P.underlying t with | some (.int k)=>some k | _=>none
section
variable {P:Program} {w:World} {t:TypeId}
theorem E4 {d:TypeDesc} (h:P.underlying t=some d):(underlying t).run P w=.ok d w:=by simp [underlying,h]
theorem O6 {n:Nat} (h:P9 P t=some n):(sizeOf t).run P w=.ok n w:=by
 unfold P9 at h;cases hi:P.info? t with
 | none=>simp [hi] at h
 | some i=>simp [hi] at h;simp [sizeOf,typeInfo,hi,h]
theorem D7d {n:Nat} (h:C5K P t=some n):∃ i:TypeInfo,(typeInfo t).run P w=.ok i w/\i.bytes=n:=by
 unfold C5K at h;cases hi:P.info? t with
 | none=>simp [hi] at h
 | some i=>simp [hi] at h;exact ⟨i,by simp [typeInfo,hi],h⟩
theorem wS {v:Value} (h:wW P t=some v):(zeroValue t).run P w=.ok v w:=by
 unfold wW at h;cases hi:P.info? t with
 | none=>simp [hi] at h
 | some i=>simp [hi] at h;simp [zeroValue,typeInfo,hi,h]
theorem B1u {b:Bool} (h:jW P t=some b):(isAgg t).run P w=.ok b w:=by
 unfold jW at h;cases hu:P.underlying t with
 | none=>simp [hu] at h
 | some d=>cases d<;>simp [hu] at h<;>subst h<;>simp [isAgg,E4 hu]
theorem O3 {e:TypeId} (h:sliceB P t=some e):P.underlying t=some (.slice e):=by
 unfold sliceB at h;cases hu:P.underlying t with
 | none=>simp [hu] at h
 | some d=>cases d<;>simp_all
theorem nY {n:Nat} {e:TypeId} (h:nX P t=some (n,e)):P.underlying t=some (.array n e):=by
 unfold nX at h;cases hu:P.underlying t with
 | none=>simp [hu] at h
 | some d=>cases d<;>simp_all
theorem A2y {fs:Array Field} (h:A2x P t=some fs):P.underlying t=some (.struct fs):=by
 unfold A2x at h;cases hu:P.underlying t with
 | none=>simp [hu] at h
 | some d=>cases d<;>simp_all
theorem kX (h:bI P t=true):P.underlying t=some .string:=by
 unfold bI at h;cases hu:P.underlying t with
 | none=>simp [hu] at h
 | some d=>cases d<;>simp_all
theorem A4Q {k:IntKind} (h:B4O P t=some k):P.underlying t=some (.int k):=by
 unfold B4O at h;cases hu:P.underlying t with
 | none=>simp [hu] at h
 | some d=>cases d<;>simp_all
end
def C3k:Value->Cell->Bool
 | .bool b,.b x=>b==x
 | .int k n,.i k' n'=>decide (k=k')&&decide (n=n')
 | .string s,.s l=>decide (s.data.toList=l)
 | .slice none 0 0,.ns=>true
 | .nilFunc,.nf=>true
 | .pointer none,.np=>true
 | .map none,.nm=>true
 | .func (.func f) _ cs,.f g l=>decide (f=g)&&l.isEmpty&&cs.isEmpty
 | _,_=>false
def A0W:List Value->List Cell->Bool
 | [],[]=>true
 | v::r,c::l=>C3k v c&&A0W r l
 | _,_=>false
def C5R:Value->Val->Bool
 | .agg vs,.a l=>A0W vs.toList l
 | .tuple vs,.un=>vs.isEmpty
 | v,.c x=>C3k v x
 | _,_=>false
def uB:Value->Bool
 | .func _ f _=>f.isEmpty
 | _=>true
def D70:Operand->Opd->Bool
 | .tmp t,.t n=>decide (t=n)
 | .const v,.v x=>C5R v x&&uB v
 | .func f,.v (.c (.f g []))=>decide (f=g)
 | _,_=>false
theorem C5Q {μ:Mu} {v:Value} {c:Cell} (h:C3k v c=true) (hf:uB v=true):RC μ c v:=by
 unfold C3k at h;split at h<;>simp_all [RC,uB]
 all_goals first
  | (obtain ⟨s⟩:=‹ByteArray›;rename_i vG;simp [<-vG];done)
  | skip
 ·subst h;rfl
def C6R:Value->Bool
 | .func ..=>false
 | _=>true
theorem C8G {v:Value} (h:C6R v=true):uB v=true:=by cases v<;>simp_all [C6R,uB]
theorem A9P {μ:Mu}:∀ {vs:List Value} {l:List Cell},A0W vs l=true->vs.all C6R=true->All2 (RC μ) l vs
 | [],[],_,_=>trivial
 | v::r,c::l,h,hn=>by
  simp [A0W] at h;simp at hn;exact ⟨C5Q h.1 (C8G hn.1),A9P h.2 (by simpa using hn.2)⟩
 | [],_::_,h,_=>by simp [A0W] at h
 | _::_,[],h,_=>by simp [A0W] at h
def jF (v:Value) (l:List Cell):Bool:=A0W v.cells.toList l&&v.cells.toList.all C6R
theorem fU {μ:Mu} {v:Value} {l:List Cell} (h:jF v l=true):All2 (RC μ) l v.cells.toList:=by
 simp only [jF,E42] at h;exact A9P h.1 h.2
def C9y:Value->Bool
 | .agg vs=>vs.toList.all C6R
 | _=>true
theorem D2M {μ:Mu} {v:Value} {x:Val} (h:C5R v x=true) (hf:uB v=true) (ha:C9y v=true):RV μ x v:=by
 unfold C5R at h;split at h
 ·rename_i vs l;exact ⟨vs.toList,by simp,A9P h ha⟩
 ·trivial
 ·exact C5Q h hf
 ·cases h
def D8 (x:Operand) (y:Opd):Bool:=D70 x y&&(match x with | .const v=>C9y v | _=>true)
theorem C7 {μ:Mu} {e:Env} {a:Act} {x:Operand} {y:Opd} (h:D8 x y=true) (hs:SEnv μ e a):RV μ (e.ev y) (a.eval x):=by
 simp only [D8,E42] at h;obtain ⟨h,ha⟩:=h;unfold D70 at h;split at h
 ·simp at h;subst h;exact hs _
 ·simp at h;exact D2M h.1 h.2 ha
 ·simp at h;subst h;exact ⟨[],rfl,trivial⟩
 ·cases h
def A2b:List Operand->List Opd->Bool
 | [],[]=>true
 | x::r,y::l=>D8 x y&&A2b r l
 | _,_=>false
theorem A6k {μ:Mu} {e:Env} {a:Act} (hs:SEnv μ e a):∀ {xs:List Operand} {ys:List Opd},A2b xs ys=true->All2 (RV μ) (ys.map e.ev) (xs.map a.eval)
 | [],[],_=>trivial
 | x::r,y::l,h=>by simp [A2b] at h;exact ⟨C7 h.1 hs,A6k hs h.2⟩
 | [],_::_,h=>by simp [A2b] at h
 | _::_,[],h=>by simp [A2b] at h
def A9R:Option Operand->Option Opd->Bool
 | none,none=>true
 | some x,some y=>D8 x y
 | _,_=>false
end
section
section
variable {P:Program} {μ:Mu} {w:World}
theorem D2I:∀ (x y:List UInt8),Op.bytesLess x y=K9 x y
 | _,[]=>by cases ‹List UInt8› <;> rfl
 | [],_::_=>rfl
 | a::x,b::y=>by simp [Op.bytesLess,K9,D2I x y]
theorem E0I {op:BinOp} {xt:TypeId} {x y v:Val} {X Y:Value} (hx:RV μ x X) (hy:RV μ y Y) (h:N5 op x y=some v) :
  ∃ V,(binOp op xt X Y).run P w=.ok V w/\RV μ v V:=by
 unfold N5 at h;split at h
 ·rename_i k a k' b;have hX:X=.int k a:=hx;have hY:Y=.int k' b:=hy;subst hX hY;have key:∀ o,o≠BinOp.shl->o≠BinOp.shr->∀ v,(bif decide (k=k') then (B0p o k a b).map Val.c else none)=some v->∃ V,(binOp o xt (.int k a) (.int k' b)).run P w=.ok V w/\RV μ v V:=by
   intro o h1 h2 v hv;by_cases hk:k=k'
   ·subst hk;simp at hv;obtain ⟨c,hc,rfl⟩:=hv;cases o<;>simp only [B0p] at hc<;>(try cases hc) <;>
     first
      | exact ⟨_,by simp [binOp,Op.intArith,Op.intBits,Op.intCmp],rfl⟩
      | (split at hc<;>cases hc;rename_i hb;exact ⟨_,by simp [binOp,Op.intDiv,hb],rfl⟩)
      | skip
   ·simp [hk] at hv
  split at h
  ·unfold E2e at h;split at h
   ·simp at h
   ·simp at h;subst h;rename_i hb;refine ⟨.int k (k.wrap (a*2 ^ (Nat.min b.toNat k.bits))),?_,rfl⟩;simp [binOp,Op.shift,hb,Nat.min_def]
  ·unfold E2f at h;split at h
   ·simp at h
   ·simp at h;subst h;rename_i hb;refine ⟨.int k (a.fdiv (2 ^ (Nat.min b.toNat k.bits))),?_,rfl⟩;simp [binOp,Op.shift,hb,Nat.min_def]
  ·rename_i h1 h2;exact key op h1 h2 v h
 ·rename_i a b;have hX:X=.string ⟨a.toArray⟩:=hx;have hY:Y=.string ⟨b.toArray⟩:=hy;subst hX hY;simp only [E5i] at h;obtain ⟨c,hc,rfl⟩:=h;cases op<;>simp only [D9t] at hc<;>(try cases hc)
  ·split at hc<;>cases hc
   rename_i hl;refine ⟨.string (⟨a.toArray⟩++⟨b.toArray⟩),?_,?_⟩
   ·have:¬ (((ByteArray.mk a.toArray).size+(ByteArray.mk b.toArray).size:Nat):Int) > IntKind.i64.max:=by
     show ¬ ((a.toArray.size+b.toArray.size:Nat):Int) > 9223372036854775807;simp;omega
    simp [binOp,Op.stringOp] at this ⊢;exact this
   ·show Value.string _=Value.string _
    congr 1
  all_goals exact ⟨_,rfl,by simp [RV,RC,ByteArray.toList_mk,D2I]⟩
 ·cases h
def D1y (P:Program) (fn:Bool) (t:TypeId) (c:Value):Bool :=
 match fn,P.underlying t,c with
 | true,some (.func ..),.nilFunc=>true
 | false,some (.pointer _),.pointer none=>true
 | _,_,_=>false
theorem D6L {fn:Bool} {t:TypeId} {c:Value} (h:D1y P fn t c=true):(fn=true/\(∃ a b d,P.underlying t=some (.func a b d))/\c=.nilFunc)\/(fn=false/\(∃ a,P.underlying t=some (.pointer a))/\c=.pointer none):=by
 unfold D1y at h;split at h
 ·rename_i h2;exact .inl ⟨rfl,⟨_,_,_,h2⟩,rfl⟩
 ·rename_i h2;exact .inr ⟨rfl,⟨_,h2⟩,rfl⟩
 ·cases h
theorem C58 {xt:TypeId} {a b:Bool} (hu:P.underlying xt=some .bool):(Op.equal xt (.bool a) (.bool b)).run P w=.ok (a==b) w:=by
 unfold Op.equal;rw [show Op.maxDepth=9999+1 from rfl];unfold Op.equalIn;simp only [Sem.run_bind,E4 hu,Result.andThen_ok];rfl
theorem E0L {neg:Bool} {xt:TypeId} {x y v:Val} {X Y:Value} (hu:P.underlying xt=some .bool) (hx:RV μ x X) (hy:RV μ y Y) (h:D4c neg x y=some v) :
  ∃ V,(binOp (bif neg then .neq else .eql) xt X Y).run P w=.ok V w/\RV μ v V:=by
 unfold D4c at h;split at h
 ·rename_i a b;have hX:X=.bool a:=hx;have hY:Y=.bool b:=hy;subst hX hY;cases h;cases neg
  ·exact ⟨_,by show (Op.equal xt (.bool a) (.bool b) >>= λr=>pure (Value.bool r)).run P w=_;rw [Sem.run_bind,C58 hu];rfl,rfl⟩
  ·exact ⟨_,by show (Op.equal xt (.bool a) (.bool b) >>= λr=>pure (Value.bool !r)).run P w=_;rw [Sem.run_bind,C58 hu];rfl,rfl⟩
 ·cases h
theorem E0M {fn neg:Bool} {xt:TypeId} {x v:Val} {X c:Value} (hu:D1y P fn xt c=true) (hx:RV μ x X) (h:D08 fn neg x=some v) :
  ∃ V,(binOp (bif neg then .neq else .eql) xt X c).run P w=.ok V w/\RV μ v V:=by
 unfold D08 at h;have one:∀ (r:Bool),(binOp (bif neg then .neq else .eql) xt X c=(Op.equal xt X c >>= λr=>pure (Value.bool (bif neg then !r else r))))->(Op.equal xt X c).run P w=.ok r w->(binOp (bif neg then .neq else .eql) xt X c).run P w=.ok (.bool (bif neg then !r else r)) w:=by
  intro r e1 he;rw [e1,Sem.run_bind,he];rfl
 rcases D6L hu with ⟨rfl,⟨a,b,d,h2⟩,rfl⟩ | ⟨rfl,⟨a,h2⟩,rfl⟩
 ·have eq:∀ (r:Bool),((X=.nilFunc/\r=true)\/(∃ g cs,X=.func (.func g) #[] cs/\r=false))->(Op.equal xt X .nilFunc).run P w=.ok r w:=by
   intro r h;unfold Op.equal;rw [show Op.maxDepth=9999+1 from rfl];unfold Op.equalIn;rcases h with ⟨rfl,rfl⟩ | ⟨g,cs,rfl,rfl⟩<;>simp only [Sem.run_bind,E4 h2,Result.andThen_ok]<;>rfl
  split at h
  ·cases h;have hX:X=.nilFunc:=hx;subst hX;exact ⟨_,one true (by cases neg<;>rfl) (eq true (.inl ⟨rfl,rfl⟩)),by cases neg<;>rfl⟩
  ·cases h;obtain ⟨cs,hX,_⟩:=hx;subst hX;exact ⟨_,one false (by cases neg<;>rfl) (eq false (.inr ⟨_,_,rfl,rfl⟩)),by cases neg<;>rfl⟩
  ·rename_i h3;cases h3
  ·rename_i h3;cases h3
  ·cases h
 ·have eq:∀ (r:Bool),((X=.pointer none/\r=true)\/(∃ q,X=.pointer (some q)/\r=false))->(Op.equal xt X (.pointer none)).run P w=.ok r w:=by
   intro r h;unfold Op.equal;rw [show Op.maxDepth=9999+1 from rfl];unfold Op.equalIn;rcases h with ⟨rfl,rfl⟩ | ⟨q,rfl,rfl⟩<;>simp only [Sem.run_bind,E4 h2,Result.andThen_ok]<;>rfl
  split at h
  ·rename_i h3;cases h3
  ·rename_i h3;cases h3
  ·cases h;have hX:X=.pointer none:=hx;subst hX;exact ⟨_,one true (by cases neg<;>rfl) (eq true (.inl ⟨rfl,rfl⟩)),by cases neg<;>rfl⟩
  ·cases h;obtain ⟨b,n,_,hX⟩:=hx;subst hX;exact ⟨_,one false (by cases neg<;>rfl) (eq false (.inr ⟨_,rfl,rfl⟩)),by cases neg<;>rfl⟩
  ·cases h
theorem E2B {op:UnOp} {x v:Val} {X:Value} (hx:RV μ x X) (h:aun op x=some v):∃ V,(Op.unary op X).run P w=.ok V w/\RV μ v V:=by
 unfold aun at h;split at h<;>cases h<;>cases hx<;>exact ⟨_,rfl,rfl⟩
theorem jV (b off k:Nat):(⟨b,off,none⟩:Addr).add k=⟨b,off+k,none⟩:=by
 unfold Addr.add;split<;>simp_all
theorem D0u {t:TypeId} {hp:A6} {a v:Val} {A:Value} (nH:jW P t=some false) (hrow:∀ id r,rd hp id=some r->RowOk μ w id r)
  (ha:RV μ a A) (h:B4 hp a=some v):∃ V,(Instr.loadAt t A).run P w=.ok V w/\RV μ v V:=by
 unfold B4 at h;split at h
 ·rename_i id off;obtain ⟨b,n,hm,rfl⟩:=ha;simp only [E4Z] at h;obtain ⟨r,hr,c,hc,h⟩:=h;cases hx:(r.rw || !c.isX) with
  | false=>rw [hx] at h;cases h
  | true =>
  rw [hx] at h;cases h;obtain ⟨V,hV,hR⟩:=(hrow id r hr).cell hm hc hx;refine ⟨V,?_,hR⟩;simp [Instr.loadAt,Instr.sureAddr,loadVar,B1u nH,hV]
 ·cases h
theorem D0v {t:TypeId} {hp:A6} {a v:Val} {A:Value} {k:Nat} (nH:jW P t=some true) (hsz:P9 P t=some k) (hrow:∀ id r,rd hp id=some r->RowOk μ w id r)
  (ha:RV μ a A) (h:C8 hp k a=some v):∃ V,(Instr.loadAt t A).run P w=.ok V w/\RV μ v V:=by
 unfold C8 at h;split at h
 ·rename_i id off;obtain ⟨b,n,hm,rfl⟩:=ha;simp only [E4Z] at h;obtain ⟨r,hr,h⟩:=h;split at h
  ·cases h;rename_i hk;obtain ⟨vs,h1,h2,h3⟩:=(hrow id r hr).cells hm off k hk.1 hk.2;refine ⟨.agg vs.toArray,?_,vs,rfl,h1⟩;have hl:=run_loadCells_list (P:=P) w ⟨b,off,none⟩ vs (λj v hv=>by rw [jV];exact h3 j v hv);rw [h2] at hl;simp [Instr.loadAt,Instr.sureAddr,loadVar,B1u nH,O6 hsz,hl]
  ·cases h
 ·cases h
theorem A3V (b:Nat):∀ (vs:List Value) (o:Nat) (w:World) (C:Array Value) (t:TypeId) (fz:Nat × Nat),w.heap[b]?=some (.cells C t fz)->o+vs.length<=C.size ->
  ∃ C':Array Value,(w.setCells b o vs).heap[b]?=some (.cells C' t fz)/\C'.toList=C.toList.take o++(vs++C.toList.drop (o+vs.length))
 | [],o,w,C,t,fz,h,hl=>⟨C,h,by simp⟩
 | v::r,o,w,C,t,fz,h,hl=>by
  simp only [E5a] at hl;have h1:(w.setCell ⟨b,o,none⟩ v).heap[b]?=some (.cells (C.setIfInBounds o v) t fz):=by
   simp only [World.setCell,Array.getElem?_modify,if_true,h,Option.map_some];simp
  obtain ⟨C',h2,h3⟩:=A3V b r (o+1) (w.setCell ⟨b,o,none⟩ v) (C.setIfInBounds o v) t fz h1 (by simp;omega);refine ⟨C',h2,?_⟩;rw [h3];have ho:o<C.toList.length:=by simp;omega
  simp only [Array.toList_setIfInBounds];rw [List.drop_set_of_lt (by omega),E5a,show o+1+r.length=o+(r.length+1) by omega];rw [List.take_set,List.take_add_one,List.set_append];have hm:min o C.size=o:=E5U (by simp at ho;omega);simp [E40 ho,hm]
theorem A1f (b:Nat):∀ (vs:List Value) (o:Nat) (w:World) (b':Nat),b'≠b->(w.setCells b o vs).heap[b']?=w.heap[b']?
 | [],_,_,_,_=>rfl
 | v::r,o,w,b',h=>by
  rw [World.setCells,A1f b r (o+1) _ b' h];simp [World.setCell,Array.getElem?_modify,Ne.symm h]
theorem B0X (b:Nat):∀ (vs:List Value) (o:Nat) (w:World),(w.setCells b o vs).os=w.os/\(w.setCells b o vs).tape=w.tape/\(w.setCells b o vs).output=w.output
 | [],_,_=>⟨rfl,rfl,rfl⟩
 | v::r,o,w=>by rw [World.setCells];exact B0X b r (o+1) _
theorem All2.lay {μ:Mu} {cs xs:List Cell} {off:Nat} {Cs vs:List Value} (h:All2 (RC μ) cs (Cs.take cs.length)) (hx:All2 (RC μ) xs vs) (hl:off+xs.length<=cs.length) :
  All2 (RC μ) (lay cs off xs) ((Cs.take off++(vs++Cs.drop (off+vs.length))).take (lay cs off xs).length):=by
 have hlen:=h.length;have hxl:=hx.length;have hL:(Esc.lay cs off xs).length=cs.length:=by simp [Esc.lay];omega
 rw [hL];have e:(Cs.take off++(vs++Cs.drop (off+vs.length))).take cs.length=(Cs.take cs.length).take off++(vs++(Cs.take cs.length).drop (off+vs.length)):=by
  have h1:cs.length<=Cs.length:=by simp at hlen;omega
  rw [List.take_append,List.take_append,List.take_take,List.take_take,E5q,List.drop_take,E5U (by omega:off<=cs.length),Nat.min_eq_right (by omega:off<=cs.length),E5U (by omega:off<=Cs.length)];rw [E5b (by omega:vs.length<=cs.length-off)]
  congr 3
  omega
 rw [e];unfold Esc.lay;rw [<-hxl];exact (h.take off).append (hx.append (h.drop _))
theorem C7t {Γ:Ctx} {h:A6} {id off b n:Nat} {r:Row} {xs:List Cell} {vs:List Value} (hi:Inv Γ μ h w) (hr:rd h id=some r) (kY:r.rw=true) (hm:μ id=some (b,n))
  (hx:All2 (RC μ) xs vs) (hl:off+xs.length<=r.cells.length) :
  (storeCells ⟨b,off,none⟩ vs).run P w=.ok () (w.setCells b off vs)/\Inv Γ μ (h.set id (some ⟨lay r.cells off xs,true⟩)) (w.setCells b off vs):=by
 obtain ⟨C,elem,fz,h1,h2,h3,h4⟩:=(hi.rows id r hr).mem hm kY
 replace h3:=RL.all h3 (by rw [kY];rfl)
 have hlen:=h3.length;have hxl:=hx.length;simp at hlen;have A4M:∀ j,j<vs.length->(w.cell? ⟨b,off+0+j,none⟩).isSome=true:=by
  intro j hj;simp only [World.cell?,h1];simp;omega
 have hfz:∀ j,j<vs.length->w.frozen? ⟨b,off+0+j,none⟩=false:=by
  intro j hj;simp only [World.frozen?,h1];obtain ⟨lo,hi'⟩:=fz;rcases h4 kY with h4 | h4<;>simp at h4 ⊢ <;> omega
 have h1c:∀ v∈vs,v.oneCell'=true:=by
  intro v hv;obtain ⟨i,U8,rfl⟩:=List.getElem_of_mem hv;have:i<xs.length:=by omega
  obtain ⟨V,hV,hR⟩:=hx.get i xs[i] (by simp [this]);rw [E40 U8] at hV;cases hV;exact hR.one
 refine ⟨by simpa using run_storeCells_cells (P:=P) b off vs 0 w A4M hfz h1c,?_⟩;obtain ⟨C',h5,h6⟩:=A3V b vs off w C elem fz h1 (by omega);obtain ⟨ho,ht,hou⟩:=B0X b vs off w;refine hi.write hr kY hm ho ht hou (λb' hb=>A1f b vs off w b' hb) ?_;unfold RowOk;rw [hm];refine .inl ⟨C',elem,fz,h5,?_,?_,λ_=>h4 kY⟩
 ·have:=congrArg List.length h6;simp at this;omega
 ·rw [h6];exact (All2.lay h3 hx hl).mono λ_ _=>.inl
theorem D5a {Γ:Ctx} {t:TypeId} {h h':A6} {a x:Val} {A X:Value} (hsz:P9 P t=some 1) (hi:Inv Γ μ h w) (ha:RV μ a A) (hx:RV μ x X) (hh:F9 h a x=some h') :
  ∃ w',(Instr.storeAt t A X).run P w=.ok () w'/\Inv Γ μ h' w':=by
 unfold F9 at hh;split at hh
 ·rename_i id off c;obtain ⟨b,n,hm,rfl⟩:=ha;simp only [E4Z] at hh;obtain ⟨r,hr,hh⟩:=hh;split at hh
  ·cases hh;rename_i hc;have B62:X.cells = #[X]:=RC.cells hx;have:=C7t (P:=P) hi hr hc.1 hm (off:=off) (xs:=[c]) (vs:=[X]) ⟨hx,trivial⟩ (by simp;omega);refine ⟨w.setCells b off [X],?_,?_⟩
   ·simp [Instr.storeAt,Instr.sureAddr,storeVar,B62,O6 hsz,this.1]
   ·have e:lay r.cells off [c]=r.cells.set off c:=by
     simp [lay,List.set_eq_take_append_cons_drop,hc.2]
    rw [<-e];exact this.2
  ·cases hh
 ·cases hh
theorem D5b {Γ:Ctx} {t:TypeId} {h h':A6} {a x:Val} {A X:Value} {k:Nat} (hsz:P9 P t=some k) (hi:Inv Γ μ h w) (ha:RV μ a A) (hx:RV μ x X) (hh:E1 h k a x=some h') :
  ∃ w',(Instr.storeAt t A X).run P w=.ok () w'/\Inv Γ μ h' w':=by
 unfold E1 at hh;split at hh
 ·rename_i id off xs;obtain ⟨b,n,hm,rfl⟩:=ha;obtain ⟨vs,rfl,hvs⟩:=hx;simp only [E4Z] at hh;obtain ⟨r,hr,hh⟩:=hh;split at hh
  ·cases hh;rename_i hc;have:=C7t (P:=P) hi hr hc.1 hm (off:=off) hvs (by omega);refine ⟨w.setCells b off vs,?_,this.2⟩;have hl:=hvs.length;have hk:vs.length=k:=by omega
   simp [Instr.storeAt,Instr.sureAddr,storeVar,Value.cells,O6 hsz,hk,this.1]
  ·cases hh
 ·cases hh
end
end
section
section
variable {P:Program} {μ:Mu} {w:World}
theorem E0N {x v:Val} {X:Value} {k:Nat} (hx:RV μ x X) (h:D4e x k=some v):∃ V,(Instr.extract X k).run P w=.ok V w/\RV μ v V:=by
 unfold D4e at h;split at h
 ·rename_i l;obtain ⟨vs,rfl,hvs⟩:=hx;simp only [E5i] at h;obtain ⟨p,hp,rfl⟩:=h;obtain ⟨V,hV,hR⟩:=hvs.get k p hp;exact ⟨V,by simp [Instr.extract,hV],RV.ofPart hR⟩
 ·cases h
theorem D0w {t:TypeId} {l:List Cell} {vs:List Value} {off:Nat} {c:Cell} (nH:jW P t=some false) (hvs:All2 (RC μ) l vs) (h:l[off]?=some c) :
  ∃ V,(part t vs.toArray off).run P w=.ok V w/\RC μ c V:=by
 obtain ⟨V,hV,hR⟩:=hvs.get off c h;exact ⟨V,by simp [part,B1u nH,hV],hR⟩
theorem D0x {t:TypeId} {l:List Cell} {vs:List Value} {off n:Nat} (nH:jW P t=some true) (hsz:P9 P t=some n) (hvs:All2 (RC μ) l vs) (h:off+n<=l.length) :
  ∃ V,(part t vs.toArray off).run P w=.ok V w/\RV μ (.a ((l.drop off).take n)) V:=by
 refine ⟨.agg (vs.toArray.extract off (off+n)),by simp [part,B1u nH,O6 hsz],(vs.drop off).take n,?_,(hvs.drop off).take n⟩
 congr 1
 apply Array.ext';simp [List.take_drop]
theorem D9k {s:TypeId} {fs:Array Field} {f:Field} {j:Nat} {x v:Val} {X:Value} (hs:A2x P s=some fs) (hf:fs[j]?=some f) (nH:jW P f.type=some false)
  (hx:RV μ x X) (h:C06 x f.offset=some v):∃ V,(Instr.field s X j).run P w=.ok V w/\RV μ v V:=by
 unfold C06 at h;split at h
 ·rename_i l;obtain ⟨vs,rfl,hvs⟩:=hx;simp only [E5i] at h;obtain ⟨c,hc,rfl⟩:=h;obtain ⟨V,hV,hR⟩:=D0w (P:=P) (w:=w) nH hvs hc;exact ⟨V,by simp [Instr.field,E4 (A2y hs),hf,asAgg,hV],hR⟩
 ·cases h
theorem D9l {s:TypeId} {fs:Array Field} {f:Field} {j n:Nat} {x v:Val} {X:Value} (hs:A2x P s=some fs) (hf:fs[j]?=some f) (nH:jW P f.type=some true) (hsz:P9 P f.type=some n)
  (hx:RV μ x X) (h:D5r x f.offset n=some v):∃ V,(Instr.field s X j).run P w=.ok V w/\RV μ v V:=by
 unfold D5r at h;split at h
 ·rename_i l;obtain ⟨vs,rfl,hvs⟩:=hx;split at h
  ·cases h;rename_i hl;obtain ⟨V,hV,hR⟩:=D0x (P:=P) (w:=w) nH hsz hvs hl;exact ⟨V,by simp [Instr.field,E4 (A2y hs),hf,asAgg,hV],hR⟩
  ·cases h
 ·cases h
theorem D7g {t e:TypeId} {n:Nat} {x i v:Val} {X I:Value} (ha:nX P t=some (n,e)) (nH:jW P e=some false) (hsz:P9 P e=some 1)
  (hx:RV μ x X) (hi:RV μ i I) (h:A3v n x i=some v):∃ V,(Instr.index t X I).run P w=.ok V w/\RV μ v V:=by
 unfold A3v at h;split at h
 ·rename_i l k j;obtain ⟨vs,rfl,hvs⟩:=hx;have hI:I=.int k j:=hi;subst hI;split at h
  ·rename_i hj;simp only [E5i] at h;obtain ⟨c,hc,rfl⟩:=h;obtain ⟨V,hV,hR⟩:=D0w (P:=P) (w:=w) nH hvs hc;exact ⟨V,by simp [Instr.index,E4 (nY ha),asIntOf,hj,O6 hsz,hV],hR⟩
  ·cases h
 ·cases h
theorem D7h {t e:TypeId} {n sz:Nat} {x i v:Val} {X I:Value} (ha:nX P t=some (n,e)) (nH:jW P e=some true) (hsz:P9 P e=some sz)
  (hx:RV μ x X) (hi:RV μ i I) (h:D09 n sz x i=some v):∃ V,(Instr.index t X I).run P w=.ok V w/\RV μ v V:=by
 unfold D09 at h;split at h
 ·rename_i l k j;obtain ⟨vs,rfl,hvs⟩:=hx;have hI:I=.int k j:=hi;subst hI;split at h
  ·rename_i hj;cases h;obtain ⟨V,hV,hR⟩:=D0x (P:=P) (w:=w) nH hsz hvs hj.2.2;exact ⟨V,by simp [Instr.index,E4 (nY ha),asIntOf,hj.1,hj.2.1,O6 hsz,hV],hR⟩
  ·cases h
 ·cases h
theorem D9m {t:TypeId} {x i v:Val} {X I:Value} (ht:bI P t=true) (hx:RV μ x X) (hi:RV μ i I) (h:C5y x i=some v) :
  ∃ V,(Instr.index t X I).run P w=.ok V w/\RV μ v V:=by
 unfold C5y at h;split at h
 ·rename_i s k j;have hX:X=.string ⟨s.toArray⟩:=hx;have hI:I=.int k j:=hi;subst hX hI;split at h
  ·rename_i hj;simp only [E5i] at h;obtain ⟨b,hb,rfl⟩:=h;refine ⟨.int .u8 b.toNat,?_,rfl⟩;have:(ByteArray.mk s.toArray)[j.toNat]?=some b:=by
    have U8:=(List.getElem?_eq_some_iff.1 hb).1;have hsz:j.toNat<(ByteArray.mk s.toArray).size:=by show j.toNat<s.toArray.size;simpa using U8
    rw [E40 U8] at hb;cases hb;rw [getElem?_pos (ByteArray.mk s.toArray) j.toNat hsz];rfl
   simp [Instr.index,E4 (kX ht),asIntOf,hj,this]
  ·cases h
 ·cases h
theorem D7f {s:TypeId} {fs:Array Field} {f:Field} {j n off:Nat} {x v:Val} {X:Value} (hs:A2x P s=some fs) (hf:fs[j]?=some f) (hsz:P9 P f.type=some n) (hn:n≠0) (ho:f.offset=off)
  (hx:RV μ x X) (h:qL x off=some v):∃ V,(Instr.fieldAt s X j).run P w=.ok V w/\RV μ v V:=by
 unfold qL at h;split at h
 ·rename_i id o;obtain ⟨b,m,hm,rfl⟩:=hx;cases h;refine ⟨.pointer (some ⟨b,o+off,none⟩),?_,b,m,hm,rfl⟩;simp [Instr.fieldAt,Instr.sureAddr,E4 (A2y hs),hf,fieldPlace,O6 hsz,hn,jV,ho]
 ·cases h
theorem D48 {t e:TypeId} {n sz:Nat} {x i v:Val} {X I:Value} (ha:nX P t=some (n,e)) (hsz:P9 P e=some sz) (hx:RV μ x X) (hi:RV μ i I) (h:J3 n sz x i=some v) :
  ∃ V,(Instr.indexAt t X I).run P w=.ok V w/\RV μ v V:=by
 unfold J3 at h;split at h
 ·rename_i id o k j;obtain ⟨b,m,hm,rfl⟩:=hx;have hI:I=.int k j:=hi;subst hI;split at h
  ·rename_i hj;cases h;refine ⟨.pointer (some ⟨b,o+j.toNat*sz,none⟩),?_,b,m,hm,rfl⟩;simp [Instr.indexAt,Instr.sureAddr,asIntOf,E4 (nY ha),O6 hsz,hj,jV]
  ·cases h
 ·cases h
theorem D49 {t e:TypeId} {sz:Nat} {x i v:Val} {X I:Value} (ha:sliceB P t=some e) (hsz:P9 P e=some sz) (hx:RV μ x X) (hi:RV μ i I) (h:D5 sz x i=some v) :
  ∃ V,(Instr.indexAt t X I).run P w=.ok V w/\RV μ v V:=by
 unfold D5 at h;split at h
 ·rename_i id o len sz' k j;have hI:I=.int k j:=hi;subst hI;split at h
  ·rename_i hj;cases h;rcases hx with ⟨b,m,cap,hm,_,_,rfl⟩ | ⟨h0,_⟩
   ·refine ⟨.pointer (some ⟨b,o+j.toNat*sz,none⟩),?_,b,m,hm,rfl⟩;simp [Instr.indexAt,asIntOf,E4 (O3 ha),O6 hsz,hj,jV]
   ·omega
  ·cases h
 ·cases h
theorem D9o {t:TypeId} {x v:Val} {X:Value} {ty:TypeId} (ht:bI P t=true) (hx:RV μ x X) (h:D2r x=some v):∃ V,(Builtin.len_ #[t] ty #[X]).run P w=.ok V w/\RV μ v V:=by
 unfold D2r at h;split at h<;>cases h
 rename_i s;have hX:X=.string ⟨s.toArray⟩:=hx;subst hX;refine ⟨.int .i64 s.length,?_,rfl⟩;simp [Builtin.len_,E4 (kX ht),goInt];show ((s.toArray.size:Nat):Int)=_;simp
theorem E0O {t e:TypeId} {x v:Val} {X:Value} {ty:TypeId} (he:sliceB P t=some e) (hx:RV μ x X) (h:D1a x=some v):∃ V,(Builtin.len_ #[t] ty #[X]).run P w=.ok V w/\RV μ v V:=by
 unfold D1a at h;split at h<;>cases h
 ·rcases hx with ⟨b,m,cap,hm,_,_,rfl⟩ | ⟨h0,a,rfl⟩
  ·exact ⟨_,by simp [Builtin.len_,E4 (O3 he),goInt],rfl⟩
  ·subst h0;exact ⟨_,by simp [Builtin.len_,E4 (O3 he),goInt],rfl⟩
 ·cases hx;exact ⟨_,by simp [Builtin.len_,E4 (O3 he),goInt],rfl⟩
theorem E0P {at_:Array TypeId} {ty:TypeId} {x y v:Val} {X Y:Value} (hx:RV μ x X) (hy:RV μ y Y) (h:C5A x y=some v):∃ V,(Builtin.max_ at_ ty #[X,Y]).run P w=.ok V w/\RV μ v V:=by
 unfold C5A at h;split at h<;>cases h
 cases hx;cases hy;exact ⟨_,rfl,rfl⟩
theorem E0Q {at_:Array TypeId} {ty:TypeId} {x y v:Val} {X Y:Value} (hx:RV μ x X) (hy:RV μ y Y) (h:B6B x y=some v):∃ V,(Builtin.min_ at_ ty #[X,Y]).run P w=.ok V w/\RV μ v V:=by
 unfold B6B at h;split at h<;>cases h
 cases hx;cases hy;exact ⟨_,rfl,rfl⟩
theorem D9i {s d:TypeId} {k ks:IntKind} {x v:Val} {X:Value} (hs:B4O P s=some ks) (hd:B4O P d=some k) (hx:RV μ x X) (h:D2o k x=some v) :
  ∃ V,(convert s d X).run P w=.ok V w/\RV μ v V:=by
 unfold D2o at h;split at h<;>cases h
 cases hx;exact ⟨_,by simp [convert,E4 (A4Q hs),E4 (A4Q hd),Conv.intToInt],rfl⟩
theorem D7e {s d:TypeId} {x v:Val} {X:Value} (hs:bI P s=true) (hd:bI P d=true) (hx:RV μ x X) (h:D06 x=some v) :
  ∃ V,(convert s d X).run P w=.ok V w/\RV μ v V:=by
 unfold D06 at h;split at h<;>cases h
 cases hx;exact ⟨_,by simp [convert,E4 (kX hs),E4 (kX hd)],rfl⟩
theorem D0t {o:Option Val} {O:Option Value} {d n y:Nat} {code:BoundsCode} (hO:match o,O with | none,none=>True | some v,some V=>RV μ v V | _,_=>False) (hb:bound o d=some n) (hn:n<=y) :
  (match O with | some v=>Instr.sliceBound v y code | none=>(pure d:Sem Nat)).run P w=.ok n w:=by
 unfold bound at hb;cases o with
 | none =>
  cases O with
  | none=>simp at hb;subst hb;rfl
  | some _=>exact hO.elim
 | some v =>
  cases O with
  | none=>exact hO.elim
  | some V =>
   simp only at hO hb;split at hb
   ·rename_i vG;cases vG
   ·rename_i k j vG;cases vG;cases hO;split at hb
    ·cases hb;rename_i hj;simp [Instr.sliceBound,asIntOf,hj];omega
    ·cases hb
   ·cases hb
def D0D (μ:Mu):Option Val->Option Value->Prop
 | none,none=>True
 | some v,some V=>RV μ v V
 | _,_=>False
theorem A1e {isSl:Bool} {len cap l h:Nat} {lo hi:Option Val} {Lo Hi:Option Value} (hlo:D0D μ lo Lo) (hhi:D0D μ hi Hi) (bl:bound lo 0=some l) (bh:bound hi len=some h)
  (h1:l<=h) (h2:h<=cap):(Instr.sliceBounds isSl len cap Lo Hi none).run P w=.ok (l,h,cap) w:=by
 unfold Instr.sliceBounds;have e1:=λcode=>D0t (P:=P) (w:=w) (μ:=μ) (o:=lo) (O:=Lo) (d:=0) (n:=l) (y:=h) (code:=code) (by cases lo<;>cases Lo<;>exact hlo) bl h1
 have e2:=λcode=>D0t (P:=P) (w:=w) (μ:=μ) (o:=hi) (O:=Hi) (d:=len) (n:=h) (y:=cap) (code:=code) (by cases hi<;>cases Hi<;>exact hhi) bh h2
 cases Hi with
 | none =>
  cases Lo with
  | none=>simp at e1 e2 ⊢;exact ⟨e1,e2⟩
  | some L =>
   simp at e1 e2 ⊢;subst e2;rw [e1 .sliceB];rfl
 | some H =>
  cases Lo with
  | none=>simp at e1 e2 ⊢;rw [e2];simp [e1]
  | some L =>
   simp at e1 e2 ⊢;rw [e2];simp [e1 .sliceB]
theorem E0U {t:TypeId} {x v:Val} {lo hi:Option Val} {X:Value} {Lo Hi:Option Value} (ht:bI P t=true) (hx:RV μ x X) (hlo:D0D μ lo Lo) (hhi:D0D μ hi Hi) (h:D9U x lo hi=some v) :
  ∃ V,(Instr.sliceAt t X Lo Hi none).run P w=.ok V w/\RV μ v V:=by
 unfold D9U at h;split at h
 ·rename_i s;have hX:X=.string ⟨s.toArray⟩:=hx;subst hX;simp only [E4Z] at h;obtain ⟨l,bl,hh,bh,h⟩:=h;split at h
  ·cases h;rename_i hc;have hsz:(ByteArray.mk s.toArray).size=s.length:=by show s.toArray.size=_;simp
   have:=A1e (P:=P) (w:=w) (μ:=μ) (isSl:=false) hlo hhi bl bh hc.1 hc.2;refine ⟨.string ((ByteArray.mk s.toArray).extract l hh),?_,?_⟩
   ·simp [Instr.sliceAt,Instr.slice,E4 (kX ht),hsz,this]
   ·show Value.string _=Value.string _
    congr 1
    apply ByteArray.ext;apply Array.ext';simp [List.drop_take]
  ·cases h
 ·cases h
theorem E0T {t e:TypeId} {sz:Nat} {x v:Val} {lo hi:Option Val} {X:Value} {Lo Hi:Option Value} (ht:sliceB P t=some e) (hsz:P9 P e=some sz) (hx:RV μ x X) (hlo:D0D μ lo Lo) (hhi:D0D μ hi Hi)
  (h:D2C sz x lo hi=some v):∃ V,(Instr.sliceAt t X Lo Hi none).run P w=.ok V w/\RV μ v V:=by
 unfold D2C at h;split at h
 ·rename_i id off len sz';simp only [E4Z] at h;obtain ⟨l,bl,hh,bh,h⟩:=h;split at h
  ·cases h;rename_i hc;obtain ⟨hc1,hc2,rfl⟩:=hc;rcases hx with ⟨b,m,cap,hm,hlc,B61,rfl⟩ | ⟨h0,a,rfl⟩
   ·have:=A1e (P:=P) (w:=w) (μ:=μ) (isSl:=true) hlo hhi bl bh hc1 (by omega:hh<=cap);by_cases wL:cap=l
    ·subst wL;refine ⟨.slice (some ⟨b,off,none⟩) (hh-cap) (cap-cap),by simp [Instr.sliceAt,Instr.slice,E4 (O3 ht),this,O6 hsz],.inr ?_⟩;have h1:hh-cap=0:=by omega
     exact ⟨h1,some ⟨b,off,none⟩,by rw [h1,show cap-cap=0 by omega]⟩
    ·refine ⟨.slice (some ⟨b,off+l*sz,none⟩) (hh-l) (cap-l),by simp [Instr.sliceAt,Instr.slice,E4 (O3 ht),this,O6 hsz,wL,jV],.inl ⟨b,m,cap-l,hm,by omega,?_,rfl⟩⟩;have:l*sz+(cap-l)*sz=cap*sz:=by rw [<-E5Z];congr 1;omega
     omega
   ·have:=A1e (P:=P) (w:=w) (μ:=μ) (isSl:=true) (cap:=0) hlo hhi bl bh hc1 (by omega);have h1:hh=0:=by omega
    have h2:l=0:=by omega
    subst h0 h1 h2;exact ⟨.slice a 0 0,by simp [Instr.sliceAt,Instr.slice,E4 (O3 ht),this,O6 hsz],.inr ⟨rfl,a,rfl⟩⟩
  ·cases h
 ·simp only [E4Z] at h;obtain ⟨l,bl,hh,bh,h⟩:=h;split at h
  ·cases h;rename_i hc;obtain ⟨rfl,rfl⟩:=hc;cases hx;have:=A1e (P:=P) (w:=w) (μ:=μ) (isSl:=true) (cap:=0) hlo hhi bl bh (E44 _) (E44 _);exact ⟨.slice none 0 0,by simp [Instr.sliceAt,Instr.slice,E4 (O3 ht),this,O6 hsz],rfl⟩
  ·cases h
 ·cases h
theorem E0S {t e:TypeId} {n sz:Nat} {hp:A6} {x v:Val} {lo hi:Option Val} {X:Value} {Lo Hi:Option Value} (ht:nX P t=some (n,e)) (hsz:P9 P e=some sz)
  (hrow:∀ id r,rd hp id=some r->RowOk μ w id r) (hx:RV μ x X) (hlo:D0D μ lo Lo) (hhi:D0D μ hi Hi) (h:B4w hp n sz x lo hi=some v) :
  ∃ V,(Instr.sliceAt t X Lo Hi none).run P w=.ok V w/\RV μ v V:=by
 unfold B4w at h;split at h
 ·rename_i id off;obtain ⟨b,m,hm,rfl⟩:=hx;simp only [E4Z] at h;obtain ⟨r,hr,l,bl,hh,bh,h⟩:=h;split at h
  ·cases h;rename_i hc;simp at hm;obtain ⟨hc1,hc2,hc3,hc4⟩:=hc;have hc:l<=hh/\hh<=n/\off+n*sz<=r.cells.length:=⟨hc1,hc2,hc3⟩;have wN:MemOk μ w b m r:=by
    cases kY:r.rw with
    | true=>exact (hrow id r hr).mem hm kY
    | false =>
     rw [kY] at hc4;simp only [Bool.false_or] at hc4;cases A4M:r.cells[off]? with
     | none=>rw [A4M] at hc4;cases hc4
     | some c=>rw [A4M] at hc4;exact (hrow id r hr).seen hm (E5s A4M) (by rw [kY];simpa using hc4)
   obtain ⟨C,elem,fz,h1,h2,h3,h4⟩:=wN;have hlen:=h3.length;simp at hlen;have:=A1e (P:=P) (w:=w) (μ:=μ) (isSl:=false) hlo hhi bl bh hc.1 hc.2.1;by_cases wL:n=l
   ·subst wL;refine ⟨.slice (some ⟨b,off,none⟩) (hh-n) (n-n),by simp [Instr.sliceAt,Instr.sureAddr,E4 (nY ht),this,O6 hsz],.inr ?_⟩;have h1:hh-n=0:=by omega
    exact ⟨h1,some ⟨b,off,none⟩,by rw [h1,show n-n=0 by omega]⟩
   ·refine ⟨.slice (some ⟨b,off+l*sz,none⟩) (hh-l) (n-l),by simp [Instr.sliceAt,Instr.sureAddr,E4 (nY ht),this,O6 hsz,wL,jV],.inl ⟨b,m,n-l,hm,by omega,?_,rfl⟩⟩;have:l*sz+(n-l)*sz=n*sz:=by rw [<-E5Z];congr 1;omega
    omega
  ·cases h
 ·cases h
theorem B41 {hp:A6} {x:Val} {X:Value} {cs:List Cell} (hrow:∀ id r,rd hp id=some r->RowOk μ w id r) (hx:RV μ x X) (h:gF hp x=some cs) :
  ∃ len cap a vs,X=.slice a len cap/\All2 (RC μ) cs vs/\(∀ sz,(∀ id off l sz',x=.c (.sl id off l sz')->sz=sz')->vs.length=len*sz)/\(a=none->vs=[])/\(∀ b,a=some b->∀ j v,vs[j]?=some v->w.cell? (b.add j)=some v):=by
 unfold gF at h;split at h
 ·cases h;cases hx;exact ⟨0,0,none,[],rfl,trivial,λ_ _=>by simp,λ_=>rfl,λb hb=>(by cases hb)⟩
 ·rename_i id off len sz;simp only [E4Z] at h;obtain ⟨r,hr,h⟩:=h;split at h
  ·cases h;rename_i hl;rcases hx with ⟨b,m,cap,hm,hlc,B61,rfl⟩ | ⟨h0,a,rfl⟩
   ·obtain ⟨vs,h1,h2,h3⟩:=(hrow id r hr).cells hm off (len*sz) hl.1 hl.2;refine ⟨len,cap,_,vs,rfl,h1,λs hs=>(by rw [h2,hs id off len sz rfl]),λh=>(by cases h),λb' hb j v hv=>?_⟩;cases hb;rw [jV];exact h3 j v hv
   ·subst h0;exact ⟨0,0,a,[],rfl,by simp,λ_ _=>by simp,λ_=>rfl,λb hb j v hv=>by simp at hv⟩
  ·cases h
 ·cases h
theorem D7U {c:Cell} {b:UInt8} {V:Value} (h:C9F c=some b) (hr:RC μ c V):V=.int .u8 b.toNat:=by
 unfold C9F at h;split at h
 ·split at h
  ·cases h;rename_i n hn;have hV:V=.int .u8 n:=hr;subst hV
   congr 1
   have:(UInt8.ofNat n.toNat).toNat=n.toNat:=by simp [UInt8.toNat_ofNat'];omega
   rw [this];omega
  ·cases h
 ·cases h
theorem C9H:∀ {cs:List Cell} {s:List UInt8} {vs:List Value},bytes? cs=some s->All2 (RC μ) cs vs->vs=s.map λb=>Value.int .u8 b.toNat
 | [],s,[],h,_=>by simp [bytes?] at h;subst h;rfl
 | c::r,s,v::vs,h,⟨h1,h2⟩=>by
  simp only [bytes?,E4Z,E5i] at h;obtain ⟨b,hb,l,hl,rfl⟩:=h;rw [E50,D7U hb h1,C9H hl h2]
 | [],_,_::_,_,h=>h.elim
 | _::_,_,[],_,h=>h.elim
theorem D2E:∀ (s:List UInt8) (acc:ByteArray),(forIn (s.map λb=>Value.int .u8 b.toNat) acc (λc r=>do
   let .int .u8 n := c | stuck "bytesToString: byte expected"
   let r:=r.push (UInt8.ofNat n.toNat)
   pure PUnit.unit
   pure (ForInStep.yield r)):Sem ByteArray).run P w=.ok ⟨acc.data++s.toArray⟩ w
 | [],acc=>by simp
 | b::s,acc=>by
  simp only [E50,List.forIn_cons,Sem.run_bind];have:=D2E s (acc.push b);simp at this ⊢;rw [this]
theorem D4a {h:A6} {n0:Nat} {own:Option Nat} {x v:Val} (hp:C02 h n0 own x=some v):B4o h x=some v:=by
 unfold C02 at hp;split at hp
 ·exact hp
 ·split at hp
  ·split at hp
   ·exact hp
   ·cases hp
  ·cases hp
theorem D57 {s d e:TypeId} {hp:A6} {x:Val} {X:Value} {cs:List Cell} {l:List UInt8} (hs:sliceB P s=some e) (he:B4O P e=some .u8) (hd:bI P d=true)
  (hrow:∀ id r,rd hp id=some r->RowOk μ w id r) (hx:RV μ x X) (h1:gF hp x=some cs) (h2:bytes? cs=some l) (B62:∀ id off l sz',x=.c (.sl id off l sz')->1=sz') :
  (convert s d X).run P w=.ok (.string ⟨l.toArray⟩) w:=by
 obtain ⟨len,cap,a,vs,rfl,hvs,hlen,C6s,A4M⟩:=B41 hrow hx h1;have hl:vs.length=len:=by simpa using hlen 1 B62
 have hv:=C9H h2 hvs;have hc:(convert s d (.slice a len cap)).run P w=(Conv.bytesToString (.slice a len cap)).run P w:=by
  simp [convert,E4 (O3 hs),E4 (kX hd),E4 (A4Q he)]
 rw [hc];cases a with
 | none =>
  have:l=[]:=by have:=C6s rfl;rw [hv] at this;simpa using this
  subst this;rfl
 | some b =>
  have hl2:=run_loadCells_list (P:=P) w b vs (A4M b rfl);rw [hl] at hl2;simp only [Conv.bytesToString,Sem.run_bind,hl2,Result.andThen_ok];rw [hv];have:=D2E (P:=P) (w:=w) l ByteArray.empty;simp at this ⊢;rw [this]
theorem D3R {s d e:TypeId} {hp:A6} {x v:Val} {X:Value} (hs:sliceB P s=some e) (he:B4O P e=some .u8) (hd:bI P d=true)
  (hrow:∀ id r,rd hp id=some r->RowOk μ w id r) (hx:RV μ x X) (h:B4o hp x=some v):∃ V,(convert s d X).run P w=.ok V w/\RV μ v V:=by
 unfold B4o at h;split at h
 ·split at h
  ·rename_i id off len sz hsz;simp only [E5i,E4Z] at h;obtain ⟨l,⟨cs,hcs,hl⟩,rfl⟩:=h;exact ⟨_,D57 hs he hd hrow hx hcs hl (λ_ _ _ _ h=>by cases h;exact hsz.symm),rfl⟩
  ·cases h
 ·cases h;exact ⟨_,D57 (hp:=hp) (cs:=[]) (l:=[]) hs he hd hrow hx rfl rfl (λ_ _ _ _ h=>by cases h),rfl⟩
 ·cases h
end
end
section
section
variable {P:Program} {μ:Mu} {w:World}
def tK (μ:Mu) (h:A6) (n0:Nat):Option Nat->Prop
 | none=>True
 | some j=>μ (n0+j)=none/\n0+j<h.length
def Keeps (μ μ':Mu) (h:A6) (n0:Nat) (slot:Option Nat):Prop:=∀ id,id<h.length->(∀ j,slot=some j->id≠n0+j) -> μ' id = μ id
theorem Keeps.refl (μ:Mu) (h:A6) (n0:Nat) (slot:Option Nat):Keeps μ μ h n0 slot:=λ_ _ _=>rfl
theorem Keeps.new {μ:Mu} {h:A6} {n0:Nat} {slot:Option Nat} {r:Row} {x:Nat × Nat}:Keeps μ (μ.add (dA h n0 slot r).1 x) h n0 slot:=by
 intro id h1 h2;have:id≠(dA h n0 slot r).1:=by
  cases slot with
  | none=>simp only [dA];omega
  | some j=>exact h2 j rfl
 simp [Mu.add,this]
theorem oQ {h:A6} {n0:Nat} {slot:Option Nat} {r:Row} (hs:tK μ h n0 slot) (hd:∀ id,h.length<=id -> μ id=none) :
  μ (dA h n0 slot r).1=none/\(∀ j,j≠(dA h n0 slot r).1->∀ x,rd (dA h n0 slot r).2 j=some x->rd h j=some x)/\(∀ x,rd (dA h n0 slot r).2 (dA h n0 slot r).1=some x->x=r) /\
   h.length<=(dA h n0 slot r).2.length/\(dA h n0 slot r).1<(dA h n0 slot r).2.length/\rd (dA h n0 slot r).2 (dA h n0 slot r).1=some r:=by
 cases slot with
 | none =>
  simp only [dA];have e:rd (h++[some r]) h.length=some r:=by rw [rd_some];simp
  refine ⟨hd _ (E44 _),?_,?_,by simp,by simp,e⟩
  ·intro j hj x hx;rw [rd_some] at hx ⊢;by_cases hl:j<h.length
   ·rwa [E5z hl] at hx
   ·have:j-h.length≠0:=by omega
    rw [E5e (by omega)] at hx;have:([some r]:A6)[j-h.length]?=none:=by apply E5C;simp;omega
    rw [this] at hx;cases hx
  ·intro x hx;rw [e] at hx;cases hx;rfl
 | some j =>
  obtain ⟨h1,h2⟩:=hs;simp only [dA];have e:rd (h.set (n0+j) (some r)) (n0+j)=some r:=B7 h2;refine ⟨h1,?_,?_,by simp,by simpa using h2,e⟩
  ·intro i hi x hx;rwa [A7 (Ne.symm hi)] at hx
  ·intro x hx;rw [e] at hx;cases hx;rfl
theorem B4S {Γ:Ctx} {h:A6} {n0:Nat} {slot:Option Nat} {cs:List Cell} {C:List Value} {t:TypeId} (hi:Inv Γ μ h w) (hs:tK μ h n0 slot) (hc:All2 (RC μ) cs (C.take cs.length)) :
  Inv Γ (μ.add (dA h n0 slot ⟨cs,true⟩).1 (w.heap.size,C.length)) (dA h n0 slot ⟨cs,true⟩).2 (w.alloc (.cells C.toArray t)):=by
 obtain ⟨h1,h2,h3,h4,h5,h6⟩:=oQ (r:=⟨cs,true⟩) hs hi.dom;refine hi.fresh h1 rfl rfl rfl (λb hb=>?_) h2 h3 h4 h5 ?_
 ·show (w.heap.push _)[b]?=_;rw [Array.getElem?_push,if_neg (by omega)]
 ·unfold RowOk;simp only [Mu.add,if_true];refine .inl ⟨C.toArray,t,(0,0),by show (w.heap.push _)[w.heap.size]?=_;simp,by simp,?_,λ_=>.inl rfl⟩;exact hc.mono λ_ _ h=>.inl (RC.mono (Mu.le_add h1) h)
theorem A4t {Γ:Ctx} {h:A6} {n0:Nat} {slot:Option Nat} (hi:Inv Γ μ h w) (hs:tK μ h n0 slot):Inv Γ μ (dA h n0 slot ⟨[],true⟩).2 w:=by
 obtain ⟨h1,h2,h3,h4,h5,h6⟩:=oQ (r:=⟨[],true⟩) hs hi.dom;generalize dA h n0 slot ⟨[],true⟩=p at *;refine ⟨λid r hr=>?_,λid gG r r' x x' hr hr' kY T5 hx hx'=>?_,λid r x hr kY hx=>?_,λid hid=>hi.dom id (by omega),hi.ctx⟩
 ·by_cases e:id=p.1
  ·subst e;rw [h3 r hr];unfold RowOk;rw [h1]
  ·exact hi.rows id r (h2 id e r hr)
 ·have e:id≠p.1:=by intro e;subst e;rw [h1] at hx;cases hx
  have e':gG≠p.1:=by intro e;subst e;rw [h1] at hx';cases hx'
  exact hi.sep id gG r r' x x' (h2 id e r hr) (h2 gG e' r' hr') kY T5 hx hx'
 ·have e:id≠p.1:=by intro e;subst e;rw [h1] at hx;cases hx
  exact hi.own id r x (h2 id e r hr) kY hx
theorem gE (t:TypeId) (C:Array Value):(newRow t C).run P w=.ok ⟨w.heap.size,0,none⟩ (w.alloc (.cells C t)):=by
 rfl
theorem U0 (m:Mu) (id:Nat) (x:Nat × Nat):(m.add id x) id=some x:=by simp [Mu.add]
theorem D7c {Γ:Ctx} {h:A6} {n0:Nat} {slot:Option Nat} {t:TypeId} {z:Value} {zero:List Cell} {old:Value} (hi:Inv Γ μ h w) (hs:tK μ h n0 slot) (hz:wW P t=some z) (hc:jF z zero=true) :
  ∃ V w' μ',(Instr.alloc t true old).run P w=.ok V w' /\ μ.le μ'/\RV μ' (.c (.p (dA h n0 slot ⟨zero,true⟩).1 0)) V/\Inv Γ μ' (dA h n0 slot ⟨zero,true⟩).2 w'/\Keeps μ μ' h n0 slot:=by
 have hcs:=fU (μ:=μ) hc;have hn:=B4S (t:=t) hi hs (cs:=zero) (C:=z.cells.toList) (by rw [E5b (by rw [hcs.length];exact E44 _)];exact hcs);refine ⟨.pointer (some ⟨w.heap.size,0,none⟩),_,_,?_,Mu.le_add (oQ (r:=⟨zero,true⟩) hs hi.dom).1,⟨_,_,U0 _ _ _,rfl⟩,hn,Keeps.new⟩;cases old<;>simp [Instr.alloc,wS hz,newVar,gE]
theorem E0J {Γ:Ctx} {h:A6} {n0:Nat} {slot:Option Nat} {t:TypeId} {x:Val} {X:Value} {cs:List Cell} (hi:Inv Γ μ h w) (hs:tK μ h n0 slot) (hx:RV μ x X) (hc:cells? x=some cs) :
  ∃ V w' μ',(Instr.box t X).run P w=.ok V w' /\ μ.le μ'/\RV μ' (.c (.p (dA h n0 slot ⟨cs,true⟩).1 0)) V/\Inv Γ μ' (dA h n0 slot ⟨cs,true⟩).2 w'/\Keeps μ μ' h n0 slot:=by
 have hcs:=hx.cells hc;have hn:=B4S (t:=t) hi hs (cs:=cs) (C:=X.cells.toList) (by rw [E5b (by rw [hcs.length];exact E44 _)];exact hcs);refine ⟨.pointer (some ⟨w.heap.size,0,none⟩),_,_,?_,Mu.le_add (oQ (r:=⟨cs,true⟩) hs hi.dom).1,⟨_,_,U0 _ _ _,rfl⟩,hn,Keeps.new⟩;simp [Instr.box,newVar,gE]
theorem foldl_set (vs:List Value):∀ (k off:Nat) (cs:Array Value),off+k+vs.length<=cs.size ->
  ((vs.zipIdx k).foldl (λcs (x:Value × Nat)=>cs.setIfInBounds (off+x.2) x.1) cs).toList=cs.toList.take (off+k)++(vs++cs.toList.drop (off+k+vs.length)):=by
 induction vs with
 | nil=>intro k off cs h;simp
 | cons v r ih =>
  intro k off cs h;simp only [E5a] at h;simp only [List.zipIdx_cons,List.foldl_cons];rw [ih (k+1) off _ (by simp;omega)];have ho:off+k<cs.toList.length:=by simp;omega
  simp only [Array.toList_setIfInBounds];rw [List.drop_set_of_lt (by omega),E5a,show off+(k+1)+r.length=off+k+(r.length+1) by omega];rw [show off+(k+1)=off+k+1 by omega,List.take_set,List.take_add_one,List.set_append];have hm:min (off+k) cs.size=off+k:=E5U (by simp at ho;omega);simp [E40 ho,hm]
def C3R (μ:Mu) (place:Nat->Option (Nat × Nat)):List (Nat × Nat × Val)->List (Nat × Value)->Prop :=
 All2 λp q=>place q.1=some (p.1,p.2.1)/\RV μ p.2.2 q.2
theorem C3n {place:Nat->Option (Nat × Nat)}:∀ {ps:List (Nat × Nat × Val)} {qs:List (Nat × Value)} {zero cs:List Cell} {Z:Array Value},C3R μ place ps qs->All2 (RC μ) zero Z.toList->D9 zero ps=some cs ->
  ∃ Z',Instr.fill place Z qs=some Z'/\All2 (RC μ) cs Z'.toList
 | [],[],zero,cs,Z,_,hz,h=>by simp [D9] at h;subst h;exact ⟨Z,rfl,hz⟩
 | (off,n,v)::ps,(i,V)::qs,zero,cs,Z,⟨⟨h1,h2⟩,h3⟩,hz,h=>by
  simp only [D9] at h;split at h
  ·rename_i xs hxs;split at h
   ·rename_i hc;have hV:=RV.cells h2 hxs;have hVl:=hV.length;have wY:=hz.length;simp at wY hVl;have A05:(V.cells.size≠n||off+V.cells.size > Z.size)=false:=by simp;omega
    have hl2:((V.cells.zipIdx.foldl (λcs (x:Value × Nat)=>cs.setIfInBounds (off+x.2) x.1) Z)).toList=Z.toList.take off++(V.cells.toList++Z.toList.drop (off+V.cells.toList.length)):=by
     have:=foldl_set V.cells.toList 0 off Z (by simp;omega);rw [<-Array.foldl_toList,Array.toList_zipIdx];simpa using this
    have E4c:All2 (RC μ) (lay zero off xs) (V.cells.zipIdx.foldl (λcs (x:Value × Nat)=>cs.setIfInBounds (off+x.2) x.1) Z).toList:=by
     rw [hl2];unfold lay;rw [hV.length];exact (hz.take off).append (hV.append (hz.drop _))
    obtain ⟨Z',h4,h5⟩:=C3n h3 E4c h;refine ⟨Z',?_,h5⟩;rw [Instr.fill,h1];simp only [A05];exact h4
   ·cases h
  ·cases h
 | [],_::_,_,_,_,h,_,_=>h.elim
 | _::_,[],_,_,_,h,_,_=>h.elim
theorem C3e {fs:List Field} {ps:List (Nat × Nat)} (h:fs.map (λf=>(P9 P f.type).map λn=>(f.offset,n))=ps.map some) :
  (fs.mapM λf=>(do pure (f.offset,<-sizeOf f.type):Sem (Nat × Nat))).run P w=.ok ps w:=by
 induction fs generalizing ps with
 | nil=>cases ps<;>simp_all
 | cons f r ih =>
  cases ps with
  | nil=>simp at h
  | cons p ps =>
   simp only [E50,List.cons.injEq] at h;cases hs:P9 P f.type with
   | none=>simp [hs] at h
   | some n =>
    simp [hs] at h;have:=ih (ps:=ps) (by simpa using h.2);simp at this;simp [List.mapM_cons,O6 hs,this,h.1]
theorem D47 {s:TypeId} {fs:Array Field} {z:Value} {zero cs:List Cell} {pl:List (Nat × Nat)} {ps:List (Nat × Nat × Val)} {qs:List (Nat × Value)} (hs:A2x P s=some fs) (hz:wW P s=some z) (hc:jF z zero=true)
  (hp:fs.toList.map (λf=>(P9 P f.type).map λn=>(f.offset,n))=pl.map some) (hR:C3R μ (pl[·]?) ps qs) (h:D9 zero ps=some cs) :
  ∃ V,(Instr.build s qs.toArray).run P w=.ok V w/\RV μ (.a cs) V:=by
 obtain ⟨Z',h1,h2⟩:=C3n hR (fU hc) h;refine ⟨.agg Z',?_,Z'.toList,by simp,h2⟩;have hm:=C3e (P:=P) (w:=w) hp;simp [Instr.build,wS hz,E4 (A2y hs),Array.mapM_eq_mapM_toList] at hm ⊢;rw [hm];simp [h1]
theorem D46 {s e:TypeId} {n sz:Nat} {z:Value} {zero cs:List Cell} {ps:List (Nat × Nat × Val)} {qs:List (Nat × Value)} (hs:nX P s=some (n,e)) (hsz:P9 P e=some sz) (hz:wW P s=some z) (hc:jF z zero=true)
  (hR:C3R μ (λi=>some (i*sz,sz)) ps qs) (h:D9 zero ps=some cs) :
  ∃ V,(Instr.build s qs.toArray).run P w=.ok V w/\RV μ (.a cs) V:=by
 obtain ⟨Z',h1,h2⟩:=C3n hR (fU hc) h;refine ⟨.agg Z',?_,Z'.toList,by simp,h2⟩;simp [Instr.build,wS hz,E4 (nY hs),O6 hsz,h1]
theorem D3S {Γ:Ctx} {h:A6} {n0:Nat} {slot:Option Nat} {s e:TypeId} {len sz:Nat} {z:Value} {zero cs:List Cell} {ps:List (Nat × Nat × Val)} {qs:List (Nat × Value)}
  (hi:Inv Γ μ h w) (mI:tK μ h n0 slot) (hs:sliceB P s=some e) (hsz:P9 P e=some sz) (hz:wW P e=some z) (hlen:len*sz<=2 ^ 24)
  (hc:jF (.agg ((Array.range (len*sz)).map (z.cells[· % z.cells.size]!))) zero=true) (hR:C3R μ (λi=>some (i*sz,sz)) ps qs) (hf:D9 zero ps=some cs) :
  ∃ V w' μ',(Instr.buildSlice s len qs.toArray).run P w=.ok V w' /\ μ.le μ'/\RV μ' (.c (.sl (dA h n0 slot ⟨cs,true⟩).1 0 len sz)) V/\Inv Γ μ' (dA h n0 slot ⟨cs,true⟩).2 w'/\Keeps μ μ' h n0 slot:=by
 obtain ⟨Z',h1,h2⟩:=C3n hR (fU hc) hf;have hn:=B4S (t:=e) hi mI (cs:=cs) (C:=Z'.toList) (by rw [E5b (by rw [h2.length];exact E44 _)];exact h2);have wL:cs.length=zero.length:=by
  have:∀ (ps:List (Nat × Nat × Val)) (zero cs:List Cell),D9 zero ps=some cs->cs.length=zero.length:=by
   intro ps
   induction ps with
   | nil=>intro zero cs h;simp [D9] at h;rw [h]
   | cons p ps ih =>
    intro zero cs h;obtain ⟨off,n,v⟩:=p;simp only [D9] at h;split at h
    ·split at h
     ·rename_i hc;rw [ih _ _ h];simp [lay];omega
     ·cases h
    ·cases h
  exact this _ _ _ hf
 have wY:zero.length=len*sz:=by
  have:=(fU (μ:=μ) hc).length;simpa [Value.cells] using this
 refine ⟨.slice (some ⟨w.heap.size,0,none⟩) len len,_,_,?_,Mu.le_add (oQ (r:=⟨cs,true⟩) mI hi.dom).1,.inl ⟨_,_,len,U0 _ _ _,E44 _,?_,rfl⟩,hn,Keeps.new⟩
 ·have bM:¬ len*sz > 2 ^ 24:=by omega
  have h1:Instr.fill (λi=>some (i*sz,sz)) ((Array.range (len*sz)).map (z.cells[· % z.cells.size]!)) qs=some Z':=h1;by_cases h0:len*sz=0
  ·have e0:((Array.range (len*sz)).map (λi=>z.cells[i%z.cells.size]!)) = #[]:=by simp [h0]
   rw [e0] at h1;have hr0:(Array.range 0).map (λ_=>(default:Value)) = #[]:=by simp
   simp [Instr.buildSlice,E4 (O3 hs),O6 hsz,h0,hr0,h1,gE]
  ·simp only [Instr.buildSlice,Sem.run_bind,E4 (O3 hs),Result.andThen_ok,O6 hsz,if_neg bM,if_neg h0,Sem.run_pure,wS hz,h1,gE,pure_bind]
 ·have:=h2.length;simp at this ⊢;omega
theorem D55 {Z:Array Value} {zero:List Cell} (hz:All2 (RC μ) zero Z.toList) (n:Nat) (h0:Z.size≠0) :
  All2 (RC μ) (rows zero n) (((Array.range (n*Z.size)).map (Z[· % Z.size]!)).toList):=by
 have e:((Array.range (n*Z.size)).map (Z[· % Z.size]!)).toList=(E41 n Z.toList).flatten:=by
  simp only [Array.toList_map,Array.toList_range]
  induction n with
  | zero=>simp
  | succ n ih =>
   rw [List.replicate_succ',List.flatten_append,<-ih,E5Z,Nat.one_mul,List.range_add,E5T,List.map_map]
   congr 1
   simp only [List.flatten_cons,List.flatten_nil,E5t];apply List.ext_getElem
   ·simp
   ·intro i h1 h2;simp at h1 h2;simp [Nat.add_mod,E5P h1,h1]
 rw [e];exact hz.flatten_replicate n
theorem D9r {Γ:Ctx} {h:A6} {n0:Nat} {slot:Option Nat} {s e:TypeId} {n c sz by_:Nat} {z:Value} {zero:List Cell} {x y:Val} {X Y:Value} (hi:Inv Γ μ h w) (mI:tK μ h n0 slot)
  (hs:sliceB P s=some e) (hsz:P9 P e=some sz) (hz:wW P e=some z) (hc:jF z zero=true) (hzs:zero.length=sz) (B4L:sz≠0) (hby:C5K P e=some by_) (hbl:by_<=65536)
  (hx:RV μ x X) (hy:RV μ y Y) (hn:A4V x=some n) (B61:A4V y=some c) (hnc:n<=c) :
  ∃ V w' μ',(Instr.makeSlice s X Y).run P w=.ok V w' /\ μ.le μ'/\RV μ' (.c (.sl (dA h n0 slot ⟨rows zero n,true⟩).1 0 n sz)) V/\Inv Γ μ' (dA h n0 slot ⟨rows zero n,true⟩).2 w'/\Keeps μ μ' h n0 slot:=by
 have key:∀ {v:Val} {V:Value} {m:Nat},RV μ v V->A4V v=some m->V=.int .i64 m/\m<=1073741824:=by
  intro v V m hv hm;unfold A4V at hm;split at hm
  ·split at hm
   ·cases hm;rename_i k hk;have:V=.int .i64 k:=hv;subst this;exact ⟨by congr 1;omega,by omega⟩
   ·cases hm
  ·cases hm
 obtain ⟨rfl,hnb⟩:=key hx hn;obtain ⟨rfl,hcb⟩:=key hy B61;have hcs:=fU (μ:=μ) hc;have wY:z.cells.size=sz:=by have:=hcs.length;simp at this;omega
 have hrows:=D55 hcs c (by omega);rw [wY] at hrows;have hrl:∀ m,(rows zero m).length=m*sz:=by intro m;simp [rows,hzs]
 have E14:rows zero c=rows zero n++rows zero (c-n):=by
  unfold rows;rw [<-List.flatten_append,List.replicate_append_replicate]
  congr 2;omega
 obtain ⟨info,dN,hib⟩:=D7d (P:=P) (w:=w) hby;have hnn:=B4S (t:=e) hi mI (cs:=rows zero n) (C:=((Array.range (c*sz)).map (z.cells[· % sz]!)).toList) (by
  have:=hrows.take (rows zero n).length;rw [E14,List.take_left] at this;exact this)
 refine ⟨.slice (some ⟨w.heap.size,0,none⟩) n c,_,_,?_,Mu.le_add (oQ (r:=⟨rows zero n,true⟩) mI hi.dom).1,.inl ⟨_,_,c,U0 _ _ _,hnc,?_,rfl⟩,hnn,Keeps.new⟩
 ·have w1:IntKind.i64.wrap (n:Int)=n:=IntWalk.i64_in _ (by omega);have w2:IntKind.i64.wrap (c:Int)=c:=IntWalk.i64_in _ (by omega);have hb:¬ ((by_:Int)*(c:Int) > 281474976710656):=by
   have:(by_:Int)*c<=65536*1073741824:=by
    have h1:by_*c<=65536*1073741824:=Nat.mul_le_mul hbl hcb;have h2:((by_*c:Nat):Int)<=((65536*1073741824:Nat):Int):=Int.ofNat_le.2 h1;rw [Int.natCast_mul] at h2;exact h2
   omega
  by_cases h0:c*sz=0
  ·simp [Instr.makeSlice,E4 (O3 hs),asInt,asIntOf,dN,hib,w1,w2,O6 hsz,h0,gE];have q1:¬ ((c:Int)<0\/281474976710656<(by_:Int)*c):=by omega
   have q2:¬ ((n:Int)<0):=by omega
   have q3:¬ (c<n):=by omega
   simp [q1,q2,q3];rw [show (Array.range 0).map (λ_=>(default:Value)) = #[] by simp]
  ·simp [Instr.makeSlice,E4 (O3 hs),asInt,asIntOf,dN,hib,w1,w2,O6 hsz,h0,wS hz,wY,gE];have q1:¬ ((c:Int)<0\/281474976710656<(by_:Int)*c):=by omega
   have q2:¬ ((n:Int)<0):=by omega
   have q3:¬ (c<n):=by omega
   simp [q1,q2,q3];exact congrArg (λx=>w.alloc (Obj.cells x e)) (by apply Array.ext';simp)
 ·simp
end
end
section
section
variable {P:Program} {μ:Mu} {w:World}
theorem D5E (s:List UInt8):All2 (RC μ) (A5 s) (s.map λb=>Value.int .u8 b.toNat):=by
 induction s with
 | nil=>trivial
 | cons b r ih=>exact ⟨rfl,ih⟩
theorem A4 (s:List UInt8):(A5 s).length=s.length:=by simp [A5]
theorem C05 {h:A6} {sz:Nat} {y:Val} {Y:Value} {ys:List Cell} (hrow:∀ id r,rd h id=some r->RowOk μ w id r) (hy:RV μ y Y) (hc:O5 h sz y=some ys) :
  ∃ n vs,(Builtin.lenOf Y).run P w=.ok n w/\(Builtin.firstCells sz n Y).run P w=.ok vs w/\All2 (RC μ) ys vs.toList/\vs.size=n*sz:=by
 unfold O5 at hc;split at hc
 ·split at hc
  ·cases hc;rename_i s hs;subst hs;have hY:Y=.string ⟨s.toArray⟩:=hy;subst hY;refine ⟨s.length,(s.map λb=>Value.int .u8 b.toNat).toArray,?_,?_,D5E s,by simp⟩
   ·simp [Builtin.lenOf];show s.toArray.size=_;simp
   ·have:((ByteArray.mk s.toArray).extract 0 s.length).data=s.toArray:=by
     apply Array.ext';simp
    simp [Builtin.firstCells]
  ·cases hc
 ·split at hc
  ·rename_i id off len sz' hs;subst hs;obtain ⟨len',cap,a,vs,hY,hvs,hlen,C6s,A4M⟩:=B41 hrow hy hc;subst hY;have hl:=hlen sz (λ_ _ _ _ h=>by cases h;rfl);refine ⟨len',vs.toArray,rfl,?_,hvs,by simpa using hl⟩;cases a with
   | none=>have:=C6s rfl;subst this;rfl
   | some b =>
    have:=run_loadCells_list (P:=P) w b vs (A4M b rfl);rw [hl] at this;simpa [Builtin.firstCells] using this
  ·cases hc
 ·cases hc;cases hy;exact ⟨0,#[],rfl,rfl,trivial,by simp⟩
 ·cases hc
theorem Inv.move {Γ:Ctx} {h:A6} {w':World} {id:Nat} {r r':Row} {b n:Nat} (hi:Inv Γ μ h w) (hr:rd h id=some r) (kY:r.rw=true) (E4m:r'.rw=true) (hm:μ id=some (b,n))
  (hos:w'.os=w.os) (htape:w'.tape=w.tape) (hout:w'.output=w.output) (hb:∀ b',b'≠b->w'.heap[b']?=w.heap[b']?)
  (hrow:RowOk (μ.add h.length (b,n)) w' h.length r'):Inv Γ (μ.add h.length (b,n)) (h.set id none++[some r']) w':=by
 replace kY:=Row.own_rw kY
 have E4H:=C5 hr;have rM:∀ j x,rd (h.set id none++[some r']) j=some x->(j=h.length/\x=r')\/(j≠h.length/\j≠id/\rd h j=some x):=by
  intro j x hx;by_cases hj:j<h.length
  ·rw [D4 (by simpa using hj)] at hx;by_cases e:id=j
   ·subst e;rw [B7 hj] at hx;cases hx
   ·rw [A7 e] at hx;exact .inr ⟨by omega,Ne.symm e,hx⟩
  ·rw [rd_some,E5e (by simp;omega)] at hx;have h0:=(List.getElem?_eq_some_iff.1 hx).1;simp at h0;have e:j=h.length:=by omega
   subst e;simp at hx;exact .inl ⟨rfl,hx.symm⟩
 have C6s:μ h.length=none:=hi.dom _ (E44 _);have old:∀ j,j≠h.length->(μ.add h.length (b,n)) j = μ j:=λj hj=>by simp [Mu.add,hj]
 refine ⟨λj x hx=>?_,λj j' x x' y y' hx hx' hxw T5 hy hy'=>?_,λj x y hx hxw hy=>?_,λj hj=>?_,?_⟩
 ·rcases rM j x hx with ⟨rfl,rfl⟩ | ⟨h1,h2,h3⟩
  ·exact hrow
  ·exact (hi.rows j x h3).mono (Mu.le_add C6s) (old j h1) λy hy=>hb _ (Ne.symm (hi.sep id j r x (b,n) y hr h3 kY (Ne.symm h2) hm hy))
 ·rcases rM j x hx with ⟨rfl,rfl⟩ | ⟨h1,h2,h3⟩
  ·rcases rM j' x' hx' with ⟨h4,_⟩ | ⟨h4,h5,h6⟩
   ·exact absurd h4.symm T5
   ·rw [U0] at hy;cases hy;rw [old _ h4] at hy';exact hi.sep id j' r x' (b,n) y' hr h6 kY (Ne.symm h5) hm hy'
  ·rw [old _ h1] at hy;rcases rM j' x' hx' with ⟨h4,_⟩ | ⟨h4,h5,h6⟩
   ·subst h4;rw [U0] at hy';cases hy';exact hi.sep j id x r y (b,n) h3 hr hxw h2 hy hm
   ·rw [old _ h4] at hy';exact hi.sep j j' x x' y y' h3 h6 hxw T5 hy hy'
 ·rcases rM j x hx with ⟨rfl,rfl⟩ | ⟨h1,h2,h3⟩
  ·rw [U0] at hy;cases hy;exact hi.own id r (b,n) hr kY hm
  ·rw [old _ h1] at hy;exact hi.own j x y h3 hxw hy
 ·have:j≠h.length:=by simp at hj;omega
  rw [old _ this];exact hi.dom j (by simp at hj;omega)
 ·refine ⟨hos.trans hi.ctx.os,htape.trans hi.ctx.tape,hout.trans hi.ctx.output,λb' o ho=>?_⟩;have T5:b'≠b:=by
   intro e;subst e;have:=hi.own id r (b',n) hr kY hm;simp at this;rw [ho] at this;cases this
  rw [hb b' T5];exact hi.ctx.block b' o ho
theorem Inv.drop {Γ:Ctx} {h:A6} (hi:Inv Γ μ h w) (id:Nat):Inv Γ μ (h.set id none) w:=by
 have rM:∀ j x,rd (h.set id none) j=some x->rd h j=some x:=by
  intro j x hx;by_cases e:id=j
  ·subst e;by_cases hl:id<h.length
   ·rw [B7 hl] at hx;cases hx
   ·rw [List.set_eq_of_length_le (by omega)] at hx;exact hx
  ·rwa [A7 e] at hx
 exact ⟨λj x hx=>hi.rows j x (rM j x hx),λj j' x x' y y' hx hx'=>hi.sep j j' x x' y y' (rM j x hx) (rM j' x' hx'),λj x y hx=>hi.own j x y (rM j x hx),λj hj=>hi.dom j (by simpa using hj),hi.ctx⟩
theorem C6o (n:Nat):∀ (k c:Nat),c<=n->Builtin.growBy n k c<=n+(n+768)/4
 | 0,c,h=>by simp [Builtin.growBy];omega
 | k+1,c,h=>by
  unfold Builtin.growBy;split
  ·omega
  ·rename_i hc;by_cases h2:c+(c+768)/4<=n
   ·exact C6o n k _ h2
   ·have:Builtin.growBy n k (c+(c+768)/4)=c+(c+768)/4:=by
     cases k with
     | zero=>rfl
     | succ k=>unfold Builtin.growBy;rw [if_pos (by omega)]
    rw [this];omega
theorem C6Q (n c:Nat) (h:c<=n):Builtin.nextslicecap n c<=2*n+1000:=by
 unfold Builtin.nextslicecap;split
 ·omega
 ·split
  ·omega
  ·have:=C6o n 4 c h;omega
theorem A6M {s e yt ty:TypeId} {i:TypeInfo} {n sLen sCap:Nat} {z:Value} {base:Option Addr} {Y:Value} {old new:Array Value} {oc nc:List Cell} {Γ:Ctx} {h:A6}
  (hi:Inv Γ μ h w) (hs:P.underlying s=some (.slice e)) (dN:P.info? e=some i) (hbl:i.bytes<=65536) (hz:i.zero=some z) (wY:z.cells.size=i.size)
  (hyt:P.underlying yt=some .string\/∃ e',P.underlying yt=some (.slice e')) (hlen:(Builtin.lenOf Y).run P w=.ok n w) (hb0:i.bytes≠0)
  (D3f:(Builtin.firstCells i.size n Y).run P w.drew=.ok new w.drew) (hold:(Builtin.firstCells i.size sLen (.slice base sLen sCap)).run P w.drew=.ok old w.drew)
  (D8t:¬ sLen+n<=sCap) (B61:sLen<=sCap) (E1O:sLen+n<=1073741824)
  (ho:All2 (RC μ) oc old.toList) (hn:All2 (RC μ) nc new.toList) (hol:old.size=sLen*i.size) (hnl:new.size=n*i.size) :
  ∃ w' c,(Builtin.append_ #[s,yt] ty #[.slice base sLen sCap,Y]).run P w=.ok (.slice (some ⟨w.heap.size,0,none⟩) (sLen+n) c) w'/\sLen+n<=c /\
   Inv Γ (μ.add h.length (w.heap.size,c*i.size)) (h++[some ⟨oc++nc,true⟩]) w':=by
 have hnc:=C6Q (sLen+n) sCap (by omega);have bO:¬ (281474976710656<Builtin.nextslicecap (sLen+n) sCap*i.bytes):=by
  have:Builtin.nextslicecap (sLen+n) sCap*i.bytes<=2147484648*65536:=Nat.mul_le_mul (by omega) hbl;omega
 have hc0:sLen+n<=grownCap w (sLen+n) sCap e:=by show sLen+n<=sLen+n+_%_;omega
 have hw:Inv Γ μ h w.drew:=hi.world rfl rfl rfl λ_ _=>rfl
 have D3h:(Builtin.zeroCells z.cells (grownCap w (sLen+n) sCap e-(sLen+n))).size=(grownCap w (sLen+n) sCap e-(sLen+n))*i.size:=by
  simp [Builtin.zeroCells,wY]
 have hC:(old++new++Builtin.zeroCells z.cells (grownCap w (sLen+n) sCap e-(sLen+n))).toList.length=grownCap w (sLen+n) sCap e*i.size:=by
  have:(sLen+n)*i.size+(grownCap w (sLen+n) sCap e-(sLen+n))*i.size=grownCap w (sLen+n) sCap e*i.size:=by
   rw [<-E5Z];congr 1;omega
  have h2:(sLen+n)*i.size=sLen*i.size+n*i.size:=E5Z ..;rw [Array.length_toList,Array.size_append,Array.size_append,D3h,hol,hnl];omega
 have hrow:=B4S (t:=e) hw (slot:=none) (n0:=0) trivial (cs:=oc++nc) (C:=(old++new++Builtin.zeroCells z.cells (grownCap w (sLen+n) sCap e-(sLen+n))).toList) (by
  have h1:(old++new++Builtin.zeroCells z.cells (grownCap w (sLen+n) sCap e-(sLen+n))).toList=(old.toList++new.toList)++(Builtin.zeroCells z.cells (grownCap w (sLen+n) sCap e-(sLen+n))).toList:=by simp
  rw [h1,show (oc++nc).length=(old.toList++new.toList).length by rw [(ho.append hn).length],List.take_left];exact ho.append hn)
 refine ⟨w.drew.alloc (.cells (old++new++Builtin.zeroCells z.cells (grownCap w (sLen+n) sCap e-(sLen+n))) e),grownCap w (sLen+n) sCap e,?_,hc0,?_⟩
 ·have h63:¬ (9223372036854775807<((sLen+n:Nat):Int)/\False):=by simp
  have E3d:IntKind.i64.max=9223372036854775807:=by decide
  rcases hyt with hyt | ⟨e',hyt⟩ <;>
   simp [Builtin.append_,E4 hs,E4 hyt,sizeOf,typeInfo,zeroValue,dN,hz,hlen,D8t,hb0,bO,Question.forced,D3f,hold,gE,grownCap]
 ·rw [hC] at hrow;exact hrow
theorem A6N {s e yt ty:TypeId} {i:TypeInfo} {n sLen sCap:Nat} {base:Option Addr} {Y:Value} {new:Array Value} {w':World}
  (hs:P.underlying s=some (.slice e)) (dN:P.info? e=some i) (hyt:P.underlying yt=some .string\/∃ e',P.underlying yt=some (.slice e')) (hlen:(Builtin.lenOf Y).run P w=.ok n w)
  (D3f:(Builtin.firstCells i.size n Y).run P w=.ok new w) (A08:sLen+n<=sCap)
  (vH:∀ a,base=some a->(storeCells (a.add (sLen*i.size)) new.toList).run P w=.ok () w') (bM:base=none->w'=w) :
  (Builtin.append_ #[s,yt] ty #[.slice base sLen sCap,Y]).run P w=.ok (.slice base (sLen+n) sCap) w':=by
 cases base with
 | none =>
  have:=bM rfl;subst this;rcases hyt with hyt | ⟨e',hyt⟩<;>simp [Builtin.append_,E4 hs,E4 hyt,sizeOf,typeInfo,dN,hlen,A08,D3f]
 | some a =>
  have:=vH a rfl;rcases hyt with hyt | ⟨e',hyt⟩<;>simp [Builtin.append_,E4 hs,E4 hyt,sizeOf,typeInfo,dN,hlen,A08,D3f,this]
theorem A2w {Γ:Ctx} {h:A6} {id b m:Nat} {r:Row} {ys:List Cell} {vs:List Value} (hi:Inv Γ μ h w) (hr:rd h id=some r) (kY:r.rw=true) (hm:μ id=some (b,m))
  (hx:All2 (RC μ) ys vs) (hl:r.cells.length+ys.length<=m) :
  (storeCells ⟨b,r.cells.length,none⟩ vs).run P w=.ok () (w.setCells b r.cells.length vs)/\Inv Γ (μ.add h.length (b,m)) (h.set id none++[some ⟨r.cells++ys,true⟩]) (w.setCells b r.cells.length vs):=by
 obtain ⟨C,elem,fz,h1,h2,h3,h4⟩:=(hi.rows id r hr).mem hm kY
 replace h3:=RL.all h3 (by rw [kY];rfl)
 have hlen:=h3.length;have hxl:=hx.length;simp at hlen;have A4M:∀ j,j<vs.length->(w.cell? ⟨b,r.cells.length+0+j,none⟩).isSome=true:=by
  intro j hj;simp only [World.cell?,h1];simp;omega
 have hfz:∀ j,j<vs.length->w.frozen? ⟨b,r.cells.length+0+j,none⟩=false:=by
  intro j hj;simp only [World.frozen?,h1];obtain ⟨lo,hi'⟩:=fz;rcases h4 kY with h4 | h4<;>simp at h4 ⊢ <;> omega
 have h1c:∀ v∈vs,v.oneCell'=true:=by
  intro v hv;obtain ⟨i,U8,rfl⟩:=List.getElem_of_mem hv;have:i<ys.length:=by omega
  obtain ⟨V,hV,hR⟩:=hx.get i ys[i] (by simp [this]);rw [E40 U8] at hV;cases hV;exact hR.one
 refine ⟨by simpa using run_storeCells_cells (P:=P) b r.cells.length vs 0 w A4M hfz h1c,?_⟩;obtain ⟨C',h5,h6⟩:=A3V b vs r.cells.length w C elem fz h1 (by omega);obtain ⟨ho,ht,hou⟩:=B0X b vs r.cells.length w;have bO:=Mu.le_add (x:=(b,m)) (hi.dom h.length (E44 _));refine hi.move hr kY rfl hm ho ht hou (λb' hb=>A1f b vs r.cells.length w b' hb) ?_;unfold RowOk;rw [U0];refine .inl ⟨C',elem,fz,h5,?_,?_,λ_=>h4 kY⟩
 ·have:=congrArg List.length h6;simp at this;omega
 ·rw [h6];have e:(C.toList.take r.cells.length++(vs++C.toList.drop (r.cells.length+vs.length))).take (r.cells++ys).length=C.toList.take r.cells.length++vs:=by
   rw [<-E45,List.take_left'];simp;omega
  rw [e];exact ((h3.mono λ_ _=>RC.mono bO).append (hx.mono λ_ _=>RC.mono bO)).mono λ_ _=>.inl
theorem E0H {s e yt ty:TypeId} {i:TypeInfo} {z:Value} {x y v:Val} {X Y:Value} {Γ:Ctx} {h h':A6}
  (hi:Inv Γ μ h w) (hs:P.underlying s=some (.slice e)) (dN:P.info? e=some i) (hbl:i.bytes<=65536) (hb0:i.bytes≠0) (hz:i.zero=some z) (wY:z.cells.size=i.size) (B4L:i.size≠0)
  (hyt:P.underlying yt=some .string\/∃ e',P.underlying yt=some (.slice e')) (hx:RV μ x X) (hy:RV μ y Y) (hc:jK h i.size x y=some (v,h')) :
  ∃ V w' μ',(Builtin.append_ #[s,yt] ty #[X,Y]).run P w=.ok V w' /\ μ.le μ'/\RV μ' v V/\Inv Γ μ' h' w'/\(∀ id,id<h.length -> μ' id = μ id):=by
 unfold jK at hc;simp only [E4Z] at hc;obtain ⟨ys,hys,hc⟩:=hc;obtain ⟨n,vs,hlen,B9K,hvs,hvl⟩:=C05 (P:=P) hi.rows hy hys;obtain ⟨n2,vs2,hlen2,D1s,hvs2,E17⟩:=C05 (P:=P) (w:=w.drew) (hi.world (w':=w.drew) rfl rfl rfl λ_ _=>rfl).rows hy hys;have hyl:ys.length/i.size=n:=by
  have:=hvs.length;simp at this;rw [this,hvl];exact Nat.mul_div_cancel _ (by omega)
 have hn2:n2=n:=by
  have h1:=hvs.length;have h2:=hvs2.length;simp at h1 h2;exact Nat.eq_of_mul_eq_mul_right (by omega:0<i.size) (by omega)
 rw [hyl] at hc;subst hn2;have D1r:μ h.length=none:=hi.dom _ (E44 _);have bL:∀ x id,id<h.length->(μ.add h.length x) id = μ id:=λx id hid=>by
  have:id≠h.length:=by omega
  simp [Mu.add,this]
 split at hc
 ·
  split at hc
  ·cases hc;rename_i hb;cases hx;by_cases h0:n2=0
   ·subst h0;have hy0:ys=[]:=by
     have:=hvs.length;simp [hvl] at this;exact this
    subst hy0;have hr:=A6N (P:=P) (ty:=ty) (sLen:=0) (sCap:=0) (base:=none) (w':=w) hs dN hyt hlen B9K (by omega) (λa h=>by cases h) (λ_=>rfl);exact ⟨_,w,μ,hr,Mu.le_refl _,.inr ⟨rfl,none,rfl⟩,A4t (slot:=none) (n0:=0) hi trivial,λ_ _=>rfl⟩
   ·obtain ⟨w',c,hr,hc1,hI⟩:=A6M (P:=P) (ty:=ty) (sLen:=0) (sCap:=0) (base:=none) (old:=#[]) (oc:=[]) hi hs dN hbl hz wY hyt hlen hb0 D1s (by simp [Builtin.firstCells]) (by omega) (E44 _) (by omega) trivial hvs2 (by simp) E17;refine ⟨_,w',_,hr,Mu.le_add D1r,.inl ⟨w.heap.size,c*i.size,c,U0 _ _ _,by omega,by simp,by simp⟩,hI,bL _⟩
  ·cases hc
 ·rename_i id off len sz';simp only [E4Z] at hc;obtain ⟨r,hr,hc⟩:=hc;split at hc
  ·cases hc;rename_i A05;obtain ⟨kY,rfl,wL,hsz,hbd⟩:=A05;subst hsz;rcases hx with ⟨b,m,cap,hm,hlc,B61,rfl⟩ | ⟨h0,a,rfl⟩
   ·by_cases A08:len+n2<=cap
    ·have E0d:r.cells.length+ys.length<=m:=by
      have h1:=hvs.length;simp at h1;have h2:(len+n2)*i.size<=cap*i.size:=Nat.mul_le_mul_right _ A08;rw [E5Z] at h2;omega
     have vH:=A2w (P:=P) hi hr kY hm hvs E0d;have hr':=A6N (P:=P) (ty:=ty) (sLen:=len) (sCap:=cap) (base:=some ⟨b,0,none⟩) (w':=w.setCells b r.cells.length vs.toList) hs dN hyt hlen B9K A08
      (λa ha=>by cases ha;rw [jV,wL,E5l];exact vH.1) (λh=>by cases h)
     exact ⟨_,_,_,hr',Mu.le_add D1r,.inl ⟨b,m,cap,U0 _ _ _,A08,B61,rfl⟩,vH.2,bL _⟩
    ·have hrow:=hi.rows id r hr;obtain ⟨olds,ho1,ho2,ho3⟩:=hrow.cells hm 0 (len*i.size) (by omega) (by rw [kY];rfl);have nI:(r.cells.drop 0).take (len*i.size)=r.cells:=by rw [E5k,wL,List.take_length]
     rw [nI] at ho1;have hold:=run_loadCells_list (P:=P) w.drew ⟨b,0,none⟩ olds (λj v hv=>by rw [jV];exact ho3 j v hv);rw [ho2] at hold;obtain ⟨w',c,hr',hc1,hI⟩:=A6M (P:=P) (ty:=ty) (sLen:=len) (sCap:=cap) (base:=some ⟨b,0,none⟩) (old:=olds.toArray) (oc:=r.cells) hi hs dN hbl hz wY hyt hlen hb0 D1s
      (by simpa [Builtin.firstCells] using hold) A08 hlc (by omega) ho1 hvs2 (by simpa using ho2) E17
     refine ⟨_,w',_,hr',Mu.le_add D1r,.inl ⟨w.heap.size,c*i.size,c,U0 _ _ _,by omega,by simp,by simp⟩,?_,bL _⟩;have:=hI.drop id
     rwa [List.set_append_left _ _ (C5 hr)] at this
   ·subst h0;have hrc:r.cells=[]:=by
     have:r.cells.length=0:=by omega
     exact List.length_eq_zero_iff.1 this
    by_cases h0:n2=0
    ·subst h0;have hy0:ys=[]:=by
      have:=hvs.length;simp [hvl] at this;exact this
     subst hy0;have E4q:vs = #[]:=by simpa using hvl
     subst E4q;have hr':=A6N (P:=P) (ty:=ty) (sLen:=0) (sCap:=0) (base:=a) (w':=w) hs dN hyt hlen B9K (by omega) (λa h=>by simp [storeCells]) (λ_=>rfl);refine ⟨_,w,μ,hr',Mu.le_refl _,.inr ⟨rfl,a,rfl⟩,?_,λ_ _=>rfl⟩;have:=(A4t (slot:=none) (n0:=0) hi trivial).drop id;rw [hrc];simp only [dA] at this
     rwa [List.set_append_left _ _ (C5 hr)] at this
    ·obtain ⟨w',c,hr',hc1,hI⟩:=A6M (P:=P) (ty:=ty) (sLen:=0) (sCap:=0) (base:=a) (old:=#[]) (oc:=[]) hi hs dN hbl hz wY hyt hlen hb0 D1s
      (by cases a<;>simp [Builtin.firstCells,loadCells,loadCellsFrom]) (by omega) (E44 _) (by omega) trivial hvs2 (by simp) E17
     refine ⟨_,w',_,hr',Mu.le_add D1r,.inl ⟨w.heap.size,c*i.size,c,U0 _ _ _,by omega,by simp,by simp⟩,?_,bL _⟩;have:=hI.drop id;rw [hrc]
     rwa [List.set_append_left _ _ (C5 hr)] at this
  ·cases hc
 ·cases hc
theorem A3T {s e yt ty:TypeId} {k:IntKind} {i:TypeInfo} {n sLen sCap:Nat} {z:Value} {base:Option Addr} {old:Array Value} {oc nc:List Cell} {Γ:Ctx} {h:A6}
  (hi:Inv Γ μ h w) (hs:P.underlying s=some (.slice e)) (dN:P.info? e=some i) (hbl:i.bytes<=65536) (hz:i.zero=some z) (wY:z.cells.size=i.size)
  (hyt:P.underlying yt=some (.int k)) (hb0:i.bytes≠0) (hp0:i.size≠0)
  (hold:(Builtin.firstCells i.size sLen (.slice base sLen sCap)).run P w.drew=.ok old w.drew)
  (D8t:¬ sLen+n<=sCap) (B61:sLen<=sCap) (E1O:sLen+n<=1073741824)
  (ho:All2 (RC μ) oc old.toList) (hn:All2 (RC μ) nc (Builtin.zeroCells z.cells n).toList) (hol:old.size=sLen*i.size) :
  ∃ w' c,(Builtin.append_ #[s,yt] ty #[.slice base sLen sCap,.int .i64 n]).run P w=.ok (.slice (some ⟨w.heap.size,0,none⟩) (sLen+n) c) w'/\sLen+n<=c /\
   Inv Γ (μ.add h.length (w.heap.size,c*i.size)) (h++[some ⟨oc++nc,true⟩]) w':=by
 have hnl:(Builtin.zeroCells z.cells n).size=n*i.size:=by simp [Builtin.zeroCells,wY]
 have hnc:=C6Q (sLen+n) sCap (by omega);have bO:¬ (281474976710656<Builtin.nextslicecap (sLen+n) sCap*i.bytes):=by
  have:Builtin.nextslicecap (sLen+n) sCap*i.bytes<=2147484648*65536:=Nat.mul_le_mul (by omega) hbl;omega
 have hc0:sLen+n<=grownCap w (sLen+n) sCap e:=by show sLen+n<=sLen+n+_%_;omega
 have hw:Inv Γ μ h w.drew:=hi.world rfl rfl rfl λ_ _=>rfl
 have D3h:(Builtin.zeroCells z.cells (grownCap w (sLen+n) sCap e-(sLen+n))).size=(grownCap w (sLen+n) sCap e-(sLen+n))*i.size:=by
  simp [Builtin.zeroCells,wY]
 have hC:(old++Builtin.zeroCells z.cells n++Builtin.zeroCells z.cells (grownCap w (sLen+n) sCap e-(sLen+n))).toList.length=grownCap w (sLen+n) sCap e*i.size:=by
  have:(sLen+n)*i.size+(grownCap w (sLen+n) sCap e-(sLen+n))*i.size=grownCap w (sLen+n) sCap e*i.size:=by
   rw [<-E5Z];congr 1;omega
  have h2:(sLen+n)*i.size=sLen*i.size+n*i.size:=E5Z ..;rw [Array.length_toList,Array.size_append,Array.size_append,D3h,hol,hnl];omega
 have hrow:=B4S (t:=e) hw (slot:=none) (n0:=0) trivial (cs:=oc++nc) (C:=(old++Builtin.zeroCells z.cells n++Builtin.zeroCells z.cells (grownCap w (sLen+n) sCap e-(sLen+n))).toList) (by
  have h1:(old++Builtin.zeroCells z.cells n++Builtin.zeroCells z.cells (grownCap w (sLen+n) sCap e-(sLen+n))).toList=(old.toList++(Builtin.zeroCells z.cells n).toList)++(Builtin.zeroCells z.cells (grownCap w (sLen+n) sCap e-(sLen+n))).toList:=by simp
  rw [h1,show (oc++nc).length=(old.toList++(Builtin.zeroCells z.cells n).toList).length by rw [(ho.append hn).length],List.take_left];exact ho.append hn)
 refine ⟨w.drew.alloc (.cells (old++Builtin.zeroCells z.cells n++Builtin.zeroCells z.cells (grownCap w (sLen+n) sCap e-(sLen+n))) e),grownCap w (sLen+n) sCap e,?_,hc0,?_⟩
 ·have E3d:IntKind.i64.max=9223372036854775807:=by decide
  have w1:IntKind.i64.wrap (n:Int)=n:=IntWalk.i64_in _ (by omega);have q1:¬ (n:Int)<0:=by omega
  have q2:¬ ((n:Int)*(i.bytes:Int) > 281474976710656):=by
   have h1:n*i.bytes<=1073741824*65536:=Nat.mul_le_mul (by omega) hbl;have h2:((n*i.bytes:Nat):Int)<=((1073741824*65536:Nat):Int):=Int.ofNat_le.2 h1;rw [Int.natCast_mul] at h2;omega
  have q3:¬ (9223372036854775807<((sLen:Int)+(n:Int))):=by omega
  have q4:¬ (281474976710656<(n:Int)*(i.bytes:Int)):=by omega
  by_cases h0:n=0
  ·omega
  ·have h1:¬ (n*i.size=0):=Nat.mul_ne_zero h0 hp0;simp [Builtin.append_,E4 hs,E4 hyt,sizeOf,typeInfo,zeroValue,dN,hz,asInt,asIntOf,w1,q1,q4,E3d,q3,D8t,hb0,bO,Question.forced,hold,gE,grownCap,h1]
 ·rw [hC] at hrow;exact hrow
theorem A3U {s e yt ty:TypeId} {k:IntKind} {i:TypeInfo} {n sLen sCap:Nat} {z:Value} {base:Option Addr} {w':World}
  (hs:P.underlying s=some (.slice e)) (dN:P.info? e=some i) (hbl:i.bytes<=65536) (hz:i.zero=some z) (wY:z.cells.size=i.size) (hp0:i.size≠0) (hyt:P.underlying yt=some (.int k)) (hnb:n<=1073741824) (A08:sLen+n<=sCap)
  (vH:∀ a,base=some a->(storeCells (a.add (sLen*i.size)) (Builtin.zeroCells z.cells n).toList).run P w=.ok () w') (bM:base=none->w'=w) :
  (Builtin.append_ #[s,yt] ty #[.slice base sLen sCap,.int .i64 n]).run P w=.ok (.slice base (sLen+n) sCap) w':=by
 have w1:IntKind.i64.wrap (n:Int)=n:=IntWalk.i64_in _ (by omega);have q1:¬ (n:Int)<0:=by omega
 have q4:¬ (281474976710656<(n:Int)*(i.bytes:Int)):=by
  have h1:n*i.bytes<=1073741824*65536:=Nat.mul_le_mul hnb hbl;have h2:((n*i.bytes:Nat):Int)<=((1073741824*65536:Nat):Int):=Int.ofNat_le.2 h1;rw [Int.natCast_mul] at h2;omega
 by_cases h0:n=0
 ·subst h0;have hzc:(Builtin.zeroCells z.cells 0) = #[]:=by simp [Builtin.zeroCells]
  have w0:IntKind.i64.wrap 0=0:=IntWalk.i64_in _ (by omega);rw [hzc] at vH;cases base with
  | none =>
   have:=bM rfl;subst this;have hr0:sLen<=sCap:=by omega
   simp [Builtin.append_,E4 hs,E4 hyt,sizeOf,typeInfo,dN,asInt,asIntOf,hr0,w0]
  | some a =>
   have:=vH a rfl;simp [storeCells] at this;subst this;have hr0:sLen<=sCap:=by omega
   simp [Builtin.append_,E4 hs,E4 hyt,sizeOf,typeInfo,dN,asInt,asIntOf,storeCells,hr0,w0]
 ·have h1:¬ (n*i.size=0):=Nat.mul_ne_zero h0 hp0;cases base with
  | none =>
   have:=bM rfl;subst this;simp [Builtin.append_,E4 hs,E4 hyt,sizeOf,typeInfo,zeroValue,dN,hz,asInt,asIntOf,w1,q1,q4,A08,h1]
  | some a =>
   have:=vH a rfl;simp [Builtin.append_,E4 hs,E4 hyt,sizeOf,typeInfo,zeroValue,dN,hz,asInt,asIntOf,w1,q1,q4,A08,h1,this]
theorem D9h {s e yt ty:TypeId} {kk:IntKind} {i:TypeInfo} {z:Value} {zero:List Cell} {x y v:Val} {X Y:Value} {Γ:Ctx} {h h':A6}
  (hi:Inv Γ μ h w) (hs:P.underlying s=some (.slice e)) (dN:P.info? e=some i) (hbl:i.bytes<=65536) (hb0:i.bytes≠0) (hz:i.zero=some z) (wY:z.cells.size=i.size) (B4L:i.size≠0)
  (hyt:P.underlying yt=some (.int kk)) (hzc:All2 (RC μ) zero z.cells.toList) (hx:RV μ x X) (hy:RV μ y Y) (hc:B6z h i.size zero x y=some (v,h')) :
  ∃ V w' μ',(Builtin.append_ #[s,yt] ty #[X,Y]).run P w=.ok V w' /\ μ.le μ'/\RV μ' v V/\Inv Γ μ' h' w'/\(∀ id,id<h.length -> μ' id = μ id):=by
 unfold B6z at hc;simp only [E4Z] at hc;obtain ⟨n2,hn2,hc⟩:=hc;have hY:Y=.int .i64 n2/\n2<=1073741824:=by
  unfold A4V at hn2;split at hn2
  ·split at hn2
   ·cases hn2;rename_i k hk;have:Y=.int .i64 k:=hy;subst this;exact ⟨by congr 1;omega,by omega⟩
   ·cases hn2
  ·cases hn2
 obtain ⟨rfl,hnb⟩:=hY;have hvs:All2 (RC μ) (rows zero n2) (Builtin.zeroCells z.cells n2).toList:=by
  have:=D55 hzc n2 (by omega);simpa [Builtin.zeroCells] using this
 have hvl:(Builtin.zeroCells z.cells n2).size=n2*i.size:=by simp [Builtin.zeroCells,wY]
 have D1r:μ h.length=none:=hi.dom _ (E44 _);have bL:∀ x id,id<h.length->(μ.add h.length x) id = μ id:=λx id hid=>by
  have:id≠h.length:=by omega
  simp [Mu.add,this]
 split at hc
 ·
  ·cases hc;cases hx;by_cases h0:n2=0
   ·subst h0;have hr:=A3U (P:=P) (ty:=ty) (sLen:=0) (sCap:=0) (base:=none) (w':=w) (n:=0) hs dN hbl hz wY B4L hyt (by omega) (by omega) (λa h=>by cases h) (λ_=>rfl);exact ⟨_,w,μ,hr,Mu.le_refl _,.inr ⟨rfl,none,rfl⟩,A4t (slot:=none) (n0:=0) hi trivial,λ_ _=>rfl⟩
   ·obtain ⟨w',c,hr,hc1,hI⟩:=A3T (P:=P) (ty:=ty) (sLen:=0) (sCap:=0) (base:=none) (old:=#[]) (oc:=[]) (n:=n2) hi hs dN hbl hz wY hyt hb0 B4L (by simp [Builtin.firstCells]) (by omega) (E44 _) (by omega) trivial hvs (by simp);refine ⟨_,w',_,hr,Mu.le_add D1r,.inl ⟨w.heap.size,c*i.size,c,U0 _ _ _,by omega,by simp,by simp⟩,hI,bL _⟩
 ·rename_i id off len sz';simp only [E4Z] at hc;obtain ⟨r,hr,hc⟩:=hc;split at hc
  ·cases hc;rename_i A05;obtain ⟨kY,rfl,wL,hsz,hbd⟩:=A05;subst hsz;rcases hx with ⟨b,m,cap,hm,hlc,B61,rfl⟩ | ⟨h0,a,rfl⟩
   ·by_cases A08:len+n2<=cap
    ·have E0d:r.cells.length+(rows zero n2).length<=m:=by
      have h1:=hvs.length;simp at h1;have h2:(len+n2)*i.size<=cap*i.size:=Nat.mul_le_mul_right _ A08;rw [E5Z] at h2;omega
     have vH:=A2w (P:=P) hi hr kY hm hvs E0d;have hr':=A3U (P:=P) (ty:=ty) (sLen:=len) (sCap:=cap) (base:=some ⟨b,0,none⟩) (w':=w.setCells b r.cells.length (Builtin.zeroCells z.cells n2).toList) hs dN hbl hz wY B4L hyt hnb A08
      (λa ha=>by cases ha;rw [jV,wL,E5l];exact vH.1) (λh=>by cases h)
     exact ⟨_,_,_,hr',Mu.le_add D1r,.inl ⟨b,m,cap,U0 _ _ _,A08,B61,rfl⟩,vH.2,bL _⟩
    ·have hrow:=hi.rows id r hr;obtain ⟨olds,ho1,ho2,ho3⟩:=hrow.cells hm 0 (len*i.size) (by omega) (by rw [kY];rfl);have nI:(r.cells.drop 0).take (len*i.size)=r.cells:=by rw [E5k,wL,List.take_length]
     rw [nI] at ho1;have hold:=run_loadCells_list (P:=P) w.drew ⟨b,0,none⟩ olds (λj v hv=>by rw [jV];exact ho3 j v hv);rw [ho2] at hold;obtain ⟨w',c,hr',hc1,hI⟩:=A3T (P:=P) (ty:=ty) (sLen:=len) (sCap:=cap) (base:=some ⟨b,0,none⟩) (old:=olds.toArray) (oc:=r.cells) (n:=n2) hi hs dN hbl hz wY hyt hb0 B4L
      (by simpa [Builtin.firstCells] using hold) A08 hlc (by omega) ho1 hvs (by simpa using ho2)
     refine ⟨_,w',_,hr',Mu.le_add D1r,.inl ⟨w.heap.size,c*i.size,c,U0 _ _ _,by omega,by simp,by simp⟩,?_,bL _⟩;have:=hI.drop id
     rwa [List.set_append_left _ _ (C5 hr)] at this
   ·subst h0;have hrc:r.cells=[]:=by
     have:r.cells.length=0:=by omega
     exact List.length_eq_zero_iff.1 this
    by_cases h0:n2=0
    ·subst h0;have hr':=A3U (P:=P) (ty:=ty) (sLen:=0) (sCap:=0) (base:=a) (w':=w) (n:=0) (z:=z) hs dN hbl hz wY B4L hyt (by omega) (by omega) (λa h=>by simp [storeCells,Builtin.zeroCells]) (λ_=>rfl);refine ⟨_,w,μ,hr',Mu.le_refl _,.inr ⟨rfl,a,rfl⟩,?_,λ_ _=>rfl⟩;have:=(A4t (slot:=none) (n0:=0) hi trivial).drop id;rw [hrc];simp only [dA] at this
     rwa [List.set_append_left _ _ (C5 hr)] at this
    ·obtain ⟨w',c,hr',hc1,hI⟩:=A3T (P:=P) (ty:=ty) (sLen:=0) (sCap:=0) (base:=a) (old:=#[]) (oc:=[]) (n:=n2) hi hs dN hbl hz wY hyt hb0 B4L
      (by cases a<;>simp [Builtin.firstCells,loadCells,loadCellsFrom]) (by omega) (E44 _) (by omega) trivial hvs (by simp)
     refine ⟨_,w',_,hr',Mu.le_add D1r,.inl ⟨w.heap.size,c*i.size,c,U0 _ _ _,by omega,by simp,by simp⟩,?_,bL _⟩;have:=hI.drop id;rw [hrc]
     rwa [List.set_append_left _ _ (C5 hr)] at this
  ·cases hc
 ·cases hc
end
end
section
section
variable {P:Program} {μ:Mu} {w:World}
theorem Inv.marked {Γ:Ctx} {h:A6} {id b n:Nat} {r:Row} (hi:Inv Γ μ h w) (hr:rd h id=some r) (kY:r.rw=true) (hm:μ id=some (b,n)) :
  ∃ w',(markStringish ⟨b,0,none⟩).run P w=.ok () w'/\Inv Γ μ h w'/\∀ off,(markStringish ⟨b,off,none⟩).run P w=.ok () w':=by
 obtain ⟨C,elem,fz,h1,h2,h3,h4⟩:=(hi.rows id r hr).mem hm kY;have hsh:w.shape? b=some (elem,n):=by simp [World.shape?,h1,h2]
 have A7X:∀ off,(markStringish ⟨b,off,none⟩).run P w=.ok () (w.freeze ⟨b,n,none⟩ 1):=by
  intro off;simp [markStringish,hsh]
 refine ⟨w.freeze ⟨b,n,none⟩ 1,A7X 0,?_,A7X⟩;have C91:∀ b',(w.freeze ⟨b,n,none⟩ 1).heap[b']?=if b=b' then some (.cells C elem (if fz.1==fz.2 then (n,n+1) else (min fz.1 n,max fz.2 (n+1)))) else w.heap[b']? := by
  intro b';simp only [World.freeze,if_neg (show ¬ (1:Nat)=0 by omega),Array.getElem?_modify];split
  ·rename_i e;subst e;rw [h1];simp
  ·rfl
 have E11:∀ b',b'≠b->(w.freeze ⟨b,n,none⟩ 1).heap[b']?=w.heap[b']? := λb' hb=>by rw [C91,if_neg (Ne.symm hb)]
 have:=hi.write hr kY hm (w':=w.freeze ⟨b,n,none⟩ 1) (cs:=r.cells) rfl rfl rfl E11 (by
  unfold RowOk;rw [hm];refine .inl ⟨C,elem,_,by rw [C91,if_pos rfl],h2,(kY ▸ h3:All2 (RL μ true) _ _),λ_=>.inr ?_⟩;have h5:=h4 kY;split
  ·exact E44 _
  ·rename_i T5;rcases h5 with h5 | h5
   ·simp [h5] at T5
   ·show n<=min fz.1 n;omega)
 have e:h.set id (some ⟨r.cells,true⟩)=h:=by
  apply List.ext_getElem?;intro j;by_cases hj:id=j
  ·subst hj;rw [List.getElem?_set_self (C5 hr)];rw [rd_some] at hr;rw [hr,<-kY]
  ·rw [List.getElem?_set_ne hj]
 rwa [e] at this
theorem run_mark {Γ:Ctx} {s e:TypeId} {h:A6} {x v:Val} {X:Value} (hi:Inv Γ μ h w) (hs:sliceB P s=some e) (he:B4O P e=some .u8) (hx:RV μ x X) (hc:xY h x=some v) :
  ∃ w',(convert s s X).run P w=.ok X w'/\v=x/\Inv Γ μ h w':=by
 unfold xY at hc;split at hc
 ·rename_i id off len sz;simp only [E4Z] at hc;obtain ⟨r,hr,hc⟩:=hc;split at hc
  ·cases hc;rename_i A05;rcases hx with ⟨b,m,cap,hm,hlc,B61,rfl⟩ | ⟨h0,a,rfl⟩
   ·obtain ⟨w',h1,h2,h3⟩:=hi.marked (P:=P) hr A05.1 hm;exact ⟨w',by simp [convert,E4 (O3 hs),E4 (A4Q he),h3 off],rfl,h2⟩
   ·omega
  ·cases hc
 ·cases hc
theorem E0R {Γ:Ctx} {h:A6} {n0:Nat} {slot:Option Nat} {s d e:TypeId} {l:List UInt8} (hi:Inv Γ μ h w) (mI:tK μ h n0 slot) (hs:bI P s=true) (hd:sliceB P d=some e) (he:B4O P e=some .u8) (hl:l.length<=1073741824) :
  ∃ V w' μ',(convert s d (.string ⟨l.toArray⟩)).run P w=.ok V w' /\ μ.le μ'/\RV μ' (.c (.sl (dA h n0 slot ⟨A5 l,true⟩).1 0 l.length 1)) V/\Inv Γ μ' (dA h n0 slot ⟨A5 l,true⟩).2 w'/\Keeps μ μ' h n0 slot:=by
 have hsz:(ByteArray.mk l.toArray).size=l.length:=by show l.toArray.size=_;simp
 have B61:l.length<=(Question.appendCap l.length 0 e).cut (w.tape w.drawn (.appendCap l.length 0 e)):=by show l.length<=l.length+_%_;omega
 generalize hk:(Question.appendCap l.length 0 e).cut (w.tape w.drawn (.appendCap l.length 0 e))=cap at B61;have hC:((l.toArray.map λ(b:UInt8)=>Value.int .u8 b.toNat)++Array.replicate (cap-l.length) (Value.int .u8 0)).toList=(l.map λ(b:UInt8)=>Value.int .u8 b.toNat)++E41 (cap-l.length) (Value.int .u8 0):=by simp
 have hw:Inv Γ μ h w.drew:=hi.world rfl rfl rfl λ_ _=>rfl
 have hn:=B4S (t:=e) hw mI (cs:=A5 l) (C:=(l.map λ(b:UInt8)=>Value.int .u8 b.toNat)++E41 (cap-l.length) (Value.int .u8 0)) (by
  rw [show (A5 l).length=(l.map λ(b:UInt8)=>Value.int .u8 b.toNat).length by simp [A5],List.take_left];exact D5E l)
 have hsp:=oQ (r:=⟨A5 l,true⟩) mI hi.dom;obtain ⟨w',h1,h2,h3⟩:=hn.marked (P:=P) hsp.2.2.2.2.2 rfl (U0 _ _ _);refine ⟨.slice (some ⟨w.heap.size,0,none⟩) l.length cap,w',_,?_,Mu.le_add hsp.1,.inl ⟨_,_,cap,U0 _ _ _,B61,by simp;omega,rfl⟩,h2,Keeps.new⟩;have h1:(markStringish ⟨w.heap.size,0,none⟩).run P (w.drew.alloc (.cells ((l.map λ(b:UInt8)=>Value.int .u8 b.toNat)++E41 (cap-l.length) (Value.int .u8 0)).toArray e))=.ok () w':=h1;rw [<-hC,Array.toArray_toList] at h1;have hfo:(Question.appendCap l.length 0 e).forced=false:=rfl;simp only [convert,Sem.run_bind,E4 (kX hs),Result.andThen_ok,E4 (O3 hd),E4 (A4Q he),Conv.stringToBytes,run_choose,hsz,hfo,Bool.false_eq_true,if_false,hk,gE];have hdr:({ w with drawn:=w.drawn+1 }:World)=w.drew:=rfl;rw [hdr,h1];rfl
theorem D9j {Γ:Ctx} {h h':A6} {s e yt ty:TypeId} {sz:Nat} {x y v:Val} {X Y:Value} (hi:Inv Γ μ h w) (hs:sliceB P s=some e) (hsz:P9 P e=some sz) (B4L:sz≠0) (hx:RV μ x X) (hy:RV μ y Y) (hc:C5u h sz x y=some (v,h')) :
  ∃ V w',(Builtin.copy_ #[s,yt] ty #[X,Y]).run P w=.ok V w'/\RV μ v V/\Inv Γ μ h' w':=by
 unfold C5u at hc;split at hc
 ·cases hc
 rename_i E4i;simp only [E4Z] at hc;obtain ⟨ys,hys,hc⟩:=hc;split at hc
 ·rename_i id off len sz';simp only [E4Z] at hc;obtain ⟨r,hr,hc⟩:=hc;split at hc
  ·cases hc;rename_i A05;obtain ⟨kY,E0d,rfl⟩:=A05;have src:∃ n vs,(Builtin.lenOf Y).run P w=.ok n w/\All2 (RC μ) ys vs/\vs.length=n*sz/\∀ m,m<=n->(Builtin.firstCells sz m Y).run P w=.ok (vs.take (m*sz)).toArray w:=by
    cases y with
    | c c =>
     cases c with
     | sl id2 off2 len2 sz2 =>
      simp only [O5] at hys;split at hys
      ·rename_i hs2;subst hs2;obtain ⟨len',cap,a,vs,rfl,hvs,hlen,C6s,A4M⟩:=B41 hi.rows hy hys;have hl:=hlen sz (λ_ _ _ _ h=>by cases h;rfl);refine ⟨len',vs,rfl,hvs,hl,λm hm=>?_⟩;cases a with
       | none=>have:=C6s rfl;subst this;simp [Builtin.firstCells]
       | some b =>
        have hml:(vs.take (m*sz)).length=m*sz:=by
         have:=Nat.mul_le_mul_right sz hm;simp;omega
        have:=run_loadCells_list (P:=P) w b (vs.take (m*sz)) (λj v hv=>A4M b rfl j v (by
         have hj:=(List.getElem?_eq_some_iff.1 hv).1;rw [E5B (by omega)] at hv;exact hv))
        rw [hml] at this;simpa [Builtin.firstCells] using this
      ·cases hys
     | ns =>
      simp only [O5] at hys;cases hys;cases hy;exact ⟨0,[],rfl,trivial,by simp,λm hm=>by simp [Builtin.firstCells]⟩
     | s l=>exact absurd rfl (E4i l)
     | _=>simp [O5] at hys
    | _=>simp [O5] at hys
   obtain ⟨n,vs,hlen,hvs,hvl,B9K⟩:=src;have hyl:ys.length/sz=n:=by rw [hvs.length,hvl];exact Nat.mul_div_cancel _ (by omega)
   rw [hyl];have hf:=B9K (Nat.min n len) (Nat.min_le_left _ _);have hml:(ys.take (Nat.min n len*sz)).length=Nat.min n len*sz:=by
    have h1:=hvs.length;have h2:Nat.min n len*sz<=n*sz:=Nat.mul_le_mul_right sz (Nat.min_le_left n len);rw [E5q];omega
   have E26:off+(ys.take (Nat.min n len*sz)).length<=r.cells.length:=by
    have h2:Nat.min n len*sz<=len*sz:=Nat.mul_le_mul_right sz (Nat.min_le_right n len);omega
   rcases hx with ⟨b,m,cap,hm,hlc,B61,rfl⟩ | ⟨h0,a,rfl⟩
   ·have vH:=C7t (P:=P) hi hr kY hm (off:=off) (hvs.take (Nat.min n len*sz)) E26;refine ⟨_,_,?_,rfl,vH.2⟩;simp [Builtin.copy_,E4 (O3 hs),hlen,O6 hsz,hf,vH.1,goInt]
   ·subst h0;refine ⟨_,w,?_,rfl,?_⟩
    ·have hz:(Builtin.firstCells sz 0 Y).run P w=.ok #[] w:=by simpa using B9K 0 (Nat.zero_le _)
     cases a<;>simp [Builtin.copy_,E4 (O3 hs),hlen,O6 hsz,hz,goInt,storeCells]
    ·have e0:lay r.cells off (ys.take (Nat.min n 0*sz))=r.cells:=by simp [lay]
     rw [e0];have e:h.set id (some ⟨r.cells,true⟩)=h:=by
      apply List.ext_getElem?;intro j;by_cases hj:id=j
      ·subst hj;rw [List.getElem?_set_self (C5 hr)];rw [rd_some] at hr;rw [hr,<-kY]
      ·rw [List.getElem?_set_ne hj]
     rw [e];exact hi
  ·cases hc
 ·cases hc
end
end
section
def C6I (leaf:TypeId->Option (List Sh)) (P:Program):Nat->List Field->Option (List Sh)
 | _,[]=>some []
 | off,f::fs=>(leaf f.type).bind λl =>
   if f.name ≠ "_" ∧ f.offset = off ∧ P9 P f.type = some l.length then (C6I leaf P (off + l.length) fs).map λr => l ++ r else none
def B0z (P:Program):Nat->TypeId->Option (List Sh)
 | 0,_=>none
 | d+1,t =>
  match P.underlying t with
  | some .bool=>some [.b]
  | some (.int k)=>some [.i k]
  | some .string=>some [.s]
  | some (.struct fs)=>if P.stoodInHeld t=false then C6I (B0z P d) P 0 fs.toList else none
  | some (.array n e)=>(B0z P d e).bind λl=>if P9 P e=some l.length then some (E41 n l).flatten else none
  | _=>none
section
variable {P:Program} {μ:Mu} {w:World}
def mkv (P:Program) (t:TypeId) (vs:List Value):Value :=
 if jW P t=some true then .agg vs.toArray else vs.headD undef
theorem D59 {c:Cell} {k:IntKind} (h:c.sh=some (.i k)):∃ n,c=.i k n:=by
 cases c<;>simp [Cell.sh] at h
 subst h;exact ⟨_,rfl⟩
theorem D58 {c:Cell} (h:c.sh=some .b):∃ x,c=.b x:=by
 cases c<;>simp [Cell.sh] at h
 exact ⟨_,rfl⟩
theorem D6a {c:Cell} (h:c.sh=some .s):∃ x,c=.s x:=by
 cases c<;>simp [Cell.sh] at h
 exact ⟨_,rfl⟩
theorem B9U {q:Sh} {xs:List Cell} {Xs:List Value} (h:xs.map Cell.sh=[q].map some) (hX:All2 (RC μ) xs Xs):∃ x X,xs=[x]/\Xs=[X]/\x.sh=some q/\RC μ x X:=by
 cases xs with
 | nil=>simp at h
 | cons x r =>
  cases r with
  | cons y r=>simp at h
  | nil =>
   cases Xs with
   | nil=>exact hX.elim
   | cons X R =>
    cases R with
    | nil=>exact ⟨x,X,rfl,rfl,by simpa using h,hX.1⟩
    | cons Y R=>exact hX.2.elim
theorem D5z {α:Type} [DecidableEq α] (a b:α):(a==b)=decide (a=b):=by rw [Bool.eq_iff_iff];simp
theorem B6K {a b c d:List Cell} (h:a.length=c.length):decide (a++b=c++d)=(decide (a=c)&&decide (b=d)):=by
 rw [Bool.eq_iff_iff];simp only [E42,decide_eq_true_eq];exact ⟨λk=>List.append_inj k h,λ⟨h,k⟩=>by rw [h,k]⟩
def E1s (P:Program) (D:Nat) (t:TypeId) (l:List Sh):Prop :=
 ∀ (μ:Mu) (w:World) (xs ys:List Cell) (Xs Ys:List Value),xs.map Cell.sh=l.map some->ys.map Cell.sh=l.map some->All2 (RC μ) xs Xs->All2 (RC μ) ys Ys ->
  (Op.equalIn D t (mkv P t Xs) (mkv P t Ys)).run P w=.ok (decide (xs=ys)) w
theorem B7y {t:TypeId} {l:List Sh} {xs:List Cell} {Xs:List Value} {off:Nat} (hsz:P9 P t=some l.length) (nH:jW P t=some true\/(jW P t=some false/\l.length=1))
  (hX:All2 (RC μ) xs Xs) (hl:off+l.length<=xs.length):(part t Xs.toArray off).run P w=.ok (mkv P t ((Xs.drop off).take l.length)) w:=by
 have hlen:=hX.length;rcases nH with h | ⟨h,h1⟩
 ·simp [part,B1u h,O6 hsz,mkv,h,List.take_drop]
 ·have U8:off<Xs.length:=by omega
  have:((Xs.drop off).take l.length).headD undef=Xs[off]:=by
   rw [h1,E46 U8];rfl
  unfold mkv;rw [if_neg (by rw [h];simp),this];simp [part,B1u h,U8]
theorem D4g {t:TypeId} {d:Nat} {l:List Sh} (h:B0z P d t=some l):jW P t=some true\/(jW P t=some false/\l.length=1):=by
 cases d with
 | zero=>simp [B0z] at h
 | succ d =>
  unfold B0z at h;unfold jW;split at h
  ·rename_i hu;cases h;right;simp [hu]
  ·rename_i hu;cases h;right;simp [hu]
  ·rename_i hu;cases h;right;simp [hu]
  ·rename_i hu;left;simp [hu]
  ·rename_i hu;left;simp [hu]
  ·cases h
theorem C9U {leaf:TypeId->Option (List Sh)} {D:Nat} (hok:∀ t l,leaf t=some l->E1s P D t l) (nH:∀ t l,leaf t=some l->jW P t=some true\/(jW P t=some false/\l.length=1)) :
  ∀ (fs:List Field) (off:Nat) (l:List Sh) (μ:Mu) (w:World) (xs ys:List Cell) (Xs Ys:List Value),C6I leaf P off fs=some l->xs.length=off+l.length->ys.length=off+l.length ->
   (xs.drop off).map Cell.sh=l.map some->(ys.drop off).map Cell.sh=l.map some->All2 (RC μ) xs Xs->All2 (RC μ) ys Ys ->
   (Op.eqFields D Xs.toArray Ys.toArray fs).run P w=.ok (decide (xs.drop off=ys.drop off)) w
 | [],off,l,μ,w,xs,ys,Xs,Ys,hl,h1,h2,hs1,hs2,hX,hY=>by
  simp [C6I] at hl;subst hl;simp at h1 h2;rw [E5c (by omega),E5c (by omega)];simp [Op.eqFields]
 | f::fs,off,l,μ,w,xs,ys,Xs,Ys,hl,h1,h2,hs1,hs2,hX,hY=>by
  simp only [C6I,E4Z] at hl;obtain ⟨lf,hlf,hl⟩:=hl;split at hl
  ·rename_i hc;obtain ⟨D3e,E4j,hsz⟩:=hc;simp only [E5i] at hl;obtain ⟨r,hr,rfl⟩:=hl;simp only [E43] at h1 h2;have e:∀ zs:List Cell,(zs.drop off).map Cell.sh=(lf++r).map some->zs.length=off+(lf.length+r.length)->((zs.drop off).take lf.length).map Cell.sh=lf.map some/\(zs.drop (off+lf.length)).map Cell.sh=r.map some:=by
    intro zs hz wY;constructor
    ·rw [List.map_take,hz,E5T,List.take_left' (by simp)]
    ·rw [<-E5W,List.map_drop,hz,E5T,List.drop_left' (by simp)]
   obtain ⟨a1,a2⟩:=e xs hs1 h1;obtain ⟨b1,b2⟩:=e ys hs2 h2;have hp1:=B7y (P:=P) (w:=w) (off:=off) hsz (nH _ _ hlf) hX (by omega);have hp2:=B7y (P:=P) (w:=w) (off:=off) hsz (nH _ _ hlf) hY (by omega);have vG:=hok _ _ hlf μ w _ _ _ _ a1 b1 ((hX.drop off).take lf.length) ((hY.drop off).take lf.length);have ih:=C9U hok nH fs (off+lf.length) r μ w xs ys Xs Ys hr (by omega) (by omega) a2 b2 hX hY;have split:∀ zs:List Cell,zs.drop off=(zs.drop off).take lf.length++zs.drop (off+lf.length):=by
    intro zs;rw [<-E5W];exact (List.take_append_drop _ _).symm
   have hd:decide (xs.drop off=ys.drop off)=(decide ((xs.drop off).take lf.length=(ys.drop off).take lf.length)&&decide (xs.drop (off+lf.length)=ys.drop (off+lf.length))):=by
    have hlen:((xs.drop off).take lf.length).length=((ys.drop off).take lf.length).length:=by simp;omega
    conv=>lhs;rw [split xs,split ys]
    exact B6K hlen
   subst E4j;simp only [Op.eqFields,D3e,ne_eq,not_false_eq_true,if_true,Sem.run_bind,hp1,Result.andThen_ok,hp2,vG];rw [hd];cases decide ((xs.drop f.offset).take lf.length=(ys.drop f.offset).take lf.length) with
   | true=>simpa using ih
   | false=>simp
  ·cases hl
def A6q (D:Nat) (e:TypeId) (n:Nat) (xs ys:Array Value):List Nat->Sem Bool
 | []=>pure true
 | i::r=>do
  let a <-part e xs (i*n)
  let b <-part e ys (i*n)
  let q <-Op.equalIn D e a b
  if (!q)=true then pure false else A6q D e n xs ys r
theorem run_equalIn_array {D:Nat} {t e:TypeId} {n sz:Nat} {xs ys:Array Value} (ha:nX P t=some (n,e)) (hsz:P9 P e=some sz) :
  (Op.equalIn (D+1) t (.agg xs) (.agg ys)).run P w=(A6q D e sz xs ys (E5v n)).run P w:=by
 simp only [Op.equalIn,Sem.run_bind,E4 (nY ha),Result.andThen_ok,O6 hsz];rw [Std.Legacy.Range.forIn_eq_forIn_range'];have hr:E5D (Std.Legacy.Range.start [0:n]) (Std.Legacy.Range.size [0:n]) (Std.Legacy.Range.step [0:n])=E5v n:=by
  simp [List.range_eq_range',Std.Legacy.Range.size]
 rw [hr];generalize E5v n=is
 induction is generalizing w with
 | nil=>simp [A6q]
 | cons i is ih =>
  simp only [List.forIn_cons,A6q,Sem.run_bind];generalize (part e xs (i*sz)).run P w=r1;cases r1 with
  | ok a w1 =>
   simp only [Result.andThen_ok];generalize (part e ys (i*sz)).run P w1=r2;cases r2 with
   | ok b w2 =>
    simp only [Result.andThen_ok];generalize (Op.equalIn D e a b).run P w2=r3;cases r3 with
    | ok r w3 =>
     cases r
     ·simp
     ·simpa using ih
    | halt x w3=>simp [Result.andThen]
   | halt x w2=>simp [Result.andThen]
  | halt x w1=>simp [Result.andThen]
theorem D21 {D:Nat} {e:TypeId} {l:List Sh} (hok:E1s P D e l) (nH:jW P e=some true\/(jW P e=some false/\l.length=1)) (hsz:P9 P e=some l.length) :
  ∀ (k i:Nat) (μ:Mu) (w:World) (xs ys:List Cell) (Xs Ys:List Value),xs.length=i*l.length+k*l.length->ys.length=i*l.length+k*l.length ->
   (xs.drop (i*l.length)).map Cell.sh=(E41 k l).flatten.map some->(ys.drop (i*l.length)).map Cell.sh=(E41 k l).flatten.map some->All2 (RC μ) xs Xs->All2 (RC μ) ys Ys ->
   (A6q D e l.length Xs.toArray Ys.toArray (E5D i k)).run P w=.ok (decide (xs.drop (i*l.length)=ys.drop (i*l.length))) w
 | 0,i,μ,w,xs,ys,Xs,Ys,h1,h2,hs1,hs2,hX,hY=>by
  rw [E5c (by omega),E5c (by omega)];simp [A6q]
 | k+1,i,μ,w,xs,ys,Xs,Ys,h1,h2,hs1,hs2,hX,hY=>by
  have hk:(k+1)*l.length=l.length+k*l.length:=by rw [E5Z];omega
  have hi:(i+1)*l.length=i*l.length+l.length:=by rw [E5Z];omega
  rw [hk] at h1 h2;have e:∀ zs:List Cell,(zs.drop (i*l.length)).map Cell.sh=(E41 (k+1) l).flatten.map some->zs.length=i*l.length+(l.length+k*l.length) ->
    ((zs.drop (i*l.length)).take l.length).map Cell.sh=l.map some/\(zs.drop ((i+1)*l.length)).map Cell.sh=(E41 k l).flatten.map some:=by
   intro zs hz wY;rw [E5p,List.flatten_cons] at hz;constructor
   ·rw [List.map_take,hz,E5T,List.take_left' (by simp)]
   ·rw [hi,<-E5W,List.map_drop,hz,E5T,List.drop_left' (by simp)]
  obtain ⟨a1,a2⟩:=e xs hs1 h1;obtain ⟨b1,b2⟩:=e ys hs2 h2;have hp1:=B7y (P:=P) (w:=w) (off:=i*l.length) hsz nH hX (by omega);have hp2:=B7y (P:=P) (w:=w) (off:=i*l.length) hsz nH hY (by omega);have vG:=hok μ w _ _ _ _ a1 b1 ((hX.drop (i*l.length)).take l.length) ((hY.drop (i*l.length)).take l.length);have ih:=D21 hok nH hsz k (i+1) μ w xs ys Xs Ys (by omega) (by omega) a2 b2 hX hY;have split:∀ zs:List Cell,zs.drop (i*l.length)=(zs.drop (i*l.length)).take l.length++zs.drop ((i+1)*l.length):=by
   intro zs;rw [hi,<-E5W];exact (List.take_append_drop _ _).symm
  have hd:decide (xs.drop (i*l.length)=ys.drop (i*l.length))=(decide ((xs.drop (i*l.length)).take l.length=(ys.drop (i*l.length)).take l.length)&&decide (xs.drop ((i+1)*l.length)=ys.drop ((i+1)*l.length))):=by
   have hlen:((xs.drop (i*l.length)).take l.length).length=((ys.drop (i*l.length)).take l.length).length:=by simp;omega
   conv=>lhs;rw [split xs,split ys]
   exact B6K hlen
  rw [List.range'_succ];simp only [A6q,Sem.run_bind,hp1,Result.andThen_ok,hp2,vG];rw [hd];cases decide ((xs.drop (i*l.length)).take l.length=(ys.drop (i*l.length)).take l.length) with
  | true=>simpa using ih
  | false=>simp
theorem D5Q:∀ (d D:Nat) (t:TypeId) (l:List Sh),d<=D->B0z P d t=some l->E1s P D t l
 | 0,_,_,_,_,h=>by simp [B0z] at h
 | d+1,0,_,_,hD,_=>by omega
 | d+1,D+1,t,l,hD,h=>by
  have ih:=λt' l'=>D5Q d D t' l' (by omega)
  have nH:=D4g h;intro μ w xs ys Xs Ys hx hy hX hY;unfold B0z at h;split at h
  ·rename_i hu;cases h;obtain ⟨x,X,rfl,rfl,h1,h2⟩:=B9U hx hX;obtain ⟨y,Y,rfl,rfl,h3,h4⟩:=B9U hy hY;obtain ⟨a,rfl⟩:=D58 h1;obtain ⟨b,rfl⟩:=D58 h3;cases h2;cases h4;have hm:∀ v:Value,mkv P t [v]=v:=λv=>by simp [mkv,jW,hu]
   rw [hm,hm,run_equalIn_bool' w D t a b hu,D5z];simp
  ·rename_i k hu;cases h;obtain ⟨x,X,rfl,rfl,h1,h2⟩:=B9U hx hX;obtain ⟨y,Y,rfl,rfl,h3,h4⟩:=B9U hy hY;obtain ⟨a,rfl⟩:=D59 h1;obtain ⟨b,rfl⟩:=D59 h3;cases h2;cases h4;have hm:∀ v:Value,mkv P t [v]=v:=λv=>by simp [mkv,jW,hu]
   rw [hm,hm,run_equalIn_int w D t k k a b hu,D5z];simp
  ·rename_i hu;cases h;obtain ⟨x,X,rfl,rfl,h1,h2⟩:=B9U hx hX;obtain ⟨y,Y,rfl,rfl,h3,h4⟩:=B9U hy hY;obtain ⟨a,rfl⟩:=D6a h1;obtain ⟨b,rfl⟩:=D6a h3;cases h2;cases h4;have hm:∀ v:Value,mkv P t [v]=v:=λv=>by simp [mkv,jW,hu]
   rw [hm,hm,run_equalIn_string w D t _ _ hu,ByteArray.toList_mk,ByteArray.toList_mk,show (a==b)=decide (a=b) by rw [Bool.eq_iff_iff];simp];simp
  ·rename_i fs hu;split at h
   ·rename_i vH;have hm:∀ vs:List Value,mkv P t vs=.agg vs.toArray:=λvs=>by simp [mkv,jW,hu]
    have hfo:P.fieldsOf t=fs:=by simp [Program.fieldsOf,hu]
    rw [hm,hm,run_equalIn_struct w D t _ _ (by rw [hfo];exact hu) vH,hfo];have hxl:xs.length=l.length:=by have:=congrArg List.length hx;simpa using this
    have hyl:ys.length=l.length:=by have:=congrArg List.length hy;simpa using this
    have:=C9U (P:=P) (leaf:=B0z P d) (D:=D) (λt' l' h'=>ih t' l' h') (λt' l' h'=>D4g h') fs.toList 0 l μ w xs ys Xs Ys h (by omega) (by omega) (by simpa using hx) (by simpa using hy) hX hY;simpa using this
   ·cases h
  ·rename_i n e hu;simp only [E4Z] at h;obtain ⟨le,bO,h⟩:=h;split at h
   ·cases h;rename_i hsz;have hm:∀ vs:List Value,mkv P t vs=.agg vs.toArray:=λvs=>by simp [mkv,jW,hu]
    have E31:nX P t=some (n,e):=by simp [nX,hu]
    rw [hm,hm,run_equalIn_array E31 hsz];have hxl:xs.length=n*le.length:=by have:=congrArg List.length hx;simpa using this
    have hyl:ys.length=n*le.length:=by have:=congrArg List.length hy;simpa using this
    have:=D21 (ih e le bO) (D4g bO) hsz n 0 μ w xs ys Xs Ys (by omega) (by omega) (by simpa using hx) (by simpa using hy) hX hY;rw [<-List.range_eq_range'] at this;simpa using this
   ·cases h
  ·cases h
theorem E0K {neg:Bool} {t:TypeId} {l:List Sh} {x y v:Val} {X Y:Value} (nH:jW P t=some true) (hl:B0z P 100 t=some l) (hx:RV μ x X) (hy:RV μ y Y) (h:aeq neg l x y=some v) :
  ∃ V,(binOp (bif neg then .neq else .eql) t X Y).run P w=.ok V w/\RV μ v V:=by
 unfold aeq at h;split at h
 ·obtain ⟨Xs,rfl,hX⟩:=hx;obtain ⟨Ys,rfl,hY⟩:=hy;split at h
  ·rename_i hc;cases h;have:=D5Q (P:=P) 100 10000 t l (by omega) hl μ w _ _ Xs Ys hc.1 hc.2 hX hY;have hm:∀ vs:List Value,mkv P t vs=.agg vs.toArray:=λvs=>by simp [mkv,nH]
   rw [hm,hm] at this;cases neg
   ·exact ⟨_,by rw [cond_false,run_eql_struct,this];rfl,rfl⟩
   ·exact ⟨_,by rw [cond_true,run_neq_struct,this];rfl,rfl⟩
  ·cases h
 ·cases h
end
end
section
section
variable {P:Program} {μ:Mu} {w:World}
def D1C (P:Program) (t:TypeId):Option (TypeId × TypeId):=match P.underlying t with | some (.map k e)=>some (k,e) | _=>none
theorem A1a {t k e:TypeId} (h:D1C P t=some (k,e)):P.underlying t=some (.map k e):=by
 unfold D1C at h;cases hu:P.underlying t with
 | none=>rw [hu] at h;cases h
 | some d=>rw [hu] at h;cases d<;>simp_all
def A7E (P:Program) (k:TypeId) (kk:Option IntKind):Bool :=
 match P.underlying k,kk with
 | some (.int i),some j=>decide (i=j)
 | some .string,none=>true
 | _,_=>false
def A6l (v:Value):Part->Bool
 | .c x=>v.oneCell'&&jF v [x]
 | .a l=>(match v with | .agg _=>true | _=>false)&&jF v l
theorem B4B {v:Value} {p:Part} (h:A6l v p=true):RP μ p v:=by
 cases p with
 | c x =>
  simp only [A6l,E42] at h;have h2:=fU (μ:=μ) h.2;have h3:v.cells = #[v]:=by
   have:=h.1;cases v<;>simp_all [Value.oneCell',Value.cells]
  rw [h3] at h2;exact h2.1
 | a l =>
  simp only [A6l,E42] at h;have h2:=fU (μ:=μ) h.2;cases v with
  | agg vs=>exact ⟨vs.toList,by simp,by simpa [Value.cells] using h2⟩
  | _=>cases h.1
theorem C6D {k:TypeId} {kk:Option IntKind} {d:TypeDesc} {c:Cell} {V:Value} (hd:P.underlying k=some d) (hk:A7E P k kk=true) (hs:sK kk c=true) (hc:RC μ c V):MapKept.IsKey d V:=by
 unfold A7E at hk;rw [hd] at hk;cases d<;>cases kk<;>simp at hk
 all_goals
  cases c<;>simp [sK] at hs
 ·subst hk;subst hs;cases hc;rfl
 ·cases hc;trivial
theorem E2g {kk:Option IntKind} {c c':Cell} {V V':Value} (h1:sK kk c=true) (h2:sK kk c'=true) (hc:RC μ c V) (hc':RC μ c' V'):V=V'↔c=c':=by
 cases kk with
 | none =>
  cases c<;>simp [sK] at h1
  cases c'<;>simp [sK] at h2
  cases hc;cases hc';simp
 | some k =>
  cases c<;>simp [sK] at h1
  cases c'<;>simp [sK] at h2
  cases hc;cases hc';subst h1;subst h2;simp
theorem D1E {d:TypeDesc} {kk:Option IntKind} {k:Cell} {K:Value} (hkd:∀ c V,sK kk c=true->RC μ c V->MapKept.IsKey d V) (hk:sK kk k=true) (hK:RC μ k K) :
  ∀ (es:W0) (E:List MapEntry) (i:Nat),All2 (RE μ) es E->(es.all λe=>sK kk e.1)=true ->
   match mgo k es i with
   | none=>Instr.findNow d K E i=some none
   | some (j,p)=>∃ V,Instr.findNow d K E i=some (some (j,V))/\RP μ p V/\i<=j/\∃ e E',es[j-i]?=some e/\e=(k,p)/\E[j-i]?=some E'/\E'.val=V/\E'.key=K
 | [],[],i,_,_=>rfl
 | e::es,E0::E,i,⟨⟨h1,h2⟩,h3⟩,hs=>by
  simp only [E5J,E42] at hs;obtain ⟨r,hr,B9L⟩:=MapKept.sameNow_of_keys (hkd k K hk hK) (hkd e.1 E0.key hs.1 h1);have hke:=E2g hk hs.1 hK h1;unfold mgo;by_cases he:e.1=k
  ·rw [if_pos he];have:r=true:=B9L.2 (hke.2 he.symm);subst this;refine ⟨E0.val,by simp [Instr.findNow,hr],h2,E44 _,e,E0,by simp,by rw [<-he],by simp,rfl,(hke.2 he.symm).symm⟩
  ·rw [if_neg he];have hrf:r=false:=by
    cases r with
    | false=>rfl
    | true=>exact absurd (hke.1 (B9L.1 rfl)).symm he
   subst hrf;have ih:=D1E hkd hk hK es E (i+1) h3 hs.2;cases hm:mgo k es (i+1) with
   | none=>rw [hm] at ih;simp only at ih ⊢;simp [Instr.findNow,hr,ih]
   | some jp =>
    obtain ⟨j,p⟩:=jp;rw [hm] at ih;obtain ⟨V,g1,g2,g3,e',E',g4,g5,g6,g7,g8⟩:=ih;refine ⟨V,by simp [Instr.findNow,hr,g1],g2,by omega,e',E',?_,g5,?_,g7,g8⟩
    ·rw [show j-i=(j-(i+1))+1 by omega];simpa using g4
    ·rw [show j-i=(j-(i+1))+1 by omega];simpa using g6
 | [],_::_,_,h,_=>h.elim
 | _::_,[],_,h,_=>h.elim
theorem RP.val {p:Part} {V:Value} (h:RP μ p V):RV μ (A4Y false p true) V:=by
 cases p<;>exact h
theorem D4X {p:Part} {b:Bool}:A4Y false p b=A4Y false p true:=by cases p<;>rfl
theorem D1O {ok b:Bool} {p:Part} {V:Value} (h:RP μ p V):RV μ (A4Y ok p b) (if ok then .tuple #[V,.bool b] else V):=by
 cases ok with
 | true=>exact ⟨[V,.bool b],rfl,h,rfl,trivial⟩
 | false =>
  rw [D4X];exact RP.val h
theorem D1z {v:Val} {c:Cell} {V:Value} (h:C6F v=some c) (hv:RV μ v V):RC μ c V:=by
 cases v<;>simp [C6F] at h
 subst h;exact hv
theorem D3G {v:Val} {p:Part} {V:Value} (h:C7a v=some p) (hv:RV μ v V):RP μ p V:=by
 cases v<;>simp [C7a] at h
 ·subst h;exact hv
 ·subst h;exact hv
theorem E0o {hp:A6} {m:Val} {M:Value} {es:W0} (hrow:∀ id r,rd hp id=some r->RowOk μ w id r) (hm:RV μ m M) (h:D6U hp m=some es) :
  (M=.map none/\es=[])\/∃ b E,M=.map (some b)/\w.heap[b]?=some (.map E E.size)/\All2 (RE μ) es E.toList/\∀ (i:Nat) (e:MapEntry),E[i]?=some e->e.born=i:=by
 unfold D6U at h;split at h
 ·cases h;exact .inl ⟨hm,rfl⟩
 ·rename_i id;obtain ⟨b,n,h1,rfl⟩:=hm;simp only [E4Z] at h;obtain ⟨r,hr,h⟩:=h;have:=B1o h;subst this;obtain ⟨E,h2,h3,h4⟩:=(hrow id _ hr).map h1;exact .inr ⟨b,E,rfl,h2,h3,h4⟩
 ·cases h
theorem D9p {t kt et:TypeId} {kk:Option IntKind} {z:Value} {zero:Part} {ok:Bool} {hp:A6} {m x v:Val} {M X:Value} (ht:D1C P t=some (kt,et)) (hkk:A7E P kt kk=true) (hz:wW P et=some z) (hc:A6l z zero=true)
  (hrow:∀ id r,rd hp id=some r->RowOk μ w id r) (hm:RV μ m M) (hx:RV μ x X) (h:A7f hp kk zero ok m x=some v) :
  ∃ V,(Instr.lookup t M X ok).run P w=.ok V w/\RV μ v V:=by
 simp only [A7f,E4Z] at h;obtain ⟨k,hk,es,hes,h⟩:=h;split at h
 ·cases h;rename_i A2k;simp only [A3N,E42] at A2k;have hK:=D1z hk hx;cases hd:P.underlying kt with
  | none=>unfold A7E at hkk;rw [hd] at hkk;cases hkk
  | some d =>
   have hkd:∀ c V,sK kk c=true->RC μ c V->MapKept.IsKey d V:=λc V=>C6D hd hkk
   have hX:=hkd k X A2k.1 hK;rcases E0o hrow hm hes with ⟨rfl,rfl⟩ | ⟨b,E,rfl,h1,h2,_⟩
   ·refine ⟨_,?_,D1O (B4B hc)⟩;simp [Instr.lookup,E4 (A1a ht),MapKept.run_checkKey hd hX,MapKept.run_findKey (l:=[]) hd (show Instr.findNow d X [] 0=some none from rfl),wS hz]
   ·have hg:=D1E hkd A2k.1 hK es E.toList 0 h2 A2k.2;unfold B0E;cases hmg:mgo k es 0 with
    | none =>
     rw [hmg] at hg;refine ⟨_,?_,D1O (B4B hc)⟩;simp [Instr.lookup,E4 (A1a ht),MapKept.run_getObj_map h1,MapKept.run_checkKey hd hX,MapKept.run_findKey hd hg,wS hz]
    | some jp =>
     obtain ⟨j,p⟩:=jp;rw [hmg] at hg;obtain ⟨V,g1,g2,_⟩:=hg;refine ⟨_,?_,D1O g2⟩;simp [Instr.lookup,E4 (A1a ht),MapKept.run_getObj_map h1,MapKept.run_checkKey hd hX,MapKept.run_findKey hd g1]
 ·cases h
theorem B0C {Γ:Ctx} {h:A6} {id b n:Nat} {es es':W0} {E E':Array MapEntry} (hi:Inv Γ μ h w) (hr:rd h id=some (S4 es)) (hm:μ id=some (b,n)) (hb:w.heap[b]?=some (.map E E.size))
  (h1:All2 (RE μ) es' E'.toList) (h2:∀ (i:Nat) (e:MapEntry),E'[i]?=some e->e.born=i):Inv Γ μ (h.set id (some (S4 es'))) { w with heap:=w.heap.setIfInBounds b (.map E' E'.size) }:=by
 obtain ⟨g1,g2⟩:=MapKept.heap_set (o':=.map E' E'.size) hb;refine hi.turn hr (Row.own_mrow _) (Row.own_mrow _) hm rfl rfl rfl g2 ?_;unfold RowOk;rw [hm];exact .inr (.inl ⟨es',E',rfl,g1,h1,h2⟩)
theorem All2.modify {es:W0} {E:List MapEntry} {i:Nat} {e:Cell × Part} {f:MapEntry->MapEntry} (h:All2 (RE μ) es E) (hf:∀ x,E[i]?=some x->RE μ e (f x)):All2 (RE μ) (es.set i e) (E.modify i f):=by
 refine All2.of_get (by simp [h.length]) λj a b ha hb=>?_
 rw [List.getElem?_modify] at hb;by_cases hj:i=j
 ·subst hj;obtain ⟨x,hx,rfl⟩:∃ x,E[i]?=some x/\f x=b:=by
   cases hE:E[i]? with
   | none=>rw [hE] at hb;simp at hb
   | some y=>rw [hE] at hb;simp at hb;exact ⟨y,rfl,hb⟩
  have U8:i<es.length:=by
   have:=(List.getElem?_eq_some_iff.1 hx).1;rw [h.length];exact this
  rw [List.getElem?_set_self U8] at ha;cases ha;exact hf x hx
 ·rw [List.getElem?_set_ne hj] at ha;have hb':E[j]?=some b:=by
   cases hE:E[j]? with
   | none=>rw [hE] at hb;simp at hb
   | some y=>rw [hE] at hb;simp [hj] at hb;rw [hb]
  obtain ⟨y,hy,hR⟩:=h.get j a ha;rw [hb'] at hy;cases hy;exact hR
theorem D3T {Γ:Ctx} {t kt et:TypeId} {kk:Option IntKind} {h h':A6} {m k x:Val} {M K X:Value} (ht:D1C P t=some (kt,et)) (hkk:A7E P kt kk=true)
  (hi:Inv Γ μ h w) (hm:RV μ m M) (hk:RV μ k K) (hx:RV μ x X) (hh:A17 h kk m k x=some h') :
  ∃ w',(Instr.mapUpdate t M K X).run P w=.ok () w'/\Inv Γ μ h' w':=by
 unfold A17 at hh;split at hh
 ·rename_i id;obtain ⟨b,n,hmu,rfl⟩:=hm;simp only [E4Z] at hh;obtain ⟨kc,hkc,p,hp,r,hr,es,hes,hh⟩:=hh;split at hh
  ·cases hh;rename_i A2k;simp only [A3N,E42] at A2k;have:=B1o hes;subst this;have hK:=D1z hkc hk;have hX:=D3G hp hx;obtain ⟨E,h1,h2,h3⟩:=(hi.rows id _ hr).map hmu;cases hd:P.underlying kt with
   | none=>unfold A7E at hkk;rw [hd] at hkk;cases hkk
   | some d =>
    have hkd:∀ c V,sK kk c=true->RC μ c V->MapKept.IsKey d V:=λc V=>C6D hd hkk
    have D4y:=hkd kc K A2k.1 hK;have hg:=D1E hkd A2k.1 hK es E.toList 0 h2 A2k.2;unfold A71 B0E;cases hmg:mgo kc es 0 with
    | none =>
     rw [hmg] at hg;refine ⟨_,?_,B0C (E':=E.push { key:=K,val:=X,born:=E.size }) hi hr hmu h1 (by rw [Array.toList_push];exact h2.append ⟨⟨hK,hX⟩,trivial⟩) ?_⟩
     ·simp [Instr.mapUpdate,E4 (A1a ht),MapKept.run_getObj_map h1,MapKept.run_checkKey hd D4y,MapKept.run_findKey hd hg,MapKept.run_setObj_map _ h1]
     ·intro i e he;rw [Array.getElem?_push] at he;split at he
      ·cases he;rename_i hh;exact hh.symm
      ·exact h3 i e he
    | some jp =>
     obtain ⟨j,q⟩:=jp;rw [hmg] at hg;obtain ⟨V,g1,g2,_,e0,E0,g4,g5,g6,g7,g8⟩:=hg;simp only [Nat.sub_zero] at g4 g6;have g6':E[j]?=some E0:=by simpa using g6
     refine ⟨_,?_,B0C (E':=E.modify j λe=>{ e with key:=K,val:=X }) hi hr hmu h1 ?_ ?_⟩
     ·simp [Instr.mapUpdate,E4 (A1a ht),MapKept.run_getObj_map h1,MapKept.run_checkKey hd D4y,MapKept.run_findKey hd g1,g6',g8,MapKept.run_keyThatStays D4y,MapKept.run_setObj_map _ h1]
     ·rw [Array.toList_modify];exact All2.modify h2 λx hx=>⟨hK,hX⟩
     ·intro i e he;rw [Array.getElem?_modify] at he;split at he
      ·rw [E5i] at he;obtain ⟨e',he',rfl⟩:=he;exact h3 i e' he'
      ·exact h3 i e he
  ·cases hh
 ·cases hh
theorem D9q {Γ:Ctx} {t kt et:TypeId} {kk:Option IntKind} {z:Value} {zero:Part} {h h':A6} {m k v:Val} {M K:Value} (ht:D1C P t=some (kt,et)) (hkk:A7E P kt kk=true) (hz:wW P et=some z) (hc:A6l z zero=true)
  (hi:Inv Γ μ h w) (hm:RV μ m M) (hk:RV μ k K) (hh:D2u h kk zero m k=some (v,h')) :
  ∃ V w',(Instr.mapEntry t M K).run P w=.ok V w'/\RV μ v V/\Inv Γ μ h' w':=by
 unfold D2u at hh;split at hh
 ·rename_i id;obtain ⟨b,n,hmu,rfl⟩:=hm;simp only [E4Z] at hh;obtain ⟨kc,hkc,r,hr,es,hes,hh⟩:=hh;split at hh
  ·rename_i A2k;simp only [A3N,E42] at A2k;have:=B1o hes;subst this;have hK:=D1z hkc hk;have hZ:RP μ zero z:=B4B hc;obtain ⟨E,h1,h2,h3⟩:=(hi.rows id _ hr).map hmu;cases hd:P.underlying kt with
   | none=>unfold A7E at hkk;rw [hd] at hkk;cases hkk
   | some d =>
    have hkd:∀ c V,sK kk c=true->RC μ c V->MapKept.IsKey d V:=λc V=>C6D hd hkk
    have D4y:=hkd kc K A2k.1 hK;have hg:=D1E hkd A2k.1 hK es E.toList 0 h2 A2k.2;unfold B0E at hh;cases hmg:mgo kc es 0 with
    | none =>
     rw [hmg] at hg hh;cases hh;have hlen:es.length=E.size:=by have:=h2.length;simpa using this
     refine ⟨.tuple #[z,goInt E.size],_,?_,⟨[z,goInt E.size],rfl,hZ,by rw [hlen];rfl,trivial⟩,B0C (E':=E.push { key:=K,val:=z,born:=E.size }) hi hr hmu h1 (by rw [Array.toList_push];exact h2.append ⟨⟨hK,hZ⟩,trivial⟩) ?_⟩
     ·simp [Instr.mapEntry,E4 (A1a ht),MapKept.run_getObj_map h1,MapKept.run_checkKey hd D4y,MapKept.run_findKey hd hg,wS hz,MapKept.run_setObj_map _ h1]
     ·intro i e he;rw [Array.getElem?_push] at he;split at he
      ·cases he;rename_i hh;exact hh.symm
      ·exact h3 i e he
    | some jp =>
     obtain ⟨j,q⟩:=jp;rw [hmg] at hg hh;cases hh;obtain ⟨V,g1,g2,_,e0,E0,g4,g5,g6,g7,g8⟩:=hg;simp only [Nat.sub_zero] at g4 g6;have g6':E[j]?=some E0:=by simpa using g6
     have E20:=h3 j E0 g6';have E4p:es.set j (kc,q)=es:=by
      apply List.ext_getElem?;intro i;by_cases hij:j=i
      ·subst hij;rw [List.getElem?_set_self (List.getElem?_eq_some_iff.1 g4).1,g4,g5]
      ·rw [List.getElem?_set_ne hij]
     have hI:=B0C (es':=es.set j (kc,q)) (E':=E.modify j λe=>{ e with key:=K }) hi hr hmu h1 (by
      rw [Array.toList_modify];refine All2.modify h2 λx hx=>⟨hK,?_⟩
      rw [g6] at hx;cases hx;show RP μ q E0.val;rw [g7];exact g2) (by
      intro i e he;rw [Array.getElem?_modify] at he;split at he
      ·rw [E5i] at he;obtain ⟨e',he',rfl⟩:=he;exact h3 i e' he'
      ·exact h3 i e he)
     rw [E4p] at hI;have hsame:h.set id (some (S4 es))=h:=by
      apply List.ext_getElem?;intro i;by_cases hij:id=i
      ·subst hij;rw [List.getElem?_set_self (C5 hr)];rw [rd_some] at hr;rw [hr]
      ·rw [List.getElem?_set_ne hij]
     rw [hsame] at hI;refine ⟨.tuple #[V,goInt j],_,?_,⟨[V,goInt j],rfl,g2,rfl,trivial⟩,hI⟩;simp [Instr.mapEntry,E4 (A1a ht),MapKept.run_getObj_map h1,MapKept.run_checkKey hd D4y,MapKept.run_findKey hd g1,g6',g8,E20,MapKept.run_keyThatStays D4y,MapKept.run_setObj_map _ h1]
  ·cases hh
 ·cases hh
theorem D9s {Γ:Ctx} {t:TypeId} {h h':A6} {m s x:Val} {M S X:Value}
  (hi:Inv Γ μ h w) (hm:RV μ m M) (hs:RV μ s S) (hx:RV μ x X) (hh:D2v h m s x=some h') :
  ∃ w',(Instr.entryStore t M S X).run P w=.ok () w'/\Inv Γ μ h' w':=by
 unfold D2v at hh;split at hh
 ·rename_i id n;obtain ⟨b,nn,hmu,rfl⟩:=hm;cases hs;simp only [E4Z] at hh;obtain ⟨p,hp,r,hr,es,hes,hh⟩:=hh;split at hh
  ·rename_i hn;simp only [E4Z,Option.some.injEq] at hh;obtain ⟨e,he,rfl⟩:=hh;have:=B1o hes;subst this;have hX:=D3G hp hx;obtain ⟨E,h1,h2,h3⟩:=(hi.rows id _ hr).map hmu;obtain ⟨E0,hE0,hR⟩:=h2.get _ _ he;have E3W:E[n.toNat]?=some E0:=by simpa using hE0
   have E25:E.findIdx? (λe=>(e.born:Int)==n)=some n.toNat:=by
    rw [Array.findIdx?_eq_some_iff_getElem];have U8:=(Array.getElem?_eq_some_iff.1 E3W).1;refine ⟨U8,?_,λj hj=>?_⟩
    ·have:=h3 n.toNat E[n.toNat] (by simp [U8]);simp [this];omega
    ·have:=h3 j E[j] (by simp);simp [this];omega
   refine ⟨_,?_,B0C (E':=E.modify n.toNat λe=>{ e with val:=X }) hi hr hmu h1 ?_ ?_⟩
   ·simp [Instr.entryStore,MapKept.run_getObj_map h1,asInt,asIntOf,E25,MapKept.run_setObj_map _ h1]
   ·rw [Array.toList_modify];refine All2.modify h2 λx hx=>⟨?_,hX⟩
    rw [hE0] at hx;cases hx;exact hR.1
   ·intro i e' he';rw [Array.getElem?_modify] at he';split at he'
    ·rw [E5i] at he';obtain ⟨e'',E35,rfl⟩:=he';exact h3 i e'' E35
    ·exact h3 i e' he'
  ·cases hh
 ·cases hh
theorem D7i {Γ:Ctx} {t:TypeId} {h:A6} {n0:Nat} {slot:Option Nat} (hi:Inv Γ μ h w) (hs:tK μ h n0 slot) :
  ∃ V w' μ',(Instr.makeMap t none).run P w=.ok V w' /\ μ.le μ'/\RV μ' (.c (.m (dA h n0 slot (S4 [])).1)) V/\Inv Γ μ' (dA h n0 slot (S4 [])).2 w'/\Keeps μ μ' h n0 slot:=by
 obtain ⟨h1,h2,h3,h4,h5,h6⟩:=oQ (r:=S4 []) hs hi.dom;refine ⟨.map (some w.heap.size),w.alloc (.map #[] 0),_,rfl,Mu.le_add h1,⟨_,0,U0 _ _ _,rfl⟩,?_,Keeps.new⟩;refine hi.fresh h1 rfl rfl rfl (λb hb=>?_) h2 h3 h4 h5 ?_
 ·show (w.heap.push _)[b]?=_;rw [Array.getElem?_push,if_neg (by omega)]
 ·unfold RowOk;simp only [Mu.add,if_true];refine .inr (.inl ⟨[],#[],rfl,by show (w.heap.push _)[w.heap.size]?=_;simp,trivial,λi e he=>by simp at he⟩)
end
end
section
def A6D:Value->Bool
 | .slice none 0 0=>true
 | _=>false
def vZ (place:Nat->Option (Nat × Nat)):List (Nat × Operand)->List (Nat × Nat × Opd)->Bool
 | [],[]=>true
 | q::qs,p::ps=>decide (place q.1=some (p.1,p.2.1))&&D8 q.2 p.2.2&&vZ place qs ps
 | _,_=>false
def places (P:Program) (fs:Array Field):List (Option (Nat × Nat)):=fs.toList.map λf=>(P9 P f.type).map λn=>(f.offset,n)
def B1d {α:Type}:List (Option α)->Option (List α)
 | []=>some []
 | some a::r=>(B1d r).map λl=>a::l
 | none::_=>none
def A4o (P:Program) (s:TypeId) (j:Nat):Option Field:=(A2x P s).bind λfs=>fs[j]?
def A9S (P:Program) (e:TypeId):Bool :=
 match P.info? e with
 | some i=>decide (i.bytes<=65536)&&decide (i.bytes≠0)&&decide (i.size≠0)&&(match i.zero with | some z=>decide (z.cells.size=i.size) | none=>false)
 | none=>false
def E1G (P:Program) (t:TypeId):Bool :=
 match P.underlying t with
 | some .string=>true
 | some (.slice _)=>true
 | _=>false
def D90 (P:Program) (o:Op):AOp->Bool
 | .mv y=>(match o with | .move x=>D8 x y | .assign x=>D8 x y | _=>false)
 | .nilrow _=>(match o with | .move (.const v)=>A6D v | .assign (.const v)=>A6D v | _=>false)
 | .pick c a b=>(match o with | .pick c' a' b'=>D8 c' c&&D8 a' a&&D8 b' b | _=>false)
 | .alloc z=>(match o with | .alloc t=>(match wW P t with | some v=>jF v z | none=>false) | _=>false)
 | .box y=>(match o with | .box _ x=>D8 x y | _=>false)
 | .build z ps=>(match o with
   | .build t qs=>(match wW P t with | some v=>jF v z | none=>false) &&
     (match A2x P t with
      | some fs=>(match B1d (places P fs) with | some pl=>vZ (pl[·]?) qs.toList ps | none=>false)
      | none=>(match nX P t with | some (_,e)=>(match P9 P e with | some sz=>vZ (λi=>some (i*sz,sz)) qs.toList ps | none=>false) | none=>false))
   | _=>false)
 | .buildSl sz len z ps=>(match o with
   | .buildSlice t len' qs=>decide (len=len')&&(match sliceB P t with
     | some e=>decide (P9 P e=some sz)&&decide (len*sz<=2 ^ 24)&&(match wW P e with
       | some v=>jF (.agg ((Array.range (len*sz)).map (v.cells[· % v.cells.size]!))) z
       | none=>false)&&vZ (λi=>some (i*sz,sz)) qs.toList ps
     | none=>false)
   | _=>false)
 | .load1 y=>(match o with | .load t x=>decide (jW P t=some false)&&D8 x y | _=>false)
 | .loadN n y=>(match o with | .load t x=>decide (jW P t=some true)&&decide (P9 P t=some n)&&D8 x y | _=>false)
 | .store1 y z=>(match o with | .store t x v=>decide (P9 P t=some 1)&&D8 x y&&D8 v z | _=>false)
 | .storeN n y z=>(match o with | .store t x v=>decide (P9 P t=some n)&&D8 x y&&D8 v z | _=>false)
 | .bin op y z=>(match o with | .binOp op' _ x v _=>decide (op=op')&&D8 x y&&D8 v z | _=>false)
 | .eqA neg sh y z=>(match o with | .binOp op' t x v _=>decide ((bif neg then BinOp.neq else .eql)=op')&&decide (jW P t=some true)&&decide (B0z P 100 t=some sh) && !P.eqGuardType P.depth t&&D8 x y&&D8 v z | _=>false)
 | .eqB neg y z=>(match o with | .binOp op' t x v _=>decide ((bif neg then BinOp.neq else .eql)=op')&&(match P.underlying t with | some .bool=>true | _=>false)&&D8 x y&&D8 v z | _=>false)
 | .eqN fn neg y=>(match o with | .binOp op' t x (.const c) _=>decide ((bif neg then BinOp.neq else .eql)=op')&&D1y P fn t c&&D8 x y | _=>false)
 | .nilc y=>(match o with | .nilCheck x=>D8 x y | _=>false)
 | .un op y=>(match o with | .unOp op' _ x=>decide (op=op')&&D8 x y | _=>false)
 | .conv k y=>(match o with | .convert s d x=>(B4O P s).isSome&&decide (B4O P d=some k)&&D8 x y | _=>false)
 | .convS y=>(match o with | .convert s d x=>bI P s&&bI P d&&D8 x y | _=>false)
 | .s2b y=>(match o with | .convert s d x=>bI P s&&(match sliceB P d with | some e=>decide (B4O P e=some .u8) | none=>false)&&D8 x y | _=>false)
 | .b2s y=>(match o with | .convert s d x=>bI P d&&(match sliceB P s with | some e=>decide (B4O P e=some .u8) | none=>false)&&D8 x y | _=>false)
 | .b2sN _ y=>(match o with | .convert s d x=>bI P d&&(match sliceB P s with | some e=>decide (B4O P e=some .u8) | none=>false)&&D8 x y | _=>false)
 | .mark y=>(match o with | .convert s d x=>decide (s=d)&&(match sliceB P s with | some e=>decide (B4O P e=some .u8) | none=>false)&&D8 x y | _=>false)
 | .mkf f caps=>(match o with | .makeFunc (.func g) first cs=>decide (f=g)&&first.isEmpty&&A2b cs.toList caps | _=>false)
 | .mkSl sz z y y2=>(match o with
   | .makeSlice t x x2=>D8 x y&&D8 x2 y2&&(match sliceB P t with
     | some e=>A9S P e&&decide (P9 P e=some sz)&&decide (z.length=sz)&&(match wW P e with | some v=>jF v z | none=>false)
     | none=>false)
   | _=>false)
 | .slS y lo hi=>(match o with | .slice t x l h none=>bI P t&&D8 x y&&A9R l lo&&A9R h hi | _=>false)
 | .slL sz y lo hi=>(match o with | .slice t x l h none=>(match sliceB P t with | some e=>decide (P9 P e=some sz) | none=>false)&&D8 x y&&A9R l lo&&A9R h hi | _=>false)
 | .slA n sz y lo hi=>(match o with | .slice t x l h none=>(match nX P t with | some (m,e)=>decide (m=n)&&decide (P9 P e=some sz) | none=>false)&&D8 x y&&A9R l lo&&A9R h hi | _=>false)
 | .fAddr y off=>(match o with | .fieldAddr s x j=>(match A4o P s j with | some f=>decide (f.offset=off)&&(match P9 P f.type with | some n=>decide (n≠0) | none=>false) | none=>false)&&D8 x y | _=>false)
 | .iAddrA n sz y z=>(match o with | .indexAddr t x i=>(match nX P t with | some (m,e)=>decide (m=n)&&decide (P9 P e=some sz) | none=>false)&&D8 x y&&D8 i z | _=>false)
 | .iAddrL sz y z=>(match o with | .indexAddr t x i=>(match sliceB P t with | some e=>decide (P9 P e=some sz) | none=>false)&&D8 x y&&D8 i z | _=>false)
 | .fld1 y off=>(match o with | .field s x j=>(match A4o P s j with | some f=>decide (f.offset=off)&&decide (jW P f.type=some false) | none=>false)&&D8 x y | _=>false)
 | .fldN y off n=>(match o with | .field s x j=>(match A4o P s j with | some f=>decide (f.offset=off)&&decide (jW P f.type=some true)&&decide (P9 P f.type=some n) | none=>false)&&D8 x y | _=>false)
 | .idxA1 n y z=>(match o with | .index t x i=>(match nX P t with | some (m,e)=>decide (m=n)&&decide (jW P e=some false)&&decide (P9 P e=some 1) | none=>false)&&D8 x y&&D8 i z | _=>false)
 | .idxAN n sz y z=>(match o with | .index t x i=>(match nX P t with | some (m,e)=>decide (m=n)&&decide (jW P e=some true)&&decide (P9 P e=some sz) | none=>false)&&D8 x y&&D8 i z | _=>false)
 | .idxS y z=>(match o with | .index t x i=>bI P t&&D8 x y&&D8 i z | _=>false)
 | .ext y k=>(match o with | .extract x k'=>decide (k=k')&&D8 x y | _=>false)
 | .call _ _=>false
 | .callV _ _=>false
 | .len y=>(match o with | .call c=>(match c.callee,c.args.toList,c.argTypes.toList with | .builtin .len,[x],[t]=>(sliceB P t).isSome&&D8 x y | _,_,_=>false) | _=>false)
 | .lenS y=>(match o with | .call c=>(match c.callee,c.args.toList,c.argTypes.toList with | .builtin .len,[x],[t]=>bI P t&&D8 x y | _,_,_=>false) | _=>false)
 | .app sz y z=>(match o with
   | .call c=>(match c.callee,c.args.toList,c.argTypes.toList with
     | .builtin .append,[x,v],[s,yt]=>(match sliceB P s with | some e=>A9S P e&&decide (P9 P e=some sz) | none=>false)&&E1G P yt&&D8 x y&&D8 v z
     | _,_,_=>false)
   | _=>false)
 | .appZ sz zero y z=>(match o with
   | .call c=>(match c.callee,c.args.toList,c.argTypes.toList with
     | .builtin .append,[x,v],[s,yt]=>(match sliceB P s with | some e=>A9S P e&&decide (P9 P e=some sz)&&(match wW P e with | some v=>jF v zero | none=>false) | none=>false)&&(B4O P yt).isSome&&D8 x y&&D8 v z
     | _,_,_=>false)
   | _=>false)
 | .max y z=>(match o with | .call c=>(match c.callee,c.args.toList with | .builtin .max,[x,v]=>D8 x y&&D8 v z | _,_=>false) | _=>false)
 | .min y z=>(match o with | .call c=>(match c.callee,c.args.toList with | .builtin .min,[x,v]=>D8 x y&&D8 v z | _,_=>false) | _=>false)
 | .copy sz y z=>(match o with
   | .call c=>(match c.callee,c.args.toList,c.argTypes.toList with
     | .builtin .copy,[x,v],[s,yt]=>(match sliceB P s with | some e=>decide (P9 P e=some sz)&&decide (sz≠0) | none=>false)&&D8 x y&&D8 v z
     | _,_,_=>false)
   | _=>false)
 | .mkMap=>(match o with | .makeMap _ none=>true | _=>false)
 | .look kk zero ok y z=>(match o with
   | .lookup t m k ok'=>(match D1C P t with
     | some (kt,et)=>A7E P kt kk&&(match wW P et with | some v=>A6l v zero | none=>false)
     | none=>false)&&decide (ok=ok')&&D8 m y&&D8 k z
   | _=>false)
 | .mput kk y z z2=>(match o with
   | .mapUpdate t m k x=>(match D1C P t with
     | some (kt,et)=>A7E P kt kk
     | none=>false)&&D8 m y&&D8 k z&&D8 x z2
   | .insert t m k x=>(match D1C P t with
     | some (kt,et)=>A7E P kt kk
     | none=>false)&&D8 m y&&D8 k z&&D8 x z2
   | _=>false)
 | .ment kk zero y z=>(match o with
   | .mapEntry t m k=>(match D1C P t with
     | some (kt,et)=>A7E P kt kk&&(match wW P et with | some v=>A6l v zero | none=>false)
     | none=>false)&&D8 m y&&D8 k z
   | _=>false)
 | .mset y z z2=>(match o with
   | .entryStore _ m s x=>D8 m y&&D8 s z&&D8 x z2
   | _=>false)
def Res (P:Program) (o:Oper) (a:Act) (w:World) (V:Value) (w':World):Prop :=
 (execOp a.eval o).run P w=.ok (.value V) w'\/((execOp a.eval o).run P w=.ok .skip w'/\V=undef)
section
variable {P:Program} {μ:Mu} {w:World}
theorem A0c {e:Env} {a:Act} {x:Option Operand} {y:Option Opd} (h:A9R x y=true) (hs:SEnv μ e a):D0D μ (y.map e.ev) (x.map a.eval):=by
 cases x<;>cases y<;>simp [A9R] at h
 ·trivial
 ·exact C7 h hs
theorem A2c {e:Env} {a:Act} (hs:SEnv μ e a) {place:Nat->Option (Nat × Nat)}:∀ {qs:List (Nat × Operand)} {ps:List (Nat × Nat × Opd)},vZ place qs ps=true ->
  C3R μ place (ps.map λp=>(p.1,p.2.1,e.ev p.2.2)) (qs.map λ(i,x)=>(i,a.eval x))
 | [],[],_=>trivial
 | q::qs,p::ps,h=>by
  simp [vZ] at h;exact ⟨⟨h.1.1,C7 h.1.2 hs⟩,A2c hs h.2⟩
 | [],_::_,h=>by simp [vZ] at h
 | _::_,[],h=>by simp [vZ] at h
theorem C5z {α:Type}:∀ {l:List (Option α)} {m:List α},B1d l=some m->l=m.map some
 | [],m,h=>by simp [B1d] at h;subst h;rfl
 | some a::r,m,h=>by
  simp only [B1d,E5i] at h;obtain ⟨l,hl,rfl⟩:=h;simp [C5z hl]
 | none::_,m,h=>by simp [B1d] at h
theorem A9T {e:TypeId} (h:A9S P e=true):∃ i z,P.info? e=some i/\i.bytes<=65536/\i.bytes≠0/\i.size≠0/\i.zero=some z/\z.cells.size=i.size:=by
 unfold A9S at h;split at h
 ·rename_i i hi;simp only [E42,decide_eq_true_eq] at h;obtain ⟨⟨⟨h1,h2⟩,h3⟩,h4⟩:=h;split at h4
  ·rename_i z hz;exact ⟨i,z,hi,h1,h2,h3,hz,by simpa using h4⟩
  ·cases h4
 ·cases h
theorem D91 {t:TypeId} (h:E1G P t=true):P.underlying t=some .string\/∃ e',P.underlying t=some (.slice e'):=by
 unfold E1G at h;split at h
 ·exact .inl ‹_›
 ·exact .inr ⟨_,‹_›⟩
 ·cases h
theorem C9I:∀ {l:List Val} {cs:List (Nat × Nat)} {Vs:List Value},C5L l=some cs->All2 (RV μ) l Vs->All2 (RPtr μ) cs Vs
 | [],cs,[],h,_=>by simp [C5L] at h;subst h;trivial
 | v::r,cs,V::Vs,h,⟨h1,h2⟩=>by
  unfold C5L at h;split at h
  ·rename_i vG;cases vG
  ·rename_i id off r' vG;cases vG;simp only [E5i] at h;obtain ⟨l,hl,rfl⟩:=h;exact ⟨h1,C9I hl h2⟩
  ·cases h
 | [],_,_::_,_,h=>h.elim
 | _::_,_,[],_,h=>h.elim
end
end
section
section
variable {P:Program} {μ:Mu} {w:World}
def D9G (P:Program) (Γ:Ctx) (μ:Mu) (o:Oper) (a:Act) (w:World) (h:A6) (n0:Nat) (slot:Option Nat) (v:Val) (h':A6):Prop :=
 ∃ V w' μ',Res P o a w V w' /\ μ.le μ'/\RV μ' v V/\Inv Γ μ' h' w'/\Keeps μ μ' h n0 slot
theorem L6 {Γ:Ctx} {o:Oper} {a:Act} {v:Val} {h:A6} {n0:Nat} {slot:Option Nat} {s:Sem Value} (hi:Inv Γ μ h w) (he:execOp a.eval o=(do pure (Next.value (<-s)))) (hr:∃ V,s.run P w=.ok V w/\RV μ v V):D9G P Γ μ o a w h n0 slot v h:=by
 obtain ⟨V,h1,h2⟩:=hr;exact ⟨V,w,μ,.inl (by rw [he];simp [h1]),Mu.le_refl _,h2,hi,Keeps.refl _ _ _ _⟩
theorem kU {Γ:Ctx} {o:Oper} {a:Act} {v:Val} {h h':A6} {n0:Nat} {slot:Option Nat} {s:Sem Value} (he:execOp a.eval o=(do pure (Next.value (<-s)))) (hr:∃ V w' μ',s.run P w=.ok V w' /\ μ.le μ'/\RV μ' v V/\Inv Γ μ' h' w'/\Keeps μ μ' h n0 slot):D9G P Γ μ o a w h n0 slot v h':=by
 obtain ⟨V,w',μ',h1,h2,h3,h4⟩:=hr;exact ⟨V,w',μ',.inl (by rw [he];simp [h1]),h2,h3,h4⟩
theorem A4W {Γ:Ctx} {o:Oper} {a:Act} {h h':A6} {n0:Nat} {slot:Option Nat} {s:Sem Unit} (he:execOp a.eval o=(do s;pure Next.skip)) (hr:∃ w',s.run P w=.ok () w'/\Inv Γ μ h' w'):D9G P Γ μ o a w h n0 slot .un h':=by
 obtain ⟨w',h1,h2⟩:=hr;exact ⟨undef,w',μ,.inr ⟨by rw [he];simp [h1],rfl⟩,Mu.le_refl _,trivial,h2,Keeps.refl _ _ _ _⟩
theorem C6p {op:BinOp} {t:TypeId} {x y:Operand} {X Y:Value} (hX:∀ c,X≠.agg c) (hX2:X≠.nilIface):(eqGuard op t x y X Y).run P w=.ok () w:=by
 unfold eqGuard;cases X<;>cases Y<;>simp_all<;>split<;>rfl
theorem D4b {op:BinOp} {x y v:Val} {X:Value} (h:N5 op x y=some v) (hx:RV μ x X):(∀ c,X≠.agg c)/\X≠.nilIface:=by
 unfold N5 at h;split at h
 ·cases hx;simp
 ·cases hx;simp
 ·cases h
theorem E2A {Γ:Ctx} {E:N4} {q:Bool} {hr:A6} {n0:Nat} {slot:Option Nat} {o:Oper} {ao:AOp} {e:Env} {h:A6} {a:Act} {v:Val} {h':A6}
  (hc:D90 P o.op ao=true) (hs:SEnv μ e a) (hi:Inv Γ μ h w) (hrd:∀ id r,rd hr id=some r->rd h id=some r) (mI:tK μ h n0 slot)
  (C9:aop E q hr n0 slot ao e h (λv h=>some (v,h))=some (v,h')):D9G P Γ μ o a w h n0 slot v h':=by
 have hrow:∀ id r,rd hr id=some r->RowOk μ w id r:=λid r h1=>hi.rows id r (hrd id r h1)
 obtain ⟨dst,op,type,pos,after,guard⟩:=o;simp only at hc;cases ao<;>simp only [D90] at hc<;>simp only [aop] at C9
 case mv y =>
  cases C9;split at hc
  ·exact ⟨_,w,μ,.inl rfl,Mu.le_refl _,C7 hc hs,hi,Keeps.refl _ _ _ _⟩
  ·exact ⟨_,w,μ,.inl rfl,Mu.le_refl _,C7 hc hs,hi,Keeps.refl _ _ _ _⟩
  ·cases hc
 case nilrow sz =>
  cases C9;have key:∀ x:Value,A6D x=true->x=.slice none 0 0:=by
   intro x hx;unfold A6D at hx;split at hx<;>first | rfl | cases hx
  split at hc
  ·exact ⟨_,w,μ,.inl rfl,Mu.le_refl _,.inr ⟨rfl,none,key _ hc⟩,A4t hi mI,Keeps.refl _ _ _ _⟩
  ·exact ⟨_,w,μ,.inl rfl,Mu.le_refl _,.inr ⟨rfl,none,key _ hc⟩,A4t hi mI,Keeps.refl _ _ _ _⟩
  ·cases hc
 case pick c x y =>
  simp only [E4Z,Option.some.injEq,Prod.mk.injEq] at C9;obtain ⟨_,hp,rfl,rfl⟩:=C9;split at hc
  ·simp only [E42] at hc;rename_i c' x' y';have h1:RV μ _ _:=C7 hc.1.1 hs;have h2:=C7 hc.1.2 hs;have h3:=C7 hc.2 hs;unfold D2z at hp;split at hp
   ·rename_i b vG;cases hp;rw [vG] at h1;have h1:a.eval c'=.bool b:=h1;cases b
    ·exact ⟨_,w,μ,.inl (by simp [execOp,h1,asBool]),Mu.le_refl _,h3,hi,Keeps.refl _ _ _ _⟩
    ·exact ⟨_,w,μ,.inl (by simp [execOp,h1,asBool]),Mu.le_refl _,h2,hi,Keeps.refl _ _ _ _⟩
   ·cases hp
  ·cases hc
 case alloc z =>
  cases C9;split at hc
  ·split at hc
   ·exact kU rfl (D7c hi mI ‹_› hc)
   ·cases hc
  ·cases hc
 case box y =>
  simp only [E4Z,Option.some.injEq,Prod.mk.injEq] at C9;obtain ⟨cs,hp,rfl,rfl⟩:=C9;split at hc
  ·exact kU rfl (E0J hi mI (C7 hc hs) hp)
  ·cases hc
 case build z ps =>
  simp only [E4Z,Option.some.injEq,Prod.mk.injEq] at C9;obtain ⟨cs,hp,rfl,rfl⟩:=C9;split at hc
  ·rename_i t qs;simp only [E42] at hc;obtain ⟨hz,hc⟩:=hc;split at hz
   ·rename_i zv hzv;have vG:∀ qs:Array (Nat × Operand),(qs.map λ(i,x)=>(i,a.eval x))=(qs.toList.map λ(i,x)=>(i,a.eval x)).toArray:=by intro qs;apply Array.ext';simp
    split at hc
    ·rename_i fs hfs;split at hc
     ·rename_i pl hpl;refine L6 hi rfl ?_;rw [vG];exact D47 hfs hzv hz (C5z hpl) (A2c hs hc) hp
     ·cases hc
    ·split at hc
     ·rename_i n e T5;split at hc
      ·rename_i sz hsz;refine L6 hi rfl ?_;rw [vG];exact D46 T5 hsz hzv hz (A2c hs hc) hp
      ·cases hc
     ·cases hc
   ·cases hz
  ·cases hc
 case buildSl sz len z ps =>
  simp only [E4Z,Option.some.injEq,Prod.mk.injEq] at C9;obtain ⟨cs,hp,rfl,rfl⟩:=C9;split at hc
  ·rename_i t len' qs;simp only [E42,decide_eq_true_eq] at hc;obtain ⟨rfl,hc⟩:=hc;split at hc
   ·rename_i e he;simp only [E42,decide_eq_true_eq] at hc;obtain ⟨⟨⟨h1,h2⟩,h3⟩,h4⟩:=hc;split at h3
    ·rename_i zv hzv;refine kU rfl ?_;have vG:(qs.map λ(i,x)=>(i,a.eval x))=(qs.toList.map λ(i,x)=>(i,a.eval x)).toArray:=by apply Array.ext';simp
     rw [vG];exact D3S hi mI he h1 hzv h2 h3 (A2c hs h4) hp
    ·cases h3
   ·cases hc
  ·cases hc
 case load1 y =>
  simp only [E4Z,Option.some.injEq,Prod.mk.injEq] at C9;obtain ⟨_,hp,rfl,rfl⟩:=C9;split at hc
  ·simp only [E42,decide_eq_true_eq] at hc;exact L6 hi rfl (D0u hc.1 hrow (C7 hc.2 hs) hp)
  ·cases hc
 case loadN n y =>
  simp only [E4Z,Option.some.injEq,Prod.mk.injEq] at C9;obtain ⟨_,hp,rfl,rfl⟩:=C9;split at hc
  ·simp only [E42,decide_eq_true_eq] at hc;exact L6 hi rfl (D0v hc.1.1 hc.1.2 hrow (C7 hc.2 hs) hp)
  ·cases hc
 case store1 y z =>
  simp only [E4Z,Option.some.injEq,Prod.mk.injEq] at C9;obtain ⟨_,hp,rfl,rfl⟩:=C9;split at hc
  ·simp only [E42,decide_eq_true_eq] at hc;exact A4W rfl (D5a hc.1.1 hi (C7 hc.1.2 hs) (C7 hc.2 hs) hp)
  ·cases hc
 case storeN n y z =>
  simp only [E4Z,Option.some.injEq,Prod.mk.injEq] at C9;obtain ⟨_,hp,rfl,rfl⟩:=C9;split at hc
  ·simp only [E42,decide_eq_true_eq] at hc;exact A4W rfl (D5b hc.1.1 hi (C7 hc.1.2 hs) (C7 hc.2 hs) hp)
  ·cases hc
 case bin op' y z =>
  simp only [E4Z,Option.some.injEq,Prod.mk.injEq] at C9;obtain ⟨_,hp,rfl,rfl⟩:=C9;split at hc
  ·rename_i op2 xt x y2 yt;simp only [E42,decide_eq_true_eq] at hc;obtain ⟨⟨rfl,h1⟩,h2⟩:=hc;have hx:RV μ _ _:=C7 h1 hs;have hy:RV μ _ _:=C7 h2 hs;refine L6 (s:=do eqGuard op' xt x y2 (a.eval x) (a.eval y2);binOp op' xt (a.eval x) (a.eval y2)) hi rfl ?_;obtain ⟨V,h3,h4⟩:=E0I (P:=P) (w:=w) (xt:=xt) hx hy hp;have h5:=D4b hp hx;exact ⟨V,by rw [Sem.run_bind,C6p h5.1 h5.2];exact h3,h4⟩
  ·cases hc
 case eqA neg sh y z =>
  simp only [E4Z,Option.some.injEq,Prod.mk.injEq] at C9;obtain ⟨_,hp,rfl,rfl⟩:=C9;split at hc
  ·rename_i op2 xt x y2 yt;simp only [E42,decide_eq_true_eq,E5O] at hc;obtain ⟨⟨⟨⟨⟨rfl,h1⟩,h2⟩,h3⟩,h4⟩,h5⟩:=hc;have hx:RV μ _ _:=C7 h4 hs;have hy:RV μ _ _:=C7 h5 hs;refine L6 (s:=do eqGuard (bif neg then .neq else .eql) xt x y2 (a.eval x) (a.eval y2);binOp (bif neg then .neq else .eql) xt (a.eval x) (a.eval y2)) hi rfl ?_;obtain ⟨V,h6,h7⟩:=E0K (P:=P) (w:=w) h1 h2 hx hy hp;have hag:(eqGuard (bif neg then BinOp.neq else .eql) xt x y2 (a.eval x) (a.eval y2)).run P w=.ok () w:=by
    unfold aeq at hp;split at hp
    ·rename_i e1 e2;rw [e1] at hx;rw [e2] at hy;obtain ⟨xs,e3,_⟩:=hx;obtain ⟨ys,e4,_⟩:=hy;rw [e3,e4];exact run_eqGuard_agg w _ xt x y2 _ _ h3
    ·cases hp
   exact ⟨V,by rw [Sem.run_bind,hag];exact h6,h7⟩
  ·cases hc
 case eqB neg y z =>
  simp only [E4Z,Option.some.injEq,Prod.mk.injEq] at C9;obtain ⟨_,hp,rfl,rfl⟩:=C9;split at hc
  ·rename_i op2 xt x y2 yt;simp only [E42,decide_eq_true_eq] at hc;obtain ⟨⟨⟨rfl,h1⟩,h4⟩,h5⟩:=hc;split at h1
   ·rename_i hu;have hx:RV μ _ _:=C7 h4 hs;have hy:RV μ _ _:=C7 h5 hs;refine L6 (s:=do eqGuard (bif neg then .neq else .eql) xt x y2 (a.eval x) (a.eval y2);binOp (bif neg then .neq else .eql) xt (a.eval x) (a.eval y2)) hi rfl ?_;obtain ⟨V,h6,h7⟩:=E0L (P:=P) (w:=w) hu hx hy hp;have hag:(eqGuard (bif neg then BinOp.neq else .eql) xt x y2 (a.eval x) (a.eval y2)).run P w=.ok () w:=by
     unfold D4c at hp;split at hp
     ·rename_i e1 e2;rw [e1] at hx;have hx:a.eval x=.bool _:=hx;rw [hx];exact C6p (by simp) (by simp)
     ·cases hp
    exact ⟨V,by rw [Sem.run_bind,hag];exact h6,h7⟩
   ·cases h1
  ·cases hc
 case eqN fn neg y =>
  simp only [E4Z,Option.some.injEq,Prod.mk.injEq] at C9;obtain ⟨_,hp,rfl,rfl⟩:=C9;split at hc
  ·rename_i op2 xt x c yt;simp only [E42,decide_eq_true_eq] at hc;obtain ⟨⟨rfl,h1⟩,h4⟩:=hc;have hx:RV μ _ _:=C7 h4 hs;refine L6 (s:=do eqGuard (bif neg then .neq else .eql) xt x (.const c) (a.eval x) (a.eval (.const c));binOp (bif neg then .neq else .eql) xt (a.eval x) (a.eval (.const c))) hi rfl ?_;obtain ⟨V,h6,h7⟩:=E0M (P:=P) (w:=w) h1 hx hp;have bM:(∀ c,a.eval x≠.agg c)/\a.eval x≠.nilIface:=by
    unfold D08 at hp;split at hp
    ·rename_i e1;rw [e1] at hx;have hx:a.eval x=.nilFunc:=hx;rw [hx];simp
    ·rename_i e1;rw [e1] at hx;obtain ⟨cs,hx,_⟩:=hx;rw [hx];simp
    ·rename_i e1;rw [e1] at hx;have hx:a.eval x=.pointer none:=hx;rw [hx];simp
    ·rename_i e1;rw [e1] at hx;obtain ⟨b,n,_,hx⟩:=hx;rw [hx];simp
    ·cases hp
   exact ⟨V,by rw [Sem.run_bind,C6p bM.1 bM.2];exact h6,h7⟩
  ·cases hc
 case nilc y =>
  simp only [E4Z,Option.some.injEq,Prod.mk.injEq] at C9;obtain ⟨_,hp,rfl,rfl⟩:=C9;split at hc
  ·rename_i x;have hx:RV μ _ _:=C7 hc hs;unfold A4i at hp;split at hp
   ·rename_i e1;cases hp;rw [e1] at hx;have hx':=hx;obtain ⟨b,n,_,hx⟩:=hx;exact ⟨_,w,μ,.inl (by simp only [execOp,hx];rfl),Mu.le_refl _,hx ▸ hx',hi,Keeps.refl _ _ _ _⟩
   ·rename_i e1;cases hp;rw [e1] at hx;have hx':=hx;obtain ⟨cs,hx,_⟩:=hx;exact ⟨_,w,μ,.inl (by simp only [execOp,hx];rfl),Mu.le_refl _,hx ▸ hx',hi,Keeps.refl _ _ _ _⟩
   ·cases hp
  ·cases hc
 case un op' y =>
  simp only [E4Z,Option.some.injEq,Prod.mk.injEq] at C9;obtain ⟨_,hp,rfl,rfl⟩:=C9;split at hc
  ·simp only [E42,decide_eq_true_eq] at hc;obtain ⟨rfl,h1⟩:=hc;exact L6 hi rfl (E2B (C7 h1 hs) hp)
  ·cases hc
 case conv k y =>
  simp only [E4Z,Option.some.injEq,Prod.mk.injEq] at C9;obtain ⟨_,hp,rfl,rfl⟩:=C9;split at hc
  ·simp only [E42,decide_eq_true_eq] at hc;obtain ⟨ks,hks⟩:=Option.isSome_iff_exists.1 hc.1.1;exact L6 hi rfl (D9i hks hc.1.2 (C7 hc.2 hs) hp)
  ·cases hc
 case convS y =>
  simp only [E4Z,Option.some.injEq,Prod.mk.injEq] at C9;obtain ⟨_,hp,rfl,rfl⟩:=C9;split at hc
  ·simp only [E42] at hc;exact L6 hi rfl (D7e hc.1.1 hc.1.2 (C7 hc.2 hs) hp)
  ·cases hc
 case s2b y =>
  simp only [E4Z,Option.some.injEq,Prod.mk.injEq] at C9;obtain ⟨l,hp,rfl,rfl⟩:=C9;split at hc
  ·simp only [E42] at hc;obtain ⟨⟨h1,h2⟩,h3⟩:=hc;split at h2
   ·rename_i e he;have hx:RV μ _ _:=C7 h3 hs;unfold E1E at hp;split at hp
    ·rename_i vG;split at hp
     ·cases hp;rename_i hl;rw [vG] at hx;have hx:a.eval _=.string ⟨l.toArray⟩:=hx;refine kU rfl ?_;rw [hx];exact E0R hi mI h1 he (by simpa using h2) hl
     ·cases hp
    ·cases hp
   ·cases h2
  ·cases hc
 case b2s y =>
  simp only [E4Z,Option.some.injEq,Prod.mk.injEq] at C9;obtain ⟨_,hp,rfl,rfl⟩:=C9;split at hc
  ·simp only [E42] at hc;obtain ⟨⟨h1,h2⟩,h3⟩:=hc;split at h2
   ·exact L6 hi rfl (D3R ‹_› (by simpa using h2) h1 hrow (C7 h3 hs) hp)
   ·cases h2
  ·cases hc
 case b2sN own y =>
  simp only [E4Z,Option.some.injEq,Prod.mk.injEq] at C9;obtain ⟨_,hp,rfl,rfl⟩:=C9;have hp:=D4a hp;split at hc
  ·simp only [E42] at hc;obtain ⟨⟨h1,h2⟩,h3⟩:=hc;split at h2
   ·exact L6 hi rfl (D3R ‹_› (by simpa using h2) h1 hi.rows (C7 h3 hs) hp)
   ·cases h2
  ·cases hc
 case mark y =>
  simp only [E4Z,Option.some.injEq,Prod.mk.injEq] at C9;obtain ⟨_,hp,rfl,rfl⟩:=C9;split at hc
  ·simp only [E42,decide_eq_true_eq] at hc;obtain ⟨⟨rfl,h2⟩,h3⟩:=hc;split at h2
   ·have hx:=C7 (μ:=μ) h3 hs;obtain ⟨w',h4,h5,h6⟩:=run_mark (P:=P) hi ‹_› (by simpa using h2) hx hp;exact kU rfl ⟨_,w',μ,h4,Mu.le_refl _,h5 ▸ hx,h6,Keeps.refl _ _ _ _⟩
   ·cases h2
  ·cases hc
 case mkf f caps =>
  simp only [E4Z,Option.some.injEq,Prod.mk.injEq] at C9;obtain ⟨_,hp,rfl,rfl⟩:=C9;split at hc
  ·rename_i g first cs
   simp only [E42,decide_eq_true_eq] at hc;obtain ⟨⟨rfl,h1⟩,h2⟩:=hc;unfold B4t at hp;simp only [E5i] at hp;obtain ⟨l,hl,rfl⟩:=hp;have h3:=C9I hl (A6k hs h2);refine ⟨_,w,μ,.inl rfl,Mu.le_refl _,⟨cs.toList.map a.eval,?_,h3⟩,hi,Keeps.refl _ _ _ _⟩;have:first = #[]:=by simpa using h1
   subst this;show Value.func _ _ _=Value.func _ _ _
   congr 1<;>(apply Array.ext';simp)
  ·cases hc
 case mkSl sz z y y2 =>
  simp only [E4Z,Option.some.injEq,Prod.mk.injEq] at C9;obtain ⟨n',hp,rfl,rfl⟩:=C9;unfold A1m at hp;simp only [E4Z] at hp;obtain ⟨n,hn,c,hcc,hp⟩:=hp;split at hp
  ·cases hp;rename_i hnc;split at hc
   ·simp only [E42] at hc;obtain ⟨⟨h1,h2⟩,h3⟩:=hc;split at h3
    ·rename_i e he;simp only [E42,decide_eq_true_eq] at h3;obtain ⟨⟨⟨h4,h5⟩,h6⟩,h7⟩:=h3;split at h7
     ·rename_i zv hzv;obtain ⟨i,z',hi1,hi2,hi3,hi4,hi5,hi6⟩:=A9T h4;have hsz:i.size=sz:=by simpa [P9,hi1] using h5
      refine kU rfl (D9r hi mI he h5 hzv h7 h6 (by omega) (show C5K P e=some i.bytes by simp [C5K,hi1]) hi2 (C7 h1 hs) (C7 h2 hs) hn hcc hnc)
     ·cases h7
    ·cases h3
   ·cases hc
  ·cases hp
 case slS y lo hi' =>
  simp only [E4Z,Option.some.injEq,Prod.mk.injEq] at C9;obtain ⟨_,hp,rfl,rfl⟩:=C9;split at hc
  ·simp only [E42] at hc;obtain ⟨⟨⟨h1,h2⟩,h3⟩,h4⟩:=hc;exact L6 hi rfl (E0U h1 (C7 h2 hs) (A0c h3 hs) (A0c h4 hs) hp)
  ·cases hc
 case slL sz y lo hi' =>
  simp only [E4Z,Option.some.injEq,Prod.mk.injEq] at C9;obtain ⟨_,hp,rfl,rfl⟩:=C9;split at hc
  ·simp only [E42] at hc;obtain ⟨⟨⟨h1,h2⟩,h3⟩,h4⟩:=hc;split at h1
   ·exact L6 hi rfl (E0T ‹_› (by simpa using h1) (C7 h2 hs) (A0c h3 hs) (A0c h4 hs) hp)
   ·cases h1
  ·cases hc
 case slA n sz y lo hi' =>
  simp only [E4Z,Option.some.injEq,Prod.mk.injEq] at C9;obtain ⟨_,hp,rfl,rfl⟩:=C9;split at hc
  ·simp only [E42] at hc;obtain ⟨⟨⟨h1,h2⟩,h3⟩,h4⟩:=hc;split at h1
   ·simp only [E42,decide_eq_true_eq] at h1;obtain ⟨rfl,h1⟩:=h1;exact L6 hi rfl (E0S ‹_› h1 hrow (C7 h2 hs) (A0c h3 hs) (A0c h4 hs) hp)
   ·cases h1
  ·cases hc
 case fAddr y off =>
  simp only [E4Z,Option.some.injEq,Prod.mk.injEq] at C9;obtain ⟨_,hp,rfl,rfl⟩:=C9;split at hc
  ·simp only [E42] at hc;obtain ⟨h1,h2⟩:=hc;split at h1
   ·rename_i f hf;simp only [E42,decide_eq_true_eq] at h1;obtain ⟨h3,h4⟩:=h1;split at h4
    ·simp only [A4o,E4Z] at hf;obtain ⟨fs,hfs,hf⟩:=hf;exact L6 hi rfl (D7f hfs hf ‹_› (by simpa using h4) h3 (C7 h2 hs) hp)
    ·cases h4
   ·cases h1
  ·cases hc
 case iAddrA n sz y z =>
  simp only [E4Z,Option.some.injEq,Prod.mk.injEq] at C9;obtain ⟨_,hp,rfl,rfl⟩:=C9;split at hc
  ·simp only [E42] at hc;obtain ⟨⟨h1,h2⟩,h3⟩:=hc;split at h1
   ·simp only [E42,decide_eq_true_eq] at h1;obtain ⟨rfl,h1⟩:=h1;exact L6 hi rfl (D48 ‹_› h1 (C7 h2 hs) (C7 h3 hs) hp)
   ·cases h1
  ·cases hc
 case iAddrL sz y z =>
  simp only [E4Z,Option.some.injEq,Prod.mk.injEq] at C9;obtain ⟨_,hp,rfl,rfl⟩:=C9;split at hc
  ·simp only [E42] at hc;obtain ⟨⟨h1,h2⟩,h3⟩:=hc;split at h1
   ·exact L6 hi rfl (D49 ‹_› (by simpa using h1) (C7 h2 hs) (C7 h3 hs) hp)
   ·cases h1
  ·cases hc
 case fld1 y off =>
  simp only [E4Z,Option.some.injEq,Prod.mk.injEq] at C9;obtain ⟨_,hp,rfl,rfl⟩:=C9;split at hc
  ·simp only [E42] at hc;obtain ⟨h1,h2⟩:=hc;split at h1
   ·rename_i f hf;simp only [E42,decide_eq_true_eq] at h1;obtain ⟨rfl,h4⟩:=h1;simp only [A4o,E4Z] at hf;obtain ⟨fs,hfs,hf⟩:=hf;exact L6 hi rfl (D9k hfs hf h4 (C7 h2 hs) hp)
   ·cases h1
  ·cases hc
 case fldN y off n =>
  simp only [E4Z,Option.some.injEq,Prod.mk.injEq] at C9;obtain ⟨_,hp,rfl,rfl⟩:=C9;split at hc
  ·simp only [E42] at hc;obtain ⟨h1,h2⟩:=hc;split at h1
   ·rename_i f hf;simp only [E42,decide_eq_true_eq] at h1;obtain ⟨⟨rfl,h4⟩,h5⟩:=h1;simp only [A4o,E4Z] at hf;obtain ⟨fs,hfs,hf⟩:=hf;exact L6 hi rfl (D9l hfs hf h4 h5 (C7 h2 hs) hp)
   ·cases h1
  ·cases hc
 case idxA1 n y z =>
  simp only [E4Z,Option.some.injEq,Prod.mk.injEq] at C9;obtain ⟨_,hp,rfl,rfl⟩:=C9;split at hc
  ·simp only [E42] at hc;obtain ⟨⟨h1,h2⟩,h3⟩:=hc;split at h1
   ·simp only [E42,decide_eq_true_eq] at h1;obtain ⟨⟨rfl,h4⟩,h5⟩:=h1;exact L6 hi rfl (D7g ‹_› h4 h5 (C7 h2 hs) (C7 h3 hs) hp)
   ·cases h1
  ·cases hc
 case idxAN n sz y z =>
  simp only [E4Z,Option.some.injEq,Prod.mk.injEq] at C9;obtain ⟨_,hp,rfl,rfl⟩:=C9;split at hc
  ·simp only [E42] at hc;obtain ⟨⟨h1,h2⟩,h3⟩:=hc;split at h1
   ·simp only [E42,decide_eq_true_eq] at h1;obtain ⟨⟨rfl,h4⟩,h5⟩:=h1;exact L6 hi rfl (D7h ‹_› h4 h5 (C7 h2 hs) (C7 h3 hs) hp)
   ·cases h1
  ·cases hc
 case idxS y z =>
  simp only [E4Z,Option.some.injEq,Prod.mk.injEq] at C9;obtain ⟨_,hp,rfl,rfl⟩:=C9;split at hc
  ·simp only [E42] at hc;obtain ⟨⟨h1,h2⟩,h3⟩:=hc;exact L6 hi rfl (D9m h1 (C7 h2 hs) (C7 h3 hs) hp)
  ·cases hc
 case ext y k =>
  simp only [E4Z,Option.some.injEq,Prod.mk.injEq] at C9;obtain ⟨_,hp,rfl,rfl⟩:=C9;split at hc
  ·simp only [E42,decide_eq_true_eq] at hc;obtain ⟨rfl,h1⟩:=hc;exact L6 hi rfl (E0N (C7 h1 hs) hp)
  ·cases hc
 case call=>cases hc
 case callV=>cases hc
 case len y =>
  simp only [E4Z,Option.some.injEq,Prod.mk.injEq] at C9;obtain ⟨_,hp,rfl,rfl⟩:=C9;split at hc
  ·rename_i c;split at hc
   ·rename_i x t hca hargs hty;simp only [E42] at hc;obtain ⟨e,he⟩:=Option.isSome_iff_exists.1 hc.1;have h1:c.args = #[x]:=by cases hcc:c.args;simp_all
    have h2:c.argTypes = #[t]:=by cases hcc:c.argTypes;simp_all
    refine L6 (s:=Builtin.len_ #[t] type #[a.eval x]) hi ?_ (E0O he (C7 hc.2 hs) hp);simp [execOp,resolve,hca,h1,h2,invoke,builtin]
   ·cases hc
  ·cases hc
 case lenS y =>
  simp only [E4Z,Option.some.injEq,Prod.mk.injEq] at C9;obtain ⟨_,hp,rfl,rfl⟩:=C9;split at hc
  ·rename_i c;split at hc
   ·rename_i x t hca hargs hty;simp only [E42] at hc;have h1:c.args = #[x]:=by cases hcc:c.args;simp_all
    have h2:c.argTypes = #[t]:=by cases hcc:c.argTypes;simp_all
    refine L6 (s:=Builtin.len_ #[t] type #[a.eval x]) hi ?_ (D9o hc.1 (C7 hc.2 hs) hp);simp [execOp,resolve,hca,h1,h2,invoke,builtin]
   ·cases hc
  ·cases hc
 case app sz y z =>
  simp only [E4Z,Option.some.injEq] at C9;obtain ⟨p,hp,yB⟩:=C9;simp only [Prod.mk.injEq] at yB;obtain ⟨rfl,rfl⟩:=yB;split at hc
  ·rename_i c;split at hc
   ·rename_i x x2 s yt hca hargs hty;simp only [E42] at hc;obtain ⟨⟨⟨h1,h2⟩,h3⟩,h4⟩:=hc;split at h1
    ·rename_i e he;simp only [E42,decide_eq_true_eq] at h1;obtain ⟨i,z',hi1,hi2,hi3,hi4,hi5,hi6⟩:=A9T h1.1;have hsz:i.size=sz:=by simpa [P9,hi1] using h1.2
     subst hsz;have e1:c.args = #[x,x2]:=by cases hcc:c.args;simp_all
     have e2:c.argTypes = #[s,yt]:=by cases hcc:c.argTypes;simp_all
     obtain ⟨V,w',μ',g1,g2,g3,g4,g5⟩:=E0H (P:=P) (ty:=type) hi (O3 he) hi1 hi2 hi3 hi5 hi6 hi4 (D91 h2) (C7 h3 hs) (C7 h4 hs) hp;refine kU (s:=Builtin.append_ #[s,yt] type #[a.eval x,a.eval x2]) ?_ ⟨V,w',μ',g1,g2,g3,g4,λid hid _=>g5 id hid⟩;simp [execOp,resolve,hca,e1,e2,invoke,builtin]
    ·cases h1
   ·cases hc
  ·cases hc
 case appZ sz zero y z =>
  simp only [E4Z,Option.some.injEq] at C9;obtain ⟨p,hp,yB⟩:=C9;simp only [Prod.mk.injEq] at yB;obtain ⟨rfl,rfl⟩:=yB;split at hc
  ·rename_i c;split at hc
   ·rename_i x x2 s yt hca hargs hty;simp only [E42] at hc;obtain ⟨⟨⟨h1,h2⟩,h3⟩,h4⟩:=hc;split at h1
    ·rename_i e he;simp only [E42,decide_eq_true_eq] at h1;obtain ⟨⟨h1,h1s⟩,h1z⟩:=h1;obtain ⟨i,z',hi1,hi2,hi3,hi4,hi5,hi6⟩:=A9T h1;have hsz:i.size=sz:=by simpa [P9,hi1] using h1s
     subst hsz;have e1:c.args = #[x,x2]:=by cases hcc:c.args;simp_all
     have e2:c.argTypes = #[s,yt]:=by cases hcc:c.argTypes;simp_all
     split at h1z
     ·rename_i zv hzv;have hzz:zv=z':=by
       have:=hzv;simp [wW,hi1,hi5] at this;exact this.symm
      subst hzz;obtain ⟨kk,hkk⟩:=Option.isSome_iff_exists.1 h2;obtain ⟨V,w',μ',g1,g2,g3,g4,g5⟩:=D9h (P:=P) (ty:=type) hi (O3 he) hi1 hi2 hi3 hi5 hi6 hi4 (A4Q hkk) (fU h1z) (C7 h3 hs) (C7 h4 hs) hp;refine kU (s:=Builtin.append_ #[s,yt] type #[a.eval x,a.eval x2]) ?_ ⟨V,w',μ',g1,g2,g3,g4,λid hid _=>g5 id hid⟩;simp [execOp,resolve,hca,e1,e2,invoke,builtin]
     ·cases h1z
    ·cases h1
   ·cases hc
  ·cases hc
 case max y z =>
  simp only [E4Z,Option.some.injEq,Prod.mk.injEq] at C9;obtain ⟨_,hp,rfl,rfl⟩:=C9;split at hc
  ·rename_i c;split at hc
   ·rename_i x x2 hca hargs;simp only [E42] at hc;have e1:c.args = #[x,x2]:=by cases hcc:c.args;simp_all
    refine L6 (s:=Builtin.max_ c.argTypes type #[a.eval x,a.eval x2]) hi ?_ (E0P (C7 hc.1 hs) (C7 hc.2 hs) hp);simp [execOp,resolve,hca,e1,invoke,builtin]
   ·cases hc
  ·cases hc
 case min y z =>
  simp only [E4Z,Option.some.injEq,Prod.mk.injEq] at C9;obtain ⟨_,hp,rfl,rfl⟩:=C9;split at hc
  ·rename_i c;split at hc
   ·rename_i x x2 hca hargs;simp only [E42] at hc;have e1:c.args = #[x,x2]:=by cases hcc:c.args;simp_all
    refine L6 (s:=Builtin.min_ c.argTypes type #[a.eval x,a.eval x2]) hi ?_ (E0Q (C7 hc.1 hs) (C7 hc.2 hs) hp);simp [execOp,resolve,hca,e1,invoke,builtin]
   ·cases hc
  ·cases hc
 case mkMap =>
  cases C9;split at hc
  ·exact kU rfl (D7i hi mI)
  ·cases hc
 case look kk zero ok y z =>
  simp only [E4Z,Option.some.injEq,Prod.mk.injEq] at C9;obtain ⟨_,hp,rfl,rfl⟩:=C9;split at hc
  ·simp only [E42,decide_eq_true_eq] at hc;obtain ⟨⟨⟨h1,h2⟩,h3⟩,h4⟩:=hc;subst h2;split at h1
   ·simp only [E42] at h1;obtain ⟨h1,h5⟩:=h1;split at h5
    ·exact L6 hi rfl (D9p ‹_› h1 ‹_› h5 hrow (C7 h3 hs) (C7 h4 hs) hp)
    ·cases h5
   ·cases h1
  ·cases hc
 case mput kk y z z2 =>
  simp only [E4Z,Option.some.injEq,Prod.mk.injEq] at C9;obtain ⟨_,hp,rfl,rfl⟩:=C9;split at hc
  ·simp only [E42] at hc;obtain ⟨⟨⟨h1,h2⟩,h3⟩,h4⟩:=hc;split at h1
   ·exact A4W rfl (D3T ‹_› h1 hi (C7 h2 hs) (C7 h3 hs) (C7 h4 hs) hp)
   ·cases h1
  ·simp only [E42] at hc;obtain ⟨⟨⟨h1,h2⟩,h3⟩,h4⟩:=hc;split at h1
   ·exact A4W rfl (D3T ‹_› h1 hi (C7 h2 hs) (C7 h3 hs) (C7 h4 hs) hp)
   ·cases h1
  ·cases hc
 case ment kk zero y z =>
  simp only [E4Z,Option.some.injEq] at C9;obtain ⟨p,hp,yB⟩:=C9;simp only [Prod.mk.injEq] at yB;obtain ⟨rfl,rfl⟩:=yB;split at hc
  ·simp only [E42] at hc;obtain ⟨⟨h1,h3⟩,h4⟩:=hc;split at h1
   ·simp only [E42] at h1;obtain ⟨h1,h5⟩:=h1;split at h5
    ·obtain ⟨V,w',h6,h7,h8⟩:=D9q ‹_› h1 ‹_› h5 hi (C7 h3 hs) (C7 h4 hs) hp;exact kU rfl ⟨V,w',μ,h6,Mu.le_refl _,h7,h8,Keeps.refl _ _ _ _⟩
    ·cases h5
   ·cases h1
  ·cases hc
 case mset y z z2 =>
  simp only [E4Z,Option.some.injEq,Prod.mk.injEq] at C9;obtain ⟨_,hp,rfl,rfl⟩:=C9;split at hc
  ·simp only [E42] at hc;obtain ⟨⟨h2,h3⟩,h4⟩:=hc;exact A4W rfl (D9s hi (C7 h2 hs) (C7 h3 hs) (C7 h4 hs) hp)
  ·cases hc
 case copy sz y z =>
  simp only [E4Z,Option.some.injEq] at C9;obtain ⟨p,hp,yB⟩:=C9;simp only [Prod.mk.injEq] at yB;obtain ⟨rfl,rfl⟩:=yB;split at hc
  ·rename_i c;split at hc
   ·rename_i x x2 s yt hca hargs hty;simp only [E42] at hc;obtain ⟨⟨h1,h3⟩,h4⟩:=hc;split at h1
    ·rename_i e he;simp only [E42,decide_eq_true_eq] at h1;have e1:c.args = #[x,x2]:=by cases hcc:c.args;simp_all
     have e2:c.argTypes = #[s,yt]:=by cases hcc:c.argTypes;simp_all
     obtain ⟨V,w',h5,h6,h7⟩:=D9j (P:=P) (yt:=yt) (ty:=type) hi he h1.1 h1.2 (C7 h3 hs) (C7 h4 hs) hp;refine kU (s:=Builtin.copy_ #[s,yt] type #[a.eval x,a.eval x2]) ?_ ⟨V,w',μ,h5,Mu.le_refl _,h6,h7,Keeps.refl _ _ _ _⟩;simp [execOp,resolve,hca,e1,e2,invoke,builtin]
    ·cases h1
   ·cases hc
  ·cases hc
end
end
section
def jM (P : Program) (f : FuncId) : Prop := ∃ fn : Func, P.funcs[f]? = some fn ∧ (fn.name == "runtime.NumGoroutine") = false ∧ fn.body.isNone = false
def CallOk (P:Program) (f:FuncId) (args:List Val) (h:A6) (v:Val) (h':A6):Prop :=
 ∀ (Γ:Ctx) (μ:Mu) (w:World) (V:List Value),Inv Γ μ h w->All2 (RV μ) args V ->
  Calls P f V.toArray w λe w'=>∃ V' μ',e=.returned V' /\ μ.le μ'/\RV μ' v V'/\Inv Γ μ' h' w'/\∀ id,id<h.length -> μ' id = μ id
def fH (P:Program) (E:N4):Prop:=∀ f args h v h',E f args h=some (v,h')->jM P f/\CallOk P f args h v h'/\h.length<=h'.length
def D1e (o:Op):AOp->Bool
 | .call f args=>(match o with
   | .call c=>(match c.callee with | .value (.func g)=>decide (f=g)&&A2b c.args.toList args | _=>false)
   | _=>false)
 | .callV x args=>(match o with
   | .call c=>(match c.callee with | .value y=>D8 y x&&A2b c.args.toList args | _=>false)
   | _=>false)
 | _=>false
def D2P (ops:Array Oper):Option (Nat × Bool)->Option (Nat × Bool)->Bool
 | none,none=>true
 | some q,some p=>decide (q.2=p.2)&&decide ((ops[q.1]?).bind (·.dst)=some p.1)
 | _,_=>false
def xN (N:Nat) (d:Option Nat):Bool:=match d with | some d=>decide (d<N) | none=>true
def aC (P:Program) (N:Nat) (ops:Array Oper) (o:Oper) (ao:AOper):Bool :=
 decide (o.dst=ao.dst)&&xN N o.dst&&D2P ops o.guard ao.guard&&(D90 P o.op ao.op||D1e o.op ao.op)
section
variable {P:Program} {R:Type}
theorem D2w (E:N4) (q:Bool) (hr:A6) (n0:Nat) (slot:Option Nat) (o:AOp) (e:Env) (h:A6) (k:Val->A6->Option R) :
  aop E q hr n0 slot o e h k=(aop E q hr n0 slot o e h λv h=>some (v,h)).bind λp=>k p.1 p.2:=by
 cases o<;>simp only [aop,E49,Option.bind_assoc]
theorem B6H {f:FuncId} (hf:jM P f) (args:Array Value) (w:World):(callFunc f args).run P w=.ok (.enter f args) w:=by
 obtain ⟨fn,h1,h2,h3⟩:=hf;unfold callFunc;simp only [Sem.run_bind,run_program,Result.andThen_ok,h1,h2,h3,Bool.false_eq_true,if_false];rfl
theorem B4A {μ:Mu}:∀ {l:List (Nat × Nat)} {cs:List Value},All2 (RPtr μ) l cs->All2 (RV μ) (C3j l) cs
 | [],[],_=>trivial
 | q::l,c::cs,⟨h1,h2⟩=>⟨h1,B4A h2⟩
 | [],_::_,h=>h.elim
 | _::_,[],h=>h.elim
theorem D5B {Γ:Ctx} {μ:Mu} {o:Oper} {a:Act} {w:World} {g:FuncId} {args:List Val} {h h':A6} {v:Val} {c:Call} {y:Operand} {cs:List Value}
  (ho:o.op=.call c) (D4A:c.callee=.value y) (hy:a.eval y=.func (.func g) #[] cs.toArray) (hg:jM P g) (hk:CallOk P g args h v h')
  (hargs:All2 (RV μ) args (c.args.toList.map a.eval++cs)) (hi:Inv Γ μ h w) {next:Act->World->Prop} {Q:Exit->Act->World->Prop}
  {n0:Nat} {slot:Option Nat} (hn:∀ V w' μ',μ.le μ'->RV μ' v V->Inv Γ μ' h' w'->Keeps μ μ' h n0 slot->next (a.put o.dst V) w'):o.wp P a w next Q:=by
 have A7X:(execOp a.eval o).run P w=.ok (.enter g (c.args.toList.map a.eval++cs).toArray) w:=by
  have e:(#[]++c.args.map a.eval++cs.toArray:Array Value)=(c.args.toList.map a.eval++cs).toArray:=by apply Array.ext';simp
  simp only [execOp,ho,resolve,D4A,hy,Deferred.ofValue,pure_bind,invoke];rw [e];exact B6H hg _ _
 unfold Oper.wp;rw [A7X,Oper.upon_enter];refine (hk Γ μ w _ hi hargs).mono ?_;rintro e w' ⟨V,μ',rfl,h1,h2,h3,h4⟩;exact hn V w' μ' h1 h2 h3 λid hid _=>h4 id hid
theorem D7M {N:Nat} {ops:Array Oper} {E:N4} (hE:fH P E) {q:Bool} {o:Oper} {ao:AOp} {e:Env} {h hr:A6} {v:Val} {h':A6} {n0:Nat} {slot:Option Nat} {Γ:Ctx} {μ:Mu} {a:Act} {w:World}
  (hc:(D90 P o.op ao||D1e o.op ao)=true) (hs:SEnv μ e a) (hi:Inv Γ μ h w) (hrd:∀ id r,rd hr id=some r->rd h id=some r) (mI:tK μ h n0 slot)
  (C9:aop E q hr n0 slot ao e h (λv h=>some (v,h))=some (v,h')) {next:Act->World->Prop} {Q:Exit->Act->World->Prop}
  (hn:∀ V w' μ',μ.le μ'->RV μ' v V->Inv Γ μ' h' w'->Keeps μ μ' h n0 slot->next (a.put o.dst V) w'):o.wp P a w next Q:=by
 rw [E5V] at hc;rcases hc with hc | hc
 ·obtain ⟨V,w',μ',h1,h2,h3,h4,h5⟩:=E2A hc hs hi hrd mI C9;unfold Oper.wp;rcases h1 with h1 | ⟨h1,rfl⟩
  ·rw [h1];exact hn V w' μ' h2 h3 h4 h5
  ·rw [h1];exact hn undef w' μ' h2 h3 h4 h5
 ·cases ao<;>simp only [D1e] at hc
  case call f args =>
   simp only [aop,E4Z,Option.some.injEq] at C9;obtain ⟨p,hp,yB⟩:=C9;simp only [Prod.mk.injEq] at yB;obtain ⟨rfl,rfl⟩:=yB;have hE1:E f (args.map e.ev) h=some (p.1,p.2):=by
    cases q with
    | false=>simpa using hp
    | true =>
     simp only [cond_true,quiet,E4Z] at hp;obtain ⟨p',h1,h2⟩:=hp;split at h2
     ·cases h2;exact h1
     ·cases h2
   obtain ⟨hg,hk,_⟩:=hE _ _ _ _ _ hE1;split at hc
   ·rename_i c ho;split at hc
    ·rename_i g D4A;simp only [E42,decide_eq_true_eq] at hc;obtain ⟨rfl,hargs⟩:=hc;exact D5B ho D4A (cs:=[]) rfl hg hk (by rw [E5t];exact A6k hs hargs) hi hn
    ·cases hc
   ·cases hc
  case callV x args =>
   simp only [aop,E4Z,Option.some.injEq] at C9;obtain ⟨p,hp,yB⟩:=C9;simp only [Prod.mk.injEq] at yB;obtain ⟨rfl,rfl⟩:=yB;have hE0:A2a E (e.ev x) (args.map e.ev) h=some (p.1,p.2):=by
    cases q with
    | false=>simpa using hp
    | true =>
     simp only [cond_true,quiet,E4Z] at hp;obtain ⟨p',h1,h2⟩:=hp;split at h2
     ·cases h2;exact h1
     ·cases h2
   unfold A2a at hE0;split at hE0
   ·rename_i g caps vG;obtain ⟨hg,hk,_⟩:=hE _ _ _ _ _ hE0;split at hc
    ·rename_i c ho;split at hc
     ·rename_i y D4A;simp only [E42] at hc;have hy:RV μ _ _:=C7 hc.1 hs;rw [vG] at hy;obtain ⟨cs,h1,h2⟩:=hy;exact D5B ho D4A h1 hg hk ((A6k hs hc.2).append (B4A h2)) hi hn
     ·cases hc
    ·cases hc
   ·cases hE0
  all_goals cases hc
theorem D5m {ops:Array Oper} {j g:Nat} {a:Act} {e:Env} {μ:Mu} {x:Bool} (hj:(ops[j]?).bind (·.dst)=some g) (hs:SEnv μ e a) (he:e.get g=.c (.b x)):yielded ops a.tmps j=some x:=by
 have h1:a.tmps.getD g undef=.bool x:=by have:=hs g;rw [he] at this;exact this
 unfold yielded;rw [hj];simp only [E49];have:a.tmps[g]?=some (.bool x):=by
  simp only [Array.getD_eq_getD_getElem?] at h1;cases hh:a.tmps[g]? with
  | none=>rw [hh] at h1;simp [undef] at h1
  | some y=>rw [hh] at h1;simpa using h1
 rw [this]
theorem D5l {ops:Array Oper} {j g:Nat} {a:Act} {e:Env} {μ:Mu} (hj:(ops[j]?).bind (·.dst)=some g) (hs:SEnv μ e a) (he:e.get g=.no):yielded ops a.tmps j=none:=by
 have h1:a.tmps.getD g undef=undef:=by have:=hs g;rw [he] at this;exact this
 unfold yielded;rw [hj];simp only [E49];simp only [Array.getD_eq_getD_getElem?] at h1;cases hh:a.tmps[g]? with
 | none=>rfl
 | some y=>rw [hh] at h1;simp [undef] at h1;subst h1;rfl
theorem D7N {N:Nat} {ops:Array Oper} {E:N4} (hE:fH P E) {q:Bool} {o:Oper} {ao:AOper} {e:Env} {h hr:A6} {n0:Nat} {k:Val->A6->Option R} {r:R}
  (hc:aC P N ops o ao=true) (C9:W7 E q hr n0 ao e h k=some r) :
  ∃ v h',k v h'=some r/\W7 E q hr n0 ao e h (λv h=>some (v,h))=some (v,h'):=by
 unfold W7 at C9 ⊢;cases hg:ao.guard with
 | none =>
  simp only [hg] at C9 ⊢;rw [D2w] at C9;simp only [E4Z] at C9;obtain ⟨p,hp,hk⟩:=C9;exact ⟨p.1,p.2,hk,hp⟩
 | some g =>
  simp only [hg] at C9 ⊢;simp only [E4Z] at C9;obtain ⟨p,hp,hk⟩:=C9;exact ⟨p.1,p.2,hk,by rw [hp];rfl⟩
theorem A4j {N:Nat} {ops:Array Oper} {E:N4} (hE:fH P E) {q:Bool} {o:Oper} {ao:AOper} {e:Env} {h hr:A6} {n0:Nat} {v:Val} {h':A6} {Γ:Ctx} {μ:Mu} {a:Act} {w:World}
  (hc:aC P N ops o ao=true) (C9:W7 E q hr n0 ao e h (λv h=>some (v,h))=some (v,h')) (hs:SEnv μ e a) (hi:Inv Γ μ h w) (hrd:∀ id r,rd hr id=some r->rd h id=some r) (mI:tK μ h n0 ao.slot)
  {next:Act->World->Prop} {Q:Exit->Act->World->Prop} (hn:∀ V w' μ',μ.le μ'->RV μ' v V->Inv Γ μ' h' w'->Keeps μ μ' h n0 ao.slot->next (a.put o.dst V) w') :
  if Region.wanted o (yielded ops a.tmps) then o.wp P a w next Q\/(o.asks P a w/\LetsOut Q) else next (a.put o.dst undef) w:=by
 simp only [aC,E42] at hc;obtain ⟨⟨⟨_,_⟩,hg⟩,hop⟩:=hc;unfold W7 at C9;unfold D2P at hg;cases hag:ao.guard with
 | none =>
  simp only [hag] at C9 hg;cases hog:o.guard with
  | some _=>simp [hog] at hg
  | none =>
   have hw:Region.wanted o (yielded ops a.tmps)=true:=by simp [Region.wanted,hog]
   rw [if_pos hw];exact .inl (D7M (N:=N) (ops:=ops) hE hop hs hi hrd mI C9 hn)
 | some g =>
  simp only [hag] at C9 hg;cases hog:o.guard with
  | none=>simp [hog] at hg
  | some q2 =>
   simp only [hog,E42,decide_eq_true_eq] at hg;simp only [E4Z] at C9;obtain ⟨p,hp,yB⟩:=C9;simp only [Option.some.injEq,Prod.mk.injEq] at yB;obtain ⟨rfl,rfl⟩:=yB;unfold gd at hp;split at hp
   ·rename_i x vG;have hy:=D5m hg.2 hs vG;have hw:Region.wanted o (yielded ops a.tmps)=(x==g.2):=by
     simp [Region.wanted,hog,hy,hg.1]
    rw [hw];cases hx:(x==g.2) with
    | true =>
     rw [hx] at hp;rw [if_pos rfl];exact .inl (D7M (N:=N) (ops:=ops) hE hop hs hi hrd mI hp hn)
    | false =>
     rw [hx] at hp;simp only [cond_false,Option.some.injEq] at hp;rw [if_neg (by simp)];cases hp;exact hn undef w μ (Mu.le_refl _) rfl hi (Keeps.refl _ _ _ _)
   ·rename_i vG;have hy:=D5l hg.2 hs vG;have hw:Region.wanted o (yielded ops a.tmps)=false:=by
     simp [Region.wanted,hog,hy,hg.1]
    rw [hw,if_neg (by simp)];cases hp;exact hn undef w μ (Mu.le_refl _) rfl hi (Keeps.refl _ _ _ _)
   ·cases hp
end
end
section
def AExit.conv:AExit->Exit
 | .normal=>.normal
 | .exit id=>.exit id
 | .ret=>.ret
def B1c (P:Program) (N L:Nat) (W:(Exit->Act->World->Prop)->Act->World->Prop) (e:Env) (h:A6) (x:AExit) (e':Env) (h':A6):Prop :=
 ∀ (Γ:Ctx) (μ:Mu) (a:Act) (w:World),SEnv μ e a->Inv Γ μ h w->N<=a.tmps.size->a.defers = Γ.ds->∀ Q:Exit->Act->World->Prop,
  (∀ μ' a' w',μ.le μ'->(∀ id,id<L -> μ' id = μ id)->SEnv μ' e' a'->Inv Γ μ' h' w'->N<=a'.tmps.size->a'.defers = Γ.ds->Q x.conv a' w')->W Q a w
def W3:AOp->Bool
 | .alloc _ | .box _ | .nilrow _ | .buildSl .. | .s2b _ | .mkSl .. | .mkMap=>true
 | _=>false
def X6:AOp->Bool
 | .call .. | .callV ..=>true
 | _=>false
def A6I:AOp->Bool
 | .store1 .. | .storeN .. | .app .. | .appZ .. | .copy .. | .mput .. | .ment .. | .mset ..=>false
 | _=>true
def A09:AOp->Bool
 | .mark _=>true
 | .b2sN none _=>true
 | _=>false
def B7w:AOp->Option Nat
 | .b2sN own _=>own
 | _=>none
def AOp.opds:AOp->List Opd
 | .mv x | .box x | .load1 x | .loadN _ x | .eqN _ _ x | .nilc x | .un _ x | .conv _ x | .convS x | .s2b x | .b2s x | .b2sN _ x | .mark x | .fAddr x _ | .fld1 x _ | .fldN x _ _ | .ext x _ | .len x | .lenS x=>[x]
 | .nilrow _ | .alloc _ | .mkMap=>[]
 | .pick c a b=>[c,a,b]
 | .look _ _ _ a x | .ment _ _ a x=>[a,x]
 | .mput _ a x y | .mset a x y=>[a,x,y]
 | .build _ ps | .buildSl _ _ _ ps=>ps.map (·.2.2)
 | .store1 a x | .storeN _ a x | .bin _ a x | .eqA _ _ a x | .eqB _ a x | .mkSl _ _ a x | .iAddrA _ _ a x | .iAddrL _ a x | .idxA1 _ a x | .idxAN _ _ a x | .idxS a x | .app _ a x | .appZ _ _ a x | .max a x | .min a x | .copy _ a x=>[a,x]
 | .mkf _ cs=>cs
 | .slS x lo hi | .slL _ x lo hi | .slA _ _ x lo hi=>x::(lo.toList++hi.toList)
 | .call _ args=>args
 | .callV f args=>f::args
def E4w:Opd->Option Nat
 | .t n=>some n
 | _=>none
def AOper.reads (o:AOper):List Nat:=o.op.opds.filterMap E4w++(o.guard.toList.map (·.1))
def Y5 (o:Oper):List Nat:=(o.after.toList.filter (Region.binds .any)).map (·.on)
def D1D (acc:List Nat) (o:Oper):Nat:=(Y5 o).foldl (λs p=>s ||| (2 ^ p) ||| acc.getD p 0) 0
def closure:List Oper->List Nat->List Nat
 | [],acc=>acc
 | o::r,acc=>closure r (acc++[D1D acc o])
def P7 (ops:Array Oper):List Nat:=closure ops.toList []
theorem C9Z (g:Nat->Nat) (b:Nat):∀ (ds:List Nat) (s:Nat),(ds.foldl (λs p=>s ||| (2 ^ p) ||| g p) s).testBit b=true->s.testBit b=true\/∃ p∈ds,b=p\/(g p).testBit b=true
 | [],s,h=>.inl h
 | d::ds,s,h=>by
  rcases C9Z g b ds _ h with h | ⟨p,hp,h⟩
  ·rw [Nat.testBit_or,Nat.testBit_or,Nat.testBit_two_pow] at h;simp only [E5V,decide_eq_true_eq] at h;rcases h with (h | h) | h
   ·exact .inl h
   ·exact .inr ⟨d,by simp,.inl h.symm⟩
   ·exact .inr ⟨d,by simp,.inr h⟩
  ·exact .inr ⟨p,by simp [hp],h⟩
theorem A6n:∀ (os:List Oper) (acc:List Nat) (i:Nat),i<acc.length->(closure os acc).getD i 0=acc.getD i 0
 | [],acc,i,h=>rfl
 | o::r,acc,i,h=>by
  rw [closure,A6n r _ i (by simp;omega)];simp [List.getD,E5z h]
theorem C5W:∀ (os:List Oper) (acc:List Nat) (k:Nat) (o:Oper),os[k]?=some o->∃ acc',acc'.length=acc.length+k/\(closure os acc).getD (acc.length+k) 0=D1D acc' o/\∀ i,i<acc'.length->(closure os acc).getD i 0=acc'.getD i 0
 | [],acc,k,o,h=>by simp at h
 | x::r,acc,0,o,h=>by
  simp at h;subst h;refine ⟨acc,rfl,?_,λi hi=>?_⟩
  ·rw [closure,A6n r _ _ (by simp)];simp [List.getD]
  ·rw [closure,A6n r _ i (by simp;omega)];simp [List.getD,E5z hi]
 | x::r,acc,k+1,o,h=>by
  simp at h;obtain ⟨acc',h1,h2,h3⟩:=C5W r (acc++[D1D acc x]) k o h;refine ⟨acc',by simp at h1;omega,?_,λi hi=>by rw [closure];exact h3 i hi⟩;rw [closure,<-h2]
  congr 1;simp;omega
theorem tM {ops:Array Oper} {done:Nat->Bool} (U8:∀ i o,ops[i]?=some o->∀ p∈Y5 o,p<i)
  (cO:∀ i o,ops[i]?=some o->done i=true->∀ p∈Y5 o,done p=true):∀ (i:Nat) (o:Oper),ops[i]?=some o->(∀ p∈Y5 o,done p=true)->∀ b,((P7 ops).getD i 0).testBit b=true->done b=true:=by
 intro i
 induction i using Nat.strongRecOn with
 | _ i ih =>
  intro o ho hd b hb;obtain ⟨acc,h1,h2,h3⟩:=C5W ops.toList [] i o (by simpa using ho);simp only [E5u,E5l] at h1 h2;rw [P7,h2] at hb;unfold D1D at hb;rcases C9Z _ b _ _ hb with hb | ⟨p,hp,rfl | hb⟩
  ·simp at hb
  ·exact hd _ hp
  ·have hpi:=U8 i o ho p hp;have hps:p<ops.size:=by have:=(Array.getElem?_eq_some_iff.1 ho).1;omega
   have hop:ops[p]?=some ops[p]:=by simp [hps]
   refine ih p hpi ops[p] hop (cO p _ hop (hd p hp)) b ?_;rw [P7,h3 p (by omega)];exact hb
section
variable {R:Type}
theorem D5t {E:N4} {q:Bool} {hr:A6} {n0:Nat} {slot:Option Nat} {o:AOp} {e e':Env} {h:A6} {k:Val->A6->Option R} (he:∀ x∈o.opds,e.ev x=e'.ev x):aop E q hr n0 slot o e h k=aop E q hr n0 slot o e' h k:=by
 have parts:∀ ps:List (Nat × Nat × Opd),(∀ x∈ps.map (·.2.2),e.ev x=e'.ev x)->(ps.map λp=>(p.1,p.2.1,e.ev p.2.2))=ps.map λp=>(p.1,p.2.1,e'.ev p.2.2):=λps hp =>
  List.map_congr_left λp hm=>by rw [hp p.2.2 (List.mem_map.2 ⟨p,hm,rfl⟩)]
 have all:∀ l:List Opd,(∀ x∈l,e.ev x=e'.ev x)->l.map e.ev=l.map e'.ev:=λl hl=>List.map_congr_left hl
 have opt:∀ l:Option Opd,(∀ x∈l.toList,e.ev x=e'.ev x)->l.map e.ev=l.map e'.ev:=λl hl=>by cases l with
  | none=>rfl
  | some x=>simp [hl x (by simp)]
 cases o<;>simp only [AOp.opds] at he<;>simp only [aop]
 case build z ps=>rw [parts ps he]
 case buildSl a b z ps=>rw [parts ps he]
 case mkf f cs=>rw [all cs he]
 case call f args=>rw [all args he]
 case callV f args=>rw [he f (by simp),all args λx hx=>he x (by simp [hx])]
 case slS x lo hi=>rw [he x (by simp),opt lo λy hy=>he y (by simp [hy]),opt hi λy hy=>he y (by simp [hy])]
 case slL sz x lo hi=>rw [he x (by simp),opt lo λy hy=>he y (by simp [hy]),opt hi λy hy=>he y (by simp [hy])]
 case slA n sz x lo hi=>rw [he x (by simp),opt lo λy hy=>he y (by simp [hy]),opt hi λy hy=>he y (by simp [hy])]
 all_goals (repeat (rw [he _ (by simp)]))
theorem B9v {E:N4} {q:Bool} {hr:A6} {n0:Nat} {o:AOper} {e e':Env} {h:A6} {k:Val->A6->Option R} (he:∀ t∈o.reads,e.get t=e'.get t):W7 E q hr n0 o e h k=W7 E q hr n0 o e' h k:=by
 have h1:∀ x∈o.op.opds,e.ev x=e'.ev x:=by
  intro x hx;cases x with
  | v x=>rfl
  | t n=>exact he n (List.mem_append_left _ (List.mem_filterMap.2 ⟨.t n,hx,rfl⟩))
 unfold W7;cases hg:o.guard with
 | none=>exact D5t h1
 | some g =>
  have h2:e.get g.1=e'.get g.1:=he g.1 (List.mem_append_right _ (by simp [hg]));simp only;rw [h2,D5t h1]
theorem C5B (E:N4) (q:Bool) (hr:A6) (n0:Nat) (o:AOper) (e:Env) (h:A6) (k:Val->A6->Option R):W7 E q hr n0 o e h k=(W7 E q hr n0 o e h λv h=>some (v,h)).bind λp=>k p.1 p.2:=by
 unfold W7;cases o.guard with
 | none=>exact D2w ..
 | some g=>simp only [Option.bind_assoc,E49]
theorem C9A {E:N4} {q:Bool} {hr:A6} {n0:Nat} {slot:Option Nat} {o:AOp} {e:Env} {h h':A6} {v:Val} (hq:A6I o=true) (hm:A09 o=false) (how:B7w o=none) (hc:X6 o=false) (hs:W3 o=false)
  (C9:aop E q hr n0 slot o e h (λv h=>some (v,h))=some (v,h')):h'=h/\∀ h2,aop E q hr n0 slot o e h2 (λv h=>some (v,h))=some (v,h2):=by
 have hnb:∀ own x,o≠.b2sN own x:=by
  intro own x he;subst he;simp only [B7w] at how;subst how;simp [A09] at hm
 cases o<;>simp [A6I,A09,X6,W3] at hq hm hc hs<;>simp only [aop] at C9 ⊢
 case b2sN own x=>exact absurd rfl (hnb own x)
 case mv=>cases C9;exact ⟨rfl,λ_=>rfl⟩
 all_goals
  simp only [E4Z,Option.some.injEq,Prod.mk.injEq] at C9;obtain ⟨_,h1,rfl,rfl⟩:=C9;exact ⟨rfl,λh2=>by rw [h1];rfl⟩
theorem D2k {h h2:A6} {x v:Val} (h1:B4o h x=some v) (A6z:∀ id off len sz r,x=.c (.sl id off len sz)->rd h id=some r->rd h2 id=some r):B4o h2 x=some v:=by
 unfold B4o at h1 ⊢;split at h1
 ·rename_i id off len sz;split at h1
  ·rename_i hsz;rw [if_pos hsz];rw [E5i] at h1 ⊢;obtain ⟨s,h3,h4⟩:=h1;rw [E4Z] at h3;obtain ⟨cs,h5,h6⟩:=h3;refine ⟨s,?_,h4⟩;rw [E4Z];refine ⟨cs,?_,h6⟩;unfold gF at h5 ⊢;simp only [E4Z] at h5 ⊢;obtain ⟨r,h7,h8⟩:=h5;exact ⟨r,A6z _ _ _ _ r rfl h7,h8⟩
  ·cases h1
 ·exact h1
 ·cases h1
theorem D5v {E:N4} {q:Bool} {hr:A6} {n0 j:Nat} {slot:Option Nat} {o:AOp} {e:Env} {h h':A6} {v:Val} (ho:B7w o=some j)
  (C9:aop E q hr n0 slot o e h (λv h=>some (v,h))=some (v,h')):h'=h/\∀ h2:A6,(∀ x,rd h (n0+j)=some x->rd h2 (n0+j)=some x)->aop E q hr n0 slot o e h2 (λv h=>some (v,h))=some (v,h2):=by
 obtain ⟨x,rfl⟩:∃ x,o=.b2sN (some j) x:=by
  unfold B7w at ho;split at ho
  ·subst ho;exact ⟨_,rfl⟩
  ·cases ho
 simp only [aop,E4Z,Option.some.injEq,Prod.mk.injEq] at C9;obtain ⟨v',h1,rfl,rfl⟩:=C9;refine ⟨rfl,λh2 A6z=>?_⟩;have:C02 h2 n0 (some j) (e.ev x)=some v':=by
  unfold C02 at h1 ⊢;simp only at h1 ⊢;split at h1
  ·rename_i id off len sz vG;split at h1
   ·rename_i hid;rw [if_pos hid];refine D2k h1 λgG _ _ _ r hx hr=>?_
    cases hx;rw [hid] at hr ⊢;exact A6z r hr
   ·cases h1
  ·cases h1
 simp only [aop,this];rfl
theorem D2x {E:N4} {q:Bool} {hr:A6} {n0:Nat} {slot:Option Nat} {o:AOp} {e:Env} {h h':A6} {v:Val} (hm:A09 o=true)
  (C9:aop E q hr n0 slot o e h (λv h=>some (v,h))=some (v,h')):h'=h/\∀ h2:A6,(∀ id x,rd h id=some x->rd h2 id=some x)->aop E q hr n0 slot o e h2 (λv h=>some (v,h))=some (v,h2):=by
 have mI:∀ (h2:A6) (x:Val) (v:Val),(∀ id x,rd h id=some x->rd h2 id=some x)->B4o h x=some v->B4o h2 x=some v:=λh2 x v A6z h1=>D2k h1 λid _ _ _ r _ hr=>A6z id r hr
 by_cases hb:∃ x,o=.b2sN none x
 ·obtain ⟨x,rfl⟩:=hb;simp only [aop,C02,E4Z,Option.some.injEq,Prod.mk.injEq] at C9;obtain ⟨v',h1,rfl,rfl⟩:=C9;exact ⟨rfl,λh2 A6z=>by simp only [aop,C02,mI h2 _ _ A6z h1];rfl⟩
 obtain ⟨x,rfl⟩:∃ x,o=.mark x:=by
  unfold A09 at hm;split at hm
  ·exact ⟨_,rfl⟩
  ·exact absurd ⟨_,rfl⟩ hb
  ·cases hm
 simp only [aop,E4Z,Option.some.injEq,Prod.mk.injEq] at C9;obtain ⟨v',h1,rfl,rfl⟩:=C9;refine ⟨rfl,λh2 A6z=>?_⟩;have:xY h2 (e.ev x)=some v':=by
  unfold xY at h1 ⊢;split at h1
  ·simp only [E4Z] at h1 ⊢;obtain ⟨r,hr,h3⟩:=h1;exact ⟨r,A6z _ _ hr,h3⟩
  ·cases h1
 simp only [aop,this];rfl
theorem D2y {E:N4} {q:Bool} {hr:A6} {n0 j:Nat} {o:AOp} {e:Env} {h h':A6} {v:Val} (hs:W3 o=true)
  (C9:aop E q hr n0 (some j) o e h (λv h=>some (v,h))=some (v,h')):∃ r:Row,h'=h.set (n0+j) (some r)/\∀ h2:A6,aop E q hr n0 (some j) o e h2 (λv h=>some (v,h))=some (v,h2.set (n0+j) (some r)):=by
 cases o<;>simp [W3] at hs<;>simp only [aop,dA] at C9 ⊢
 case alloc z=>cases C9;exact ⟨_,rfl,λ_=>rfl⟩
 case nilrow z=>cases C9;exact ⟨_,rfl,λ_=>rfl⟩
 case mkMap=>cases C9;exact ⟨_,rfl,λ_=>rfl⟩
 all_goals
  simp only [E4Z,Option.some.injEq,Prod.mk.injEq] at C9;obtain ⟨_,h1,rfl,rfl⟩:=C9;exact ⟨_,rfl,λh2=>by rw [h1];rfl⟩
def Grows (h h':A6):Prop:=h <+: h'/\∀ id x,h.length<=id->rd h' id=some x->x.own=true
theorem Grows.refl (h:A6):Grows h h:=⟨List.prefix_refl _,λid x hid hx=>by have:=C5 hx;omega⟩
theorem B4X {h:A6} {r:Option (Val × A6)} {p:Val × A6} (hq:quiet h r=some p):r=some p/\Grows h p.2:=by
 simp only [quiet,E4Z] at hq;obtain ⟨p',h1,h2⟩:=hq;split at h2
 ·cases h2;exact ⟨h1,‹_›⟩
 ·cases h2
theorem quiet_of {h:A6} {p:Val × A6} (hg:Grows h p.2):quiet h (some p)=some p:=by
 unfold quiet;simp only [E49];exact if_pos hg
end
end
section
theorem B1t {h h':A6} (hp:h <+: h') {id:Nat} (hl:id<h.length):rd h' id=rd h id:=by
 obtain ⟨t,rfl⟩:=hp;exact D4 hl
theorem B0O {hD h h':A6} (hl:hD.length=h.length) (id:Nat):rd (hD++h'.drop h.length) id=if id<h.length then rd hD id else rd h' id:=by
 split
 ·rw [D4 (by omega)]
 ·unfold rd;rw [E5e (by omega),E5R,hl]
  congr 2;omega
open Classical in
theorem CallOk.frame {P:Program} {f:FuncId} {args:List Val} {h h' hD:A6} {v:Val} (hk:CallOk P f args h v h') (hg:Grows h h') (hl:hD.length=h.length) (A6z:∀ id x,rd h id=some x->rd hD id=some x) :
  CallOk P f args hD v (hD++h'.drop h.length):=by
 intro Γ μ w V hi hargs
 let Γ':Ctx:={ Γ with F:=λb=>match Γ.F b with | some o=>some o | none=>if (∃ id x n,rd h id=none/\rd hD id=some x /\ μ id=some (b,n)) then w.heap[b]? else none }
 have hpl:h.length<=h'.length:=hg.1.length_le;have hΓ:∀ b,Γ'.F b=none -> Γ.F b=none:=by
  intro b hb;cases hF:Γ.F b with
  | none=>rfl
  | some o=>simp only [Γ',hF] at hb;cases hb
 have hex:∀ id x b n,rd h id=none->rd hD id=some x -> μ id=some (b,n)->∃ o,Γ'.F b=some o/\w.heap[b]?=some o:=by
  intro id x b n h1 h2 h3;obtain ⟨ob,h4⟩:=(hi.rows id x h2).there h3;cases hF:Γ.F b with
  | some o=>exact ⟨o,by simp only [Γ',hF],hi.ctx.block b o hF⟩
  | none=>exact ⟨_,by simp only [Γ',hF];rw [if_pos ⟨id,x,n,h1,h2,h3⟩];exact h4,h4⟩
 have hinv:Inv Γ' μ h w:=by
  refine ⟨λid r hr=>hi.rows id r (A6z id r hr),λid gG r r' x x' hr hr'=>hi.sep id gG r r' x x' (A6z _ _ hr) (A6z _ _ hr'),λid r x hr kY hx=>?_,λid hid=>hi.dom id (by omega),⟨hi.ctx.os,hi.ctx.tape,hi.ctx.output,λb o ho=>?_⟩⟩
  ·have h0:=hi.own id r x (A6z _ _ hr) kY hx;simp only [Γ',h0];rw [if_neg];rintro ⟨gG,x',n,h1,h2,h3⟩;have T5:id≠gG:=by intro e;subst e;rw [hr] at h1;cases h1
   exact hi.sep id gG r x' x (x.1,n) (A6z _ _ hr) h2 kY T5 hx h3 rfl
  ·cases hF:Γ.F b with
   | some o'=>simp only [Γ',hF] at ho;cases ho;exact hi.ctx.block b _ hF
   | none =>
    simp only [Γ',hF] at ho;split at ho
    ·exact ho
    ·cases ho
 refine (hk Γ' μ w V hinv hargs).mono ?_;rintro e w' ⟨V',μ',rfl,bO,hv,hi',bL⟩;refine ⟨V',μ',rfl,bO,hv,?_,λid hid=>bL id (by omega)⟩;have rM:∀ id x,rd (hD++h'.drop h.length) id=some x->rd h' id=some x\/(id<h.length/\rd h id=none/\rd hD id=some x):=by
  intro id x hx;rw [B0O hl] at hx;split at hx
  ·rename_i U8;cases hh:rd h id with
   | none=>exact .inr ⟨U8,rfl,hx⟩
   | some y =>
    have:=A6z id y hh;rw [hx] at this;cases this;exact .inl (by rw [B1t hg.1 U8];exact hh)
  ·exact .inl hx
 have hold:∀ id,id<h.length -> μ' id = μ id:=bL;have E1U:∀ id x y,id<h.length->rd h id=none->rd hD id=some x -> μ' id=some y->∃ o,Γ'.F y.1=some o/\w.heap[y.1]?=some o:=by
  intro id x y h1 h2 h3 h4;rw [hold id h1] at h4;exact hex id x y.1 y.2 h2 h3 h4
 refine ⟨λid r hr=>?_,λid gG r r' x x' hr hr' kY T5 hx hx'=>?_,λid r x hr kY hx=>?_,λid hid=>?_,⟨hi'.ctx.os,hi'.ctx.tape,hi'.ctx.output,λb o ho=>hi'.ctx.block b o (by simp only [Γ',ho])⟩⟩
 ·rcases rM id r hr with h1 | ⟨h1,h2,h3⟩
  ·exact hi'.rows id r h1
  ·refine (hi.rows id r h3).mono bO (hold id h1) λy hy=>?_
   obtain ⟨o,h4,h5⟩:=E1U id r y h1 h2 h3 (by rw [hold id h1];exact hy);rw [h5];exact hi'.ctx.block _ o h4
 ·rcases rM id r hr with h1 | ⟨h1,h2,h3⟩
  ·rcases rM gG r' hr' with h4 | ⟨h4,h5,h6⟩
   ·exact hi'.sep id gG r r' x x' h1 h4 kY T5 hx hx'
   ·have h7:=hi'.own id r x h1 kY hx;obtain ⟨o,h8,_⟩:=E1U gG r' x' h4 h5 h6 hx';intro e;rw [e,h8] at h7;cases h7
  ·rcases rM gG r' hr' with h4 | ⟨h4,h5,h6⟩
   ·obtain ⟨o,h8,_⟩:=E1U id r x h1 h2 h3 hx;by_cases U8:gG<h.length
    ·rw [B1t hg.1 U8] at h4;rw [hold id h1] at hx;rw [hold gG U8] at hx';exact hi.sep id gG r r' x x' h3 (A6z _ _ h4) kY T5 hx hx'
    ·have h9:=hi'.own gG r' x' h4 (hg.2 gG r' (by omega) h4) hx';intro e;rw [<-e,h8] at h9;cases h9
   ·rw [hold id h1] at hx;rw [hold gG h4] at hx';exact hi.sep id gG r r' x x' h3 h6 kY T5 hx hx'
 ·rcases rM id r hr with h1 | ⟨h1,h2,h3⟩
  ·exact hΓ _ (hi'.own id r x h1 kY hx)
  ·rw [hold id h1] at hx;exact hi.own id r x h3 kY hx
 ·refine hi'.dom id ?_;simp at hid;omega
def zB (P:Program) (N:Nat) (ops:Array Oper) (m:Nat) (l r:List AOper):Bool :=
 let all:=l++r
 let cl:=P7 ops
 let ahead (i j:Nat):Bool:=(cl.getD i 0).testBit j
 P.follows .mixedOrders &&
 decide (ops.size=l.length+r.length) &&
 (ops.toList.zip all).all (λp=>aC P N ops p.1 p.2) &&
 (ops.toList.zipIdx).all (λp=>(Y5 p.1).all (λq=>decide (q<p.2))) &&
 l.all (λo=>A6I o.op&&decide (W3 o.op=o.slot.isSome)&&(match o.slot with | some j=>decide (j<m) | none=>true)) &&
 r.all (λo=>decide (o.slot=none)) &&
 l.zipIdx.all (λp=>l.zipIdx.all λq=>decide (p.2=q.2)||(decide (p.1.dst≠q.1.dst\/p.1.dst=none)&&decide (p.1.slot≠q.1.slot\/p.1.slot=none))) &&
 l.zipIdx.all (λp=>l.zipIdx.all λq=>(match q.1.dst with | some d=>!(p.1.reads.contains d)||(ahead p.2 q.2&&decide (q.2<p.2))||(ahead q.2 p.2&&decide (p.2<q.2)) | none=>true)) &&
 l.zipIdx.all (λp=>l.zipIdx.all λq=>!((X6 p.1.op||A09 p.1.op)&&decide (q.2<p.2)&&(X6 q.1.op||W3 q.1.op))||ahead p.2 q.2) &&
 l.zipIdx.all (λp=>match B7w p.1.op with | none=>true | some j=>l.zipIdx.any λq=>decide (q.1.slot=some j)&&ahead p.2 q.2)
def B6I (ops:Array Oper) (a n:Nat):Bool :=
 let cl:=P7 ops
 (E5D a n).all (λi=>(E5v i).all λj=>(cl.getD i 0).testBit j)
structure DrawOk (P:Program) (N:Nat) (ops:Array Oper) (m:Nat) (l r:List AOper):Prop where
 follows:P.follows .mixedOrders=true
 size:ops.size=l.length+r.length
 oper:∀ (i:Nat) (o:Oper) (ao:AOper),ops[i]?=some o->(l++r)[i]?=some ao->aC P N ops o ao=true
 dir:∀ (i:Nat) (o:Oper),ops[i]?=some o->∀ p∈Y5 o,p<i
 quiet:∀ (i:Nat) (ao:AOper),l[i]?=some ao->A6I ao.op=true/\W3 ao.op=ao.slot.isSome/\∀ j,ao.slot=some j->j<m
 rslot:∀ ao∈r,ao.slot=none
 apart:∀ (i j:Nat) ai aj,l[i]?=some ai->l[j]?=some aj->i≠j->(∀ d,ai.dst=some d->aj.dst≠some d)/\(∀ s,ai.slot=some s->aj.slot≠some s)
 reads:∀ (i j:Nat) ai aj d,l[i]?=some ai->l[j]?=some aj->aj.dst=some d->d∈ai.reads->(((P7 ops).getD i 0).testBit j=true/\j<i)\/(((P7 ops).getD j 0).testBit i=true/\i<j)
 calls:∀ (i j:Nat) ai aj,l[i]?=some ai->l[j]?=some aj->(X6 ai.op=true\/A09 ai.op=true)->j<i->(X6 aj.op=true\/W3 aj.op=true)->((P7 ops).getD i 0).testBit j=true
 own:∀ (i:Nat) ai j,l[i]?=some ai->B7w ai.op=some j->∃ (k:Nat) (ak:AOper),l[k]?=some ak/\ak.slot=some j/\((P7 ops).getD i 0).testBit k=true
theorem mem_zipIdx {α:Type} {l:List α} {i:Nat} {a:α} (h:l[i]?=some a):(a,i)∈l.zipIdx:=by
 rw [List.mem_zipIdx_iff_getElem?];simpa using h
theorem A6j {P:Program} {N:Nat} {ops:Array Oper} {m:Nat} {l r:List AOper} (hc:zB P N ops m l r=true):DrawOk P N ops m l r:=by
 simp only [zB,E42,decide_eq_true_eq] at hc;obtain ⟨⟨⟨⟨⟨⟨⟨⟨⟨h1,h2⟩,h3⟩,h4⟩,h5⟩,h6⟩,h7⟩,h8⟩,h9⟩,h10⟩:=hc;simp only [E5S] at h3 h4 h5 h6 h7 h8 h9 h10;refine ⟨h1,h2,?_,?_,?_,?_,?_,?_,?_,?_⟩
 ·intro i o ao ho ha;refine h3 (o,ao) ?_;have:(ops.toList.zip (l++r))[i]?=some (o,ao):=by
   rw [List.getElem?_zip_eq_some];exact ⟨by simpa using ho,ha⟩
  exact E5s this
 ·intro i o ho p hp;have:=h4 (o,i) (mem_zipIdx (by simpa using ho));simpa using this p hp
 ·intro i ao ha;have:=h5 ao (E5s ha);simp only [E42,decide_eq_true_eq] at this;refine ⟨this.1.1,this.1.2,λj hj=>?_⟩;have h:=this.2;rw [hj] at h;simpa using h
 ·intro ao ha;simpa using h6 ao ha
 ·intro i j ai aj hi hj T5;have:=h7 _ (mem_zipIdx hi) _ (mem_zipIdx hj);simp only [E5V,E42,decide_eq_true_eq] at this;rcases this with this | ⟨ha,hb⟩
  ·exact absurd this T5
  ·refine ⟨λd hd he=>?_,λs hs he=>?_⟩
   ·rcases ha with ha | ha
    ·exact ha (by rw [hd,he])
    ·rw [hd] at ha;cases ha
   ·rcases hb with hb | hb
    ·exact hb (by rw [hs,he])
    ·rw [hs] at hb;cases hb
 ·intro i j ai aj d hi hj hd hr;have:=h8 _ (mem_zipIdx hi) _ (mem_zipIdx hj);simp only [hd,E5V,E5O,E42,decide_eq_true_eq] at this;rcases this with (this | this) | this
  ·have hc:ai.reads.contains d=true:=by simpa using hr
   rw [hc] at this;cases this
  ·exact .inl this
  ·exact .inr this
 ·intro i j ai aj hi hj hc U8 hor;have:=h9 _ (mem_zipIdx hi) _ (mem_zipIdx hj);simp only [E5V,E5O] at this;rcases this with this | this
  ·have:((X6 ai.op||A09 ai.op)&&decide (j<i)&&(X6 aj.op||W3 aj.op))=true:=by
    simp only [E42,decide_eq_true_eq,E5V];exact ⟨⟨hc,U8⟩,hor⟩
   simp_all
  ·exact this
 ·intro i ai j hi ho;have:=h10 _ (mem_zipIdx hi);simp only [ho,List.any_eq_true,E42,decide_eq_true_eq] at this;obtain ⟨⟨ak,k⟩,hk,hs,ht⟩:=this;rw [List.mem_zipIdx_iff_getElem?] at hk;exact ⟨k,ak,hk,hs,ht⟩
theorem C5U {ops:Array Oper} {a n:Nat} (hc:B6I ops a n=true) (hs:ops.size=a+n):∀ i,a<=i->i<ops.size->∀ j,j<i->((P7 ops).getD i 0).testBit j=true:=by
 intro i hi U8 j hj;simp only [B6I,E5S] at hc;exact hc i (by rw [List.mem_range'_1];omega) j (by simpa using hj)
structure Trace (E:N4) (hr:A6) (n0:Nat) (l:List AOper) (es:Nat->Env) (hs:Nat->A6) (vs:Nat->Val):Prop where
 step:∀ (i:Nat) o,l[i]?=some o->W7 E true hr n0 o (es i) (hs i) (λv h=>some (v,h))=some (vs i,hs (i+1))
 env:∀ (i:Nat) o,l[i]?=some o->es (i+1)=(es i).put o.dst (vs i)
theorem C7A {E:N4} {hr:A6} {n0:Nat} {R:Type} {k:Env->A6->Option R} {res:R}:∀ (l:List AOper) (e:Env) (h:A6),B2t E hr n0 l e h k=some res ->
  ∃ es hs vs,es 0=e/\hs 0=h/\Trace E hr n0 l es hs vs/\k (es l.length) (hs l.length)=some res
 | [],e,h,C9=>⟨λ_=>e,λ_=>h,λ_=>.un,rfl,rfl,⟨λi o ho=>by simp at ho,λi o ho=>by simp at ho⟩,C9⟩
 | o::l,e,h,C9=>by
  rw [C5v,C5B] at C9;simp only [E4Z] at C9;obtain ⟨p,hp,C9⟩:=C9;obtain ⟨es,hs,vs,h1,h2,h3,h4⟩:=C7A l _ _ C9;refine ⟨λi=>match i with | 0=>e | i+1=>es i,λi=>match i with | 0=>h | i+1=>hs i,λi=>match i with | 0=>p.1 | i+1=>vs i,rfl,rfl,⟨λi o' ho=>?_,λi o' ho=>?_⟩,h4⟩
  ·cases i with
   | zero=>simp at ho;subst ho;simp only;rw [h2];exact hp
   | succ i=>simp at ho;exact h3.step i o' ho
  ·cases i with
   | zero=>simp at ho;subst ho;exact h1
   | succ i=>simp at ho;exact h3.env i o' ho
def A1l (l:List AOper) (n0:Nat) (i id:Nat):Prop:=∃ ao j,l[i]?=some ao/\ao.slot=some j/\id=n0+j
section
variable {P:Program} {N m:Nat} {ops:Array Oper} {l r:List AOper} {E:N4} {hr:A6} {es:Nat->Env} {hs:Nat->A6} {vs:Nat->Val}
theorem A43 (hq:∀ (i:Nat) (ao:AOper),l[i]?=some ao->A6I ao.op=true/\W3 ao.op=ao.slot.isSome/\∀ j,ao.slot=some j->j<m) (ht:Trace E hr hr.length l es hs vs) {i:Nat} {ao:AOper} (ha:l[i]?=some ao) :
  (X6 ao.op=true/\ao.slot=none/\Grows (hs i) (hs (i+1)))\/(X6 ao.op=false/\(hs (i+1)=hs i\/∃ j row,ao.slot=some j/\hs (i+1)=(hs i).set (hr.length+j) (some row))):=by
 have h1:=ht.step i ao ha;obtain ⟨q1,q2,q3⟩:=hq i ao ha;have key:hs (i+1)=hs i\/∃ v,aop E true hr hr.length ao.slot ao.op (es i) (hs i) (λv h=>some (v,h))=some (v,hs (i+1)):=by
  unfold W7 at h1;cases hgu:ao.guard with
  | none=>rw [hgu] at h1;exact .inr ⟨_,h1⟩
  | some g =>
   rw [hgu] at h1;simp only [E4Z,Option.some.injEq] at h1;obtain ⟨⟨v',h2⟩,hp,yB⟩:=h1;cases yB;unfold gd at hp;split at hp
   ·rename_i x _;cases hx:(x==g.2) with
    | true=>rw [hx] at hp;exact .inr ⟨_,hp⟩
    | false=>rw [hx] at hp;simp only [cond_false,Option.some.injEq,Prod.mk.injEq] at hp;exact .inl hp.2.symm
   ·simp only [Option.some.injEq,Prod.mk.injEq] at hp;exact .inl hp.2.symm
   ·cases hp
 cases hc:X6 ao.op with
 | true =>
  left
  have hns:W3 ao.op=false:=by cases hop:ao.op<;>simp_all [X6,W3]
  have hsn:ao.slot=none:=by
   rw [hns] at q2;cases mI:ao.slot with
   | none=>rfl
   | some j=>rw [mI] at q2;cases q2
  refine ⟨rfl,hsn,?_⟩;rcases key with h | ⟨v,h⟩
  ·rw [h];exact Grows.refl _
  ·cases hop:ao.op<;>rw [hop] at hc h<;>simp [X6] at hc
   case call f args =>
    simp only [aop,cond_true,E4Z,Option.some.injEq] at h;obtain ⟨⟨v',h2⟩,hp,yB⟩:=h;cases yB;exact (B4X hp).2
   case callV f args =>
    simp only [aop,cond_true,E4Z,Option.some.injEq] at h;obtain ⟨⟨v',h2⟩,hp,yB⟩:=h;cases yB;exact (B4X hp).2
 | false =>
  right
  refine ⟨rfl,?_⟩;rcases key with h | ⟨v,h⟩
  ·exact .inl h
  ·cases mI:W3 ao.op with
   | false =>
    cases hmk:A09 ao.op with
    | false =>
     cases uC:B7w ao.op with
     | none=>exact .inl (C9A q1 hmk uC hc mI h).1
     | some j=>exact .inl (D5v uC h).1
    | true=>exact .inl (D2x hmk h).1
   | true =>
    rw [mI] at q2;obtain ⟨j,hj⟩:=Option.isSome_iff_exists.1 q2.symm;rw [hj] at h;obtain ⟨row,h2,_⟩:=D2y mI h;exact .inr ⟨j,row,hj,h2⟩
theorem D31 (hq:∀ (i:Nat) (ao:AOper),l[i]?=some ao->A6I ao.op=true/\W3 ao.op=ao.slot.isSome/\∀ j,ao.slot=some j->j<m) (ht:Trace E hr hr.length l es hs vs) {i:Nat} (hi:i<l.length) :
  (hs i).length<=(hs (i+1)).length:=by
 rcases A43 hq ht (E40 hi) with ⟨_,_,h⟩ | ⟨_,h | ⟨j,row,_,h⟩⟩
 ·exact h.1.length_le
 ·rw [h];exact E44 _
 ·rw [h];simp
theorem B0A (hq:∀ (i:Nat) (ao:AOper),l[i]?=some ao->A6I ao.op=true/\W3 ao.op=ao.slot.isSome/\∀ j,ao.slot=some j->j<m) (ht:Trace E hr hr.length l es hs vs):∀ (t i:Nat),i+t<=l.length->(hs i).length<=(hs (i+t)).length
 | 0,i,_=>E44 _
 | t+1,i,h=>E5E (B0A hq ht t i (by omega)) (D31 hq ht (i:=i+t) (by omega))
theorem A4X (D:DrawOk P N ops m l r) (ht:Trace E hr hr.length l es hs vs) (h0:hs 0=hr++E41 m none) {i id:Nat} (ho:A1l l hr.length i id):∀ k,k<=i->rd (hs k) id=none:=by
 obtain ⟨ao,j,ha,hj,rfl⟩:=ho;have hjm:=(D.quiet i ao ha).2.2 j hj;have P6:i<l.length:=(List.getElem?_eq_some_iff.1 ha).1;intro k
 induction k with
 | zero =>
  intro _;rw [h0];unfold rd;rw [E5e (by omega)];simp only [List.getElem?_replicate];split<;>rfl
 | succ k ih =>
  intro hk;have ih:=ih (by omega);have hkl:k<l.length:=by omega
  have hin:hr.length+j<(hs k).length:=by
   have:=B0A D.quiet ht k 0 (by omega);rw [h0] at this;simp at this;omega
  rcases A43 D.quiet ht (E40 hkl) with ⟨_,_,h⟩ | ⟨_,h | ⟨j',row,hj',h⟩⟩
  ·rw [B1t h.1 hin];exact ih
  ·rw [h];exact ih
  ·rw [h];have T5:j≠j':=by
    intro e;subst e;exact (D.apart i k ao l[k] ha (E40 hkl) (by omega)).2 j hj hj'
   rw [A7 (by omega)];exact ih
theorem nJ (D:DrawOk P N ops m l r) (ht:Trace E hr hr.length l es hs vs) {k id:Nat} (hid:id<(hs k).length) (bM:∀ i,k<=i->¬ A1l l hr.length i id):∀ t,k+t<=l.length->rd (hs (k+t)) id=rd (hs k) id
 | 0,_=>rfl
 | t+1,hl=>by
  have ih:=nJ D ht hid bM t (by omega);have U8:k+t<l.length:=by omega
  have hin:id<(hs (k+t)).length:=Nat.lt_of_lt_of_le hid (B0A D.quiet ht t k (by omega));rw [<-ih];rcases A43 D.quiet ht (E40 U8) with ⟨_,_,h⟩ | ⟨_,h | ⟨j',row,hj',h⟩⟩
  ·exact B1t h.1 hin
  ·show rd (hs (k+t+1)) id=_;rw [h]
  ·show rd (hs (k+t+1)) id=_;rw [h];have T5:hr.length+j'≠id:=λe=>bM (k+t) (by omega) ⟨l[k+t],j',E40 U8,hj',e.symm⟩
   rw [A7 T5]
def und (l:List AOper) (n0:Nat) (done:Nat->Bool) (id:Nat):Bool:=(E5v l.length).any λi=>!done i&&decide (((l[i]?).bind (·.slot)).map (n0 + ·)=some id)
theorem Y8 {n0:Nat} {done:Nat->Bool} {id:Nat}:und l n0 done id=true↔∃ i,done i=false/\A1l l n0 i id:=by
 unfold und A1l;simp only [List.any_eq_true,List.mem_range,E42,E5O,decide_eq_true_eq,E5i,E4Z];constructor
 ·rintro ⟨i,hi,hd,j,⟨ao,ha,hj⟩,rfl⟩;exact ⟨i,hd,ao,j,ha,hj,rfl⟩
 ·rintro ⟨i,hd,ao,j,ha,hj,rfl⟩;exact ⟨i,(List.getElem?_eq_some_iff.1 ha).1,hd,j,⟨ao,ha,hj⟩,rfl⟩
def HD (F:A6) (u:Nat->Bool) (L:Nat):A6:=(E5v L).map λid=>if u id=true then none else rd F id
theorem I9 (F:A6) (u:Nat->Bool) (L:Nat):(HD F u L).length=L:=by simp [HD]
theorem sL (F:A6) (u:Nat->Bool) (L id:Nat):rd (HD F u L) id=if id<L/\u id=false then rd F id else none:=by
 unfold HD
 conv=>lhs;unfold rd
 rw [List.getElem?_map];by_cases h:id<L
 ·rw [List.getElem?_range h];cases hu:u id
  ·simp [h,hu];rfl
  ·simp [h,hu]
 ·rw [E5C (by simp;omega)];simp [h]
theorem wM {h h':A6} (hl:h.length=h'.length) (hr:∀ id,id<h.length->rd h id=rd h' id):h=h':=by
 apply List.ext_getElem hl;intro i h1 h2;have:=hr i h1;unfold rd at this;rw [E40 h1,E40 h2] at this;simpa using this
structure Sim (Γ:Ctx) (l:List AOper) (n0 N:Nat) (e:Env) (es:Nat->Env) (hs:Nat->A6) (vs:Nat->Val) (μ0:Mu) (done:Nat->Bool) (q:Nat) (μ:Mu) (a:Act) (w:World):Prop where
 qle:q<=l.length
 calls:∀ (i:Nat) ao,l[i]?=some ao->X6 ao.op=true->(done i=true↔i<q)
 envD:∀ (i:Nat) ao d,l[i]?=some ao->done i=true->ao.dst=some d->RV μ (vs i) (a.tmps.getD d undef)
 envO:∀ t,(∀ (i:Nat) ao,l[i]?=some ao->done i=true->ao.dst≠some t)->RV μ (e.get t) (a.tmps.getD t undef)
 inv:Inv Γ μ (HD (hs l.length) (und l n0 done) (hs q).length) w
 free:∀ id,und l n0 done id=true -> μ id=none
 le:μ0.le μ
 keep:∀ id,id<n0 -> μ id = μ0 id
 size:N<=a.tmps.size
 defers:a.defers = Γ.ds
end
end
section
theorem Env.get_keep_mem (e:Env) (l:List Nat) (t:Nat):(e.keep l).get t=if t∈l then e.get t else .un:=by
 induction l with
 | nil=>rfl
 | cons x r ih =>
  simp only [Env.keep,Env.get];by_cases h:x=t
  ·subst h;simp
  ·have:Nat.beq x t=false:=by cases hb:Nat.beq x t with
    | false=>rfl
    | true=>exact absurd (Nat.eq_of_beq_eq_true hb) h
   rw [this,cond_false,ih];have h':t≠x:=Ne.symm h;simp [h']
section
variable {P:Program} {N m:Nat} {ops:Array Oper} {l r:List AOper} {E:N4} {hr:A6} {e:Env} {es:Nat->Env} {hs:Nat->A6} {vs:Nat->Val} {Γ:Ctx} {μ0:Mu}
theorem oW (D:DrawOk P N ops m l r) (ht:Trace E hr hr.length l es hs vs) {j t:Nat} {aj:AOper} (nC:l[j]?=some aj) (hd:aj.dst=some t):∀ k,j<k->k<=l.length->(es k).get t=vs j:=by
 intro k
 induction k with
 | zero=>intro h;omega
 | succ k ih =>
  intro hjk hk;rw [ht.env k l[k] (E40 (by omega))];by_cases e:j=k
  ·subst e;have:l[j]=aj:=by have h2:=E40 (l:=l) (i:=j) (by omega);rw [nC] at h2;cases h2;rfl
   rw [this,hd];exact Env.get_put_same _ _ _
  ·have T5:=(D.apart j k aj l[k] nC (E40 (by omega)) e).1 t hd;cases hdk:l[k].dst with
   | none=>exact ih (by omega) (by omega)
   | some d =>
    rw [hdk] at T5;rw [Env.get_put_other _ _ _ _ (by intro h;subst h;exact T5 rfl)];exact ih (by omega) (by omega)
theorem wE (ht:Trace E hr hr.length l es hs vs) (he:es 0=e) {t:Nat}:∀ k,k<=l.length->(∀ (j:Nat) aj,j<k->l[j]?=some aj->aj.dst≠some t)->(es k).get t=e.get t:=by
 intro k
 induction k with
 | zero=>intro _ _;rw [he]
 | succ k ih =>
  intro hk bM;rw [ht.env k l[k] (E40 (by omega))];have T5:=bM k l[k] (by omega) (E40 (by omega));cases hdk:l[k].dst with
  | none=>exact ih (by omega) λj aj hj=>bM j aj (by omega)
  | some d =>
   rw [hdk] at T5;rw [Env.get_put_other _ _ _ _ (by intro h;subst h;exact T5 rfl)];exact ih (by omega) λj aj hj=>bM j aj (by omega)
def nE (done:Nat->Bool) (i:Nat):Nat->Bool:=λk=>decide (k=i)||done k
theorem tP (done:Nat->Bool) (i:Nat):nE done i i=true:=by simp [nE]
theorem Y3 (done:Nat->Bool) (i:Nat) {k:Nat} (h:k≠i):nE done i k=done k:=by simp [nE,h]
theorem E0V (D:DrawOk P N ops m l r) (ht:Trace E hr hr.length l es hs vs) (he:es 0=e) {done:Nat->Bool} {q:Nat} {μ:Mu} {a:Act} {w:World}
  (S:Sim Γ l hr.length N e es hs vs μ0 done q μ a w) {i:Nat} {ao:AOper} (ha:l[i]?=some ao) (hnd:done i=false) (hah:∀ b,((P7 ops).getD i 0).testBit b=true->done b=true) (wL:∀ j,done j=true->∀ b,((P7 ops).getD j 0).testBit b=true->done b=true):SEnv μ ((es i).keep ao.reads) a:=by
 intro t;rw [Env.get_keep_mem];split
 ·rename_i wN;have P6:i<l.length:=(List.getElem?_eq_some_iff.1 ha).1;by_cases hw:∃ (j:Nat) (aj:AOper),l[j]?=some aj/\aj.dst=some t
  ·obtain ⟨j,aj,nC,hd⟩:=hw;rcases D.reads i j ao aj t ha nC hd wN with ⟨h1,h2⟩ | ⟨h1,h2⟩
   ·rw [oW D ht nC hd i h2 (by omega)];exact S.envD j aj t nC (hah j h1) hd
   ·have hnj:done j=false:=by
     cases hdj:done j with
     | false=>rfl
     | true=>rw [wL j hdj i h1] at hnd;cases hnd
    have E1j:∀ (k:Nat) (ak:AOper),l[k]?=some ak->ak.dst=some t->k=j:=λk ak oB hk=>by
     by_cases e:k=j
     ·exact e
     ·exact absurd hd ((D.apart k j ak aj oB nC e).1 t hk)
    rw [wE ht he i (by omega) λk ak hk oB hkd=>by have:=E1j k ak oB hkd;omega];exact S.envO t λk ak oB hk hkd=>by rw [E1j k ak oB hkd,hnj] at hk;cases hk
  ·have bM:∀ (j:Nat) (aj:AOper),l[j]?=some aj->aj.dst≠some t:=λj aj nC hd=>hw ⟨j,aj,nC,hd⟩
   rw [wE ht he i (by omega) λj aj _ nC=>bM j aj nC];exact S.envO t λj aj nC _=>bM j aj nC
 ·trivial
theorem D0d {n0 i id:Nat} (h:id<n0):¬ A1l l n0 i id:=by
 rintro ⟨ao,j,_,_,rfl⟩;omega
theorem jY (D:DrawOk P N ops m l r) (ht:Trace E hr hr.length l es hs vs) (h0:hs 0=hr++E41 m none) {k:Nat} (hk:k<=l.length):hr.length+m<=(hs k).length:=by
 have:=B0A D.quiet ht k 0 (by omega);rw [h0] at this;simp at this;omega
theorem D1N (D:DrawOk P N ops m l r) {n0 i id:Nat} (h:A1l l n0 i id):id<n0+m:=by
 obtain ⟨ao,j,ha,hj,rfl⟩:=h;have:=(D.quiet i ao ha).2.2 j hj;omega
theorem C63 (D:DrawOk P N ops m l r) {n0 i k id:Nat} (h:A1l l n0 i id) (h2:A1l l n0 k id):i=k:=by
 obtain ⟨ao,j,ha,hj,rfl⟩:=h;obtain ⟨ao',j',ha',hj',he⟩:=h2;by_cases e:i=k
 ·exact e
 ·have:j=j':=by omega
  subst this;exact absurd hj' ((D.apart i k ao ao' ha ha' e).2 j hj)
theorem D3W (D:DrawOk P N ops m l r) (ht:Trace E hr hr.length l es hs vs) (h0:hs 0=hr++E41 m none) {done:Nat->Bool} {q:Nat} {μ:Mu} {a:Act} {w:World}
  (S:Sim Γ l hr.length N e es hs vs μ0 done q μ a w) {i:Nat} {ao:AOper} (ha:l[i]?=some ao) (hnd:done i=false) {V:Value} {w':World} {μ':Mu} {q':Nat} {dst:Option Nat} (zM:dst=ao.dst) (E1T:xN N dst=true)
  (bO:μ.le μ') (hv:RV μ' (vs i) V) (hinv:Inv Γ μ' (HD (hs l.length) (und l hr.length (nE done i)) (hs q').length) w') (bL:Keeps μ μ' (HD (hs l.length) (und l hr.length done) (hs q).length) hr.length ao.slot)
  (hq':q'<=l.length) (E1P:∀ (k:Nat) ak,l[k]?=some ak->X6 ak.op=true->(nE done i k=true↔k<q')):Sim Γ l hr.length N e es hs vs μ0 (nE done i) q' μ' (a.put dst V) w':=by
 have rM:∀ t,dst≠some t->(a.put dst V).tmps.getD t undef=a.tmps.getD t undef:=by
  intro t h;cases hd:dst with
  | none=>rfl
  | some d =>
   rw [hd] at h;simp [Act.put,Array.getElem?_setIfInBounds_ne (show d≠t from λe=>h (by rw [e]))]
 refine ⟨hq',E1P,?_,?_,hinv,?_,Mu.le_trans S.le bO,?_,by rw [Act.size_put];exact S.size,?_⟩
 ·intro k ak d oB hdk hd;by_cases e:k=i
  ·subst e;rw [ha] at oB;cases oB;rw [zM,hd];have U8:d<a.tmps.size:=by
    rw [zM,hd] at E1T;simp [xN] at E1T;exact Nat.lt_of_lt_of_le E1T S.size
   have:(a.put (some d) V).tmps.getD d undef=V:=by simp [Act.put,Array.getD,U8]
   rw [this];exact hv
  ·rw [Y3 _ _ e] at hdk;rw [rM d (by rw [zM];exact λh=>(D.apart i k ao ak ha oB (Ne.symm e)).1 d h hd)];exact (S.envD k ak d oB hdk hd).mono bO
 ·intro t bM;have h1:=bM i ao ha (tP _ _);rw [rM t (by rw [zM];exact h1)];refine (S.envO t λk ak oB hdk=>?_).mono bO;by_cases e:k=i
  ·subst e;rw [hnd] at hdk;cases hdk
  ·exact bM k ak oB (by rw [Y3 _ _ e];exact hdk)
 ·intro id hid;obtain ⟨k,hk,ho⟩:=Y8.1 hid;have e:k≠i:=by intro e;subst e;rw [tP] at hk;cases hk
  rw [Y3 _ _ e] at hk;have h1:=S.free id (Y8.2 ⟨k,hk,ho⟩);rw [<-h1];refine bL id (by rw [I9];have:=jY D ht h0 S.qle;have:=D1N D ho;omega) λj hj he=>e ?_
  exact C63 D ho ⟨ao,j,ha,hj,he⟩
 ·intro id hid;rw [<-S.keep id hid];exact bL id (by rw [I9];have:=jY D ht h0 S.qle;omega) λj hj he=>by omega
 ·have:∀ d:Option Nat,(a.put d V).defers=a.defers:=λd=>by cases d<;>rfl
  rw [this];exact S.defers
theorem B7R (D:DrawOk P N ops m l r) {n0 i id:Nat} {done:Nat->Bool} (h:¬ A1l l n0 i id):und l n0 (nE done i) id=und l n0 done id:=by
 rw [Bool.eq_iff_iff,Y8,Y8];constructor
 ·rintro ⟨k,hk,ho⟩;have e:k≠i:=by intro e;subst e;exact h ho
  exact ⟨k,by rw [Y3 _ _ e] at hk;exact hk,ho⟩
 ·rintro ⟨k,hk,ho⟩;have e:k≠i:=by intro e;subst e;exact h ho
  exact ⟨k,by rw [Y3 _ _ e];exact hk,ho⟩
theorem D6h (D:DrawOk P N ops m l r) {n0 i id:Nat} {done:Nat->Bool} (h:A1l l n0 i id):und l n0 (nE done i) id=false:=by
 cases hu:und l n0 (nE done i) id with
 | false=>rfl
 | true =>
  obtain ⟨k,hk,ho⟩:=Y8.1 hu;have e:=C63 D ho h;subst e;rw [tP] at hk;cases hk
theorem E2C (D:DrawOk P N ops m l r) (ht:Trace E hr hr.length l es hs vs) (h0:hs 0=hr++E41 m none) {done:Nat->Bool} {q:Nat} (hq:q<=l.length) (id:Nat) (x:Row) (hx:rd hr id=some x) :
  rd (HD (hs l.length) (und l hr.length done) (hs q).length) id=some x:=by
 have U8:=C5 hx;have hu:und l hr.length done id=false:=by
  cases hu:und l hr.length done id with
  | false=>rfl
  | true=>obtain ⟨k,_,ho⟩:=Y8.1 hu;exact absurd ho (D0d U8)
 rw [sL,if_pos ⟨by have:=jY D ht h0 hq;omega,hu⟩];have:=nJ D ht (k:=0) (id:=id) (by rw [h0];simp;omega) (λi _=>D0d U8) l.length (by omega);rw [E5l] at this;rw [this,h0,D4 U8];exact hx
theorem D9v (D:DrawOk P N ops m l r) (ht:Trace E hr hr.length l es hs vs) (h0:hs 0=hr++E41 m none) {done:Nat->Bool} {q:Nat} {μ:Mu} {a:Act} {w:World}
  (S:Sim Γ l hr.length N e es hs vs μ0 done q μ a w) {i:Nat} {ao:AOper} (ha:l[i]?=some ao) (hnd:done i=false):tK μ (HD (hs l.length) (und l hr.length done) (hs q).length) hr.length ao.slot:=by
 cases mI:ao.slot with
 | none=>trivial
 | some j =>
  refine ⟨S.free _ (Y8.2 ⟨i,hnd,ao,j,ha,mI,rfl⟩),?_⟩;rw [I9];have:=jY D ht h0 S.qle;have:=(D.quiet i ao ha).2.2 j mI;omega
theorem wP (D:DrawOk P N ops m l r) (ht:Trace E hr hr.length l es hs vs) {q:Nat}:∀ t,q+t<=l.length->(∀ (k:Nat) ak,q<=k->k<q+t->l[k]?=some ak->X6 ak.op=false)->(hs (q+t)).length=(hs q).length
 | 0,_,_=>rfl
 | t+1,hl,bM=>by
  have ih:=wP D ht (q:=q) t (by omega) λk ak h1 h2=>bM k ak h1 (by omega)
  rw [<-ih];have hk:q+t<l.length:=by omega
  rcases A43 D.quiet ht (E40 hk) with ⟨h,_,_⟩ | ⟨_,h | ⟨j,row,_,h⟩⟩
  ·have:=bM (q+t) l[q+t] (by omega) (by omega) (E40 hk);rw [h] at this;cases this
  ·show (hs (q+t+1)).length=_;rw [h]
  ·show (hs (q+t+1)).length=_;rw [h];simp
theorem E0X (D:DrawOk P N ops m l r) (ht:Trace E hr hr.length l es hs vs) (h0:hs 0=hr++E41 m none) {done:Nat->Bool} {q:Nat} {μ:Mu} {a:Act} {w:World}
  (S:Sim Γ l hr.length N e es hs vs μ0 done q μ a w) {i:Nat} {ao:AOper} (ha:l[i]?=some ao) (hah:∀ b,((P7 ops).getD i 0).testBit b=true->done b=true) (hl:X6 ao.op=true\/A09 ao.op=true) :
  ∀ id x,rd (hs i) id=some x->rd (HD (hs l.length) (und l hr.length done) (hs q).length) id=some x:=by
 have P6:i<l.length:=(List.getElem?_eq_some_iff.1 ha).1;have hql:=S.qle;have hlen:(hs i).length<=(hs q).length:=by
  by_cases hiq:i<=q
  ·have:=B0A D.quiet ht (q-i) i (by omega)
   rwa [show i+(q-i)=q by omega] at this
  ·have:=wP D ht (q:=q) (i-q) (by omega) λk ak h1 h2 oB=>by
    cases hck:X6 ak.op with
    | false=>rfl
    | true =>
     have h3:=hah k (D.calls i k ao ak ha oB hl (by omega) (.inl hck));have:=(S.calls k ak oB hck).1 h3;omega
   rw [show q+(i-q)=i by omega] at this;omega
 intro id x hx;have A06:∀ k,i<=k->¬ A1l l hr.length k id:=λk hk ho'=>by
  have:=A4X D ht h0 ho' i hk;rw [this] at hx;cases hx
 have hu:und l hr.length done id=false:=by
  cases hu:und l hr.length done id with
  | false=>rfl
  | true =>
   obtain ⟨k,hk,ho'⟩:=Y8.1 hu;by_cases e1:i<=k
   ·exact absurd ho' (A06 k e1)
   ·obtain ⟨ak,j,oB,hj,_⟩:=ho';have hsk:W3 ak.op=true:=by have:=(D.quiet k ak oB).2.1;rw [hj] at this;exact this
    have:=hah k (D.calls i k ao ak ha oB hl (by omega) (.inr hsk));rw [hk] at this;cases this
 rw [sL,if_pos ⟨by have:=C5 hx;omega,hu⟩];have:=nJ D ht (C5 hx) A06 (l.length-i) (by omega);rw [show i+(l.length-i)=l.length by omega] at this;rw [this];exact hx
theorem E0W (D:DrawOk P N ops m l r) (ht:Trace E hr hr.length l es hs vs) (h0:hs 0=hr++E41 m none) {done:Nat->Bool} {q:Nat} {μ:Mu} {a:Act} {w:World}
  (S:Sim Γ l hr.length N e es hs vs μ0 done q μ a w) {i j:Nat} {ao:AOper} (ha:l[i]?=some ao) (hah:∀ b,((P7 ops).getD i 0).testBit b=true->done b=true) (uC:B7w ao.op=some j) :
  ∀ x,rd (hs i) (hr.length+j)=some x->rd (HD (hs l.length) (und l hr.length done) (hs q).length) (hr.length+j)=some x:=by
 have P6:i<l.length:=(List.getElem?_eq_some_iff.1 ha).1;have hql:=S.qle;intro x hx;obtain ⟨k,ak,oB,hsk,E33⟩:=D.own i ao j ha uC;have hO:A1l l hr.length k (hr.length+j):=⟨ak,j,oB,hsk,rfl⟩;have hdk:=hah k E33;have A06:∀ k',i<=k'->¬ A1l l hr.length k' (hr.length+j):=λk' hk' ho'=>by
  have:=A4X D ht h0 ho' i hk';rw [this] at hx;cases hx
 have hu:und l hr.length done (hr.length+j)=false:=by
  cases hu:und l hr.length done (hr.length+j) with
  | false=>rfl
  | true =>
   obtain ⟨k',hk',ho'⟩:=Y8.1 hu;have:=C63 D ho' hO;subst this;rw [hk'] at hdk;cases hdk
 rw [sL,if_pos ⟨by have:=jY D ht h0 S.qle;have:=D1N D hO;omega,hu⟩];have:=nJ D ht (C5 hx) A06 (l.length-i) (by omega);rw [show i+(l.length-i)=l.length by omega] at this;rw [this];exact hx
open Classical in
theorem D3X (D:DrawOk P N ops m l r) (hE:fH P E) (ht:Trace E hr hr.length l es hs vs) (h0:hs 0=hr++E41 m none) (he:es 0=e) {done:Nat->Bool} {q:Nat} {μ:Mu} {a:Act} {w:World}
  (S:Sim Γ l hr.length N e es hs vs μ0 done q μ a w) {i:Nat} {ao:AOper} {o:Oper} (ha:l[i]?=some ao) (ho:ops[i]?=some o) (hnd:done i=false)
  (hah:∀ b,((P7 ops).getD i 0).testBit b=true->done b=true) (wL:∀ j,done j=true->∀ b,((P7 ops).getD j 0).testBit b=true->done b=true)
  {next:Act->World->Prop} {Q:Exit->Act->World->Prop} (hn:∀ V w' μ' q',Sim Γ l hr.length N e es hs vs μ0 (nE done i) q' μ' (a.put o.dst V) w'->next (a.put o.dst V) w') :
  if Region.wanted o (yielded ops a.tmps) then o.wp P a w next Q\/(o.asks P a w/\LetsOut Q) else next (a.put o.dst undef) w:=by
 have P6:i<l.length:=(List.getElem?_eq_some_iff.1 ha).1;have hco:aC P N ops o ao=true:=D.oper i o ao ho (by rw [E5z P6];exact ha);have zM:o.dst=ao.dst/\xN N o.dst=true:=by
  simp only [aC,E42,decide_eq_true_eq] at hco;exact ⟨hco.1.1.1,hco.1.1.2⟩
 have C8J:=E0V D ht he S ha hnd hah wL;have hrd:=E2C D ht h0 (done:=done) S.qle;have D3j:=D9v D ht h0 S ha hnd;have kN:=ht.step i ao ha;have E1f:∀ (E:N4) (h:A6),W7 E true hr hr.length ao (es i) h (λv h=>some (v,h))=W7 E true hr hr.length ao ((es i).keep ao.reads) h λv h=>some (v,h) :=
  λE h=>B9v λt ht'=>by rw [Env.get_keep_mem,if_pos ht']
 have hqi:=D.quiet i ao ha;have E4F:=jY D ht h0 S.qle;cases hc:X6 ao.op with
 | false =>
  have key:∃ h2,W7 E true hr hr.length ao (es i) (HD (hs l.length) (und l hr.length done) (hs q).length) (λv h=>some (v,h))=some (vs i,h2)/\h2=HD (hs l.length) (und l hr.length (nE done i)) (hs q).length:=by
   have C1D:hs (i+1)=hs i->HD (hs l.length) (und l hr.length done) (hs q).length=HD (hs l.length) (und l hr.length (nE done i)) (hs q).length:=by
    intro hsame;refine wM (by rw [I9,I9]) λid hid=>?_
    rw [I9] at hid;rw [sL,sL];by_cases uC:A1l l hr.length i id
    ·rw [D6h D uC,Y8.2 ⟨i,hnd,uC⟩];have h1:=A4X D ht h0 uC i (E44 _);have h2:=nJ D ht (k:=i+1) (id:=id) (by rw [hsame];have:=jY D ht h0 (k:=i) (by omega);have:=D1N D uC;omega)
      (λk hk ho'=>by have:=C63 D ho' uC;omega) (l.length-(i+1)) (by omega)
     rw [show i+1+(l.length-(i+1))=l.length by omega,hsame,h1] at h2;simp [h2]
    ·rw [B7R D uC]
   have A7X:∀ v h3,aop E true hr hr.length ao.slot ao.op (es i) (hs i) (λv h=>some (v,h))=some (v,h3)->h3=hs (i+1) ->
     ∃ h2,aop E true hr hr.length ao.slot ao.op (es i) (HD (hs l.length) (und l hr.length done) (hs q).length) (λv h=>some (v,h))=some (v,h2)/\h2=HD (hs l.length) (und l hr.length (nE done i)) (hs q).length:=by
    intro v h3 A7X he3;subst he3;cases mI:W3 ao.op with
    | false =>
     cases hmk:A09 ao.op with
     | false =>
      cases uC:B7w ao.op with
      | none =>
       obtain ⟨h4,h5⟩:=C9A hqi.1 hmk uC hc mI A7X;exact ⟨_,h5 _,C1D h4⟩
      | some j =>
       obtain ⟨h4,h5⟩:=D5v uC A7X;exact ⟨_,h5 _ (E0W D ht h0 S ha hah uC),C1D h4⟩
     | true =>
      obtain ⟨h4,h5⟩:=D2x hmk A7X;exact ⟨_,h5 _ (E0X D ht h0 S ha hah (.inr hmk)),C1D h4⟩
    | true =>
     have h6:=hqi.2.1;rw [mI] at h6;obtain ⟨j,hj⟩:=Option.isSome_iff_exists.1 h6.symm;rw [hj] at A7X ⊢;obtain ⟨row,h7,h8⟩:=D2y mI A7X;refine ⟨_,h8 _,?_⟩;have uC:A1l l hr.length i (hr.length+j):=⟨ao,j,ha,hj,rfl⟩;have hjm:=hqi.2.2 j hj;have hbi:=jY D ht h0 (k:=i) (by omega);refine wM (by rw [E5w,I9,I9]) λid hid=>?_
     rw [E5w,I9] at hid;by_cases e1:hr.length+j=id
     ·subst e1;rw [B7 (by rw [I9];omega),sL,if_pos ⟨by omega,D6h D uC⟩];have h9:=nJ D ht (k:=i+1) (id:=hr.length+j) (by rw [h7];simp;omega) (λk hk ho'=>by have:=C63 D ho' uC;omega) (l.length-(i+1)) (by omega);rw [show i+1+(l.length-(i+1))=l.length by omega,h7,B7 (by omega)] at h9;exact h9.symm
     ·rw [A7 e1,sL,sL,B7R D];rintro ⟨ao',j',h10,h11,h12⟩;rw [ha] at h10;cases h10;rw [hj] at h11;cases h11;exact e1 h12.symm
   unfold W7 at kN ⊢;cases hgu:ao.guard with
   | none=>rw [hgu] at kN;exact A7X _ _ kN rfl
   | some g =>
    rw [hgu] at kN;simp only [E4Z,Option.some.injEq] at kN;obtain ⟨⟨v',h3⟩,hp,yB⟩:=kN;simp only [Prod.mk.injEq] at yB;obtain ⟨hv',hh3⟩:=yB;unfold gd at hp ⊢;split at hp
    ·rename_i x vG;simp only [vG];cases hx:(x==g.2) with
     | true =>
      rw [hx] at hp;obtain ⟨h2,h4,h5⟩:=A7X _ _ hp hh3;exact ⟨h2,by rw [cond_true,h4];simp [hv'],h5⟩
     | false =>
      rw [hx] at hp;simp only [cond_false,Option.some.injEq,Prod.mk.injEq] at hp;refine ⟨_,by rw [cond_false];simp [<-hv',<-hp.1],C1D ?_⟩;rw [<-hh3];exact hp.2.symm
    ·rename_i vG;simp only [vG];simp only [Option.some.injEq,Prod.mk.injEq] at hp;refine ⟨_,by simp [<-hv',<-hp.1],C1D ?_⟩;rw [<-hh3];exact hp.2.symm
    ·cases hp
  obtain ⟨h2,hk1,hk2⟩:=key;rw [E1f] at hk1;refine A4j hE hco hk1 C8J S.inv hrd D3j ?_;intro V w' μ' bO hv hinv bL;subst hk2;refine hn V w' μ' q (D3W D ht h0 S ha hnd zM.1 zM.2 bO hv hinv bL S.qle ?_);intro k ak oB hck;have e1:k≠i:=by intro e1;subst e1;rw [ha] at oB;cases oB;rw [hc] at hck;cases hck
  rw [Y3 _ _ e1];exact S.calls k ak oB hck
 | true =>
  have hsn:ao.slot=none:=by
   rcases A43 D.quiet ht ha with ⟨_,h,_⟩ | ⟨h,_⟩
   ·exact h
   ·rw [hc] at h;cases h
  have E4Y:q<=i:=by
   have:=S.calls i ao ha hc;rw [hnd] at this;have:¬ i<q:=λh=>by have:=this.2 h;cases this
   omega
  have hlen:(hs i).length=(hs q).length:=by
   have:=wP D ht (q:=q) (i-q) (by omega) λk ak h1 h2 oB=>by
    cases hck:X6 ak.op with
    | false=>rfl
    | true =>
     have h3:=hah k (D.calls i k ao ak ha oB (.inl hc) (by omega) (.inl hck));have:=(S.calls k ak oB hck).1 h3;omega
   rwa [show q+(i-q)=i by omega] at this
  have D8v:∀ id,¬ A1l l hr.length i id:=by
   rintro id ⟨ao',j,h1,h2,_⟩;rw [ha] at h1;cases h1;rw [hsn] at h2;cases h2
  have E0c:∀ (k:Nat) ak,l[k]?=some ak->X6 ak.op=true->(nE done i k=true↔k<i+1):=by
   intro k ak oB hck;by_cases e1:k=i
   ·subst e1;simp [tP]
   ·rw [Y3 _ _ e1];constructor
    ·intro hk;have:¬ i<k:=λh=>by
      have h2:=wL k hk i (D.calls k i ak ao oB ha (.inl hck) h (.inl hc));rw [hnd] at h2;cases h2
     omega
    ·intro hk;exact hah k (D.calls i k ao ak ha oB (.inl hc) (by omega) (.inl hck))
  have E4J:=D31 D.quiet ht P6;have C1D:hs (i+1)=hs i->HD (hs l.length) (und l hr.length done) (hs q).length=HD (hs l.length) (und l hr.length (nE done i)) (hs (i+1)).length:=by
   intro hsame;rw [hsame,hlen];refine wM (by rw [I9,I9]) λid hid=>?_
   rw [sL,sL,B7R D (D8v id)]
  have A7X:∀ (g:Nat) (args:List Val),quiet (hs i) (E g args (hs i))=some (vs i,hs (i+1)) ->
    ∃ E':N4,fH P E'/\quiet (HD (hs l.length) (und l hr.length done) (hs q).length) (E' g args (HD (hs l.length) (und l hr.length done) (hs q).length))=some (vs i,HD (hs l.length) (und l hr.length (nE done i)) (hs (i+1)).length):=by
   intro g args D8p;obtain ⟨h1,h2⟩:=B4X D8p;obtain ⟨hg,hk,_⟩:=hE _ _ _ _ _ h1;have A6z:∀ id x,rd (hs i) id=some x->rd (HD (hs l.length) (und l hr.length done) (hs q).length) id=some x:=by
    intro id x hx;have A06:∀ k,i<=k->¬ A1l l hr.length k id:=λk hk ho'=>by
     have:=A4X D ht h0 ho' i hk;rw [this] at hx;cases hx
    have hu:und l hr.length done id=false:=by
     cases hu:und l hr.length done id with
     | false=>rfl
     | true =>
      obtain ⟨k,hk,ho'⟩:=Y8.1 hu;by_cases e1:i<=k
      ·exact absurd ho' (A06 k e1)
      ·obtain ⟨ak,j,oB,hj,_⟩:=ho';have hsk:W3 ak.op=true:=by have:=(D.quiet k ak oB).2.1;rw [hj] at this;exact this
       have:=hah k (D.calls i k ao ak ha oB (.inl hc) (by omega) (.inr hsk));rw [hk] at this;cases this
    rw [sL,if_pos ⟨by have:=C5 hx;omega,hu⟩];have:=nJ D ht (C5 hx) A06 (l.length-i) (by omega);rw [show i+(l.length-i)=l.length by omega] at this;rw [this];exact hx
   have hfr:=hk.frame h2 (hD:=HD (hs l.length) (und l hr.length done) (hs q).length) (by rw [I9,hlen]) A6z;have vG:HD (hs l.length) (und l hr.length done) (hs q).length++(hs (i+1)).drop (hs i).length=HD (hs l.length) (und l hr.length (nE done i)) (hs (i+1)).length:=by
    refine wM (by rw [E43,I9,I9,List.length_drop];omega) λid hid=>?_
    rw [B0O (by rw [I9,hlen])];split
    ·rw [sL,sL,B7R D (D8v id)];have:id<(hs q).length:=by omega
     have:id<(hs (i+1)).length:=by omega
     simp [*]
    ·rename_i hge;have hbi:=jY D ht h0 (k:=i) (by omega);have bM:∀ k,¬ A1l l hr.length k id:=λk ho'=>by have:=D1N D ho';omega
     have hu:und l hr.length (nE done i) id=false:=by
      cases hu:und l hr.length (nE done i) id with
      | false=>rfl
      | true=>obtain ⟨k,_,ho'⟩:=Y8.1 hu;exact absurd ho' (bM k)
     have U8:id<(hs (i+1)).length:=by
      rw [E43,I9,List.length_drop] at hid;omega
     rw [sL,if_pos ⟨U8,hu⟩];have:=nJ D ht U8 (λk _=>bM k) (l.length-(i+1)) (by omega);rw [show i+1+(l.length-(i+1))=l.length by omega] at this;exact this.symm
   rw [vG] at hfr;have hgr:Grows (HD (hs l.length) (und l hr.length done) (hs q).length) (HD (hs l.length) (und l hr.length (nE done i)) (hs (i+1)).length):=by
    rw [<-vG];refine ⟨List.prefix_append _ _,λid x hid hx=>?_⟩;rw [I9] at hid;rw [B0O (by rw [I9,hlen]),if_neg (by omega)] at hx;exact h2.2 id x (by omega) hx
   refine ⟨λf' a' h'=>if f'=g/\a'=args/\h'=HD (hs l.length) (und l hr.length done) (hs q).length then some (vs i,HD (hs l.length) (und l hr.length (nE done i)) (hs (i+1)).length) else none,?_,?_⟩
   ·intro f' a' h' v' h'' hv';simp only at hv';split at hv'
    ·rename_i A05;obtain ⟨rfl,rfl,rfl⟩:=A05;cases hv';exact ⟨hg,hfr,by rw [I9,I9];omega⟩
    ·cases hv'
   ·exact (congrArg (quiet _) (if_pos ⟨rfl,rfl,rfl⟩)).trans (quiet_of hgr)
  have key:∃ E':N4,fH P E'/\W7 E' true hr hr.length ao (es i) (HD (hs l.length) (und l hr.length done) (hs q).length) (λv h=>some (v,h))=some (vs i,HD (hs l.length) (und l hr.length (nE done i)) (hs (i+1)).length):=by
   have hop:∀ v h3,aop E true hr hr.length ao.slot ao.op (es i) (hs i) (λv h=>some (v,h))=some (v,h3)->v=vs i->h3=hs (i+1) ->
     ∃ E':N4,fH P E'/\aop E' true hr hr.length ao.slot ao.op (es i) (HD (hs l.length) (und l hr.length done) (hs q).length) (λv h=>some (v,h))=some (vs i,HD (hs l.length) (und l hr.length (nE done i)) (hs (i+1)).length):=by
    intro v h3 hr1 hv1 he3;subst hv1 he3;cases E4k:ao.op<;>rw [E4k] at hc hr1<;>simp [X6] at hc
    case call f args =>
     simp only [aop,cond_true,E4Z,Option.some.injEq] at hr1;obtain ⟨⟨v',h4⟩,hp,yB⟩:=hr1;cases yB;obtain ⟨E',h5,h6⟩:=A7X f _ hp;exact ⟨E',h5,by simp only [aop,cond_true];rw [h6];rfl⟩
    case callV f args =>
     simp only [aop,cond_true,E4Z,Option.some.injEq] at hr1;obtain ⟨⟨v',h4⟩,hp,yB⟩:=hr1;cases yB;unfold A2a at hp;split at hp
     ·rename_i g caps vG;obtain ⟨E',h5,h6⟩:=A7X g _ hp;refine ⟨E',h5,?_⟩;simp only [aop,cond_true];unfold A2a;rw [vG];simp only;rw [h6];rfl
     ·simp [quiet] at hp
   unfold W7 at kN ⊢;cases hgu:ao.guard with
   | none=>rw [hgu] at kN;exact hop _ _ kN rfl rfl
   | some g =>
    rw [hgu] at kN;simp only [E4Z,Option.some.injEq] at kN;obtain ⟨⟨v',h3⟩,hp,yB⟩:=kN;simp only [Prod.mk.injEq] at yB;obtain ⟨hv',hh3⟩:=yB;unfold gd at hp ⊢;split at hp
    ·rename_i x vG;simp only [vG];cases hx:(x==g.2) with
     | true =>
      rw [hx] at hp;obtain ⟨E',h2,h4⟩:=hop _ _ hp hv' hh3;exact ⟨E',h2,by rw [cond_true,h4];rfl⟩
     | false =>
      rw [hx] at hp;simp only [cond_false,Option.some.injEq,Prod.mk.injEq] at hp;refine ⟨E,hE,?_⟩;rw [cond_false,<-C1D (by rw [<-hh3];exact hp.2.symm)];simp [<-hv',<-hp.1]
    ·rename_i vG;simp only [vG];simp only [Option.some.injEq,Prod.mk.injEq] at hp;refine ⟨E,hE,?_⟩;rw [<-C1D (by rw [<-hh3];exact hp.2.symm)];simp [<-hv',<-hp.1]
    ·cases hp
  obtain ⟨E',hE',hk1⟩:=key;rw [E1f] at hk1;refine A4j hE' hco hk1 C8J S.inv hrd D3j ?_;intro V w' μ' bO hv hinv bL;exact hn V w' μ' (i+1) (D3W D ht h0 S ha hnd zM.1 zM.2 bO hv hinv bL (by omega) E0c)
end
end
end Go.Esc
