/- What the proof of this claim leans on, part 1. -/
import Derived.ProofKit
import Derived.OpenShut
import Derived.Deep.Slices
import Derived.Carry
import Derived.ChangeCalls
import GoSem.Claims
import Derived.Calls
import Derived.Orders
import Derived.Laws.Cells
import Derived.Laws.IdiomCopy
import Derived.Laws.World
import Derived.Laws.Bits
import Derived.Laws.Strings
import Derived.IntWalk
import Derived.Laws.Append
import Derived.Laws.StructEq
import Derived.MapKept
import Derived.LoopN
import Derived.Defers
import Derived.KernelRfl
import Derived.Test.YtbnkgnfhgbhblaaGreatChecked
set_option linter.all false
namespace Go.Esc
end Go.Esc
set_option maxRecDepth 100000
open Go Go.Esc
open Bool renaming and_eq_true→E69,not_eq_true'→E7V,or_eq_true→E74,false→A6,true→A5
open List renaming all_cons→E7P,all_eq_true→E70,append_assoc→E7c,append_nil→E7w,drop_drop→E7X,drop_eq_getElem_cons→E7d,drop_of_length_le→E7k,drop_zero→E7p,getElem?_append_left→E7H,getElem?_append_right→E7l,getElem?_drop→E7W,getElem?_eq_getElem→E66,getElem?_eq_none→E7L,getElem?_take_of_lt→E7G,getElem_mem→E7J,length_append→E7a,length_cons→E7g,length_drop→E72,length_nil→E7v,length_set→E7D,length_take→E7A,map_append→E71,map_cons→E79,mem_cons_of_mem→E7s,mem_cons_self→E7u,mem_of_getElem?→E7y,range→E7C,range'→E7M,replicate→E68,replicate_succ→E7z,take_of_length_le→E7i
open Nat renaming add_mul→E78,le_refl→E7b,le_trans→E7K,min_eq_left→E73,mod_eq_of_lt→E7Y,zero_add→E7t
open Option renaming bind_eq_some_iff→E67,bind_some→E7h,map_eq_some_iff→E7q,none→A7,some→A4
namespace Go.Esc
section
inductive Cell where
 | b (x:Bool)
 | i (k:IntKind) (n:Int)
 | s (x:List UInt8)
 | p (id off:Nat)
 | np
 | sl (id off len sz:Nat)
 | ns
 | f (fn:Nat) (caps:List (Nat × Nat))
 | nf
 | m (id:Nat)
 | nm
 | dark
 | mh
 | hk (agg:Bool) (x:Cell)
 | hx (x:Cell)
 deriving DecidableEq,Inhabited
inductive Part where
 | c (x:Cell)
 | a (l:List Cell)
 deriving Inhabited
inductive Val where
 | un
 | no
 | c (x:Cell)
 | a (l:List Cell)
 | t (l:List Part)
 deriving Inhabited
structure Row where
 cells:List Cell
 rw:Bool
 deriving Inhabited
abbrev B5:=List (Option Row)
abbrev Env:=List (Nat × Val)
def Env.get:Env->Nat->Val
 | [],_=>.un
 | (d,v)::r,t=>bif Nat.beq d t then v else Env.get r t
def Env.keep (e:Env):List Nat->Env
 | []=>[]
 | t::r=>(t,e.get t)::Env.keep e r
def Env.put (e:Env) (d:Option Nat) (v:Val):Env :=
 match d with
 | some d=>(d,v)::e
 | none=>e
inductive Opd where
 | t (n:Nat)
 | v (x:Val)
 deriving Inhabited
def Env.ev (e:Env):Opd->Val
 | .t n=>e.get n
 | .v x=>x
inductive Sh where
 | b
 | i (k:IntKind)
 | s
 deriving DecidableEq,Inhabited
def Cell.sh:Cell->Option Sh
 | .b _=>A4 .b
 | .i k _=>A4 (.i k)
 | .s _=>A4 .s
 | _=>A7
inductive AOp where
 | mv (x:Opd)
 | nilrow (sz:Nat)
 | pick (c a b:Opd)
 | alloc (zero:List Cell)
 | box (x:Opd)
 | build (zero:List Cell) (parts:List (Nat × Nat × Opd))
 | buildSl (sz len:Nat) (zero:List Cell) (parts:List (Nat × Nat × Opd))
 | load1 (a:Opd)
 | loadN (n:Nat) (a:Opd)
 | store1 (a x:Opd)
 | storeN (n:Nat) (a x:Opd)
 | bin (op:BinOp) (x y:Opd)
 | eqA (neg:Bool) (sh:List Sh) (x y:Opd)
 | eqB (neg:Bool) (x y:Opd)
 | eqN (fn neg:Bool) (x:Opd)
 | nilc (x:Opd)
 | un (op:UnOp) (x:Opd)
 | conv (k:IntKind) (x:Opd)
 | convS (x:Opd)
 | s2b (x:Opd)
 | b2s (x:Opd)
 | b2sN (own:Option Nat) (x:Opd)
 | mark (x:Opd)
 | mkf (fn:Nat) (caps:List Opd)
 | mkSl (sz:Nat) (zero:List Cell) (len cap:Opd)
 | slS (x:Opd) (lo hi:Option Opd)
 | slL (sz:Nat) (x:Opd) (lo hi:Option Opd)
 | slA (n sz:Nat) (x:Opd) (lo hi:Option Opd)
 | fAddr (x:Opd) (off:Nat)
 | iAddrA (n sz:Nat) (x i:Opd)
 | iAddrL (sz:Nat) (x i:Opd)
 | fld1 (x:Opd) (off:Nat)
 | fldN (x:Opd) (off n:Nat)
 | idxA1 (n:Nat) (x i:Opd)
 | idxAN (n sz:Nat) (x i:Opd)
 | idxS (x i:Opd)
 | ext (x:Opd) (k:Nat)
 | call (f:Nat) (args:List Opd)
 | callV (f:Opd) (args:List Opd)
 | len (x:Opd)
 | lenS (x:Opd)
 | app (sz:Nat) (x y:Opd)
 | appZ (sz:Nat) (zero:List Cell) (x y:Opd)
 | max (x y:Opd)
 | min (x y:Opd)
 | copy (sz:Nat) (x y:Opd)
 | mkMap
 | look (kk:Option IntKind) (zero:Part) (ok:Bool) (m k:Opd)
 | mput (kk:Option IntKind) (m k x:Opd)
 | ment (kk:Option IntKind) (zero:Part) (m k:Opd)
 | mset (m s x:Opd)
 deriving Inhabited
structure AOper where
 dst:Option Nat
 op:AOp
 guard:Option (Nat × Bool):=A7
 slot:Option Nat:=A7
 deriving Inhabited
inductive ACode where
 | skip
 | ops (l:List AOper)
 | draw (n:Nat) (l:List AOper) (r:List AOper)
 | drawS (n:Nat) (l:List AOper) (s:AOper) (chk:List (Nat × AOp)) (r:List AOper)
 | seq (keep:List Nat) (a b:ACode)
 | cond (c:Opd) (a b:ACode)
 | block (id:Nat) (a:ACode)
 | loop (keep:List Nat) (a:ACode)
 | exit (id:Nat)
 | ret
 deriving Inhabited
def cells? : Val->Option (List Cell)
 | .c x=>A4 [x]
 | .a l=>A4 l
 | _=>A7
def B1B (op:BinOp) (k:IntKind) (a b:Int):Option Cell :=
 match op with
 | .add=>A4 (.i k (k.wrap (a+b)))
 | .sub=>A4 (.i k (k.wrap (a-b)))
 | .mul=>A4 (.i k (k.wrap (a*b)))
 | .quo=>if b=0 then A7 else A4 (.i k (k.wrap (a.tdiv b)))
 | .rem=>if b=0 then A7 else A4 (.i k (a.tmod b))
 | .and=>A4 (.i k (k.wrap (BitVec.ofInt k.bits a &&& BitVec.ofInt k.bits b).toNat))
 | .or=>A4 (.i k (k.wrap (BitVec.ofInt k.bits a ||| BitVec.ofInt k.bits b).toNat))
 | .xor=>A4 (.i k (k.wrap (BitVec.ofInt k.bits a ^^^ BitVec.ofInt k.bits b).toNat))
 | .andNot=>A4 (.i k (k.wrap (BitVec.ofInt k.bits a &&& ~~~ BitVec.ofInt k.bits b).toNat))
 | .eql=>A4 (.b (a==b))
 | .neq=>A4 (.b (a != b))
 | .lss=>A4 (.b (decide (a<b)))
 | .leq=>A4 (.b (decide (a<=b)))
 | .gtr=>A4 (.b (decide (a > b)))
 | .geq=>A4 (.b (decide (a>=b)))
 | _=>A7
def E4g (k:IntKind) (a b:Int):Option Cell:=if b<0 then A7 else A4 (.i k (k.wrap (a*2 ^ (Nat.min b.toNat k.bits))))
def E4h (k:IntKind) (a b:Int):Option Cell:=if b<0 then A7 else A4 (.i k (a.fdiv (2 ^ (Nat.min b.toNat k.bits))))
def M7:List UInt8->List UInt8->Bool
 | _,[]=>A6
 | [],_::_=>A5
 | a::x,b::y=>decide (a<b)||(a==b&&M7 x y)
def E1w (op:BinOp) (a b:List UInt8):Option Cell :=
 match op with
 | .add=>if a.length+b.length<=1073741824 then A4 (.s (a++b)) else A7
 | .eql=>A4 (.b (a==b))
 | .neq=>A4 (.b (!(a==b)))
 | .lss=>A4 (.b (M7 a b))
 | .leq=>A4 (.b (M7 a b||a==b))
 | .gtr=>A4 (.b (!(M7 a b||a==b)))
 | .geq=>A4 (.b (!M7 a b))
 | _=>A7
def O4 (op:BinOp) (x y:Val):Option Val :=
 match x,y with
 | .c (.i k a),.c (.i k' b) =>
  match op with
  | .shl=>(E4g k a b).map .c
  | .shr=>(E4h k a b).map .c
  | op=>bif decide (k=k') then (B1B op k a b).map .c else A7
 | .c (.s a),.c (.s b)=>(E1w op a b).map .c
 | _,_=>A7
def D53 (neg:Bool) (x y:Val):Option Val :=
 match x,y with
 | .c (.b a),.c (.b b)=>A4 (.c (.b (bif neg then !(a==b) else a==b)))
 | _,_=>A7
def D2P (fn neg:Bool) (x:Val):Option Val :=
 match fn,x with
 | true,.c .nf=>A4 (.c (.b (!neg)))
 | true,.c (.f _ _)=>A4 (.c (.b neg))
 | false,.c .np=>A4 (.c (.b (!neg)))
 | false,.c (.p _ _)=>A4 (.c (.b neg))
 | _,_=>A7
def A49 (x:Val):Option Val :=
 match x with
 | .c (.p id off)=>A4 (.c (.p id off))
 | .c (.f g cs)=>A4 (.c (.f g cs))
 | _=>A7
def aeq (neg:Bool) (sh:List Sh) (x y:Val):Option Val :=
 match x,y with
 | .a l,.a l'=>if l.map Cell.sh=sh.map A4/\l'.map Cell.sh=sh.map A4 then A4 (.c (.b (bif neg then !(decide (l=l')) else decide (l=l')))) else A7
 | _,_=>A7
def aun (op:UnOp) (x:Val):Option Val :=
 match op,x with
 | .not,.c (.b b)=>A4 (.c (.b (!b)))
 | .neg,.c (.i k n)=>A4 (.c (.i k (k.wrap (0-n))))
 | .xor,.c (.i k n)=>A4 (.c (.i k (k.wrap (BitVec.ofInt k.bits (if k.signed then -1 else k.max) ^^^ BitVec.ofInt k.bits n).toNat)))
 | _,_=>A7
def D4n (c a b:Val):Option Val :=
 match c with
 | .c (.b x)=>A4 (bif x then a else b)
 | _=>A7
def rd (h:B5) (id:Nat):Option Row:=(h[id]?).join
def Cell.isX:Cell->Bool
 | .dark=>A5
 | .mh=>A5
 | .hk _ _=>A5
 | .hx _=>A5
 | _=>A6
def Cell.isD:Cell->Bool
 | .dark=>A5
 | _=>A6
def noX (l:List Cell):Bool:=l.all λc=>!c.isX
def B8 (h:B5):Val->Option Val
 | .c (.p id off)=>(rd h id).bind λr=>(r.cells[off]?).bind λc=>bif r.rw || !c.isX then A4 (.c c) else A7
 | _=>A7
def D4 (h:B5) (n:Nat):Val->Option Val
 | .c (.p id off)=>(rd h id).bind λr=>if off+n<=r.cells.length/\(r.rw||noX ((r.cells.drop off).take n))=A5 then A4 (.a ((r.cells.drop off).take n)) else A7
 | _=>A7
def lay (cs:List Cell) (off:Nat) (xs:List Cell):List Cell:=cs.take off++(xs++cs.drop (off+xs.length))
def I3 (h:B5) (a x:Val):Option B5 :=
 match a,x with
 | .c (.p id off),.c x=>(rd h id).bind λr=>if r.rw=A5/\off<r.cells.length then A4 (h.set id (A4 ⟨r.cells.set off x,A5⟩)) else A7
 | _,_=>A7
def E6 (h:B5) (n:Nat) (a x:Val):Option B5 :=
 match a,x with
 | .c (.p id off),.a xs=>(rd h id).bind λr=>if r.rw=A5/\xs.length=n/\off+n<=r.cells.length then A4 (h.set id (A4 ⟨lay r.cells off xs,A5⟩)) else A7
 | _,_=>A7
def dO (h:B5) (n0:Nat) (slot:Option Nat) (r:Row):Nat × B5 :=
 match slot with
 | none=>(h.length,h++[A4 r])
 | some j=>(n0+j,h.set (n0+j) (A4 r))
def E4 (zero:List Cell):List (Nat × Nat × Val)->Option (List Cell)
 | []=>A4 zero
 | (off,n,v)::r =>
  match cells? v with
  | some xs=>if xs.length=n/\off+n<=zero.length then E4 (lay zero off xs) r else A7
  | none=>A7
def D4b (k:IntKind):Val->Option Val
 | .c (.i _ n)=>A4 (.c (.i k (k.wrap n)))
 | _=>A7
def iE (h:B5):Val->Option (List Cell)
 | .c .ns=>A4 []
 | .c (.sl id off len sz)=>(rd h id).bind λr=>if off+len*sz<=r.cells.length/\(r.rw||noX ((r.cells.drop off).take (len*sz)))=A5 then A4 ((r.cells.drop off).take (len*sz)) else A7
 | _=>A7
def D1m:Cell->Option UInt8
 | .i .u8 n=>if 0<=n/\n<256 then A4 (UInt8.ofNat n.toNat) else A7
 | _=>A7
def bytes? : List Cell->Option (List UInt8)
 | []=>A4 []
 | c::r=>(D1m c).bind λx=>(bytes? r).map λl=>x::l
def D2N (x:Val):Option Val :=
 match x with
 | .c (.s s)=>A4 (.c (.s s))
 | _=>A7
def B5C (h:B5) (x:Val):Option Val :=
 match x with
 | .c (.sl id off len sz)=>if sz=1 then ((iE h (.c (.sl id off len sz))).bind bytes?).map λs=>.c (.s s) else A7
 | .c .ns=>A4 (.c (.s []))
 | _=>A7
def C2q (h:B5) (n0:Nat) (own:Option Nat) (x:Val):Option Val :=
 match own with
 | none=>B5C h x
 | some j =>
  match x with
  | .c (.sl id off len sz)=>if id=n0+j then B5C h (.c (.sl id off len sz)) else A7
  | _=>A7
def B4 (l:List UInt8):List Cell:=l.map λx=>.i .u8 x.toNat
def bound (x:Option Val) (d:Nat):Option Nat :=
 match x with
 | none=>A4 d
 | some (.c (.i _ n))=>if 0<=n then A4 n.toNat else A7
 | _=>A7
def E1Z (x:Val) (lo hi:Option Val):Option Val :=
 match x with
 | .c (.s s)=>(bound lo 0).bind λl=>(bound hi s.length).bind λh=>if l<=h/\h<=s.length then A4 (.c (.s ((s.take h).drop l))) else A7
 | _=>A7
def D4q (sz:Nat) (x:Val) (lo hi:Option Val):Option Val :=
 match x with
 | .c (.sl id off len sz')=>(bound lo 0).bind λl=>(bound hi len).bind λh=>if l<=h/\h<=len/\sz=sz' then A4 (.c (.sl id (off+l*sz) (h-l) sz)) else A7
 | .c .ns=>(bound lo 0).bind λl=>(bound hi 0).bind λh=>if l=0/\h=0 then A4 (.c .ns) else A7
 | _=>A7
def B0T (hp:B5) (n sz:Nat) (x:Val) (lo hi:Option Val):Option Val :=
 match x with
 | .c (.p id off)=>(rd hp id).bind λr=>(bound lo 0).bind λl=>(bound hi n).bind λh =>
   if l<=h/\h<=n/\off+n*sz<=r.cells.length/\(r.rw||(r.cells[off]?).any λc=>!c.isX)=A5 then A4 (.c (.sl id (off+l*sz) (h-l) sz)) else A7
 | _=>A7
def rU (x:Val) (off:Nat):Option Val :=
 match x with
 | .c (.p id o)=>A4 (.c (.p id (o+off)))
 | _=>A7
def J8 (n sz:Nat) (x i:Val):Option Val :=
 match x,i with
 | .c (.p id o),.c (.i _ j)=>if 0<=j/\j<n then A4 (.c (.p id (o+j.toNat*sz))) else A7
 | _,_=>A7
def E1 (sz:Nat) (x i:Val):Option Val :=
 match x,i with
 | .c (.sl id o len sz'),.c (.i _ j)=>if 0<=j/\j<len/\sz=sz' then A4 (.c (.p id (o+j.toNat*sz))) else A7
 | _,_=>A7
def C2u (x:Val) (off:Nat):Option Val :=
 match x with
 | .a l=>(l[off]?).map .c
 | _=>A7
def D7g (x:Val) (off n:Nat):Option Val :=
 match x with
 | .a l=>if off+n<=l.length then A4 (.a ((l.drop off).take n)) else A7
 | _=>A7
def A4c (n:Nat) (x i:Val):Option Val :=
 match x,i with
 | .a l,.c (.i _ j)=>if 0<=j/\j<n then (l[j.toNat]?).map .c else A7
 | _,_=>A7
def D2Q (n sz:Nat) (x i:Val):Option Val :=
 match x,i with
 | .a l,.c (.i _ j)=>if 0<=j/\j<n/\j.toNat*sz+sz<=l.length then A4 (.a ((l.drop (j.toNat*sz)).take sz)) else A7
 | _,_=>A7
def C62 (x i:Val):Option Val :=
 match x,i with
 | .c (.s s),.c (.i _ j)=>if 0<=j then (s[j.toNat]?).map λb=>.c (.i .u8 b.toNat) else A7
 | _,_=>A7
def ofPart:Part->Val
 | .c x=>.c x
 | .a l=>.a l
def D56 (x:Val) (k:Nat):Option Val :=
 match x with
 | .t l=>(l[k]?).map ofPart
 | _=>A7
def D4f (x:Val):Option Val :=
 match x with
 | .c (.s s)=>A4 (.c (.i .i64 s.length))
 | _=>A7
def D2R (x:Val):Option Val :=
 match x with
 | .c (.sl _ _ len _)=>A4 (.c (.i .i64 len))
 | .c .ns=>A4 (.c (.i .i64 0))
 | _=>A7
def P8 (h:B5) (sz:Nat):Val->Option (List Cell)
 | .c (.s s)=>if sz=1 then A4 (B4 s) else A7
 | .c (.sl id off len sz')=>if sz=sz' then iE h (.c (.sl id off len sz')) else A7
 | .c .ns=>A4 []
 | _=>A7
def jZ (h:B5) (sz:Nat) (x y:Val):Option (Val × B5) :=
 (P8 h sz y).bind λys =>
  match x with
  | .c .ns=>if ys.length/sz<=1073741824 then A4 (.c (.sl h.length 0 (ys.length/sz) sz),h++[A4 ⟨ys,A5⟩]) else A7
  | .c (.sl id off len sz')=>(rd h id).bind λr =>
    if r.rw=A5/\off=0/\len*sz=r.cells.length/\sz=sz'/\len+ys.length/sz<=1073741824 then
     A4 (.c (.sl h.length 0 (len+ys.length/sz) sz),h.set id A7++[A4 ⟨r.cells++ys,A5⟩]) else A7
  | _=>A7
def zN (h:B5) (x:Val):Option Val :=
 match x with
 | .c (.sl id _ len _)=>(rd h id).bind λr=>if r.rw=A5/\0<len then A4 x else A7
 | _=>A7
def C64 (x y:Val):Option Val :=
 match x,y with
 | .c (.i k a),.c (.i _ b)=>A4 (.c (.i k (if b > a then b else a)))
 | _,_=>A7
def B7S (x y:Val):Option Val :=
 match x,y with
 | .c (.i k a),.c (.i _ b)=>A4 (.c (.i k (if b<a then b else a)))
 | _,_=>A7
def C6Y (h:B5) (sz:Nat) (x y:Val):Option (Val × B5) :=
 match y with
 | .c (.s _)=>A7
 | _=>(P8 h sz y).bind λys =>
  match x with
  | .c (.sl id off len sz')=>(rd h id).bind λr =>
    if r.rw=A5/\off+len*sz<=r.cells.length/\sz=sz' then
     A4 (.c (.i .i64 (Nat.min (ys.length/sz) len:Nat)),h.set id (A4 ⟨lay r.cells off (ys.take (Nat.min (ys.length/sz) len*sz)),A5⟩)) else A7
  | _=>A7
def C7f:List Val->Option (List (Nat × Nat))
 | []=>A4 []
 | .c (.p id off)::r=>(C7f r).map λl=>(id,off)::l
 | _=>A7
def B5H (fn:Nat) (caps:List Val):Option Val:=(C7f caps).map λl=>.c (.f fn l)
abbrev W9:=List (Cell × Part)
def A1E (e:Cell × Part):List Cell :=
 match e.2 with
 | .c x=>[.hk A6 e.1,.hx x]
 | .a l=>.hk A5 e.1::l.map .hx
def B54 (es:W9):List Cell:=.mh::es.flatMap A1E
def C8j (c:Cell) (s:List Cell × W9):List Cell × W9 :=
 match c with
 | .hx x=>(x::s.1,s.2)
 | .hk a k=>([],(k,bif a then .a s.1 else .c (s.1.headD .mh))::s.2)
 | _=>s
def D3p (cs:List Cell):W9:=(cs.foldr C8j ([],[])).2
def D5d (r:Row):Option W9:=if r.rw=A6/\r.cells=B54 (D3p r.cells) then A4 (D3p r.cells) else A7
def T1 (es:W9):Row:=⟨B54 es,A6⟩
def tQ (kk:Option IntKind) (c:Cell):Bool :=
 match kk,c with
 | some k,.i k' _=>decide (k'=k)
 | none,.s _=>A5
 | _,_=>A6
def mgo (k:Cell):W9->Nat->Option (Nat × Part)
 | [],_=>A7
 | e::es,i=>if e.1=k then A4 (i,e.2) else mgo k es (i+1)
def B1Q (k:Cell) (es:W9):Option (Nat × Part):=mgo k es 0
def A88 (k:Cell) (p:Part) (es:W9):W9 :=
 match B1Q k es with
 | some (i,_)=>es.set i (k,p)
 | none=>es++[(k,p)]
def A4u (kk:Option IntKind) (k:Cell) (es:W9):Bool:=tQ kk k&&es.all λe=>tQ kk e.1
def D8N (h:B5):Val->Option W9
 | .c .nm=>A4 []
 | .c (.m id)=>(rd h id).bind D5d
 | _=>A7
def C8a:Val->Option Cell
 | .c x=>A4 x
 | _=>A7
def C8I:Val->Option Part
 | .c x=>A4 (.c x)
 | .a l=>A4 (.a l)
 | _=>A7
def A5S (ok:Bool) (p:Part) (f:Bool):Val:=match ok with
 | true=>.t [p,.c (.b f)]
 | false=>match p with
  | .c x=>.c x
  | .a l=>.a l
def A8j (h:B5) (kk:Option IntKind) (zero:Part) (ok:Bool) (m k:Val):Option Val :=
 (C8a k).bind λk=>(D8N h m).bind λes=>if A4u kk k es=A5 then
  A4 (match B1Q k es with
   | some (_,p)=>A5S ok p A5
   | none=>A5S ok zero A6) else A7
def A2O (h:B5) (kk:Option IntKind) (m k x:Val):Option B5 :=
 match m with
 | .c (.m id)=>(C8a k).bind λk=>(C8I x).bind λp=>(rd h id).bind λr=>(D5d r).bind λes=>if A4u kk k es=A5 then
  A4 (h.set id (A4 (T1 (A88 k p es)))) else A7
 | _=>A7
def D4i (h:B5) (kk:Option IntKind) (zero:Part) (m k:Val):Option (Val × B5) :=
 match m with
 | .c (.m id)=>(C8a k).bind λk=>(rd h id).bind λr=>(D5d r).bind λes=>if A4u kk k es=A5 then
  A4 (match B1Q k es with
   | some (i,p)=>(.t [p,.c (.i .i64 i)],h)
   | none=>(.t [zero,.c (.i .i64 es.length)],h.set id (A4 (T1 (es++[(k,zero)]))))) else A7
 | _=>A7
def D4j (h:B5) (m s x:Val):Option B5 :=
 match m,s with
 | .c (.m id),.c (.i .i64 n)=>(C8I x).bind λp=>(rd h id).bind λr=>(D5d r).bind λes=>if 0<=n then (es[n.toNat]?).bind λe=>A4 (h.set id (A4 (T1 (es.set n.toNat (e.1,p))))) else A7
 | _,_=>A7
def A5P:Val->Option Nat
 | .c (.i .i64 n)=>if 0<=n/\n<=1073741824 then A4 n.toNat else A7
 | _=>A7
def rows (zero:List Cell) (n:Nat):List Cell:=(E68 n zero).flatten
def C4K (l:List (Nat × Nat)):List Val:=l.map λq=>.c (.p q.1 q.2)
abbrev O3:=Nat->List Val->B5->Option (Val × B5)
def Row.head (r:Row):Bool :=
 match r.cells with
 | .mh::l=>l.all Cell.isX
 | _=>A6
def Row.own (r:Row):Bool:=r.rw||r.head
open Classical in
noncomputable def quiet (h:B5) (r:Option (Val × B5)):Option (Val × B5) :=
 r.bind λp=>if h <+: p.2/\(∀ id x,h.length<=id->rd p.2 id=A4 x->x.own=A5) then A4 p else A7
def A2R (E:O3) (f:Val) (args:List Val) (h:B5):Option (Val × B5) :=
 match f with
 | .c (.f g caps)=>E g (args++C4K caps) h
 | _=>A7
def E3G (x:Val):Option (List UInt8) :=
 match x with
 | .c (.s s)=>if s.length<=1073741824 then A4 s else A7
 | _=>A7
def A13 (x y:Val):Option Nat:=(A5P x).bind λn=>(A5P y).bind λc=>if n<=c then A4 n else A7
def B7Q (h:B5) (sz:Nat) (zero:List Cell) (x y:Val):Option (Val × B5) :=
 (A5P y).bind λn =>
  match x with
  | .c .ns=>A4 (.c (.sl h.length 0 n sz),h++[A4 ⟨rows zero n,A5⟩])
  | .c (.sl id off len sz')=>(rd h id).bind λr =>
    if r.rw=A5/\off=0/\len*sz=r.cells.length/\sz=sz'/\len+n<=1073741824 then
     A4 (.c (.sl h.length 0 (len+n) sz),h.set id A7++[A4 ⟨r.cells++rows zero n,A5⟩]) else A7
  | _=>A7
variable {R:Type}
def cnd (v:Val) (a b:Option R):Option R :=
 match v with
 | .c (.b x)=>bif x then a else b
 | _=>A7
noncomputable def aop (E:O3) (q:Bool) (hr:B5) (n0:Nat) (slot:Option Nat) (o:AOp) (e:Env) (h:B5) (k:Val->B5->Option R):Option R :=
 match o with
 | .mv x=>k (e.ev x) h
 | .nilrow sz=>let p:=dO h n0 slot ⟨[],A5⟩;k (.c (.sl p.1 0 0 sz)) p.2
 | .pick c a b=>(D4n (e.ev c) (e.ev a) (e.ev b)).bind λv=>k v h
 | .alloc zero=>let p:=dO h n0 slot ⟨zero,A5⟩;k (.c (.p p.1 0)) p.2
 | .box x=>(cells? (e.ev x)).bind λcs=>let p:=dO h n0 slot ⟨cs,A5⟩;k (.c (.p p.1 0)) p.2
 | .build zero parts=>(E4 zero (parts.map λp=>(p.1,p.2.1,e.ev p.2.2))).bind λcs=>k (.a cs) h
 | .buildSl sz len zero parts=>(E4 zero (parts.map λp=>(p.1,p.2.1,e.ev p.2.2))).bind λcs=>let p:=dO h n0 slot ⟨cs,A5⟩;k (.c (.sl p.1 0 len sz)) p.2
 | .load1 a=>(B8 hr (e.ev a)).bind λv=>k v h
 | .loadN n a=>(D4 hr n (e.ev a)).bind λv=>k v h
 | .store1 a x=>(I3 h (e.ev a) (e.ev x)).bind λh=>k .un h
 | .storeN n a x=>(E6 h n (e.ev a) (e.ev x)).bind λh=>k .un h
 | .bin op x y=>(O4 op (e.ev x) (e.ev y)).bind λv=>k v h
 | .eqA neg sh x y=>(aeq neg sh (e.ev x) (e.ev y)).bind λv=>k v h
 | .eqB neg x y=>(D53 neg (e.ev x) (e.ev y)).bind λv=>k v h
 | .eqN fn neg x=>(D2P fn neg (e.ev x)).bind λv=>k v h
 | .nilc x=>(A49 (e.ev x)).bind λv=>k v h
 | .un op x=>(aun op (e.ev x)).bind λv=>k v h
 | .conv kd x=>(D4b kd (e.ev x)).bind λv=>k v h
 | .convS x=>(D2N (e.ev x)).bind λv=>k v h
 | .s2b x=>(E3G (e.ev x)).bind λs=>let p:=dO h n0 slot ⟨B4 s,A5⟩;k (.c (.sl p.1 0 s.length 1)) p.2
 | .b2s x=>(B5C hr (e.ev x)).bind λv=>k v h
 | .b2sN own x=>(C2q h n0 own (e.ev x)).bind λv=>k v h
 | .mark x=>(zN h (e.ev x)).bind λv=>k v h
 | .mkf fn caps=>(B5H fn (caps.map e.ev)).bind λv=>k v h
 | .mkSl sz zero len cap=>(A13 (e.ev len) (e.ev cap)).bind λn=>let p:=dO h n0 slot ⟨rows zero n,A5⟩;k (.c (.sl p.1 0 n sz)) p.2
 | .slS x lo hi=>(E1Z (e.ev x) (lo.map e.ev) (hi.map e.ev)).bind λv=>k v h
 | .slL sz x lo hi=>(D4q sz (e.ev x) (lo.map e.ev) (hi.map e.ev)).bind λv=>k v h
 | .slA n sz x lo hi=>(B0T hr n sz (e.ev x) (lo.map e.ev) (hi.map e.ev)).bind λv=>k v h
 | .fAddr x off=>(rU (e.ev x) off).bind λv=>k v h
 | .iAddrA n sz x i=>(J8 n sz (e.ev x) (e.ev i)).bind λv=>k v h
 | .iAddrL sz x i=>(E1 sz (e.ev x) (e.ev i)).bind λv=>k v h
 | .fld1 x off=>(C2u (e.ev x) off).bind λv=>k v h
 | .fldN x off n=>(D7g (e.ev x) off n).bind λv=>k v h
 | .idxA1 n x i=>(A4c n (e.ev x) (e.ev i)).bind λv=>k v h
 | .idxAN n sz x i=>(D2Q n sz (e.ev x) (e.ev i)).bind λv=>k v h
 | .idxS x i=>(C62 (e.ev x) (e.ev i)).bind λv=>k v h
 | .ext x j=>(D56 (e.ev x) j).bind λv=>k v h
 | .call f args=>(bif q then quiet h (E f (args.map e.ev) h) else E f (args.map e.ev) h).bind λp=>k p.1 p.2
 | .callV f args=>(bif q then quiet h (A2R E (e.ev f) (args.map e.ev) h) else A2R E (e.ev f) (args.map e.ev) h).bind λp=>k p.1 p.2
 | .len x=>(D2R (e.ev x)).bind λv=>k v h
 | .lenS x=>(D4f (e.ev x)).bind λv=>k v h
 | .app sz x y=>(jZ h sz (e.ev x) (e.ev y)).bind λp=>k p.1 p.2
 | .appZ sz zero x y=>(B7Q h sz zero (e.ev x) (e.ev y)).bind λp=>k p.1 p.2
 | .max x y=>(C64 (e.ev x) (e.ev y)).bind λv=>k v h
 | .min x y=>(B7S (e.ev x) (e.ev y)).bind λv=>k v h
 | .copy sz x y=>(C6Y h sz (e.ev x) (e.ev y)).bind λp=>k p.1 p.2
 | .mkMap=>let p:=dO h n0 slot (T1 []);k (.c (.m p.1)) p.2
 | .look kk z ok m x=>(A8j hr kk z ok (e.ev m) (e.ev x)).bind λv=>k v h
 | .mput kk m x y=>(A2O h kk (e.ev m) (e.ev x) (e.ev y)).bind λh=>k .un h
 | .ment kk z m x=>(D4i h kk z (e.ev m) (e.ev x)).bind λp=>k p.1 p.2
 | .mset m x y=>(D4j h (e.ev m) (e.ev x) (e.ev y)).bind λh=>k .un h
def gd (v:Val) (want:Bool) (a b:Option (Val × B5)):Option (Val × B5) :=
 match v with
 | .c (.b x)=>bif x==want then a else b
 | .no=>b
 | _=>A7
noncomputable def X9 (E:O3) (q:Bool) (hr:B5) (n0:Nat) (o:AOper) (e:Env) (h:B5) (k:Val->B5->Option R):Option R :=
 match o.guard with
 | none=>aop E q hr n0 o.slot o.op e h k
 | some g=>(gd (e.get g.1) g.2 (aop E q hr n0 o.slot o.op e h λv h=>A4 (v,h)) (A4 (.no,h))).bind λp=>k p.1 p.2
noncomputable def B0S (E:O3) (l:List AOper):Env->B5->(Env->B5->Option R)->Option R :=
 List.rec (motive:=λ_=>Env->B5->(Env->B5->Option R)->Option R) (λe h k=>k e h) (λo _ ih e h k=>X9 E A6 h 0 o e h λv h=>ih (e.put o.dst v) h k) l
theorem D1j (E:O3) (o:AOper) (r:List AOper) (e:Env) (h:B5) (k:Env->B5->Option R):B0S E (o::r) e h k=X9 E A6 h 0 o e h λv h=>B0S E r (e.put o.dst v) h k:=rfl
noncomputable def B3H (E:O3) (hr:B5) (n0:Nat) (l:List AOper):Env->B5->(Env->B5->Option R)->Option R :=
 List.rec (motive:=λ_=>Env->B5->(Env->B5->Option R)->Option R) (λe h k=>k e h) (λo _ ih e h k=>X9 E A5 hr n0 o e h λv h=>ih (e.put o.dst v) h k) l
theorem C6Z (E:O3) (hr:B5) (n0:Nat) (o:AOper) (r:List AOper) (e:Env) (h:B5) (k:Env->B5->Option R):B3H E hr n0 (o::r) e h k=X9 E A5 hr n0 o e h λv h=>B3H E hr n0 r (e.put o.dst v) h k:=rfl
def A7O (h:B5) (o:AOp) (e:Env):Option Val :=
 match o with
 | .load1 a=>B8 h (e.ev a)
 | .loadN n a=>D4 h n (e.ev a)
 | _=>A7
open Classical in
noncomputable def agn (x:Option Val) (v:Val) (k:Option R):Option R:=if x=A4 v then k else A7
noncomputable def again (l:List (Nat × AOp)) (e:Env) (h:B5) (k:Option R):Option R :=
 List.rec (motive:=λ_=>Option R) k (λc _ ih=>agn (A7O h c.2 e) (e.get c.1) ih) l
theorem C60 (c:Nat × AOp) (l:List (Nat × AOp)) (e:Env) (h:B5) (k:Option R):again (c::l) e h k=agn (A7O h c.2 e) (e.get c.1) (again l e h k):=rfl
inductive AExit where
 | normal
 | exit (id:Nat)
 | ret
abbrev B2K (R:Type):=AExit->Env->B5->Option R
abbrev Sm (R:Type):=B2K R->Env->B5->Option R
def E3p (keep:List Nat) (again:Env->B5->Option R) (k:B2K R):B2K R:=λx e h=>match x with | .normal=>again (e.keep keep) h | .exit id=>k (.exit id) e h | .ret=>k .ret e h
noncomputable def A7h (c:Sm R) (keep:List Nat) (k:B2K R) (n:Nat):Env->B5->Option R :=
 Nat.rec (motive:=λ_=>Env->B5->Option R) (λ_ _=>A7) (λ_ ih e h=>c (E3p keep ih k) e h) n
theorem C2z (c:Sm R) (keep:List Nat) (k:B2K R) (e:Env) (h:B5):A7h c keep k 0 e h=A7:=rfl
theorem C2y (c:Sm R) (keep:List Nat) (k:B2K R) (n:Nat) (e:Env) (h:B5):A7h c keep k (n+1) e h=c (λx e h=>match x with | .normal=>A7h c keep k n (e.keep keep) h | .exit id=>k (.exit id) e h | .ret=>k .ret e h) e h:=rfl
def hold {α:Type} (x:α):α:=(λ_=>x) gd
noncomputable def E1B:Sm R:=λk e h=>(λ_=>k .normal e h) (@B0S Nat)
noncomputable def E1A (E:O3) (l:List AOper):Sm R:=λk e h=>B0S E l e h λe h=>k .normal e h
noncomputable def D62 (E:O3) (m:Nat) (l r:List AOper):Sm R:=λk e h=>B3H E h h.length l e (h++E68 m A7) λe h=>B0S E r e h λe h=>k .normal e h
noncomputable def D3O (E:O3) (m:Nat) (l:List AOper) (s:AOper) (chk:List (Nat × AOp)) (r:List AOper):Sm R:=λk e h=>B3H E h h.length l e (h++E68 m A7) λe h=>X9 E A6 h 0 s e h λv h2=>again chk e h2 (B0S E r (e.put s.dst v) h2 λe h=>k .normal e h)
def E2p (keep:List Nat) (b:Sm R) (k:B2K R):B2K R:=λx e h=>match x with | .normal=>hold (b k (e.keep keep) h) | .exit id=>k (.exit id) e h | .ret=>k .ret e h
def D6v (id:Nat) (k:B2K R):B2K R:=λx e h=>match x with | .exit i=>bif Nat.beq i id then k .normal e h else k (.exit i) e h | .normal=>k .normal e h | .ret=>k .ret e h
noncomputable def D5S (keep:List Nat) (a b:Sm R):Sm R:=λk e h=>a (E2p keep b k) e h
noncomputable def C8Z (c:Opd) (a b:Sm R):Sm R:=λk e h=>(λ_=>cnd (e.ev c) (a k e h) (b k e h)) (@B0S Nat)
noncomputable def B88 (id:Nat) (a:Sm R):Sm R:=λk e h=>(λ_=>a (D6v id k) e h) (@B0S Nat)
noncomputable def C80 (n:Nat) (keep:List Nat) (a:Sm R):Sm R:=λk e h=>(λ_=>A7h a keep k n (e.keep keep) h) (@B0S Nat)
noncomputable def E1z (id:Nat):Sm R:=λk e h=>(λ_=>k (.exit id) e h) (@B0S Nat)
noncomputable def E3u:Sm R:=λk e h=>(λ_=>k .ret e h) (@B0S Nat)
noncomputable def aex (E:O3) (n:Nat):ACode->Sm R
 | .skip=>E1B
 | .ops l=>E1A E l
 | .draw m l r=>D62 E m l r
 | .drawS m l s chk r=>D3O E m l s chk r
 | .seq keep a b=>D5S keep (aex E n a) (aex E n b)
 | .cond c a b=>C8Z c (aex E n a) (aex E n b)
 | .block id a=>B88 id (aex E n a)
 | .loop keep a=>C80 n keep (aex E n a)
 | .exit id=>E1z id
 | .ret=>E3u
noncomputable def ax (E:O3) (n:Nat) (c:ACode):Sm R :=
 ACode.rec (motive:=λ_=>Sm R) E1B (λl=>E1A E l) (λm l r=>D62 E m l r) (λm l s chk r=>D3O E m l s chk r) (λkeep _ _ a b=>D5S keep a b) (λc _ _ a b=>C8Z c a b) (λid _ a=>B88 id a) (λkeep _ a=>C80 n keep a) (λid=>E1z id) E3u c
theorem B7V (E:O3) (n:Nat):∀ c:ACode,(ax E n c:Sm R)=aex E n c
 | .skip=>rfl
 | .ops _=>rfl
 | .draw _ _ _=>rfl
 | .drawS _ _ _ _ _=>rfl
 | .seq keep a b=>by show D5S keep (ax E n a) (ax E n b)=D5S keep (aex E n a) (aex E n b);rw [B7V E n a,B7V E n b]
 | .cond c a b=>by show C8Z c (ax E n a) (ax E n b)=C8Z c (aex E n a) (aex E n b);rw [B7V E n a,B7V E n b]
 | .block id a=>by show B88 id (ax E n a)=B88 id (aex E n a);rw [B7V E n a]
 | .loop keep a=>by show C80 n keep (ax E n a)=C80 n keep (aex E n a);rw [B7V E n a]
 | .exit _=>rfl
 | .ret=>rfl
inductive ARes where
 | tmp (t:Nat)
 | cell1 (t:Nat)
 | cellN (t n:Nat)
def D8d (e:Env) (h:B5):ARes->Option Val
 | .tmp t=>A4 (e.get t)
 | .cell1 t=>B8 h (e.get t)
 | .cellN t n=>D4 h n (e.get t)
def qA:Val->Option Part
 | .c x=>A4 (.c x)
 | .a l=>A4 (.a l)
 | _=>A7
def C2x (e:Env) (h:B5):List ARes->Option (List Part)
 | []=>A4 []
 | r::l=>(D8d e h r).bind λv=>(qA v).bind λp=>(C2x e h l).map λq=>p::q
def mX (rs:List ARes) (e:Env) (h:B5):Option (Val × B5) :=
 match rs with
 | [r]=>(D8d e h r).map λv=>(v,h)
 | rs=>(C2x e h rs).map λl=>(.t l,h)
def C9b:List (Option Val)->Option (List Part)
 | []=>A4 []
 | r::l=>r.bind λv=>(qA v).bind λp=>(C9b l).map λq=>p::q
def C9a (l:List (Option Val)) (h:B5):Option (Val × B5):=(C9b l).map λl=>(.t l,h)
structure AFn where
 code:ACode
 res:List ARes
def params:Nat->List Val->Env
 | _,[]=>[]
 | i,v::r=>(i,v)::params (i+1) r
def AFn.fin (f:AFn):AExit->Env->B5->Option (Val × B5)
 | .normal,e,h=>mX f.res e h
 | .ret,e,h=>mX f.res e h
 | .exit _,_,_=>A7
noncomputable def AFn.run (f:AFn) (E:O3) (n:Nat) (args:List Val) (h:B5):Option (Val × B5) :=
 aex E n f.code f.fin (params 0 args) h
theorem E3H {f:AFn} {E:O3} {n:Nat} {args:List Val} {h:B5}:f.run E n args h=ax E n f.code f.fin (params 0 args) h:=by
 rw [B7V];rfl
def aO (d:Nat) (x:AOp):AOper:={ dst:=A4 d,op:=x }
def aN (x:AOp):AOper:={ dst:=A7,op:=x }
def aG (d g:Nat) (w:Bool) (x:AOp):AOper:={ dst:=A4 d,op:=x,guard:=A4 (g,w) }
def aS (d s:Nat) (x:AOp):AOper:={ dst:=A4 d,op:=x,slot:=A4 s }
def aM (d t:Nat):AOper:=aO d (.mv (.t t))
def aL (d t:Nat):AOper:=aO d (.load1 (.t t))
def aL' (d n t:Nat):AOper:=aO d (.loadN n (.t t))
def aF (d t k:Nat):AOper:=aO d (.fAddr (.t t) k)
def aB (d t:Nat):AOper:=aO d (.box (.t t))
def sO (k:List Nat) (l:List AOper) (b:ACode):ACode:=.seq k (.ops l) b
end
def All2 {α β:Type} (R:α -> β -> Prop):List α -> List β -> Prop
 | [],[]=>True
 | a::l,b::m=>R a b/\All2 R l m
 | _,_=>False
section
variable {α β:Type} {R S:α -> β -> Prop}
@[simp] theorem All2.nil_nil:All2 R [] []=True:=rfl
@[simp] theorem All2.cons_cons {a:α} {l:List α} {b:β} {m:List β}:All2 R (a::l) (b::m)=(R a b/\All2 R l m):=rfl
@[simp] theorem All2.nil_cons {b:β} {m:List β}:All2 R [] (b::m)=False:=rfl
@[simp] theorem All2.cons_nil {a:α} {l:List α}:All2 R (a::l) []=False:=rfl
theorem All2.mono (h:∀ a b,R a b->S a b):∀ {l:List α} {m:List β},All2 R l m->All2 S l m
 | [],[],_=>trivial
 | _::_,_::_,⟨h1,h2⟩=>⟨h _ _ h1,All2.mono h h2⟩
 | [],_::_,h=>h.elim
 | _::_,[],h=>h.elim
theorem All2.length:∀ {l:List α} {m:List β},All2 R l m->l.length=m.length
 | [],[],_=>rfl
 | _::_,_::_,⟨_,h2⟩=>by simp [All2.length h2]
 | [],_::_,h=>h.elim
 | _::_,[],h=>h.elim
theorem All2.get:∀ {l:List α} {m:List β},All2 R l m->∀ (i:Nat) (a:α),l[i]?=A4 a->∃ b,m[i]?=A4 b/\R a b
 | [],[],_,i,a,h=>by simp at h
 | x::l,y::m,⟨h1,h2⟩,0,a,h=>by simp at h;subst h;exact ⟨y,rfl,h1⟩
 | x::l,y::m,⟨h1,h2⟩,i+1,a,h=>by simp at h;simpa using All2.get h2 i a h
 | [],_::_,h,_,_,_=>h.elim
 | _::_,[],h,_,_,_=>h.elim
theorem All2.of_get:∀ {l:List α} {m:List β},l.length=m.length->(∀ (i:Nat) (a:α) (b:β),l[i]?=A4 a->m[i]?=A4 b->R a b)->All2 R l m
 | [],[],_,_=>trivial
 | x::l,y::m,hl,h=>⟨h 0 x y rfl rfl,All2.of_get (by simpa using hl) λi a b h1 h2=>h (i+1) a b (by simpa using h1) (by simpa using h2)⟩
 | [],_::_,h,_=>by simp at h
 | _::_,[],h,_=>by simp at h
theorem All2.append:∀ {l l':List α} {m m':List β},All2 R l m->All2 R l' m'->All2 R (l++l') (m++m')
 | [],_,[],_,_,h=>h
 | _::_,_,_::_,_,⟨h1,h2⟩,h=>⟨h1,All2.append h2 h⟩
 | [],_,_::_,_,h,_=>h.elim
 | _::_,_,[],_,h,_=>h.elim
theorem All2.take:∀ {l:List α} {m:List β} (n:Nat),All2 R l m->All2 R (l.take n) (m.take n)
 | [],[],n,_=>by simp
 | _::_,_::_,0,_=>by simp
 | _::_,_::_,n+1,⟨h1,h2⟩=>by simpa using ⟨h1,All2.take n h2⟩
 | [],_::_,_,h=>h.elim
 | _::_,[],_,h=>h.elim
theorem All2.drop:∀ {l:List α} {m:List β} (n:Nat),All2 R l m->All2 R (l.drop n) (m.drop n)
 | [],[],n,_=>by simp
 | _::_,_::_,0,h=>by simpa using h
 | _::_,_::_,n+1,⟨_,h2⟩=>by simpa using All2.drop n h2
 | [],_::_,_,h=>h.elim
 | _::_,[],_,h=>h.elim
theorem All2.flatten_replicate {l:List α} {m:List β} (h:All2 R l m):∀ n,All2 R (E68 n l).flatten (E68 n m).flatten
 | 0=>trivial
 | n+1=>by simpa [E7z] using h.append (All2.flatten_replicate h n)
end
abbrev Mu:=Nat->Option (Nat × Nat)
def Mu.le (m m':Mu):Prop:=∀ id x,m id=A4 x->m' id=A4 x
theorem Mu.le_refl (m:Mu):m.le m:=λ_ _ h=>h
theorem Mu.le_trans {a b c:Mu} (h:a.le b) (k:b.le c):a.le c:=λ_ _ x=>k _ _ (h _ _ x)
def RPtr (μ:Mu) (q:Nat × Nat) (V:Value):Prop:=∃ b n,μ q.1=A4 (b,n)/\V=.pointer (A4 ⟨b,q.2,A7⟩)
def RC (μ:Mu):Cell->Value->Prop
 | .b x,V=>V=.bool x
 | .i k n,V=>V=.int k n
 | .s x,V=>V=.string ⟨x.toArray⟩
 | .p id off,V=>RPtr μ (id,off) V
 | .np,V=>V=.pointer A7
 | .sl id off len sz,V=>(∃ b n cap,μ id=A4 (b,n)/\len<=cap/\off+cap*sz<=n/\V=.slice (A4 ⟨b,off,A7⟩) len cap)\/(len=0/\∃ a,V=.slice a 0 0)
 | .ns,V=>V=.slice A7 0 0
 | .f fn caps,V=>∃ cs:List Value,V=.func (.func fn) #[] cs.toArray/\All2 (RPtr μ) caps cs
 | .nf,V=>V=.nilFunc
 | .m id,V=>∃ b n,μ id=A4 (b,n)/\V=.map (A4 b)
 | .nm,V=>V=.map A7
 | .dark,_=>False
 | .mh,_=>False
 | .hk _ _,_=>False
 | .hx _,_=>False
theorem RPtr.mono {μ μ':Mu} (h:μ.le μ') {q:Nat × Nat} {V:Value}:RPtr μ q V->RPtr μ' q V :=
 λ⟨b,n,h1,h2⟩=>⟨b,n,h _ _ h1,h2⟩
theorem RC.mono {μ μ':Mu} (h:μ.le μ') {c:Cell} {V:Value} (hc:RC μ c V):RC μ' c V:=by
 cases c with
 | p id off=>exact RPtr.mono h hc
 | sl id off len sz =>
  rcases hc with ⟨b,n,cap,h1,h2⟩ | hc
  ·exact .inl ⟨b,n,cap,h _ _ h1,h2⟩
  ·exact .inr hc
 | f fn caps=>obtain ⟨cs,h1,h2⟩:=hc;exact ⟨cs,h1,h2.mono λ_ _=>RPtr.mono h⟩
 | m id=>obtain ⟨b,n,h1,h2⟩:=hc;exact ⟨b,n,h _ _ h1,h2⟩
 | _=>exact hc
theorem RC.one {μ:Mu} {c:Cell} {V:Value} (hc:RC μ c V):V.oneCell'=A5:=by
 cases c with
 | sl id off len sz=>rcases hc with ⟨b,n,cap,_,_,_,rfl⟩ | ⟨_,a,rfl⟩<;>rfl
 | p id off=>obtain ⟨b,n,_,rfl⟩:=hc;rfl
 | f fn caps=>obtain ⟨cs,rfl,_⟩:=hc;rfl
 | m id=>obtain ⟨b,n,_,rfl⟩:=hc;rfl
 | b x=>cases hc;rfl
 | i k n=>cases hc;rfl
 | s x=>cases hc;rfl
 | np=>cases hc;rfl
 | ns=>cases hc;rfl
 | nf=>cases hc;rfl
 | nm=>cases hc;rfl
 | dark=>exact hc.elim
 | mh=>exact hc.elim
 | hk _ _=>exact hc.elim
 | hx _=>exact hc.elim
theorem RC.cells {μ:Mu} {c:Cell} {V:Value} (hc:RC μ c V):V.cells = #[V]:=by
 have:=hc.one;cases V<;>simp_all [Value.oneCell',Value.cells]
def RP (μ:Mu):Part->Value->Prop
 | .c x,V=>RC μ x V
 | .a l,V=>∃ vs:List Value,V=.agg vs.toArray/\All2 (RC μ) l vs
def RV (μ:Mu):Val->Value->Prop
 | .un,_=>True
 | .no,V=>V=undef
 | .c x,V=>RC μ x V
 | .a l,V=>∃ vs:List Value,V=.agg vs.toArray/\All2 (RC μ) l vs
 | .t l,V=>∃ vs:List Value,V=.tuple vs.toArray/\All2 (RP μ) l vs
theorem RP.mono {μ μ':Mu} (h:μ.le μ') {c:Part} {V:Value} (hc:RP μ c V):RP μ' c V:=by
 cases c with
 | c x=>exact RC.mono h hc
 | a l=>obtain ⟨vs,h1,h2⟩:=hc;exact ⟨vs,h1,h2.mono λ_ _=>RC.mono h⟩
theorem RV.mono {μ μ':Mu} (h:μ.le μ') {c:Val} {V:Value} (hc:RV μ c V):RV μ' c V:=by
 cases c with
 | un=>trivial
 | no=>exact hc
 | c x=>exact RC.mono h hc
 | a l=>obtain ⟨vs,h1,h2⟩:=hc;exact ⟨vs,h1,h2.mono λ_ _=>RC.mono h⟩
 | t l=>obtain ⟨vs,h1,h2⟩:=hc;exact ⟨vs,h1,h2.mono λ_ _=>RP.mono h⟩
theorem RV.cells {μ:Mu} {v:Val} {V:Value} {cs:List Cell} (h:RV μ v V) (hc:cells? v=A4 cs):All2 (RC μ) cs V.cells.toList:=by
 cases v with
 | c x=>simp [cells?] at hc;subst hc;rw [RC.cells h];exact ⟨h,trivial⟩
 | a l=>simp [cells?] at hc;subst hc;obtain ⟨vs,rfl,h2⟩:=h;simpa [Value.cells] using h2
 | un=>simp [cells?] at hc
 | no=>simp [cells?] at hc
 | t l=>simp [cells?] at hc
theorem RV.ofPart {μ:Mu} {p:Part} {V:Value} (h:RP μ p V):RV μ (ofPart p) V:=by
 cases p<;>exact h
theorem RP.ofVal {μ:Mu} {v:Val} {p:Part} {V:Value} (h:RV μ v V) (hp:qA v=A4 p):RP μ p V:=by
 cases v<;>simp [qA] at hp<;>subst hp<;>exact h
def RL (μ:Mu) (rw:Bool) (c:Cell) (V:Value):Prop:=RC μ c V\/(rw=A6/\c.isD=A5)
theorem C79 {c:Cell} (h:c.isD=A5):c.isX=A5:=by cases c<;>simp_all [Cell.isD,Cell.isX]
theorem RL.mono {μ μ':Mu} (h:μ.le μ') {rw:Bool} {c:Cell} {V:Value}:RL μ rw c V->RL μ' rw c V
 | .inl k=>.inl (k.mono h)
 | .inr k=>.inr k
theorem RL.told {μ:Mu} {rw:Bool} {c:Cell} {V:Value} (h:RL μ rw c V) (hx:(rw || !c.isX)=A5):RC μ c V:=by
 rcases h with h | ⟨h1,h2⟩
 ·exact h
 ·rw [h1,C79 h2] at hx;cases hx
theorem RL.all {μ:Mu} {rw:Bool}:∀ {l:List Cell} {vs:List Value},All2 (RL μ rw) l vs->(rw||noX l)=A5->All2 (RC μ) l vs
 | [],[],_,_=>trivial
 | c::l,V::vs,⟨h1,h2⟩,hx=>by
  have hx':(rw || !c.isX)=A5/\(rw||noX l)=A5:=by
   cases rw<;>simp_all [noX]
  exact ⟨h1.told hx'.1,RL.all h2 hx'.2⟩
 | [],_::_,h,_=>h.elim
 | _::_,[],h,_=>h.elim
def RE (μ:Mu) (e:Cell × Part) (E:MapEntry):Prop:=RC μ e.1 E.key/\RP μ e.2 E.val
theorem RE.mono {μ μ':Mu} (h:μ.le μ') {e:Cell × Part} {E:MapEntry} (k:RE μ e E):RE μ' e E:=⟨k.1.mono h,k.2.mono h⟩
def MemOk (μ:Mu) (w:World) (b n:Nat) (r:Row):Prop :=
 ∃ C elem fz,w.heap[b]?=A4 (.cells C elem fz)/\C.size=n/\All2 (RL μ r.rw) r.cells (C.toList.take r.cells.length)/\(r.rw=A5->fz.1=fz.2\/n<=fz.1)
def E4T (μ:Mu) (w:World) (b:Nat) (r:Row):Prop :=
 ∃ es E,r=T1 es/\w.heap[b]?=A4 (.map E E.size)/\All2 (RE μ) es E.toList/\∀ (i:Nat) (e:MapEntry),E[i]?=A4 e->e.born=i
def E3v (w:World) (b:Nat) (r:Row):Prop:=r.rw=A6/\b<w.heap.size/\r.cells.all Cell.isD=A5
def RowOk (μ:Mu) (w:World) (id:Nat) (r:Row):Prop :=
 match μ id with
 | none=>r.cells=[]
 | some (b,n)=>MemOk μ w b n r\/E4T μ w b r\/E3v w b r
theorem D2Y (e:Cell × Part):∀ c∈A1E e,c.isX=A5:=by
 intro c hc;unfold A1E at hc;split at hc
 ·simp at hc;rcases hc with rfl | rfl<;>rfl
 ·simp at hc;rcases hc with rfl | ⟨x,_,rfl⟩<;>rfl
theorem C8g (es:W9):∀ c∈B54 es,c.isX=A5:=by
 intro c hc;simp only [B54,List.mem_cons,List.mem_flatMap] at hc;rcases hc with rfl | ⟨e,_,hc⟩
 ·rfl
 ·exact D2Y e c hc
theorem Row.head_mrow (es:W9):(T1 es).head=A5:=by
 show (es.flatMap A1E).all Cell.isX=A5;rw [E70];exact λc hc=>C8g es c (E7s _ hc)
theorem Row.head_isX {r:Row} (h:r.head=A5):∀ c∈r.cells,c.isX=A5:=by
 unfold Row.head at h;split at h
 ·rename_i l hl;intro c hc;rw [hl] at hc;rcases List.mem_cons.1 hc with rfl | hc
  ·rfl
  ·exact List.all_eq_true.1 h c hc
 ·cases h
theorem Row.own_rw {r:Row} (h:r.rw=A5):r.own=A5:=by simp [Row.own,h]
theorem Row.own_mrow (es:W9):(T1 es).own=A5:=by simp [Row.own,Row.head_mrow]
structure Ctx where
 F:Nat->Option Obj
 os:Os
 tape:Nat->Question->Nat
 output:Array (Nat × ByteArray)
 ds:List Deferred:=[]
structure Ctx.ok (Γ:Ctx) (w:World):Prop where
 os:w.os = Γ.os
 tape:w.tape = Γ.tape
 output:w.output = Γ.output
 block:∀ b o,Γ.F b=A4 o->w.heap[b]?=A4 o
structure Inv (Γ:Ctx) (μ:Mu) (h:B5) (w:World):Prop where
 rows:∀ id r,rd h id=A4 r->RowOk μ w id r
 sep:∀ id bF r r' x x',rd h id=A4 r->rd h bF=A4 r'->r.own=A5->id≠bF -> μ id=A4 x -> μ bF=A4 x'->x.1≠x'.1
 own:∀ id r x,rd h id=A4 r->r.own=A5 -> μ id=A4 x -> Γ.F x.1=A7
 dom:∀ id,h.length<=id -> μ id=A7
 ctx:Γ.ok w
def SEnv (μ:Mu) (e:Env) (a:Act):Prop:=∀ t,RV μ (e.get t) (a.tmps.getD t undef)
theorem SEnv.mono {μ μ':Mu} (h:μ.le μ') {e:Env} {a:Act} (hs:SEnv μ e a):SEnv μ' e a:=λt=>(hs t).mono h
theorem Env.get_put_same (e:Env) (d:Nat) (v:Val):(e.put (A4 d) v).get d=v:=by simp [Env.put,Env.get]
theorem Env.get_put_other (e:Env) (d t:Nat) (v:Val) (h:d≠t):(e.put (A4 d) v).get t=e.get t:=by
 have:Nat.beq d t=A6:=by cases hb:Nat.beq d t with
  | false=>rfl
  | true=>exact absurd (Nat.eq_of_beq_eq_true hb) h
 simp [Env.put,Env.get,this]
theorem SEnv.put {μ:Mu} {e:Env} {a:Act} (hs:SEnv μ e a) {d:Option Nat} {v:Val} {V:Value} (hd:∀ t,d=A4 t->t<a.tmps.size) (hv:RV μ v V) :
  SEnv μ (e.put d v) (a.put d V):=by
 cases d with
 | none=>exact hs
 | some d =>
  intro t;by_cases h:d=t
  ·subst h;rw [Env.get_put_same];have:=hd d rfl;simpa [Act.put,Array.getD,this] using hv
  ·rw [Env.get_put_other _ _ _ _ h];have h1:(a.put (A4 d) V).tmps.getD t undef=a.tmps.getD t undef:=by
    simp [Act.put,Array.getElem?_setIfInBounds_ne h]
   rw [h1];exact hs t
theorem Act.size_put (a:Act) (d:Option Nat) (V:Value):(a.put d V).tmps.size=a.tmps.size:=by
 cases d<;>simp [Act.put]
theorem Env.get_keep (e:Env) (l:List Nat) (t:Nat):(e.keep l).get t=e.get t\/(e.keep l).get t=.un:=by
 induction l with
 | nil=>right;rfl
 | cons x r ih =>
  simp only [Env.keep,Env.get];by_cases h:x=t
  ·subst h;left;simp
  ·have:Nat.beq x t=A6:=by cases hb:Nat.beq x t with
    | false=>rfl
    | true=>exact absurd (Nat.eq_of_beq_eq_true hb) h
   simpa [this] using ih
theorem SEnv.keep {μ:Mu} {e:Env} {a:Act} (hs:SEnv μ e a) (l:List Nat):SEnv μ (e.keep l) a:=by
 intro t;rcases Env.get_keep e l t with h | h
 ·rw [h];exact hs t
 ·rw [h];trivial
theorem rd_some {h:B5} {id:Nat} {r:Row}:rd h id=A4 r↔h[id]?=A4 (A4 r):=by
 unfold rd;cases h[id]?<;>simp
theorem C8 {h:B5} {id:Nat} {r:Row} (hr:rd h id=A4 r):id<h.length:=by
 rw [rd_some] at hr;exact (List.getElem?_eq_some_iff.1 hr).1
theorem D9 {h g:B5} {id:Nat} (hl:id<h.length):rd (h++g) id=rd h id:=by
 unfold rd;rw [E7H hl]
theorem C5 {h g:B5} {id:Nat} {r:Row} (hr:rd h id=A4 r):rd (h++g) id=A4 r:=by
 rw [D9 (C8 hr)];exact hr
theorem C6 {h:B5} {id:Nat} {x:Option Row} (hl:id<h.length):rd (h.set id x) id=x:=by
 unfold rd;rw [List.getElem?_set_self hl];rfl
theorem B6 {h:B5} {id bF:Nat} {x:Option Row} (T8:id≠bF):rd (h.set id x) bF=rd h bF:=by
 unfold rd;rw [List.getElem?_set_ne T8]
theorem MemOk.mono {μ μ':Mu} {w w':World} {b n:Nat} {r:Row} (hr:MemOk μ w b n r) (cC:μ.le μ') (hb:w'.heap[b]?=w.heap[b]?):MemOk μ' w' b n r:=by
 obtain ⟨C,elem,fz,h1,h2,h3,h4⟩:=hr;exact ⟨C,elem,fz,by rw [hb];exact h1,h2,h3.mono λ_ _=>RL.mono cC,h4⟩
theorem RowOk.mono {μ μ':Mu} {w w':World} {id:Nat} {r:Row} (hr:RowOk μ w id r) (cC:μ.le μ') (hid:μ' id = μ id)
  (hb:∀ x,μ id=A4 x->w'.heap[x.1]?=w.heap[x.1]?):RowOk μ' w' id r:=by
 unfold RowOk at *;rw [hid];cases hm:μ id with
 | none=>rw [hm] at hr;exact hr
 | some x =>
  obtain ⟨b,n⟩:=x;rw [hm] at hr;have hb:=hb _ hm;simp only at hb;rcases hr with hr | ⟨es,E,h1,h2,h3,h4⟩ | ⟨h1,h2,h3⟩
  ·exact .inl (hr.mono cC hb)
  ·exact .inr (.inl ⟨es,E,h1,by rw [hb];exact h2,h3.mono λ_ _=>RE.mono cC,h4⟩)
  ·refine .inr (.inr ⟨h1,?_,h3⟩);have:w.heap[b]?=A4 w.heap[b]:=by simp [h2]
   rw [this] at hb;exact (Array.getElem?_eq_some_iff.1 hb).1
theorem RowOk.mem {μ:Mu} {w:World} {id:Nat} {r:Row} (hr:RowOk μ w id r) {b n:Nat} (hm:μ id=A4 (b,n)) (mD:r.rw=A5):MemOk μ w b n r:=by
 unfold RowOk at hr;rw [hm] at hr;rcases hr with hr | ⟨es,E,h1,_⟩ | ⟨h1,_⟩
 ·exact hr
 ·rw [h1] at mD;cases mD
 ·rw [h1] at mD;cases mD
theorem RowOk.seen {μ:Mu} {w:World} {id:Nat} {r:Row} (hr:RowOk μ w id r) {b n:Nat} (hm:μ id=A4 (b,n)) {c:Cell} (hc:c∈r.cells) (hx:(r.rw || !c.isX)=A5):MemOk μ w b n r:=by
 unfold RowOk at hr;rw [hm] at hr;rcases hr with hr | ⟨es,E,h1,_⟩ | ⟨h1,_,h3⟩
 ·exact hr
 ·rw [h1] at hc hx;have:=C8g es c hc;rw [this] at hx;cases hx
 ·have:=C79 (List.all_eq_true.1 h3 c hc);rw [h1,this] at hx;cases hx
theorem RowOk.cell {μ:Mu} {w:World} {id:Nat} {r:Row} (hr:RowOk μ w id r) {b n:Nat} (hm:μ id=A4 (b,n)) {off:Nat} {c:Cell} (hc:r.cells[off]?=A4 c) (hx:(r.rw || !c.isX)=A5) :
  ∃ V,w.cell? ⟨b,off,A7⟩=A4 V/\RC μ c V:=by
 obtain ⟨C,elem,fz,h1,h2,h3,h4⟩:=hr.seen hm (E7y hc) hx;obtain ⟨V,hV,hR⟩:=h3.get off c hc;refine ⟨V,?_,hR.told hx⟩;have V5:off<r.cells.length:=(List.getElem?_eq_some_iff.1 hc).1;rw [E7G V5] at hV;simp only [World.cell?,h1];simpa using hV
theorem RowOk.cells {μ:Mu} {w:World} {id:Nat} {r:Row} (hr:RowOk μ w id r) {b n:Nat} (hm:μ id=A4 (b,n)) (off k:Nat) (hk:off+k<=r.cells.length) (hx:(r.rw||noX ((r.cells.drop off).take k))=A5) :
  ∃ vs:List Value,All2 (RC μ) ((r.cells.drop off).take k) vs/\vs.length=k/\∀ j v,vs[j]?=A4 v->w.cell? ⟨b,off+j,A7⟩=A4 v:=by
 by_cases hk0:k=0
 ·subst hk0;exact ⟨[],by simp,rfl,λj v h=>by simp at h⟩
 have yA:MemOk μ w b n r:=by
  have V5:off<r.cells.length:=by omega
  refine hr.seen hm (c:=r.cells[off]) (E7J _) ?_;cases mD:r.rw with
  | true=>rfl
  | false =>
   rw [mD] at hx;simp only [Bool.false_or,noX,E70] at hx ⊢;refine hx _ ?_;obtain ⟨k',rfl⟩:∃ k',k=k'+1:=⟨k-1,by omega⟩;rw [E7d V5,List.take_succ_cons];exact E7u ..
 obtain ⟨C,elem,fz,h1,h2,h3,h4⟩:=yA;refine ⟨((C.toList.take r.cells.length).drop off).take k,RL.all ((h3.drop off).take k) hx,?_,?_⟩
 ·have:=h3.length;simp at this ⊢;omega
 ·intro j v hv;have hj:j<k:=by
   have:=(List.getElem?_eq_some_iff.1 hv).1;simp at this;omega
  rw [E7G hj,E7W,E7G (by omega)] at hv;simp only [World.cell?,h1];simpa using hv
theorem RowOk.there {μ:Mu} {w:World} {id:Nat} {r:Row} (hr:RowOk μ w id r) {b n:Nat} (hm:μ id=A4 (b,n)):∃ o,w.heap[b]?=A4 o:=by
 unfold RowOk at hr;rw [hm] at hr;rcases hr with ⟨C,elem,fz,h1,_⟩ | ⟨es,E,_,h1,_⟩ | ⟨_,h1,_⟩
 ·exact ⟨_,h1⟩
 ·exact ⟨_,h1⟩
 ·exact ⟨w.heap[b],by simp [h1]⟩
theorem D6D (e:Cell × Part) (es:W9):(A1E e).foldr C8j ([],es)=([],e::es):=by
 have hx:∀ (l:List Cell) (s:W9),(l.map Cell.hx).foldr C8j ([],s)=(l,s):=by
  intro l s
  induction l with
  | nil=>rfl
  | cons a l ih=>rw [E79,List.foldr_cons,ih];rfl
 obtain ⟨k,p⟩:=e;cases p with
 | c x=>rfl
 | a l =>
  show (Cell.hk A5 k::l.map .hx).foldr C8j ([],es)=_;rw [List.foldr_cons,hx];rfl
theorem A4y (es:W9):D3p (B54 es)=es:=by
 have:∀ es:W9,(es.flatMap A1E).foldr C8j ([],[])=([],es):=by
  intro es
  induction es with
  | nil=>rfl
  | cons e es ih=>rw [List.flatMap_cons,List.foldr_append,ih,D6D]
 show (C8j .mh ((es.flatMap A1E).foldr C8j ([],[]))).2=es;rw [this];rfl
theorem A0S (es:W9):D5d (T1 es)=A4 es:=by
 unfold D5d T1;simp [A4y]
theorem B2A {r:Row} {es:W9} (h:D5d r=A4 es):r=T1 es:=by
 unfold D5d at h;split at h
 ·rename_i hc;cases h;obtain ⟨cs,rw⟩:=r;obtain ⟨h1,h2⟩:=hc;simp only at h1 h2;subst h1;show Row.mk cs A6=⟨_,A6⟩;rw [<-h2]
 ·cases h
theorem RowOk.map {μ:Mu} {w:World} {id:Nat} {es:W9} (hr:RowOk μ w id (T1 es)) {b n:Nat} (hm:μ id=A4 (b,n)) :
  ∃ E:Array MapEntry,w.heap[b]?=A4 (.map E E.size)/\All2 (RE μ) es E.toList/\∀ (i:Nat) (e:MapEntry),E[i]?=A4 e->e.born=i:=by
 unfold RowOk at hr;rw [hm] at hr;rcases hr with ⟨C,elem,fz,h1,h2,h3,_⟩ | ⟨es',E,h1,h2,h3,h4⟩ | ⟨_,_,h1⟩
 ·exfalso;have hl:=h3.length;cases hC:C.toList.take (T1 es).cells.length with
  | nil=>rw [hC] at hl;simp [T1,B54] at hl
  | cons v vs =>
   rw [hC] at h3;rcases h3.1 with h | ⟨_,h⟩
   ·exact h
   ·cases h
 ·have:es=es':=by rw [<-A4y es,<-A4y es'];exact congrArg (λr=>D3p r.cells) h1
  subst this;exact ⟨E,h2,h3,h4⟩
 ·simp [T1,B54,Cell.isD] at h1
theorem Inv.lt {Γ:Ctx} {μ:Mu} {h:B5} {w:World} (hi:Inv Γ μ h w) {id:Nat} {r:Row} (hr:rd h id=A4 r) {x:Nat × Nat} (hx:μ id=A4 x):x.1<w.heap.size:=by
 obtain ⟨o,h1⟩:=(hi.rows id r hr).there hx;exact (Array.getElem?_eq_some_iff.1 h1).1
def Mu.add (μ:Mu) (id:Nat) (x:Nat × Nat):Mu:=λj=>if j=id then A4 x else μ j
theorem Mu.le_add {μ:Mu} {id:Nat} {x:Nat × Nat} (h:μ id=A7):μ.le (μ.add id x):=by
 intro j y hj;unfold Mu.add;by_cases e:j=id
 ·subst e;rw [h] at hj;cases hj
 ·simp [e,hj]
theorem Inv.world {Γ:Ctx} {μ:Mu} {h:B5} {w w':World} (hi:Inv Γ μ h w) (hos:w'.os=w.os) (htape:w'.tape=w.tape) (hout:w'.output=w.output)
  (hb:∀ b,b<w.heap.size->w'.heap[b]?=w.heap[b]?):Inv Γ μ h w' where
 rows id r hr:=(hi.rows id r hr).mono (Mu.le_refl _) rfl λx hx=>hb _ (hi.lt hr hx)
 sep:=hi.sep
 own:=hi.own
 dom:=hi.dom
 ctx:=⟨hos.trans hi.ctx.os,htape.trans hi.ctx.tape,hout.trans hi.ctx.output,λb o ho=>by
  have h1:=hi.ctx.block b o ho;rw [hb b (Array.getElem?_eq_some_iff.1 h1).1];exact h1⟩
theorem Inv.fresh {Γ:Ctx} {μ:Mu} {h:B5} {w w':World} (hi:Inv Γ μ h w) {id:Nat} {r:Row} {h':B5} {n:Nat}
  (hμ:μ id=A7) (hos:w'.os=w.os) (htape:w'.tape=w.tape) (hout:w'.output=w.output)
  (hb:∀ b,b<w.heap.size->w'.heap[b]?=w.heap[b]?)
  (hsame:∀ j,j≠id->∀ x,rd h' j=A4 x->rd h j=A4 x) (D0m:∀ x,rd h' id=A4 x->x=r) (hlen:h.length<=h'.length) (hid:id<h'.length)
  (hrow:RowOk (μ.add id (w.heap.size,n)) w' id r):Inv Γ (μ.add id (w.heap.size,n)) h' w' where
 rows j x hx:=by
  by_cases e:j=id
  ·subst e;rw [D0m x hx];exact hrow
  ·exact (hi.rows j x (hsame j e x hx)).mono (Mu.le_add hμ) (by simp [Mu.add,e]) λy hy=>hb _ (hi.lt (hsame j e x hx) hy)
 sep j j' x x' y y' hx hx' mD T8 hy hy':=by
  unfold Mu.add at hy hy';by_cases e:j=id
  ·subst e;have e':j'≠j:=λh=>T8 h.symm
   simp at hy;simp [e'] at hy';have:=hi.lt (hsame j' e' x' hx') hy';subst hy;show w.heap.size≠y'.1;omega
  ·simp [e] at hy;by_cases e':j'=id
   ·subst e';simp at hy';have:=hi.lt (hsame j e x hx) hy;subst hy';show y.1≠w.heap.size;omega
   ·simp [e'] at hy';exact hi.sep j j' x x' y y' (hsame j e x hx) (hsame j' e' x' hx') mD T8 hy hy'
 own j x y hx mD hy:=by
  unfold Mu.add at hy;by_cases e:j=id
  ·subst e;simp at hy;subst hy;show Γ.F w.heap.size=A7;cases hF:Γ.F w.heap.size with
   | none=>rfl
   | some o=>have:=(Array.getElem?_eq_some_iff.1 (hi.ctx.block _ _ hF)).1;omega
  ·simp [e] at hy;exact hi.own j x y (hsame j e x hx) mD hy
 dom j hj:=by
  have e:j≠id:=by omega
  simp only [Mu.add,e,if_false];exact hi.dom j (by omega)
 ctx:=⟨hos.trans hi.ctx.os,htape.trans hi.ctx.tape,hout.trans hi.ctx.output,λb o ho=>by
  have h1:=hi.ctx.block b o ho;rw [hb b (Array.getElem?_eq_some_iff.1 h1).1];exact h1⟩
theorem Inv.turn {Γ:Ctx} {μ:Mu} {h:B5} {w w':World} (hi:Inv Γ μ h w) {id:Nat} {r r':Row} {b n:Nat} (hr:rd h id=A4 r) (mD:r.own=A5) (E6r:r'.own=A5) (hμ:μ id=A4 (b,n))
  (hos:w'.os=w.os) (htape:w'.tape=w.tape) (hout:w'.output=w.output) (hb:∀ b',b'≠b->w'.heap[b']?=w.heap[b']?)
  (hrow:RowOk μ w' id r'):Inv Γ μ (h.set id (A4 r')) w' where
 rows j x hx:=by
  by_cases e:j=id
  ·subst e;rw [C6 (C8 hr)] at hx;cases hx;exact hrow
  ·rw [B6 (Ne.symm e)] at hx;exact (hi.rows j x hx).mono (Mu.le_refl _) rfl λy hy=>hb _ (Ne.symm (hi.sep id j r x (b,n) y hr hx mD (Ne.symm e) hμ hy))
 sep j j' x x' y y' hx hx' hxw T8 hy hy':=by
  have get:∀ i z,rd (h.set id (A4 r')) i=A4 z->z.own=A5->∃ z',rd h i=A4 z'/\z'.own=A5:=by
   intro i z hz hzw;by_cases e:i=id
   ·subst e;exact ⟨r,hr,mD⟩
   ·rw [B6 (Ne.symm e)] at hz;exact ⟨z,hz,hzw⟩
  have get':∀ i z,rd (h.set id (A4 r')) i=A4 z->∃ z',rd h i=A4 z':=by
   intro i z hz;by_cases e:i=id
   ·subst e;exact ⟨r,hr⟩
   ·rw [B6 (Ne.symm e)] at hz;exact ⟨z,hz⟩
  obtain ⟨z,hz,hzw⟩:=get j x hx hxw;obtain ⟨z',hz'⟩:=get' j' x' hx';exact hi.sep j j' z z' y y' hz hz' hzw T8 hy hy'
 own j x y hx hxw hy:=by
  by_cases e:j=id
  ·subst e;exact hi.own j r y hr mD hy
  ·rw [B6 (Ne.symm e)] at hx;exact hi.own j x y hx hxw hy
 dom j hj:=hi.dom j (by simpa using hj)
 ctx:=⟨hos.trans hi.ctx.os,htape.trans hi.ctx.tape,hout.trans hi.ctx.output,λb' o ho=>by
  have T8:b'≠b:=by
   intro e;subst e;have:=hi.own id r (b',n) hr mD hμ;simp at this;rw [ho] at this;cases this
  rw [hb b' T8];exact hi.ctx.block b' o ho⟩
theorem Inv.write {Γ:Ctx} {μ:Mu} {h:B5} {w w':World} (hi:Inv Γ μ h w) {id:Nat} {r:Row} {b n:Nat} {cs:List Cell} (hr:rd h id=A4 r) (mD:r.rw=A5) (hμ:μ id=A4 (b,n))
  (hos:w'.os=w.os) (htape:w'.tape=w.tape) (hout:w'.output=w.output) (hb:∀ b',b'≠b->w'.heap[b']?=w.heap[b']?)
  (hrow:RowOk μ w' id ⟨cs,A5⟩):Inv Γ μ (h.set id (A4 ⟨cs,A5⟩)) w' :=
 hi.turn hr (Row.own_rw mD) rfl hμ hos htape hout hb hrow
def kM (P:Program) (t:TypeId):Option Bool :=
 match P.underlying t with
 | some (.struct _)=>A4 A5
 | some (.array _ _)=>A4 A5
 | some _=>A4 A6
 | none=>A7
def R4 (P:Program) (t:TypeId):Option Nat:=(P.info? t).map (·.size)
def C7e (P:Program) (t:TypeId):Option Nat:=(P.info? t).map (·.bytes)
def yL (P:Program) (t:TypeId):Option Value:=(P.info? t).bind (·.zero)
def sliceB (P:Program) (t:TypeId):Option TypeId:=match P.underlying t with | some (.slice e)=>A4 e | _=>A7
def oV (P:Program) (t:TypeId):Option (Nat × TypeId):=match P.underlying t with | some (.array n e)=>A4 (n,e) | _=>A7
def A3f (P:Program) (t:TypeId):Option (Array Field):=match P.underlying t with | some (.struct fs)=>A4 fs | _=>A7
def cD (P:Program) (t:TypeId):Bool:=match P.underlying t with | some .string=>A5 | _=>A6
def B52 (P:Program) (t:TypeId):Option IntKind:=match P.underlying t with | some (.int k)=>A4 k | _=>A7
section
variable {P:Program} {w:World} {t:TypeId}
theorem F5 {d:TypeDesc} (h:P.underlying t=A4 d):(underlying t).run P w=.ok d w:=by simp [underlying,h]
theorem Q4 {n:Nat} (h:R4 P t=A4 n):(sizeOf t).run P w=.ok n w:=by
 unfold R4 at h;cases hi:P.info? t with
 | none=>simp [hi] at h
 | some i=>simp [hi] at h;simp [sizeOf,typeInfo,hi,h]
theorem D87 {n:Nat} (h:C7e P t=A4 n):∃ i:TypeInfo,(typeInfo t).run P w=.ok i w/\i.bytes=n:=by
 unfold C7e at h;cases hi:P.info? t with
 | none=>simp [hi] at h
 | some i=>simp [hi] at h;exact ⟨i,by simp [typeInfo,hi],h⟩
theorem yI {v:Value} (h:yL P t=A4 v):(zeroValue t).run P w=.ok v w:=by
 unfold yL at h;cases hi:P.info? t with
 | none=>simp [hi] at h
 | some i=>simp [hi] at h;simp [zeroValue,typeInfo,hi,h]
theorem B2G {b:Bool} (h:kM P t=A4 b):(isAgg t).run P w=.ok b w:=by
 unfold kM at h;cases hu:P.underlying t with
 | none=>simp [hu] at h
 | some d=>cases d<;>simp [hu] at h<;>subst h<;>simp [isAgg,F5 hu]
theorem P6 {e:TypeId} (h:sliceB P t=A4 e):P.underlying t=A4 (.slice e):=by
 unfold sliceB at h;cases hu:P.underlying t with
 | none=>simp [hu] at h
 | some d=>cases d<;>simp_all
theorem oW {n:Nat} {e:TypeId} (h:oV P t=A4 (n,e)):P.underlying t=A4 (.array n e):=by
 unfold oV at h;cases hu:P.underlying t with
 | none=>simp [hu] at h
 | some d=>cases d<;>simp_all
theorem A3g {fs:Array Field} (h:A3f P t=A4 fs):P.underlying t=A4 (.struct fs):=by
 unfold A3f at h;cases hu:P.underlying t with
 | none=>simp [hu] at h
 | some d=>cases d<;>simp_all
theorem mC (h:cD P t=A5):P.underlying t=A4 .string:=by
 unfold cD at h;cases hu:P.underlying t with
 | none=>simp [hu] at h
 | some d=>cases d<;>simp_all
theorem A5I {k:IntKind} (h:B52 P t=A4 k):P.underlying t=A4 (.int k):=by
 unfold B52 at h;cases hu:P.underlying t with
 | none=>simp [hu] at h
 | some d=>cases d<;>simp_all
end
def C4L:Value->Cell->Bool
 | .bool b,.b x=>b==x
 | .int k n,.i k' n'=>decide (k=k')&&decide (n=n')
 | .string s,.s l=>decide (s.data.toList=l)
 | .slice A7 0 0,.ns=>A5
 | .nilFunc,.nf=>A5
 | .pointer A7,.np=>A5
 | .map A7,.nm=>A5
 | .func (.func f) _ cs,.f g l=>decide (f=g)&&l.isEmpty&&cs.isEmpty
 | _,_=>A6
def A1A:List Value->List Cell->Bool
 | [],[]=>A5
 | v::r,c::l=>C4L v c&&A1A r l
 | _,_=>A6
def C7j:Value->Val->Bool
 | .agg vs,.a l=>A1A vs.toList l
 | .tuple vs,.un=>vs.isEmpty
 | v,.c x=>C4L v x
 | _,_=>A6
def vG:Value->Bool
 | .func _ f _=>f.isEmpty
 | _=>A5
def D9V:Operand->Opd->Bool
 | .tmp t,.t n=>decide (t=n)
 | .const v,.v x=>C7j v x&&vG v
 | .func f,.v (.c (.f g []))=>decide (f=g)
 | _,_=>A6
theorem C7i {μ:Mu} {v:Value} {c:Cell} (h:C4L v c=A5) (hf:vG v=A5):RC μ c v:=by
 unfold C4L at h;split at h<;>simp_all [RC,vG]
 all_goals first
  | (obtain ⟨s⟩:=‹ByteArray›;rename_i wR;simp [<-wR];done)
  | skip
 ·subst h;rfl
def C8m:Value->Bool
 | .func ..=>A6
 | _=>A5
theorem D0i {v:Value} (h:C8m v=A5):vG v=A5:=by cases v<;>simp_all [C8m,vG]
theorem B02 {μ:Mu}:∀ {vs:List Value} {l:List Cell},A1A vs l=A5->vs.all C8m=A5->All2 (RC μ) l vs
 | [],[],_,_=>trivial
 | v::r,c::l,h,hn=>by
  simp [A1A] at h;simp at hn;exact ⟨C7i h.1 (D0i hn.1),B02 h.2 (by simpa using hn.2)⟩
 | [],_::_,h,_=>by simp [A1A] at h
 | _::_,[],h,_=>by simp [A1A] at h
def jU (v:Value) (l:List Cell):Bool:=A1A v.cells.toList l&&v.cells.toList.all C8m
theorem gQ {μ:Mu} {v:Value} {l:List Cell} (h:jU v l=A5):All2 (RC μ) l v.cells.toList:=by
 simp only [jU,E69] at h;exact B02 h.1 h.2
def D1f:Value->Bool
 | .agg vs=>vs.toList.all C8m
 | _=>A5
theorem D4B {μ:Mu} {v:Value} {x:Val} (h:C7j v x=A5) (hf:vG v=A5) (ha:D1f v=A5):RV μ x v:=by
 unfold C7j at h;split at h
 ·rename_i vs l;exact ⟨vs.toList,by simp,B02 h ha⟩
 ·trivial
 ·exact C7i h hf
 ·cases h
def E7 (x:Operand) (y:Opd):Bool:=D9V x y&&(match x with | .const v=>D1f v | _=>A5)
theorem D6 {μ:Mu} {e:Env} {a:Act} {x:Operand} {y:Opd} (h:E7 x y=A5) (hs:SEnv μ e a):RV μ (e.ev y) (a.eval x):=by
 simp only [E7,E69] at h;obtain ⟨h,ha⟩:=h;unfold D9V at h;split at h
 ·simp at h;subst h;exact hs _
 ·simp at h;exact D4B h.1 h.2 ha
 ·simp at h;subst h;exact ⟨[],rfl,trivial⟩
 ·cases h
def A2S:List Operand->List Opd->Bool
 | [],[]=>A5
 | x::r,y::l=>E7 x y&&A2S r l
 | _,_=>A6
theorem A7l {μ:Mu} {e:Env} {a:Act} (hs:SEnv μ e a):∀ {xs:List Operand} {ys:List Opd},A2S xs ys=A5->All2 (RV μ) (ys.map e.ev) (xs.map a.eval)
 | [],[],_=>trivial
 | x::r,y::l,h=>by simp [A2S] at h;exact ⟨D6 h.1 hs,A7l hs h.2⟩
 | [],_::_,h=>by simp [A2S] at h
 | _::_,[],h=>by simp [A2S] at h
def B04:Option Operand->Option Opd->Bool
 | none,none=>A5
 | some x,A4 y=>E7 x y
 | _,_=>A6
section
variable {P:Program} {μ:Mu} {w:World}
theorem D4w:∀ (x y:List UInt8),Op.bytesLess x y=M7 x y
 | _,[]=>by cases ‹List UInt8› <;> rfl
 | [],_::_=>rfl
 | a::x,b::y=>by simp [Op.bytesLess,M7,D4w x y]
theorem E2N {op:BinOp} {xt:TypeId} {x y v:Val} {X Y:Value} (hx:RV μ x X) (hy:RV μ y Y) (h:O4 op x y=A4 v) :
  ∃ V,(binOp op xt X Y).run P w=.ok V w/\RV μ v V:=by
 unfold O4 at h;split at h
 ·rename_i k a k' b;have hX:X=.int k a:=hx;have hY:Y=.int k' b:=hy;subst hX hY;have key:∀ o,o≠BinOp.shl->o≠BinOp.shr->∀ v,(bif decide (k=k') then (B1B o k a b).map Val.c else A7)=A4 v->∃ V,(binOp o xt (.int k a) (.int k' b)).run P w=.ok V w/\RV μ v V:=by
   intro o h1 h2 v hv;by_cases hk:k=k'
   ·subst hk;simp at hv;obtain ⟨c,hc,rfl⟩:=hv;cases o<;>simp only [B1B] at hc<;>(try cases hc) <;>
     first
      | exact ⟨_,by simp [binOp,Op.intArith,Op.intBits,Op.intCmp],rfl⟩
      | (split at hc<;>cases hc;rename_i hb;exact ⟨_,by simp [binOp,Op.intDiv,hb],rfl⟩)
      | skip
   ·simp [hk] at hv
  split at h
  ·unfold E4g at h;split at h
   ·simp at h
   ·simp at h;subst h;rename_i hb;refine ⟨.int k (k.wrap (a*2 ^ (Nat.min b.toNat k.bits))),?_,rfl⟩;simp [binOp,Op.shift,hb,Nat.min_def]
  ·unfold E4h at h;split at h
   ·simp at h
   ·simp at h;subst h;rename_i hb;refine ⟨.int k (a.fdiv (2 ^ (Nat.min b.toNat k.bits))),?_,rfl⟩;simp [binOp,Op.shift,hb,Nat.min_def]
  ·rename_i h1 h2;exact key op h1 h2 v h
 ·rename_i a b;have hX:X=.string ⟨a.toArray⟩:=hx;have hY:Y=.string ⟨b.toArray⟩:=hy;subst hX hY;simp only [E7q] at h;obtain ⟨c,hc,rfl⟩:=h;cases op<;>simp only [E1w] at hc<;>(try cases hc)
  ·split at hc<;>cases hc
   rename_i hl;refine ⟨.string (⟨a.toArray⟩++⟨b.toArray⟩),?_,?_⟩
   ·have:¬ (((ByteArray.mk a.toArray).size+(ByteArray.mk b.toArray).size:Nat):Int) > IntKind.i64.max:=by
     show ¬ ((a.toArray.size+b.toArray.size:Nat):Int) > 9223372036854775807;simp;omega
    simp [binOp,Op.stringOp] at this ⊢;exact this
   ·show Value.string _=Value.string _
    congr 1
  all_goals exact ⟨_,rfl,by simp [RV,RC,ByteArray.toList_mk,D4w]⟩
 ·cases h
def D3f (P:Program) (fn:Bool) (t:TypeId) (c:Value):Bool :=
 match fn,P.underlying t,c with
 | true,A4 (.func ..),.nilFunc=>A5
 | false,A4 (.pointer _),.pointer none=>A5
 | _,_,_=>A6
theorem D8E {fn:Bool} {t:TypeId} {c:Value} (h:D3f P fn t c=A5):(fn=A5/\(∃ a b d,P.underlying t=A4 (.func a b d))/\c=.nilFunc)\/(fn=A6/\(∃ a,P.underlying t=A4 (.pointer a))/\c=.pointer A7):=by
 unfold D3f at h;split at h
 ·rename_i h2;exact .inl ⟨rfl,⟨_,_,_,h2⟩,rfl⟩
 ·rename_i h2;exact .inr ⟨rfl,⟨_,h2⟩,rfl⟩
 ·cases h
theorem C7C {xt:TypeId} {a b:Bool} (hu:P.underlying xt=A4 .bool):(Op.equal xt (.bool a) (.bool b)).run P w=.ok (a==b) w:=by
 unfold Op.equal;rw [show Op.maxDepth=9999+1 from rfl];unfold Op.equalIn;simp only [Sem.run_bind,F5 hu,Result.andThen_ok];rfl
theorem E2Q {neg:Bool} {xt:TypeId} {x y v:Val} {X Y:Value} (hu:P.underlying xt=A4 .bool) (hx:RV μ x X) (hy:RV μ y Y) (h:D53 neg x y=A4 v) :
  ∃ V,(binOp (bif neg then .neq else .eql) xt X Y).run P w=.ok V w/\RV μ v V:=by
 unfold D53 at h;split at h
 ·rename_i a b;have hX:X=.bool a:=hx;have hY:Y=.bool b:=hy;subst hX hY;cases h;cases neg
  ·exact ⟨_,by show (Op.equal xt (.bool a) (.bool b) >>= λr=>pure (Value.bool r)).run P w=_;rw [Sem.run_bind,C7C hu];rfl,rfl⟩
  ·exact ⟨_,by show (Op.equal xt (.bool a) (.bool b) >>= λr=>pure (Value.bool !r)).run P w=_;rw [Sem.run_bind,C7C hu];rfl,rfl⟩
 ·cases h
theorem E2R {fn neg:Bool} {xt:TypeId} {x v:Val} {X c:Value} (hu:D3f P fn xt c=A5) (hx:RV μ x X) (h:D2P fn neg x=A4 v) :
  ∃ V,(binOp (bif neg then .neq else .eql) xt X c).run P w=.ok V w/\RV μ v V:=by
 unfold D2P at h;have one:∀ (r:Bool),(binOp (bif neg then .neq else .eql) xt X c=(Op.equal xt X c >>= λr=>pure (Value.bool (bif neg then !r else r))))->(Op.equal xt X c).run P w=.ok r w->(binOp (bif neg then .neq else .eql) xt X c).run P w=.ok (.bool (bif neg then !r else r)) w:=by
  intro r e1 he;rw [e1,Sem.run_bind,he];rfl
 rcases D8E hu with ⟨rfl,⟨a,b,d,h2⟩,rfl⟩ | ⟨rfl,⟨a,h2⟩,rfl⟩
 ·have eq:∀ (r:Bool),((X=.nilFunc/\r=A5)\/(∃ g cs,X=.func (.func g) #[] cs/\r=A6))->(Op.equal xt X .nilFunc).run P w=.ok r w:=by
   intro r h;unfold Op.equal;rw [show Op.maxDepth=9999+1 from rfl];unfold Op.equalIn;rcases h with ⟨rfl,rfl⟩ | ⟨g,cs,rfl,rfl⟩<;>simp only [Sem.run_bind,F5 h2,Result.andThen_ok]<;>rfl
  split at h
  ·cases h;have hX:X=.nilFunc:=hx;subst hX;exact ⟨_,one A5 (by cases neg<;>rfl) (eq A5 (.inl ⟨rfl,rfl⟩)),by cases neg<;>rfl⟩
  ·cases h;obtain ⟨cs,hX,_⟩:=hx;subst hX;exact ⟨_,one A6 (by cases neg<;>rfl) (eq A6 (.inr ⟨_,_,rfl,rfl⟩)),by cases neg<;>rfl⟩
  ·rename_i h3;cases h3
  ·rename_i h3;cases h3
  ·cases h
 ·have eq:∀ (r:Bool),((X=.pointer A7/\r=A5)\/(∃ q,X=.pointer (A4 q)/\r=A6))->(Op.equal xt X (.pointer A7)).run P w=.ok r w:=by
   intro r h;unfold Op.equal;rw [show Op.maxDepth=9999+1 from rfl];unfold Op.equalIn;rcases h with ⟨rfl,rfl⟩ | ⟨q,rfl,rfl⟩<;>simp only [Sem.run_bind,F5 h2,Result.andThen_ok]<;>rfl
  split at h
  ·rename_i h3;cases h3
  ·rename_i h3;cases h3
  ·cases h;have hX:X=.pointer A7:=hx;subst hX;exact ⟨_,one A5 (by cases neg<;>rfl) (eq A5 (.inl ⟨rfl,rfl⟩)),by cases neg<;>rfl⟩
  ·cases h;obtain ⟨b,n,_,hX⟩:=hx;subst hX;exact ⟨_,one A6 (by cases neg<;>rfl) (eq A6 (.inr ⟨_,rfl,rfl⟩)),by cases neg<;>rfl⟩
  ·cases h
theorem E4F {op:UnOp} {x v:Val} {X:Value} (hx:RV μ x X) (h:aun op x=A4 v):∃ V,(Op.unary op X).run P w=.ok V w/\RV μ v V:=by
 unfold aun at h;split at h<;>cases h<;>cases hx<;>exact ⟨_,rfl,rfl⟩
theorem kL (b off k:Nat):(⟨b,off,A7⟩:Addr).add k=⟨b,off+k,A7⟩:=by
 unfold Addr.add;split<;>simp_all
theorem D2a {t:TypeId} {hp:B5} {a v:Val} {A:Value} (oC:kM P t=A4 A6) (hrow:∀ id r,rd hp id=A4 r->RowOk μ w id r)
  (ha:RV μ a A) (h:B8 hp a=A4 v):∃ V,(Instr.loadAt t A).run P w=.ok V w/\RV μ v V:=by
 unfold B8 at h;split at h
 ·rename_i id off;obtain ⟨b,n,hm,rfl⟩:=ha;simp only [E67] at h;obtain ⟨r,hr,c,hc,h⟩:=h;cases hx:(r.rw || !c.isX) with
  | false=>rw [hx] at h;cases h
  | true =>
  rw [hx] at h;cases h;obtain ⟨V,hV,hR⟩:=(hrow id r hr).cell hm hc hx;refine ⟨V,?_,hR⟩;simp [Instr.loadAt,Instr.sureAddr,loadVar,B2G oC,hV]
 ·cases h
theorem D2b {t:TypeId} {hp:B5} {a v:Val} {A:Value} {k:Nat} (oC:kM P t=A4 A5) (hsz:R4 P t=A4 k) (hrow:∀ id r,rd hp id=A4 r->RowOk μ w id r)
  (ha:RV μ a A) (h:D4 hp k a=A4 v):∃ V,(Instr.loadAt t A).run P w=.ok V w/\RV μ v V:=by
 unfold D4 at h;split at h
 ·rename_i id off;obtain ⟨b,n,hm,rfl⟩:=ha;simp only [E67] at h;obtain ⟨r,hr,h⟩:=h;split at h
  ·cases h;rename_i hk;obtain ⟨vs,h1,h2,h3⟩:=(hrow id r hr).cells hm off k hk.1 hk.2;refine ⟨.agg vs.toArray,?_,vs,rfl,h1⟩;have hl:=run_loadCells_list (P:=P) w ⟨b,off,A7⟩ vs (λj v hv=>by rw [kL];exact h3 j v hv);rw [h2] at hl;simp [Instr.loadAt,Instr.sureAddr,loadVar,B2G oC,Q4 hsz,hl]
  ·cases h
 ·cases h
theorem A4E (b:Nat):∀ (vs:List Value) (o:Nat) (w:World) (C:Array Value) (t:TypeId) (fz:Nat × Nat),w.heap[b]?=A4 (.cells C t fz)->o+vs.length<=C.size ->
  ∃ C':Array Value,(w.setCells b o vs).heap[b]?=A4 (.cells C' t fz)/\C'.toList=C.toList.take o++(vs++C.toList.drop (o+vs.length))
 | [],o,w,C,t,fz,h,hl=>⟨C,h,by simp⟩
 | v::r,o,w,C,t,fz,h,hl=>by
  simp only [E7g] at hl;have h1:(w.setCell ⟨b,o,A7⟩ v).heap[b]?=A4 (.cells (C.setIfInBounds o v) t fz):=by
   simp only [World.setCell,Array.getElem?_modify,if_true,h,Option.map_some];simp
  obtain ⟨C',h2,h3⟩:=A4E b r (o+1) (w.setCell ⟨b,o,A7⟩ v) (C.setIfInBounds o v) t fz h1 (by simp;omega);refine ⟨C',h2,?_⟩;rw [h3];have ho:o<C.toList.length:=by simp;omega
  simp only [Array.toList_setIfInBounds];rw [List.drop_set_of_lt (by omega),E7g,show o+1+r.length=o+(r.length+1) by omega];rw [List.take_set,List.take_add_one,List.set_append];have hm:min o C.size=o:=E73 (by simp at ho;omega);simp [E66 ho,hm]
theorem A1T (b:Nat):∀ (vs:List Value) (o:Nat) (w:World) (b':Nat),b'≠b->(w.setCells b o vs).heap[b']?=w.heap[b']?
 | [],_,_,_,_=>rfl
 | v::r,o,w,b',h=>by
  rw [World.setCells,A1T b r (o+1) _ b' h];simp [World.setCell,Array.getElem?_modify,Ne.symm h]
theorem B2a (b:Nat):∀ (vs:List Value) (o:Nat) (w:World),(w.setCells b o vs).os=w.os/\(w.setCells b o vs).tape=w.tape/\(w.setCells b o vs).output=w.output
 | [],_,_=>⟨rfl,rfl,rfl⟩
 | v::r,o,w=>by rw [World.setCells];exact B2a b r (o+1) _
theorem All2.lay {μ:Mu} {cs xs:List Cell} {off:Nat} {Cs vs:List Value} (h:All2 (RC μ) cs (Cs.take cs.length)) (hx:All2 (RC μ) xs vs) (hl:off+xs.length<=cs.length) :
  All2 (RC μ) (lay cs off xs) ((Cs.take off++(vs++Cs.drop (off+vs.length))).take (lay cs off xs).length):=by
 have hlen:=h.length;have hxl:=hx.length;have hL:(Esc.lay cs off xs).length=cs.length:=by simp [Esc.lay];omega
 rw [hL];have e:(Cs.take off++(vs++Cs.drop (off+vs.length))).take cs.length=(Cs.take cs.length).take off++(vs++(Cs.take cs.length).drop (off+vs.length)):=by
  have h1:cs.length<=Cs.length:=by simp at hlen;omega
  rw [List.take_append,List.take_append,List.take_take,List.take_take,E7A,List.drop_take,E73 (by omega:off<=cs.length),Nat.min_eq_right (by omega:off<=cs.length),E73 (by omega:off<=Cs.length)];rw [E7i (by omega:vs.length<=cs.length-off)]
  congr 3
  omega
 rw [e];unfold Esc.lay;rw [<-hxl];exact (h.take off).append (hx.append (h.drop _))
theorem C82 {Γ:Ctx} {h:B5} {id off b n:Nat} {r:Row} {xs:List Cell} {vs:List Value} (hi:Inv Γ μ h w) (hr:rd h id=A4 r) (mD:r.rw=A5) (hm:μ id=A4 (b,n))
  (hx:All2 (RC μ) xs vs) (hl:off+xs.length<=r.cells.length) :
  (storeCells ⟨b,off,A7⟩ vs).run P w=.ok () (w.setCells b off vs)/\Inv Γ μ (h.set id (A4 ⟨lay r.cells off xs,A5⟩)) (w.setCells b off vs):=by
 obtain ⟨C,elem,fz,h1,h2,h3,h4⟩:=(hi.rows id r hr).mem hm mD
 replace h3:=RL.all h3 (by rw [mD];rfl)
 have hlen:=h3.length;have hxl:=hx.length;simp at hlen;have A5E:∀ j,j<vs.length->(w.cell? ⟨b,off+0+j,A7⟩).isSome=A5:=by
  intro j hj;simp only [World.cell?,h1];simp;omega
 have hfz:∀ j,j<vs.length->w.frozen? ⟨b,off+0+j,A7⟩=A6:=by
  intro j hj;simp only [World.frozen?,h1];obtain ⟨lo,hi'⟩:=fz;rcases h4 mD with h4 | h4<;>simp at h4 ⊢ <;> omega
 have h1c:∀ v∈vs,v.oneCell'=A5:=by
  intro v hv;obtain ⟨i,V5,rfl⟩:=List.getElem_of_mem hv;have:i<xs.length:=by omega
  obtain ⟨V,hV,hR⟩:=hx.get i xs[i] (by simp [this]);rw [E66 V5] at hV;cases hV;exact hR.one
 refine ⟨by simpa using run_storeCells_cells (P:=P) b off vs 0 w A5E hfz h1c,?_⟩;obtain ⟨C',h5,h6⟩:=A4E b vs off w C elem fz h1 (by omega);obtain ⟨ho,ht,hou⟩:=B2a b vs off w;refine hi.write hr mD hm ho ht hou (λb' hb=>A1T b vs off w b' hb) ?_;unfold RowOk;rw [hm];refine .inl ⟨C',elem,fz,h5,?_,?_,λ_=>h4 mD⟩
 ·have:=congrArg List.length h6;simp at this;omega
 ·rw [h6];exact (All2.lay h3 hx hl).mono λ_ _=>.inl
theorem D60 {Γ:Ctx} {t:TypeId} {h h':B5} {a x:Val} {A X:Value} (hsz:R4 P t=A4 1) (hi:Inv Γ μ h w) (ha:RV μ a A) (hx:RV μ x X) (hh:I3 h a x=A4 h') :
  ∃ w',(Instr.storeAt t A X).run P w=.ok () w'/\Inv Γ μ h' w':=by
 unfold I3 at hh;split at hh
 ·rename_i id off c;obtain ⟨b,n,hm,rfl⟩:=ha;simp only [E67] at hh;obtain ⟨r,hr,hh⟩:=hh;split at hh
  ·cases hh;rename_i hc;have B8j:X.cells = #[X]:=RC.cells hx;have:=C82 (P:=P) hi hr hc.1 hm (off:=off) (xs:=[c]) (vs:=[X]) ⟨hx,trivial⟩ (by simp;omega);refine ⟨w.setCells b off [X],?_,?_⟩
   ·simp [Instr.storeAt,Instr.sureAddr,storeVar,B8j,Q4 hsz,this.1]
   ·have e:lay r.cells off [c]=r.cells.set off c:=by
     simp [lay,List.set_eq_take_append_cons_drop,hc.2]
    rw [<-e];exact this.2
  ·cases hh
 ·cases hh
theorem D61 {Γ:Ctx} {t:TypeId} {h h':B5} {a x:Val} {A X:Value} {k:Nat} (hsz:R4 P t=A4 k) (hi:Inv Γ μ h w) (ha:RV μ a A) (hx:RV μ x X) (hh:E6 h k a x=A4 h') :
  ∃ w',(Instr.storeAt t A X).run P w=.ok () w'/\Inv Γ μ h' w':=by
 unfold E6 at hh;split at hh
 ·rename_i id off xs;obtain ⟨b,n,hm,rfl⟩:=ha;obtain ⟨vs,rfl,hvs⟩:=hx;simp only [E67] at hh;obtain ⟨r,hr,hh⟩:=hh;split at hh
  ·cases hh;rename_i hc;have:=C82 (P:=P) hi hr hc.1 hm (off:=off) hvs (by omega);refine ⟨w.setCells b off vs,?_,this.2⟩;have hl:=hvs.length;have hk:vs.length=k:=by omega
   simp [Instr.storeAt,Instr.sureAddr,storeVar,Value.cells,Q4 hsz,hk,this.1]
  ·cases hh
 ·cases hh
end
section
variable {P:Program} {μ:Mu} {w:World}
theorem E2S {x v:Val} {X:Value} {k:Nat} (hx:RV μ x X) (h:D56 x k=A4 v):∃ V,(Instr.extract X k).run P w=.ok V w/\RV μ v V:=by
 unfold D56 at h;split at h
 ·rename_i l;obtain ⟨vs,rfl,hvs⟩:=hx;simp only [E7q] at h;obtain ⟨p,hp,rfl⟩:=h;obtain ⟨V,hV,hR⟩:=hvs.get k p hp;exact ⟨V,by simp [Instr.extract,hV],RV.ofPart hR⟩
 ·cases h
theorem D2c {t:TypeId} {l:List Cell} {vs:List Value} {off:Nat} {c:Cell} (oC:kM P t=A4 A6) (hvs:All2 (RC μ) l vs) (h:l[off]?=A4 c) :
  ∃ V,(part t vs.toArray off).run P w=.ok V w/\RC μ c V:=by
 obtain ⟨V,hV,hR⟩:=hvs.get off c h;exact ⟨V,by simp [part,B2G oC,hV],hR⟩
theorem D2d {t:TypeId} {l:List Cell} {vs:List Value} {off n:Nat} (oC:kM P t=A4 A5) (hsz:R4 P t=A4 n) (hvs:All2 (RC μ) l vs) (h:off+n<=l.length) :
  ∃ V,(part t vs.toArray off).run P w=.ok V w/\RV μ (.a ((l.drop off).take n)) V:=by
 refine ⟨.agg (vs.toArray.extract off (off+n)),by simp [part,B2G oC,Q4 hsz],(vs.drop off).take n,?_,(hvs.drop off).take n⟩
 congr 1
 apply Array.ext';simp [List.take_drop]
theorem E1n {s:TypeId} {fs:Array Field} {f:Field} {j:Nat} {x v:Val} {X:Value} (hs:A3f P s=A4 fs) (hf:fs[j]?=A4 f) (oC:kM P f.type=A4 A6)
  (hx:RV μ x X) (h:C2u x f.offset=A4 v):∃ V,(Instr.field s X j).run P w=.ok V w/\RV μ v V:=by
 unfold C2u at h;split at h
 ·rename_i l;obtain ⟨vs,rfl,hvs⟩:=hx;simp only [E7q] at h;obtain ⟨c,hc,rfl⟩:=h;obtain ⟨V,hV,hR⟩:=D2c (P:=P) (w:=w) oC hvs hc;exact ⟨V,by simp [Instr.field,F5 (A3g hs),hf,asAgg,hV],hR⟩
 ·cases h
theorem E1o {s:TypeId} {fs:Array Field} {f:Field} {j n:Nat} {x v:Val} {X:Value} (hs:A3f P s=A4 fs) (hf:fs[j]?=A4 f) (oC:kM P f.type=A4 A5) (hsz:R4 P f.type=A4 n)
  (hx:RV μ x X) (h:D7g x f.offset n=A4 v):∃ V,(Instr.field s X j).run P w=.ok V w/\RV μ v V:=by
 unfold D7g at h;split at h
 ·rename_i l;obtain ⟨vs,rfl,hvs⟩:=hx;split at h
  ·cases h;rename_i hl;obtain ⟨V,hV,hR⟩:=D2d (P:=P) (w:=w) oC hsz hvs hl;exact ⟨V,by simp [Instr.field,F5 (A3g hs),hf,asAgg,hV],hR⟩
  ·cases h
 ·cases h
theorem D9a {t e:TypeId} {n:Nat} {x i v:Val} {X I:Value} (ha:oV P t=A4 (n,e)) (oC:kM P e=A4 A6) (hsz:R4 P e=A4 1)
  (hx:RV μ x X) (hi:RV μ i I) (h:A4c n x i=A4 v):∃ V,(Instr.index t X I).run P w=.ok V w/\RV μ v V:=by
 unfold A4c at h;split at h
 ·rename_i l k j;obtain ⟨vs,rfl,hvs⟩:=hx;have hI:I=.int k j:=hi;subst hI;split at h
  ·rename_i hj;simp only [E7q] at h;obtain ⟨c,hc,rfl⟩:=h;obtain ⟨V,hV,hR⟩:=D2c (P:=P) (w:=w) oC hvs hc;exact ⟨V,by simp [Instr.index,F5 (oW ha),asIntOf,hj,Q4 hsz,hV],hR⟩
  ·cases h
 ·cases h
theorem D9b {t e:TypeId} {n sz:Nat} {x i v:Val} {X I:Value} (ha:oV P t=A4 (n,e)) (oC:kM P e=A4 A5) (hsz:R4 P e=A4 sz)
  (hx:RV μ x X) (hi:RV μ i I) (h:D2Q n sz x i=A4 v):∃ V,(Instr.index t X I).run P w=.ok V w/\RV μ v V:=by
 unfold D2Q at h;split at h
 ·rename_i l k j;obtain ⟨vs,rfl,hvs⟩:=hx;have hI:I=.int k j:=hi;subst hI;split at h
  ·rename_i hj;cases h;obtain ⟨V,hV,hR⟩:=D2d (P:=P) (w:=w) oC hsz hvs hj.2.2;exact ⟨V,by simp [Instr.index,F5 (oW ha),asIntOf,hj.1,hj.2.1,Q4 hsz,hV],hR⟩
  ·cases h
 ·cases h
theorem E1p {t:TypeId} {x i v:Val} {X I:Value} (ht:cD P t=A5) (hx:RV μ x X) (hi:RV μ i I) (h:C62 x i=A4 v) :
  ∃ V,(Instr.index t X I).run P w=.ok V w/\RV μ v V:=by
 unfold C62 at h;split at h
 ·rename_i s k j;have hX:X=.string ⟨s.toArray⟩:=hx;have hI:I=.int k j:=hi;subst hX hI;split at h
  ·rename_i hj;simp only [E7q] at h;obtain ⟨b,hb,rfl⟩:=h;refine ⟨.int .u8 b.toNat,?_,rfl⟩;have:(ByteArray.mk s.toArray)[j.toNat]?=A4 b:=by
    have V5:=(List.getElem?_eq_some_iff.1 hb).1;have hsz:j.toNat<(ByteArray.mk s.toArray).size:=by show j.toNat<s.toArray.size;simpa using V5
    rw [E66 V5] at hb;cases hb;rw [getElem?_pos (ByteArray.mk s.toArray) j.toNat hsz];rfl
   simp [Instr.index,F5 (mC ht),asIntOf,hj,this]
  ·cases h
 ·cases h
theorem D89 {s:TypeId} {fs:Array Field} {f:Field} {j n off:Nat} {x v:Val} {X:Value} (hs:A3f P s=A4 fs) (hf:fs[j]?=A4 f) (hsz:R4 P f.type=A4 n) (hn:n≠0) (ho:f.offset=off)
  (hx:RV μ x X) (h:rU x off=A4 v):∃ V,(Instr.fieldAt s X j).run P w=.ok V w/\RV μ v V:=by
 unfold rU at h;split at h
 ·rename_i id o;obtain ⟨b,m,hm,rfl⟩:=hx;cases h;refine ⟨.pointer (A4 ⟨b,o+off,A7⟩),?_,b,m,hm,rfl⟩;simp [Instr.fieldAt,Instr.sureAddr,F5 (A3g hs),hf,fieldPlace,Q4 hsz,hn,kL,ho]
 ·cases h
theorem D6Y {t e:TypeId} {n sz:Nat} {x i v:Val} {X I:Value} (ha:oV P t=A4 (n,e)) (hsz:R4 P e=A4 sz) (hx:RV μ x X) (hi:RV μ i I) (h:J8 n sz x i=A4 v) :
  ∃ V,(Instr.indexAt t X I).run P w=.ok V w/\RV μ v V:=by
 unfold J8 at h;split at h
 ·rename_i id o k j;obtain ⟨b,m,hm,rfl⟩:=hx;have hI:I=.int k j:=hi;subst hI;split at h
  ·rename_i hj;cases h;refine ⟨.pointer (A4 ⟨b,o+j.toNat*sz,A7⟩),?_,b,m,hm,rfl⟩;simp [Instr.indexAt,Instr.sureAddr,asIntOf,F5 (oW ha),Q4 hsz,hj,kL]
  ·cases h
 ·cases h
theorem D6Z {t e:TypeId} {sz:Nat} {x i v:Val} {X I:Value} (ha:sliceB P t=A4 e) (hsz:R4 P e=A4 sz) (hx:RV μ x X) (hi:RV μ i I) (h:E1 sz x i=A4 v) :
  ∃ V,(Instr.indexAt t X I).run P w=.ok V w/\RV μ v V:=by
 unfold E1 at h;split at h
 ·rename_i id o len sz' k j;have hI:I=.int k j:=hi;subst hI;split at h
  ·rename_i hj;cases h;rcases hx with ⟨b,m,cap,hm,_,_,rfl⟩ | ⟨h0,_⟩
   ·refine ⟨.pointer (A4 ⟨b,o+j.toNat*sz,A7⟩),?_,b,m,hm,rfl⟩;simp [Instr.indexAt,asIntOf,F5 (P6 ha),Q4 hsz,hj,kL]
   ·omega
  ·cases h
 ·cases h
theorem E1r {t:TypeId} {x v:Val} {X:Value} {ty:TypeId} (ht:cD P t=A5) (hx:RV μ x X) (h:D4f x=A4 v):∃ V,(Builtin.len_ #[t] ty #[X]).run P w=.ok V w/\RV μ v V:=by
 unfold D4f at h;split at h<;>cases h
 rename_i s;have hX:X=.string ⟨s.toArray⟩:=hx;subst hX;refine ⟨.int .i64 s.length,?_,rfl⟩;simp [Builtin.len_,F5 (mC ht),goInt];show ((s.toArray.size:Nat):Int)=_;simp
theorem E2T {t e:TypeId} {x v:Val} {X:Value} {ty:TypeId} (he:sliceB P t=A4 e) (hx:RV μ x X) (h:D2R x=A4 v):∃ V,(Builtin.len_ #[t] ty #[X]).run P w=.ok V w/\RV μ v V:=by
 unfold D2R at h;split at h<;>cases h
 ·rcases hx with ⟨b,m,cap,hm,_,_,rfl⟩ | ⟨h0,a,rfl⟩
  ·exact ⟨_,by simp [Builtin.len_,F5 (P6 he),goInt],rfl⟩
  ·subst h0;exact ⟨_,by simp [Builtin.len_,F5 (P6 he),goInt],rfl⟩
 ·cases hx;exact ⟨_,by simp [Builtin.len_,F5 (P6 he),goInt],rfl⟩
theorem E2U {at_:Array TypeId} {ty:TypeId} {x y v:Val} {X Y:Value} (hx:RV μ x X) (hy:RV μ y Y) (h:C64 x y=A4 v):∃ V,(Builtin.max_ at_ ty #[X,Y]).run P w=.ok V w/\RV μ v V:=by
 unfold C64 at h;split at h<;>cases h
 cases hx;cases hy;exact ⟨_,rfl,rfl⟩
theorem E2V {at_:Array TypeId} {ty:TypeId} {x y v:Val} {X Y:Value} (hx:RV μ x X) (hy:RV μ y Y) (h:B7S x y=A4 v):∃ V,(Builtin.min_ at_ ty #[X,Y]).run P w=.ok V w/\RV μ v V:=by
 unfold B7S at h;split at h<;>cases h
 cases hx;cases hy;exact ⟨_,rfl,rfl⟩
theorem E1l {s d:TypeId} {k ks:IntKind} {x v:Val} {X:Value} (hs:B52 P s=A4 ks) (hd:B52 P d=A4 k) (hx:RV μ x X) (h:D4b k x=A4 v) :
  ∃ V,(convert s d X).run P w=.ok V w/\RV μ v V:=by
 unfold D4b at h;split at h<;>cases h
 cases hx;exact ⟨_,by simp [convert,F5 (A5I hs),F5 (A5I hd),Conv.intToInt],rfl⟩
theorem D88 {s d:TypeId} {x v:Val} {X:Value} (hs:cD P s=A5) (hd:cD P d=A5) (hx:RV μ x X) (h:D2N x=A4 v) :
  ∃ V,(convert s d X).run P w=.ok V w/\RV μ v V:=by
 unfold D2N at h;split at h<;>cases h
 cases hx;exact ⟨_,by simp [convert,F5 (mC hs),F5 (mC hd)],rfl⟩
theorem D19 {o:Option Val} {O:Option Value} {d n y:Nat} {code:BoundsCode} (hO:match o,O with | none,none=>True | some v,A4 V=>RV μ v V | _,_=>False) (hb:bound o d=A4 n) (hn:n<=y) :
  (match O with | some v=>Instr.sliceBound v y code | none=>(pure d:Sem Nat)).run P w=.ok n w:=by
 unfold bound at hb;cases o with
 | none =>
  cases O with
  | none=>simp at hb;subst hb;rfl
  | some _=>exact hO.elim
 | some v =>
  cases O with
  | none=>exact hO.elim
  | some V =>
   simp only at hO hb;split at hb
   ·rename_i wR;cases wR
   ·rename_i k j wR;cases wR;cases hO;split at hb
    ·cases hb;rename_i hj;simp [Instr.sliceBound,asIntOf,hj];omega
    ·cases hb
   ·cases hb
def D2l (μ:Mu):Option Val->Option Value->Prop
 | none,none=>True
 | some v,A4 V=>RV μ v V
 | _,_=>False
theorem A1S {isSl:Bool} {len cap l h:Nat} {lo hi:Option Val} {Lo Hi:Option Value} (hlo:D2l μ lo Lo) (hhi:D2l μ hi Hi) (bl:bound lo 0=A4 l) (bh:bound hi len=A4 h)
  (h1:l<=h) (h2:h<=cap):(Instr.sliceBounds isSl len cap Lo Hi A7).run P w=.ok (l,h,cap) w:=by
 unfold Instr.sliceBounds;have e1:=λcode=>D19 (P:=P) (w:=w) (μ:=μ) (o:=lo) (O:=Lo) (d:=0) (n:=l) (y:=h) (code:=code) (by cases lo<;>cases Lo<;>exact hlo) bl h1
 have e2:=λcode=>D19 (P:=P) (w:=w) (μ:=μ) (o:=hi) (O:=Hi) (d:=len) (n:=h) (y:=cap) (code:=code) (by cases hi<;>cases Hi<;>exact hhi) bh h2
 cases Hi with
 | none =>
  cases Lo with
  | none=>simp at e1 e2 ⊢;exact ⟨e1,e2⟩
  | some L =>
   simp at e1 e2 ⊢;subst e2;rw [e1 .sliceB];rfl
 | some H =>
  cases Lo with
  | none=>simp at e1 e2 ⊢;rw [e2];simp [e1]
  | some L =>
   simp at e1 e2 ⊢;rw [e2];simp [e1 .sliceB]
theorem E2Z {t:TypeId} {x v:Val} {lo hi:Option Val} {X:Value} {Lo Hi:Option Value} (ht:cD P t=A5) (hx:RV μ x X) (hlo:D2l μ lo Lo) (hhi:D2l μ hi Hi) (h:E1Z x lo hi=A4 v) :
  ∃ V,(Instr.sliceAt t X Lo Hi A7).run P w=.ok V w/\RV μ v V:=by
 unfold E1Z at h;split at h
 ·rename_i s;have hX:X=.string ⟨s.toArray⟩:=hx;subst hX;simp only [E67] at h;obtain ⟨l,bl,hh,bh,h⟩:=h;split at h
  ·cases h;rename_i hc;have hsz:(ByteArray.mk s.toArray).size=s.length:=by show s.toArray.size=_;simp
   have:=A1S (P:=P) (w:=w) (μ:=μ) (isSl:=A6) hlo hhi bl bh hc.1 hc.2;refine ⟨.string ((ByteArray.mk s.toArray).extract l hh),?_,?_⟩
   ·simp [Instr.sliceAt,Instr.slice,F5 (mC ht),hsz,this]
   ·show Value.string _=Value.string _
    congr 1
    apply ByteArray.ext;apply Array.ext';simp [List.drop_take]
  ·cases h
 ·cases h
theorem E2Y {t e:TypeId} {sz:Nat} {x v:Val} {lo hi:Option Val} {X:Value} {Lo Hi:Option Value} (ht:sliceB P t=A4 e) (hsz:R4 P e=A4 sz) (hx:RV μ x X) (hlo:D2l μ lo Lo) (hhi:D2l μ hi Hi)
  (h:D4q sz x lo hi=A4 v):∃ V,(Instr.sliceAt t X Lo Hi A7).run P w=.ok V w/\RV μ v V:=by
 unfold D4q at h;split at h
 ·rename_i id off len sz';simp only [E67] at h;obtain ⟨l,bl,hh,bh,h⟩:=h;split at h
  ·cases h;rename_i hc;obtain ⟨hc1,hc2,rfl⟩:=hc;rcases hx with ⟨b,m,cap,hm,hlc,B8i,rfl⟩ | ⟨h0,a,rfl⟩
   ·have:=A1S (P:=P) (w:=w) (μ:=μ) (isSl:=A5) hlo hhi bl bh hc1 (by omega:hh<=cap);by_cases xY:cap=l
    ·subst xY;refine ⟨.slice (A4 ⟨b,off,A7⟩) (hh-cap) (cap-cap),by simp [Instr.sliceAt,Instr.slice,F5 (P6 ht),this,Q4 hsz],.inr ?_⟩;have h1:hh-cap=0:=by omega
     exact ⟨h1,A4 ⟨b,off,A7⟩,by rw [h1,show cap-cap=0 by omega]⟩
    ·refine ⟨.slice (A4 ⟨b,off+l*sz,A7⟩) (hh-l) (cap-l),by simp [Instr.sliceAt,Instr.slice,F5 (P6 ht),this,Q4 hsz,xY,kL],.inl ⟨b,m,cap-l,hm,by omega,?_,rfl⟩⟩;have:l*sz+(cap-l)*sz=cap*sz:=by rw [<-E78];congr 1;omega
     omega
   ·have:=A1S (P:=P) (w:=w) (μ:=μ) (isSl:=A5) (cap:=0) hlo hhi bl bh hc1 (by omega);have h1:hh=0:=by omega
    have h2:l=0:=by omega
    subst h0 h1 h2;exact ⟨.slice a 0 0,by simp [Instr.sliceAt,Instr.slice,F5 (P6 ht),this,Q4 hsz],.inr ⟨rfl,a,rfl⟩⟩
  ·cases h
 ·simp only [E67] at h;obtain ⟨l,bl,hh,bh,h⟩:=h;split at h
  ·cases h;rename_i hc;obtain ⟨rfl,rfl⟩:=hc;cases hx;have:=A1S (P:=P) (w:=w) (μ:=μ) (isSl:=A5) (cap:=0) hlo hhi bl bh (E7b _) (E7b _);exact ⟨.slice A7 0 0,by simp [Instr.sliceAt,Instr.slice,F5 (P6 ht),this,Q4 hsz],rfl⟩
  ·cases h
 ·cases h
theorem E2X {t e:TypeId} {n sz:Nat} {hp:B5} {x v:Val} {lo hi:Option Val} {X:Value} {Lo Hi:Option Value} (ht:oV P t=A4 (n,e)) (hsz:R4 P e=A4 sz)
  (hrow:∀ id r,rd hp id=A4 r->RowOk μ w id r) (hx:RV μ x X) (hlo:D2l μ lo Lo) (hhi:D2l μ hi Hi) (h:B0T hp n sz x lo hi=A4 v) :
  ∃ V,(Instr.sliceAt t X Lo Hi A7).run P w=.ok V w/\RV μ v V:=by
 unfold B0T at h;split at h
 ·rename_i id off;obtain ⟨b,m,hm,rfl⟩:=hx;simp only [E67] at h;obtain ⟨r,hr,l,bl,hh,bh,h⟩:=h;split at h
  ·cases h;rename_i hc;simp at hm;obtain ⟨hc1,hc2,hc3,hc4⟩:=hc;have hc:l<=hh/\hh<=n/\off+n*sz<=r.cells.length:=⟨hc1,hc2,hc3⟩;have yA:MemOk μ w b m r:=by
    cases mD:r.rw with
    | true=>exact (hrow id r hr).mem hm mD
    | false =>
     rw [mD] at hc4;simp only [Bool.false_or] at hc4;cases A5E:r.cells[off]? with
     | none=>rw [A5E] at hc4;cases hc4
     | some c=>rw [A5E] at hc4;exact (hrow id r hr).seen hm (E7y A5E) (by rw [mD];simpa using hc4)
   obtain ⟨C,elem,fz,h1,h2,h3,h4⟩:=yA;have hlen:=h3.length;simp at hlen;have:=A1S (P:=P) (w:=w) (μ:=μ) (isSl:=A6) hlo hhi bl bh hc.1 hc.2.1;by_cases xY:n=l
   ·subst xY;refine ⟨.slice (A4 ⟨b,off,A7⟩) (hh-n) (n-n),by simp [Instr.sliceAt,Instr.sureAddr,F5 (oW ht),this,Q4 hsz],.inr ?_⟩;have h1:hh-n=0:=by omega
    exact ⟨h1,A4 ⟨b,off,A7⟩,by rw [h1,show n-n=0 by omega]⟩
   ·refine ⟨.slice (A4 ⟨b,off+l*sz,A7⟩) (hh-l) (n-l),by simp [Instr.sliceAt,Instr.sureAddr,F5 (oW ht),this,Q4 hsz,xY,kL],.inl ⟨b,m,n-l,hm,by omega,?_,rfl⟩⟩;have:l*sz+(n-l)*sz=n*sz:=by rw [<-E78];congr 1;omega
    omega
  ·cases h
 ·cases h
theorem B6f {hp:B5} {x:Val} {X:Value} {cs:List Cell} (hrow:∀ id r,rd hp id=A4 r->RowOk μ w id r) (hx:RV μ x X) (h:iE hp x=A4 cs) :
  ∃ len cap a vs,X=.slice a len cap/\All2 (RC μ) cs vs/\(∀ sz,(∀ id off l sz',x=.c (.sl id off l sz')->sz=sz')->vs.length=len*sz)/\(a=A7->vs=[])/\(∀ b,a=A4 b->∀ j v,vs[j]?=A4 v->w.cell? (b.add j)=A4 v):=by
 unfold iE at h;split at h
 ·cases h;cases hx;exact ⟨0,0,A7,[],rfl,trivial,λ_ _=>by simp,λ_=>rfl,λb hb=>(by cases hb)⟩
 ·rename_i id off len sz;simp only [E67] at h;obtain ⟨r,hr,h⟩:=h;split at h
  ·cases h;rename_i hl;rcases hx with ⟨b,m,cap,hm,hlc,B8i,rfl⟩ | ⟨h0,a,rfl⟩
   ·obtain ⟨vs,h1,h2,h3⟩:=(hrow id r hr).cells hm off (len*sz) hl.1 hl.2;refine ⟨len,cap,_,vs,rfl,h1,λs hs=>(by rw [h2,hs id off len sz rfl]),λh=>(by cases h),λb' hb j v hv=>?_⟩;cases hb;rw [kL];exact h3 j v hv
   ·subst h0;exact ⟨0,0,a,[],rfl,by simp,λ_ _=>by simp,λ_=>rfl,λb hb j v hv=>by simp at hv⟩
  ·cases h
 ·cases h
theorem D9Q {c:Cell} {b:UInt8} {V:Value} (h:D1m c=A4 b) (hr:RC μ c V):V=.int .u8 b.toNat:=by
 unfold D1m at h;split at h
 ·split at h
  ·cases h;rename_i n hn;have hV:V=.int .u8 n:=hr;subst hV
   congr 1
   have:(UInt8.ofNat n.toNat).toNat=n.toNat:=by simp [UInt8.toNat_ofNat'];omega
   rw [this];omega
  ·cases h
 ·cases h
theorem D1o:∀ {cs:List Cell} {s:List UInt8} {vs:List Value},bytes? cs=A4 s->All2 (RC μ) cs vs->vs=s.map λb=>Value.int .u8 b.toNat
 | [],s,[],h,_=>by simp [bytes?] at h;subst h;rfl
 | c::r,s,v::vs,h,⟨h1,h2⟩=>by
  simp only [bytes?,E67,E7q] at h;obtain ⟨b,hb,l,hl,rfl⟩:=h;rw [E79,D9Q hb h1,D1o hl h2]
 | [],_,_::_,_,h=>h.elim
 | _::_,_,[],_,h=>h.elim
theorem D4s:∀ (s:List UInt8) (acc:ByteArray),(forIn (s.map λb=>Value.int .u8 b.toNat) acc (λc r=>do
   let .int .u8 n := c | stuck "bytesToString: byte expected"
   let r:=r.push (UInt8.ofNat n.toNat)
   pure PUnit.unit
   pure (ForInStep.yield r)):Sem ByteArray).run P w=.ok ⟨acc.data++s.toArray⟩ w
 | [],acc=>by simp
 | b::s,acc=>by
  simp only [E79,List.forIn_cons,Sem.run_bind];have:=D4s s (acc.push b);simp at this ⊢;rw [this]
theorem D51 {h:B5} {n0:Nat} {own:Option Nat} {x v:Val} (hp:C2q h n0 own x=A4 v):B5C h x=A4 v:=by
 unfold C2q at hp;split at hp
 ·exact hp
 ·split at hp
  ·split at hp
   ·exact hp
   ·cases hp
  ·cases hp
theorem D7Y {s d e:TypeId} {hp:B5} {x:Val} {X:Value} {cs:List Cell} {l:List UInt8} (hs:sliceB P s=A4 e) (he:B52 P e=A4 .u8) (hd:cD P d=A5)
  (hrow:∀ id r,rd hp id=A4 r->RowOk μ w id r) (hx:RV μ x X) (h1:iE hp x=A4 cs) (h2:bytes? cs=A4 l) (B8j:∀ id off l sz',x=.c (.sl id off l sz')->1=sz') :
  (convert s d X).run P w=.ok (.string ⟨l.toArray⟩) w:=by
 obtain ⟨len,cap,a,vs,rfl,hvs,hlen,C7X,A5E⟩:=B6f hrow hx h1;have hl:vs.length=len:=by simpa using hlen 1 B8j
 have hv:=D1o h2 hvs;have hc:(convert s d (.slice a len cap)).run P w=(Conv.bytesToString (.slice a len cap)).run P w:=by
  simp [convert,F5 (P6 hs),F5 (mC hd),F5 (A5I he)]
 rw [hc];cases a with
 | none =>
  have:l=[]:=by have:=C7X rfl;rw [hv] at this;simpa using this
  subst this;rfl
 | some b =>
  have hl2:=run_loadCells_list (P:=P) w b vs (A5E b rfl);rw [hl] at hl2;simp only [Conv.bytesToString,Sem.run_bind,hl2,Result.andThen_ok];rw [hv];have:=D4s (P:=P) (w:=w) l ByteArray.empty;simp at this ⊢;rw [this]
theorem D5J {s d e:TypeId} {hp:B5} {x v:Val} {X:Value} (hs:sliceB P s=A4 e) (he:B52 P e=A4 .u8) (hd:cD P d=A5)
  (hrow:∀ id r,rd hp id=A4 r->RowOk μ w id r) (hx:RV μ x X) (h:B5C hp x=A4 v):∃ V,(convert s d X).run P w=.ok V w/\RV μ v V:=by
 unfold B5C at h;split at h
 ·split at h
  ·rename_i id off len sz hsz;simp only [E7q,E67] at h;obtain ⟨l,⟨cs,hcs,hl⟩,rfl⟩:=h;exact ⟨_,D7Y hs he hd hrow hx hcs hl (λ_ _ _ _ h=>by cases h;exact hsz.symm),rfl⟩
  ·cases h
 ·cases h;exact ⟨_,D7Y (hp:=hp) (cs:=[]) (l:=[]) hs he hd hrow hx rfl rfl (λ_ _ _ _ h=>by cases h),rfl⟩
 ·cases h
end
section
variable {P:Program} {μ:Mu} {w:World}
def uR (μ:Mu) (h:B5) (n0:Nat):Option Nat->Prop
 | none=>True
 | some j=>μ (n0+j)=A7/\n0+j<h.length
def Keeps (μ μ':Mu) (h:B5) (n0:Nat) (slot:Option Nat):Prop:=∀ id,id<h.length->(∀ j,slot=A4 j->id≠n0+j) -> μ' id = μ id
theorem Keeps.refl (μ:Mu) (h:B5) (n0:Nat) (slot:Option Nat):Keeps μ μ h n0 slot:=λ_ _ _=>rfl
theorem Keeps.new {μ:Mu} {h:B5} {n0:Nat} {slot:Option Nat} {r:Row} {x:Nat × Nat}:Keeps μ (μ.add (dO h n0 slot r).1 x) h n0 slot:=by
 intro id h1 h2;have:id≠(dO h n0 slot r).1:=by
  cases slot with
  | none=>simp only [dO];omega
  | some j=>exact h2 j rfl
 simp [Mu.add,this]
theorem pO {h:B5} {n0:Nat} {slot:Option Nat} {r:Row} (hs:uR μ h n0 slot) (hd:∀ id,h.length<=id -> μ id=A7) :
  μ (dO h n0 slot r).1=A7/\(∀ j,j≠(dO h n0 slot r).1->∀ x,rd (dO h n0 slot r).2 j=A4 x->rd h j=A4 x)/\(∀ x,rd (dO h n0 slot r).2 (dO h n0 slot r).1=A4 x->x=r) /\
   h.length<=(dO h n0 slot r).2.length/\(dO h n0 slot r).1<(dO h n0 slot r).2.length/\rd (dO h n0 slot r).2 (dO h n0 slot r).1=A4 r:=by
 cases slot with
 | none =>
  simp only [dO];have e:rd (h++[A4 r]) h.length=A4 r:=by rw [rd_some];simp
  refine ⟨hd _ (E7b _),?_,?_,by simp,by simp,e⟩
  ·intro j hj x hx;rw [rd_some] at hx ⊢;by_cases hl:j<h.length
   ·rwa [E7H hl] at hx
   ·have:j-h.length≠0:=by omega
    rw [E7l (by omega)] at hx;have:([A4 r]:B5)[j-h.length]?=A7:=by apply E7L;simp;omega
    rw [this] at hx;cases hx
  ·intro x hx;rw [e] at hx;cases hx;rfl
 | some j =>
  obtain ⟨h1,h2⟩:=hs;simp only [dO];have e:rd (h.set (n0+j) (A4 r)) (n0+j)=A4 r:=C6 h2;refine ⟨h1,?_,?_,by simp,by simpa using h2,e⟩
  ·intro i hi x hx;rwa [B6 (Ne.symm hi)] at hx
  ·intro x hx;rw [e] at hx;cases hx;rfl
theorem B56 {Γ:Ctx} {h:B5} {n0:Nat} {slot:Option Nat} {cs:List Cell} {C:List Value} {t:TypeId} (hi:Inv Γ μ h w) (hs:uR μ h n0 slot) (hc:All2 (RC μ) cs (C.take cs.length)) :
  Inv Γ (μ.add (dO h n0 slot ⟨cs,A5⟩).1 (w.heap.size,C.length)) (dO h n0 slot ⟨cs,A5⟩).2 (w.alloc (.cells C.toArray t)):=by
 obtain ⟨h1,h2,h3,h4,h5,h6⟩:=pO (r:=⟨cs,A5⟩) hs hi.dom;refine hi.fresh h1 rfl rfl rfl (λb hb=>?_) h2 h3 h4 h5 ?_
 ·show (w.heap.push _)[b]?=_;rw [Array.getElem?_push,if_neg (by omega)]
 ·unfold RowOk;simp only [Mu.add,if_true];refine .inl ⟨C.toArray,t,(0,0),by show (w.heap.push _)[w.heap.size]?=_;simp,by simp,?_,λ_=>.inl rfl⟩;exact hc.mono λ_ _ h=>.inl (RC.mono (Mu.le_add h1) h)
theorem A5l {Γ:Ctx} {h:B5} {n0:Nat} {slot:Option Nat} (hi:Inv Γ μ h w) (hs:uR μ h n0 slot):Inv Γ μ (dO h n0 slot ⟨[],A5⟩).2 w:=by
 obtain ⟨h1,h2,h3,h4,h5,h6⟩:=pO (r:=⟨[],A5⟩) hs hi.dom;generalize dO h n0 slot ⟨[],A5⟩=p at *;refine ⟨λid r hr=>?_,λid bF r r' x x' hr hr' mD T8 hx hx'=>?_,λid r x hr mD hx=>?_,λid hid=>hi.dom id (by omega),hi.ctx⟩
 ·by_cases e:id=p.1
  ·subst e;rw [h3 r hr];unfold RowOk;rw [h1]
  ·exact hi.rows id r (h2 id e r hr)
 ·have e:id≠p.1:=by intro e;subst e;rw [h1] at hx;cases hx
  have e':bF≠p.1:=by intro e;subst e;rw [h1] at hx';cases hx'
  exact hi.sep id bF r r' x x' (h2 id e r hr) (h2 bF e' r' hr') mD T8 hx hx'
 ·have e:id≠p.1:=by intro e;subst e;rw [h1] at hx;cases hx
  exact hi.own id r x (h2 id e r hr) mD hx
theorem iD (t:TypeId) (C:Array Value):(newRow t C).run P w=.ok ⟨w.heap.size,0,A7⟩ (w.alloc (.cells C t)):=by
 rfl
theorem V0 (m:Mu) (id:Nat) (x:Nat × Nat):(m.add id x) id=A4 x:=by simp [Mu.add]
theorem D86 {Γ:Ctx} {h:B5} {n0:Nat} {slot:Option Nat} {t:TypeId} {z:Value} {zero:List Cell} {old:Value} (hi:Inv Γ μ h w) (hs:uR μ h n0 slot) (hz:yL P t=A4 z) (hc:jU z zero=A5) :
  ∃ V w' μ',(Instr.alloc t A5 old).run P w=.ok V w' /\ μ.le μ'/\RV μ' (.c (.p (dO h n0 slot ⟨zero,A5⟩).1 0)) V/\Inv Γ μ' (dO h n0 slot ⟨zero,A5⟩).2 w'/\Keeps μ μ' h n0 slot:=by
 have hcs:=gQ (μ:=μ) hc;have hn:=B56 (t:=t) hi hs (cs:=zero) (C:=z.cells.toList) (by rw [E7i (by rw [hcs.length];exact E7b _)];exact hcs);refine ⟨.pointer (A4 ⟨w.heap.size,0,A7⟩),_,_,?_,Mu.le_add (pO (r:=⟨zero,A5⟩) hs hi.dom).1,⟨_,_,V0 _ _ _,rfl⟩,hn,Keeps.new⟩;cases old<;>simp [Instr.alloc,yI hz,newVar,iD]
theorem E2O {Γ:Ctx} {h:B5} {n0:Nat} {slot:Option Nat} {t:TypeId} {x:Val} {X:Value} {cs:List Cell} (hi:Inv Γ μ h w) (hs:uR μ h n0 slot) (hx:RV μ x X) (hc:cells? x=A4 cs) :
  ∃ V w' μ',(Instr.box t X).run P w=.ok V w' /\ μ.le μ'/\RV μ' (.c (.p (dO h n0 slot ⟨cs,A5⟩).1 0)) V/\Inv Γ μ' (dO h n0 slot ⟨cs,A5⟩).2 w'/\Keeps μ μ' h n0 slot:=by
 have hcs:=hx.cells hc;have hn:=B56 (t:=t) hi hs (cs:=cs) (C:=X.cells.toList) (by rw [E7i (by rw [hcs.length];exact E7b _)];exact hcs);refine ⟨.pointer (A4 ⟨w.heap.size,0,A7⟩),_,_,?_,Mu.le_add (pO (r:=⟨cs,A5⟩) hs hi.dom).1,⟨_,_,V0 _ _ _,rfl⟩,hn,Keeps.new⟩;simp [Instr.box,newVar,iD]
theorem foldl_set (vs:List Value):∀ (k off:Nat) (cs:Array Value),off+k+vs.length<=cs.size ->
  ((vs.zipIdx k).foldl (λcs (x:Value × Nat)=>cs.setIfInBounds (off+x.2) x.1) cs).toList=cs.toList.take (off+k)++(vs++cs.toList.drop (off+k+vs.length)):=by
 induction vs with
 | nil=>intro k off cs h;simp
 | cons v r ih =>
  intro k off cs h;simp only [E7g] at h;simp only [List.zipIdx_cons,List.foldl_cons];rw [ih (k+1) off _ (by simp;omega)];have ho:off+k<cs.toList.length:=by simp;omega
  simp only [Array.toList_setIfInBounds];rw [List.drop_set_of_lt (by omega),E7g,show off+(k+1)+r.length=off+k+(r.length+1) by omega];rw [show off+(k+1)=off+k+1 by omega,List.take_set,List.take_add_one,List.set_append];have hm:min (off+k) cs.size=off+k:=E73 (by simp at ho;omega);simp [E66 ho,hm]
def C5k (μ:Mu) (place:Nat->Option (Nat × Nat)):List (Nat × Nat × Val)->List (Nat × Value)->Prop :=
 All2 λp q=>place q.1=A4 (p.1,p.2.1)/\RV μ p.2.2 q.2
theorem C4N {place:Nat->Option (Nat × Nat)}:∀ {ps:List (Nat × Nat × Val)} {qs:List (Nat × Value)} {zero cs:List Cell} {Z:Array Value},C5k μ place ps qs->All2 (RC μ) zero Z.toList->E4 zero ps=A4 cs ->
  ∃ Z',Instr.fill place Z qs=A4 Z'/\All2 (RC μ) cs Z'.toList
 | [],[],zero,cs,Z,_,hz,h=>by simp [E4] at h;subst h;exact ⟨Z,rfl,hz⟩
 | (off,n,v)::ps,(i,V)::qs,zero,cs,Z,⟨⟨h1,h2⟩,h3⟩,hz,h=>by
  simp only [E4] at h;split at h
  ·rename_i xs hxs;split at h
   ·rename_i hc;have hV:=RV.cells h2 hxs;have hVl:=hV.length;have yN:=hz.length;simp at yN hVl;have A1J:(V.cells.size≠n||off+V.cells.size > Z.size)=A6:=by simp;omega
    have hl2:((V.cells.zipIdx.foldl (λcs (x:Value × Nat)=>cs.setIfInBounds (off+x.2) x.1) Z)).toList=Z.toList.take off++(V.cells.toList++Z.toList.drop (off+V.cells.toList.length)):=by
     have:=foldl_set V.cells.toList 0 off Z (by simp;omega);rw [<-Array.foldl_toList,Array.toList_zipIdx];simpa using this
    have E6f:All2 (RC μ) (lay zero off xs) (V.cells.zipIdx.foldl (λcs (x:Value × Nat)=>cs.setIfInBounds (off+x.2) x.1) Z).toList:=by
     rw [hl2];unfold lay;rw [hV.length];exact (hz.take off).append (hV.append (hz.drop _))
    obtain ⟨Z',h4,h5⟩:=C4N h3 E6f h;refine ⟨Z',?_,h5⟩;rw [Instr.fill,h1];simp only [A1J];exact h4
   ·cases h
  ·cases h
 | [],_::_,_,_,_,h,_,_=>h.elim
 | _::_,[],_,_,_,h,_,_=>h.elim
theorem C4E {fs:List Field} {ps:List (Nat × Nat)} (h:fs.map (λf=>(R4 P f.type).map λn=>(f.offset,n))=ps.map A4) :
  (fs.mapM λf=>(do pure (f.offset,<-sizeOf f.type):Sem (Nat × Nat))).run P w=.ok ps w:=by
 induction fs generalizing ps with
 | nil=>cases ps<;>simp_all
 | cons f r ih =>
  cases ps with
  | nil=>simp at h
  | cons p ps =>
   simp only [E79,List.cons.injEq] at h;cases hs:R4 P f.type with
   | none=>simp [hs] at h
   | some n =>
    simp [hs] at h;have:=ih (ps:=ps) (by simpa using h.2);simp at this;simp [List.mapM_cons,Q4 hs,this,h.1]
theorem D6X {s:TypeId} {fs:Array Field} {z:Value} {zero cs:List Cell} {pl:List (Nat × Nat)} {ps:List (Nat × Nat × Val)} {qs:List (Nat × Value)} (hs:A3f P s=A4 fs) (hz:yL P s=A4 z) (hc:jU z zero=A5)
  (hp:fs.toList.map (λf=>(R4 P f.type).map λn=>(f.offset,n))=pl.map A4) (hR:C5k μ (pl[·]?) ps qs) (h:E4 zero ps=A4 cs) :
  ∃ V,(Instr.build s qs.toArray).run P w=.ok V w/\RV μ (.a cs) V:=by
 obtain ⟨Z',h1,h2⟩:=C4N hR (gQ hc) h;refine ⟨.agg Z',?_,Z'.toList,by simp,h2⟩;have hm:=C4E (P:=P) (w:=w) hp;simp [Instr.build,yI hz,F5 (A3g hs),Array.mapM_eq_mapM_toList] at hm ⊢;rw [hm];simp [h1]
theorem D6W {s e:TypeId} {n sz:Nat} {z:Value} {zero cs:List Cell} {ps:List (Nat × Nat × Val)} {qs:List (Nat × Value)} (hs:oV P s=A4 (n,e)) (hsz:R4 P e=A4 sz) (hz:yL P s=A4 z) (hc:jU z zero=A5)
  (hR:C5k μ (λi=>A4 (i*sz,sz)) ps qs) (h:E4 zero ps=A4 cs) :
  ∃ V,(Instr.build s qs.toArray).run P w=.ok V w/\RV μ (.a cs) V:=by
 obtain ⟨Z',h1,h2⟩:=C4N hR (gQ hc) h;refine ⟨.agg Z',?_,Z'.toList,by simp,h2⟩;simp [Instr.build,yI hz,F5 (oW hs),Q4 hsz,h1]
theorem D5K {Γ:Ctx} {h:B5} {n0:Nat} {slot:Option Nat} {s e:TypeId} {len sz:Nat} {z:Value} {zero cs:List Cell} {ps:List (Nat × Nat × Val)} {qs:List (Nat × Value)}
  (hi:Inv Γ μ h w) (nC:uR μ h n0 slot) (hs:sliceB P s=A4 e) (hsz:R4 P e=A4 sz) (hz:yL P e=A4 z) (hlen:len*sz<=2 ^ 24)
  (hc:jU (.agg ((Array.range (len*sz)).map (z.cells[· % z.cells.size]!))) zero=A5) (hR:C5k μ (λi=>A4 (i*sz,sz)) ps qs) (hf:E4 zero ps=A4 cs) :
  ∃ V w' μ',(Instr.buildSlice s len qs.toArray).run P w=.ok V w' /\ μ.le μ'/\RV μ' (.c (.sl (dO h n0 slot ⟨cs,A5⟩).1 0 len sz)) V/\Inv Γ μ' (dO h n0 slot ⟨cs,A5⟩).2 w'/\Keeps μ μ' h n0 slot:=by
 obtain ⟨Z',h1,h2⟩:=C4N hR (gQ hc) hf;have hn:=B56 (t:=e) hi nC (cs:=cs) (C:=Z'.toList) (by rw [E7i (by rw [h2.length];exact E7b _)];exact h2);have xY:cs.length=zero.length:=by
  have:∀ (ps:List (Nat × Nat × Val)) (zero cs:List Cell),E4 zero ps=A4 cs->cs.length=zero.length:=by
   intro ps
   induction ps with
   | nil=>intro zero cs h;simp [E4] at h;rw [h]
   | cons p ps ih =>
    intro zero cs h;obtain ⟨off,n,v⟩:=p;simp only [E4] at h;split at h
    ·split at h
     ·rename_i hc;rw [ih _ _ h];simp [lay];omega
     ·cases h
    ·cases h
  exact this _ _ _ hf
 have yN:zero.length=len*sz:=by
  have:=(gQ (μ:=μ) hc).length;simpa [Value.cells] using this
 refine ⟨.slice (A4 ⟨w.heap.size,0,A7⟩) len len,_,_,?_,Mu.le_add (pO (r:=⟨cs,A5⟩) nC hi.dom).1,.inl ⟨_,_,len,V0 _ _ _,E7b _,?_,rfl⟩,hn,Keeps.new⟩
 ·have cH:¬ len*sz > 2 ^ 24:=by omega
  have h1:Instr.fill (λi=>A4 (i*sz,sz)) ((Array.range (len*sz)).map (z.cells[· % z.cells.size]!)) qs=A4 Z':=h1;by_cases h0:len*sz=0
  ·have e0:((Array.range (len*sz)).map (λi=>z.cells[i%z.cells.size]!)) = #[]:=by simp [h0]
   rw [e0] at h1;have hr0:(Array.range 0).map (λ_=>(default:Value)) = #[]:=by simp
   simp [Instr.buildSlice,F5 (P6 hs),Q4 hsz,h0,hr0,h1,iD]
  ·simp only [Instr.buildSlice,Sem.run_bind,F5 (P6 hs),Result.andThen_ok,Q4 hsz,if_neg cH,if_neg h0,Sem.run_pure,yI hz,h1,iD,pure_bind]
 ·have:=h2.length;simp at this ⊢;omega
theorem D7W {Z:Array Value} {zero:List Cell} (hz:All2 (RC μ) zero Z.toList) (n:Nat) (h0:Z.size≠0) :
  All2 (RC μ) (rows zero n) (((Array.range (n*Z.size)).map (Z[· % Z.size]!)).toList):=by
 have e:((Array.range (n*Z.size)).map (Z[· % Z.size]!)).toList=(E68 n Z.toList).flatten:=by
  simp only [Array.toList_map,Array.toList_range]
  induction n with
  | zero=>simp
  | succ n ih =>
   rw [List.replicate_succ',List.flatten_append,<-ih,E78,Nat.one_mul,List.range_add,E71,List.map_map]
   congr 1
   simp only [List.flatten_cons,List.flatten_nil,E7w];apply List.ext_getElem
   ·simp
   ·intro i h1 h2;simp at h1 h2;simp [Nat.add_mod,E7Y h1,h1]
 rw [e];exact hz.flatten_replicate n
theorem E1u {Γ:Ctx} {h:B5} {n0:Nat} {slot:Option Nat} {s e:TypeId} {n c sz by_:Nat} {z:Value} {zero:List Cell} {x y:Val} {X Y:Value} (hi:Inv Γ μ h w) (nC:uR μ h n0 slot)
  (hs:sliceB P s=A4 e) (hsz:R4 P e=A4 sz) (hz:yL P e=A4 z) (hc:jU z zero=A5) (hzs:zero.length=sz) (B50:sz≠0) (hby:C7e P e=A4 by_) (hbl:by_<=65536)
  (hx:RV μ x X) (hy:RV μ y Y) (hn:A5P x=A4 n) (B8i:A5P y=A4 c) (hnc:n<=c) :
  ∃ V w' μ',(Instr.makeSlice s X Y).run P w=.ok V w' /\ μ.le μ'/\RV μ' (.c (.sl (dO h n0 slot ⟨rows zero n,A5⟩).1 0 n sz)) V/\Inv Γ μ' (dO h n0 slot ⟨rows zero n,A5⟩).2 w'/\Keeps μ μ' h n0 slot:=by
 have key:∀ {v:Val} {V:Value} {m:Nat},RV μ v V->A5P v=A4 m->V=.int .i64 m/\m<=1073741824:=by
  intro v V m hv hm;unfold A5P at hm;split at hm
  ·split at hm
   ·cases hm;rename_i k hk;have:V=.int .i64 k:=hv;subst this;exact ⟨by congr 1;omega,by omega⟩
   ·cases hm
  ·cases hm
 obtain ⟨rfl,hnb⟩:=key hx hn;obtain ⟨rfl,hcb⟩:=key hy B8i;have hcs:=gQ (μ:=μ) hc;have yN:z.cells.size=sz:=by have:=hcs.length;simp at this;omega
 have hrows:=D7W hcs c (by omega);rw [yN] at hrows;have hrl:∀ m,(rows zero m).length=m*sz:=by intro m;simp [rows,hzs]
 have E36:rows zero c=rows zero n++rows zero (c-n):=by
  unfold rows;rw [<-List.flatten_append,List.replicate_append_replicate]
  congr 2;omega
 obtain ⟨info,eH,hib⟩:=D87 (P:=P) (w:=w) hby;have hnn:=B56 (t:=e) hi nC (cs:=rows zero n) (C:=((Array.range (c*sz)).map (z.cells[· % sz]!)).toList) (by
  have:=hrows.take (rows zero n).length;rw [E36,List.take_left] at this;exact this)
 refine ⟨.slice (A4 ⟨w.heap.size,0,A7⟩) n c,_,_,?_,Mu.le_add (pO (r:=⟨rows zero n,A5⟩) nC hi.dom).1,.inl ⟨_,_,c,V0 _ _ _,hnc,?_,rfl⟩,hnn,Keeps.new⟩
 ·have w1:IntKind.i64.wrap (n:Int)=n:=IntWalk.i64_in _ (by omega);have w2:IntKind.i64.wrap (c:Int)=c:=IntWalk.i64_in _ (by omega);have hb:¬ ((by_:Int)*(c:Int) > 281474976710656):=by
   have:(by_:Int)*c<=65536*1073741824:=by
    have h1:by_*c<=65536*1073741824:=Nat.mul_le_mul hbl hcb;have h2:((by_*c:Nat):Int)<=((65536*1073741824:Nat):Int):=Int.ofNat_le.2 h1;rw [Int.natCast_mul] at h2;exact h2
   omega
  by_cases h0:c*sz=0
  ·simp [Instr.makeSlice,F5 (P6 hs),asInt,asIntOf,eH,hib,w1,w2,Q4 hsz,h0,iD];have q1:¬ ((c:Int)<0\/281474976710656<(by_:Int)*c):=by omega
   have q2:¬ ((n:Int)<0):=by omega
   have q3:¬ (c<n):=by omega
   simp [q1,q2,q3];rw [show (Array.range 0).map (λ_=>(default:Value)) = #[] by simp]
  ·simp [Instr.makeSlice,F5 (P6 hs),asInt,asIntOf,eH,hib,w1,w2,Q4 hsz,h0,yI hz,yN,iD];have q1:¬ ((c:Int)<0\/281474976710656<(by_:Int)*c):=by omega
   have q2:¬ ((n:Int)<0):=by omega
   have q3:¬ (c<n):=by omega
   simp [q1,q2,q3];exact congrArg (λx=>w.alloc (Obj.cells x e)) (by apply Array.ext';simp)
 ·simp
end
section
variable {P:Program} {μ:Mu} {w:World}
theorem D7t (s:List UInt8):All2 (RC μ) (B4 s) (s.map λb=>Value.int .u8 b.toNat):=by
 induction s with
 | nil=>trivial
 | cons b r ih=>exact ⟨rfl,ih⟩
theorem A9 (s:List UInt8):(B4 s).length=s.length:=by simp [B4]
theorem C2t {h:B5} {sz:Nat} {y:Val} {Y:Value} {ys:List Cell} (hrow:∀ id r,rd h id=A4 r->RowOk μ w id r) (hy:RV μ y Y) (hc:P8 h sz y=A4 ys) :
  ∃ n vs,(Builtin.lenOf Y).run P w=.ok n w/\(Builtin.firstCells sz n Y).run P w=.ok vs w/\All2 (RC μ) ys vs.toList/\vs.size=n*sz:=by
 unfold P8 at hc;split at hc
 ·split at hc
  ·cases hc;rename_i s hs;subst hs;have hY:Y=.string ⟨s.toArray⟩:=hy;subst hY;refine ⟨s.length,(s.map λb=>Value.int .u8 b.toNat).toArray,?_,?_,D7t s,by simp⟩
   ·simp [Builtin.lenOf];show s.toArray.size=_;simp
   ·have:((ByteArray.mk s.toArray).extract 0 s.length).data=s.toArray:=by
     apply Array.ext';simp
    simp [Builtin.firstCells]
  ·cases hc
 ·split at hc
  ·rename_i id off len sz' hs;subst hs;obtain ⟨len',cap,a,vs,hY,hvs,hlen,C7X,A5E⟩:=B6f hrow hy hc;subst hY;have hl:=hlen sz (λ_ _ _ _ h=>by cases h;rfl);refine ⟨len',vs.toArray,rfl,?_,hvs,by simpa using hl⟩;cases a with
   | none=>have:=C7X rfl;subst this;rfl
   | some b =>
    have:=run_loadCells_list (P:=P) w b vs (A5E b rfl);rw [hl] at this;simpa [Builtin.firstCells] using this
  ·cases hc
 ·cases hc;cases hy;exact ⟨0,#[],rfl,rfl,trivial,by simp⟩
 ·cases hc
theorem Inv.move {Γ:Ctx} {h:B5} {w':World} {id:Nat} {r r':Row} {b n:Nat} (hi:Inv Γ μ h w) (hr:rd h id=A4 r) (mD:r.rw=A5) (E6r:r'.rw=A5) (hm:μ id=A4 (b,n))
  (hos:w'.os=w.os) (htape:w'.tape=w.tape) (hout:w'.output=w.output) (hb:∀ b',b'≠b->w'.heap[b']?=w.heap[b']?)
  (hrow:RowOk (μ.add h.length (b,n)) w' h.length r'):Inv Γ (μ.add h.length (b,n)) (h.set id A7++[A4 r']) w':=by
 replace mD:=Row.own_rw mD
 have E6M:=C8 hr;have sS:∀ j x,rd (h.set id A7++[A4 r']) j=A4 x->(j=h.length/\x=r')\/(j≠h.length/\j≠id/\rd h j=A4 x):=by
  intro j x hx;by_cases hj:j<h.length
  ·rw [D9 (by simpa using hj)] at hx;by_cases e:id=j
   ·subst e;rw [C6 hj] at hx;cases hx
   ·rw [B6 e] at hx;exact .inr ⟨by omega,Ne.symm e,hx⟩
  ·rw [rd_some,E7l (by simp;omega)] at hx;have h0:=(List.getElem?_eq_some_iff.1 hx).1;simp at h0;have e:j=h.length:=by omega
   subst e;simp at hx;exact .inl ⟨rfl,hx.symm⟩
 have C7X:μ h.length=A7:=hi.dom _ (E7b _);have old:∀ j,j≠h.length->(μ.add h.length (b,n)) j = μ j:=λj hj=>by simp [Mu.add,hj]
 refine ⟨λj x hx=>?_,λj j' x x' y y' hx hx' hxw T8 hy hy'=>?_,λj x y hx hxw hy=>?_,λj hj=>?_,?_⟩
 ·rcases sS j x hx with ⟨rfl,rfl⟩ | ⟨h1,h2,h3⟩
  ·exact hrow
  ·exact (hi.rows j x h3).mono (Mu.le_add C7X) (old j h1) λy hy=>hb _ (Ne.symm (hi.sep id j r x (b,n) y hr h3 mD (Ne.symm h2) hm hy))
 ·rcases sS j x hx with ⟨rfl,rfl⟩ | ⟨h1,h2,h3⟩
  ·rcases sS j' x' hx' with ⟨h4,_⟩ | ⟨h4,h5,h6⟩
   ·exact absurd h4.symm T8
   ·rw [V0] at hy;cases hy;rw [old _ h4] at hy';exact hi.sep id j' r x' (b,n) y' hr h6 mD (Ne.symm h5) hm hy'
  ·rw [old _ h1] at hy;rcases sS j' x' hx' with ⟨h4,_⟩ | ⟨h4,h5,h6⟩
   ·subst h4;rw [V0] at hy';cases hy';exact hi.sep j id x r y (b,n) h3 hr hxw h2 hy hm
   ·rw [old _ h4] at hy';exact hi.sep j j' x x' y y' h3 h6 hxw T8 hy hy'
 ·rcases sS j x hx with ⟨rfl,rfl⟩ | ⟨h1,h2,h3⟩
  ·rw [V0] at hy;cases hy;exact hi.own id r (b,n) hr mD hm
  ·rw [old _ h1] at hy;exact hi.own j x y h3 hxw hy
 ·have:j≠h.length:=by simp at hj;omega
  rw [old _ this];exact hi.dom j (by simp at hj;omega)
 ·refine ⟨hos.trans hi.ctx.os,htape.trans hi.ctx.tape,hout.trans hi.ctx.output,λb' o ho=>?_⟩;have T8:b'≠b:=by
   intro e;subst e;have:=hi.own id r (b',n) hr mD hm;simp at this;rw [ho] at this;cases this
  rw [hb b' T8];exact hi.ctx.block b' o ho
theorem Inv.drop {Γ:Ctx} {h:B5} (hi:Inv Γ μ h w) (id:Nat):Inv Γ μ (h.set id A7) w:=by
 have sS:∀ j x,rd (h.set id A7) j=A4 x->rd h j=A4 x:=by
  intro j x hx;by_cases e:id=j
  ·subst e;by_cases hl:id<h.length
   ·rw [C6 hl] at hx;cases hx
   ·rw [List.set_eq_of_length_le (by omega)] at hx;exact hx
  ·rwa [B6 e] at hx
 exact ⟨λj x hx=>hi.rows j x (sS j x hx),λj j' x x' y y' hx hx'=>hi.sep j j' x x' y y' (sS j x hx) (sS j' x' hx'),λj x y hx=>hi.own j x y (sS j x hx),λj hj=>hi.dom j (by simpa using hj),hi.ctx⟩
theorem C7S (n:Nat):∀ (k c:Nat),c<=n->Builtin.growBy n k c<=n+(n+768)/4
 | 0,c,h=>by simp [Builtin.growBy];omega
 | k+1,c,h=>by
  unfold Builtin.growBy;split
  ·omega
  ·rename_i hc;by_cases h2:c+(c+768)/4<=n
   ·exact C7S n k _ h2
   ·have:Builtin.growBy n k (c+(c+768)/4)=c+(c+768)/4:=by
     cases k with
     | zero=>rfl
     | succ k=>unfold Builtin.growBy;rw [if_pos (by omega)]
    rw [this];omega
theorem C8l (n c:Nat) (h:c<=n):Builtin.nextslicecap n c<=2*n+1000:=by
 unfold Builtin.nextslicecap;split
 ·omega
 ·split
  ·omega
  ·have:=C7S n 4 c h;omega
theorem A7P {s e yt ty:TypeId} {i:TypeInfo} {n sLen sCap:Nat} {z:Value} {base:Option Addr} {Y:Value} {old new:Array Value} {oc nc:List Cell} {Γ:Ctx} {h:B5}
  (hi:Inv Γ μ h w) (hs:P.underlying s=A4 (.slice e)) (eH:P.info? e=A4 i) (hbl:i.bytes<=65536) (hz:i.zero=A4 z) (yN:z.cells.size=i.size)
  (hyt:P.underlying yt=A4 .string\/∃ e',P.underlying yt=A4 (.slice e')) (hlen:(Builtin.lenOf Y).run P w=.ok n w) (hb0:i.bytes≠0)
  (D0m:(Builtin.firstCells i.size n Y).run P w.drew=.ok new w.drew) (hold:(Builtin.firstCells i.size sLen (.slice base sLen sCap)).run P w.drew=.ok old w.drew)
  (E0u:¬ sLen+n<=sCap) (B8i:sLen<=sCap) (E3Q:sLen+n<=1073741824)
  (ho:All2 (RC μ) oc old.toList) (hn:All2 (RC μ) nc new.toList) (hol:old.size=sLen*i.size) (hnl:new.size=n*i.size) :
  ∃ w' c,(Builtin.append_ #[s,yt] ty #[.slice base sLen sCap,Y]).run P w=.ok (.slice (A4 ⟨w.heap.size,0,A7⟩) (sLen+n) c) w'/\sLen+n<=c /\
   Inv Γ (μ.add h.length (w.heap.size,c*i.size)) (h++[A4 ⟨oc++nc,A5⟩]) w':=by
 have hnc:=C8l (sLen+n) sCap (by omega);have cC:¬ (281474976710656<Builtin.nextslicecap (sLen+n) sCap*i.bytes):=by
  have:Builtin.nextslicecap (sLen+n) sCap*i.bytes<=2147484648*65536:=Nat.mul_le_mul (by omega) hbl;omega
 have hc0:sLen+n<=grownCap w (sLen+n) sCap e:=by show sLen+n<=sLen+n+_%_;omega
 have hw:Inv Γ μ h w.drew:=hi.world rfl rfl rfl λ_ _=>rfl
 have D47:(Builtin.zeroCells z.cells (grownCap w (sLen+n) sCap e-(sLen+n))).size=(grownCap w (sLen+n) sCap e-(sLen+n))*i.size:=by
  simp [Builtin.zeroCells,yN]
 have hC:(old++new++Builtin.zeroCells z.cells (grownCap w (sLen+n) sCap e-(sLen+n))).toList.length=grownCap w (sLen+n) sCap e*i.size:=by
  have:(sLen+n)*i.size+(grownCap w (sLen+n) sCap e-(sLen+n))*i.size=grownCap w (sLen+n) sCap e*i.size:=by
   rw [<-E78];congr 1;omega
  have h2:(sLen+n)*i.size=sLen*i.size+n*i.size:=E78 ..;rw [Array.length_toList,Array.size_append,Array.size_append,D47,hol,hnl];omega
 have hrow:=B56 (t:=e) hw (slot:=A7) (n0:=0) trivial (cs:=oc++nc) (C:=(old++new++Builtin.zeroCells z.cells (grownCap w (sLen+n) sCap e-(sLen+n))).toList) (by
  have h1:(old++new++Builtin.zeroCells z.cells (grownCap w (sLen+n) sCap e-(sLen+n))).toList=(old.toList++new.toList)++(Builtin.zeroCells z.cells (grownCap w (sLen+n) sCap e-(sLen+n))).toList:=by simp
  rw [h1,show (oc++nc).length=(old.toList++new.toList).length by rw [(ho.append hn).length],List.take_left];exact ho.append hn)
 refine ⟨w.drew.alloc (.cells (old++new++Builtin.zeroCells z.cells (grownCap w (sLen+n) sCap e-(sLen+n))) e),grownCap w (sLen+n) sCap e,?_,hc0,?_⟩
 ·have h63:¬ (9223372036854775807<((sLen+n:Nat):Int)/\False):=by simp
  have E5h:IntKind.i64.max=9223372036854775807:=by decide
  rcases hyt with hyt | ⟨e',hyt⟩ <;>
   simp [Builtin.append_,F5 hs,F5 hyt,sizeOf,typeInfo,zeroValue,eH,hz,hlen,E0u,hb0,cC,Question.forced,D0m,hold,iD,grownCap]
 ·rw [hC] at hrow;exact hrow
theorem A7Q {s e yt ty:TypeId} {i:TypeInfo} {n sLen sCap:Nat} {base:Option Addr} {Y:Value} {new:Array Value} {w':World}
  (hs:P.underlying s=A4 (.slice e)) (eH:P.info? e=A4 i) (hyt:P.underlying yt=A4 .string\/∃ e',P.underlying yt=A4 (.slice e')) (hlen:(Builtin.lenOf Y).run P w=.ok n w)
  (D0m:(Builtin.firstCells i.size n Y).run P w=.ok new w) (A1M:sLen+n<=sCap)
  (wS:∀ a,base=A4 a->(storeCells (a.add (sLen*i.size)) new.toList).run P w=.ok () w') (cH:base=A7->w'=w) :
  (Builtin.append_ #[s,yt] ty #[.slice base sLen sCap,Y]).run P w=.ok (.slice base (sLen+n) sCap) w':=by
 cases base with
 | none =>
  have:=cH rfl;subst this;rcases hyt with hyt | ⟨e',hyt⟩<;>simp [Builtin.append_,F5 hs,F5 hyt,sizeOf,typeInfo,eH,hlen,A1M,D0m]
 | some a =>
  have:=wS a rfl;rcases hyt with hyt | ⟨e',hyt⟩<;>simp [Builtin.append_,F5 hs,F5 hyt,sizeOf,typeInfo,eH,hlen,A1M,D0m,this]
theorem A3e {Γ:Ctx} {h:B5} {id b m:Nat} {r:Row} {ys:List Cell} {vs:List Value} (hi:Inv Γ μ h w) (hr:rd h id=A4 r) (mD:r.rw=A5) (hm:μ id=A4 (b,m))
  (hx:All2 (RC μ) ys vs) (hl:r.cells.length+ys.length<=m) :
  (storeCells ⟨b,r.cells.length,A7⟩ vs).run P w=.ok () (w.setCells b r.cells.length vs)/\Inv Γ (μ.add h.length (b,m)) (h.set id A7++[A4 ⟨r.cells++ys,A5⟩]) (w.setCells b r.cells.length vs):=by
 obtain ⟨C,elem,fz,h1,h2,h3,h4⟩:=(hi.rows id r hr).mem hm mD
 replace h3:=RL.all h3 (by rw [mD];rfl)
 have hlen:=h3.length;have hxl:=hx.length;simp at hlen;have A5E:∀ j,j<vs.length->(w.cell? ⟨b,r.cells.length+0+j,A7⟩).isSome=A5:=by
  intro j hj;simp only [World.cell?,h1];simp;omega
 have hfz:∀ j,j<vs.length->w.frozen? ⟨b,r.cells.length+0+j,A7⟩=A6:=by
  intro j hj;simp only [World.frozen?,h1];obtain ⟨lo,hi'⟩:=fz;rcases h4 mD with h4 | h4<;>simp at h4 ⊢ <;> omega
 have h1c:∀ v∈vs,v.oneCell'=A5:=by
  intro v hv;obtain ⟨i,V5,rfl⟩:=List.getElem_of_mem hv;have:i<ys.length:=by omega
  obtain ⟨V,hV,hR⟩:=hx.get i ys[i] (by simp [this]);rw [E66 V5] at hV;cases hV;exact hR.one
 refine ⟨by simpa using run_storeCells_cells (P:=P) b r.cells.length vs 0 w A5E hfz h1c,?_⟩;obtain ⟨C',h5,h6⟩:=A4E b vs r.cells.length w C elem fz h1 (by omega);obtain ⟨ho,ht,hou⟩:=B2a b vs r.cells.length w;have cC:=Mu.le_add (x:=(b,m)) (hi.dom h.length (E7b _));refine hi.move hr mD rfl hm ho ht hou (λb' hb=>A1T b vs r.cells.length w b' hb) ?_;unfold RowOk;rw [V0];refine .inl ⟨C',elem,fz,h5,?_,?_,λ_=>h4 mD⟩
 ·have:=congrArg List.length h6;simp at this;omega
 ·rw [h6];have e:(C.toList.take r.cells.length++(vs++C.toList.drop (r.cells.length+vs.length))).take (r.cells++ys).length=C.toList.take r.cells.length++vs:=by
   rw [<-E7c,List.take_left'];simp;omega
  rw [e];exact ((h3.mono λ_ _=>RC.mono cC).append (hx.mono λ_ _=>RC.mono cC)).mono λ_ _=>.inl
theorem E2M {s e yt ty:TypeId} {i:TypeInfo} {z:Value} {x y v:Val} {X Y:Value} {Γ:Ctx} {h h':B5}
  (hi:Inv Γ μ h w) (hs:P.underlying s=A4 (.slice e)) (eH:P.info? e=A4 i) (hbl:i.bytes<=65536) (hb0:i.bytes≠0) (hz:i.zero=A4 z) (yN:z.cells.size=i.size) (B50:i.size≠0)
  (hyt:P.underlying yt=A4 .string\/∃ e',P.underlying yt=A4 (.slice e')) (hx:RV μ x X) (hy:RV μ y Y) (hc:jZ h i.size x y=A4 (v,h')) :
  ∃ V w' μ',(Builtin.append_ #[s,yt] ty #[X,Y]).run P w=.ok V w' /\ μ.le μ'/\RV μ' v V/\Inv Γ μ' h' w'/\(∀ id,id<h.length -> μ' id = μ id):=by
 unfold jZ at hc;simp only [E67] at hc;obtain ⟨ys,hys,hc⟩:=hc;obtain ⟨n,vs,hlen,C05,hvs,hvl⟩:=C2t (P:=P) hi.rows hy hys;obtain ⟨n2,vs2,hlen2,D29,hvs2,E39⟩:=C2t (P:=P) (w:=w.drew) (hi.world (w':=w.drew) rfl rfl rfl λ_ _=>rfl).rows hy hys;have hyl:ys.length/i.size=n:=by
  have:=hvs.length;simp at this;rw [this,hvl];exact Nat.mul_div_cancel _ (by omega)
 have hn2:n2=n:=by
  have h1:=hvs.length;have h2:=hvs2.length;simp at h1 h2;exact Nat.eq_of_mul_eq_mul_right (by omega:0<i.size) (by omega)
 rw [hyl] at hc;subst hn2;have D28:μ h.length=A7:=hi.dom _ (E7b _);have cG:∀ x id,id<h.length->(μ.add h.length x) id = μ id:=λx id hid=>by
  have:id≠h.length:=by omega
  simp [Mu.add,this]
 split at hc
 ·
  split at hc
  ·cases hc;rename_i hb;cases hx;by_cases h0:n2=0
   ·subst h0;have hy0:ys=[]:=by
     have:=hvs.length;simp [hvl] at this;exact this
    subst hy0;have hr:=A7Q (P:=P) (ty:=ty) (sLen:=0) (sCap:=0) (base:=A7) (w':=w) hs eH hyt hlen C05 (by omega) (λa h=>by cases h) (λ_=>rfl);exact ⟨_,w,μ,hr,Mu.le_refl _,.inr ⟨rfl,A7,rfl⟩,A5l (slot:=A7) (n0:=0) hi trivial,λ_ _=>rfl⟩
   ·obtain ⟨w',c,hr,hc1,hI⟩:=A7P (P:=P) (ty:=ty) (sLen:=0) (sCap:=0) (base:=A7) (old:=#[]) (oc:=[]) hi hs eH hbl hz yN hyt hlen hb0 D29 (by simp [Builtin.firstCells]) (by omega) (E7b _) (by omega) trivial hvs2 (by simp) E39;refine ⟨_,w',_,hr,Mu.le_add D28,.inl ⟨w.heap.size,c*i.size,c,V0 _ _ _,by omega,by simp,by simp⟩,hI,cG _⟩
  ·cases hc
 ·rename_i id off len sz';simp only [E67] at hc;obtain ⟨r,hr,hc⟩:=hc;split at hc
  ·cases hc;rename_i A1J;obtain ⟨mD,rfl,xY,hsz,hbd⟩:=A1J;subst hsz;rcases hx with ⟨b,m,cap,hm,hlc,B8i,rfl⟩ | ⟨h0,a,rfl⟩
   ·by_cases A1M:len+n2<=cap
    ·have E2k:r.cells.length+ys.length<=m:=by
      have h1:=hvs.length;simp at h1;have h2:(len+n2)*i.size<=cap*i.size:=Nat.mul_le_mul_right _ A1M;rw [E78] at h2;omega
     have wS:=A3e (P:=P) hi hr mD hm hvs E2k;have hr':=A7Q (P:=P) (ty:=ty) (sLen:=len) (sCap:=cap) (base:=A4 ⟨b,0,A7⟩) (w':=w.setCells b r.cells.length vs.toList) hs eH hyt hlen C05 A1M
      (λa ha=>by cases ha;rw [kL,xY,E7t];exact wS.1) (λh=>by cases h)
     exact ⟨_,_,_,hr',Mu.le_add D28,.inl ⟨b,m,cap,V0 _ _ _,A1M,B8i,rfl⟩,wS.2,cG _⟩
    ·have hrow:=hi.rows id r hr;obtain ⟨olds,ho1,ho2,ho3⟩:=hrow.cells hm 0 (len*i.size) (by omega) (by rw [mD];rfl);have oD:(r.cells.drop 0).take (len*i.size)=r.cells:=by rw [E7p,xY,List.take_length]
     rw [oD] at ho1;have hold:=run_loadCells_list (P:=P) w.drew ⟨b,0,A7⟩ olds (λj v hv=>by rw [kL];exact ho3 j v hv);rw [ho2] at hold;obtain ⟨w',c,hr',hc1,hI⟩:=A7P (P:=P) (ty:=ty) (sLen:=len) (sCap:=cap) (base:=A4 ⟨b,0,A7⟩) (old:=olds.toArray) (oc:=r.cells) hi hs eH hbl hz yN hyt hlen hb0 D29
      (by simpa [Builtin.firstCells] using hold) A1M hlc (by omega) ho1 hvs2 (by simpa using ho2) E39
     refine ⟨_,w',_,hr',Mu.le_add D28,.inl ⟨w.heap.size,c*i.size,c,V0 _ _ _,by omega,by simp,by simp⟩,?_,cG _⟩;have:=hI.drop id
     rwa [List.set_append_left _ _ (C8 hr)] at this
   ·subst h0;have hrc:r.cells=[]:=by
     have:r.cells.length=0:=by omega
     exact List.length_eq_zero_iff.1 this
    by_cases h0:n2=0
    ·subst h0;have hy0:ys=[]:=by
      have:=hvs.length;simp [hvl] at this;exact this
     subst hy0;have E6v:vs = #[]:=by simpa using hvl
     subst E6v;have hr':=A7Q (P:=P) (ty:=ty) (sLen:=0) (sCap:=0) (base:=a) (w':=w) hs eH hyt hlen C05 (by omega) (λa h=>by simp [storeCells]) (λ_=>rfl);refine ⟨_,w,μ,hr',Mu.le_refl _,.inr ⟨rfl,a,rfl⟩,?_,λ_ _=>rfl⟩;have:=(A5l (slot:=A7) (n0:=0) hi trivial).drop id;rw [hrc];simp only [dO] at this
     rwa [List.set_append_left _ _ (C8 hr)] at this
    ·obtain ⟨w',c,hr',hc1,hI⟩:=A7P (P:=P) (ty:=ty) (sLen:=0) (sCap:=0) (base:=a) (old:=#[]) (oc:=[]) hi hs eH hbl hz yN hyt hlen hb0 D29
      (by cases a<;>simp [Builtin.firstCells,loadCells,loadCellsFrom]) (by omega) (E7b _) (by omega) trivial hvs2 (by simp) E39
     refine ⟨_,w',_,hr',Mu.le_add D28,.inl ⟨w.heap.size,c*i.size,c,V0 _ _ _,by omega,by simp,by simp⟩,?_,cG _⟩;have:=hI.drop id;rw [hrc]
     rwa [List.set_append_left _ _ (C8 hr)] at this
  ·cases hc
 ·cases hc
theorem A4C {s e yt ty:TypeId} {k:IntKind} {i:TypeInfo} {n sLen sCap:Nat} {z:Value} {base:Option Addr} {old:Array Value} {oc nc:List Cell} {Γ:Ctx} {h:B5}
  (hi:Inv Γ μ h w) (hs:P.underlying s=A4 (.slice e)) (eH:P.info? e=A4 i) (hbl:i.bytes<=65536) (hz:i.zero=A4 z) (yN:z.cells.size=i.size)
  (hyt:P.underlying yt=A4 (.int k)) (hb0:i.bytes≠0) (hp0:i.size≠0)
  (hold:(Builtin.firstCells i.size sLen (.slice base sLen sCap)).run P w.drew=.ok old w.drew)
  (E0u:¬ sLen+n<=sCap) (B8i:sLen<=sCap) (E3Q:sLen+n<=1073741824)
  (ho:All2 (RC μ) oc old.toList) (hn:All2 (RC μ) nc (Builtin.zeroCells z.cells n).toList) (hol:old.size=sLen*i.size) :
  ∃ w' c,(Builtin.append_ #[s,yt] ty #[.slice base sLen sCap,.int .i64 n]).run P w=.ok (.slice (A4 ⟨w.heap.size,0,A7⟩) (sLen+n) c) w'/\sLen+n<=c /\
   Inv Γ (μ.add h.length (w.heap.size,c*i.size)) (h++[A4 ⟨oc++nc,A5⟩]) w':=by
 have hnl:(Builtin.zeroCells z.cells n).size=n*i.size:=by simp [Builtin.zeroCells,yN]
 have hnc:=C8l (sLen+n) sCap (by omega);have cC:¬ (281474976710656<Builtin.nextslicecap (sLen+n) sCap*i.bytes):=by
  have:Builtin.nextslicecap (sLen+n) sCap*i.bytes<=2147484648*65536:=Nat.mul_le_mul (by omega) hbl;omega
 have hc0:sLen+n<=grownCap w (sLen+n) sCap e:=by show sLen+n<=sLen+n+_%_;omega
 have hw:Inv Γ μ h w.drew:=hi.world rfl rfl rfl λ_ _=>rfl
 have D47:(Builtin.zeroCells z.cells (grownCap w (sLen+n) sCap e-(sLen+n))).size=(grownCap w (sLen+n) sCap e-(sLen+n))*i.size:=by
  simp [Builtin.zeroCells,yN]
 have hC:(old++Builtin.zeroCells z.cells n++Builtin.zeroCells z.cells (grownCap w (sLen+n) sCap e-(sLen+n))).toList.length=grownCap w (sLen+n) sCap e*i.size:=by
  have:(sLen+n)*i.size+(grownCap w (sLen+n) sCap e-(sLen+n))*i.size=grownCap w (sLen+n) sCap e*i.size:=by
   rw [<-E78];congr 1;omega
  have h2:(sLen+n)*i.size=sLen*i.size+n*i.size:=E78 ..;rw [Array.length_toList,Array.size_append,Array.size_append,D47,hol,hnl];omega
 have hrow:=B56 (t:=e) hw (slot:=A7) (n0:=0) trivial (cs:=oc++nc) (C:=(old++Builtin.zeroCells z.cells n++Builtin.zeroCells z.cells (grownCap w (sLen+n) sCap e-(sLen+n))).toList) (by
  have h1:(old++Builtin.zeroCells z.cells n++Builtin.zeroCells z.cells (grownCap w (sLen+n) sCap e-(sLen+n))).toList=(old.toList++(Builtin.zeroCells z.cells n).toList)++(Builtin.zeroCells z.cells (grownCap w (sLen+n) sCap e-(sLen+n))).toList:=by simp
  rw [h1,show (oc++nc).length=(old.toList++(Builtin.zeroCells z.cells n).toList).length by rw [(ho.append hn).length],List.take_left];exact ho.append hn)
 refine ⟨w.drew.alloc (.cells (old++Builtin.zeroCells z.cells n++Builtin.zeroCells z.cells (grownCap w (sLen+n) sCap e-(sLen+n))) e),grownCap w (sLen+n) sCap e,?_,hc0,?_⟩
 ·have E5h:IntKind.i64.max=9223372036854775807:=by decide
  have w1:IntKind.i64.wrap (n:Int)=n:=IntWalk.i64_in _ (by omega);have q1:¬ (n:Int)<0:=by omega
  have q2:¬ ((n:Int)*(i.bytes:Int) > 281474976710656):=by
   have h1:n*i.bytes<=1073741824*65536:=Nat.mul_le_mul (by omega) hbl;have h2:((n*i.bytes:Nat):Int)<=((1073741824*65536:Nat):Int):=Int.ofNat_le.2 h1;rw [Int.natCast_mul] at h2;omega
  have q3:¬ (9223372036854775807<((sLen:Int)+(n:Int))):=by omega
  have q4:¬ (281474976710656<(n:Int)*(i.bytes:Int)):=by omega
  by_cases h0:n=0
  ·omega
  ·have h1:¬ (n*i.size=0):=Nat.mul_ne_zero h0 hp0;simp [Builtin.append_,F5 hs,F5 hyt,sizeOf,typeInfo,zeroValue,eH,hz,asInt,asIntOf,w1,q1,q4,E5h,q3,E0u,hb0,cC,Question.forced,hold,iD,grownCap,h1]
 ·rw [hC] at hrow;exact hrow
theorem A4D {s e yt ty:TypeId} {k:IntKind} {i:TypeInfo} {n sLen sCap:Nat} {z:Value} {base:Option Addr} {w':World}
  (hs:P.underlying s=A4 (.slice e)) (eH:P.info? e=A4 i) (hbl:i.bytes<=65536) (hz:i.zero=A4 z) (yN:z.cells.size=i.size) (hp0:i.size≠0) (hyt:P.underlying yt=A4 (.int k)) (hnb:n<=1073741824) (A1M:sLen+n<=sCap)
  (wS:∀ a,base=A4 a->(storeCells (a.add (sLen*i.size)) (Builtin.zeroCells z.cells n).toList).run P w=.ok () w') (cH:base=A7->w'=w) :
  (Builtin.append_ #[s,yt] ty #[.slice base sLen sCap,.int .i64 n]).run P w=.ok (.slice base (sLen+n) sCap) w':=by
 have w1:IntKind.i64.wrap (n:Int)=n:=IntWalk.i64_in _ (by omega);have q1:¬ (n:Int)<0:=by omega
 have q4:¬ (281474976710656<(n:Int)*(i.bytes:Int)):=by
  have h1:n*i.bytes<=1073741824*65536:=Nat.mul_le_mul hnb hbl;have h2:((n*i.bytes:Nat):Int)<=((1073741824*65536:Nat):Int):=Int.ofNat_le.2 h1;rw [Int.natCast_mul] at h2;omega
 by_cases h0:n=0
 ·subst h0;have hzc:(Builtin.zeroCells z.cells 0) = #[]:=by simp [Builtin.zeroCells]
  have w0:IntKind.i64.wrap 0=0:=IntWalk.i64_in _ (by omega);rw [hzc] at wS;cases base with
  | none =>
   have:=cH rfl;subst this;have hr0:sLen<=sCap:=by omega
   simp [Builtin.append_,F5 hs,F5 hyt,sizeOf,typeInfo,eH,asInt,asIntOf,hr0,w0]
  | some a =>
   have:=wS a rfl;simp [storeCells] at this;subst this;have hr0:sLen<=sCap:=by omega
   simp [Builtin.append_,F5 hs,F5 hyt,sizeOf,typeInfo,eH,asInt,asIntOf,storeCells,hr0,w0]
 ·have h1:¬ (n*i.size=0):=Nat.mul_ne_zero h0 hp0;cases base with
  | none =>
   have:=cH rfl;subst this;simp [Builtin.append_,F5 hs,F5 hyt,sizeOf,typeInfo,zeroValue,eH,hz,asInt,asIntOf,w1,q1,q4,A1M,h1]
  | some a =>
   have:=wS a rfl;simp [Builtin.append_,F5 hs,F5 hyt,sizeOf,typeInfo,zeroValue,eH,hz,asInt,asIntOf,w1,q1,q4,A1M,h1,this]
theorem E1k {s e yt ty:TypeId} {kk:IntKind} {i:TypeInfo} {z:Value} {zero:List Cell} {x y v:Val} {X Y:Value} {Γ:Ctx} {h h':B5}
  (hi:Inv Γ μ h w) (hs:P.underlying s=A4 (.slice e)) (eH:P.info? e=A4 i) (hbl:i.bytes<=65536) (hb0:i.bytes≠0) (hz:i.zero=A4 z) (yN:z.cells.size=i.size) (B50:i.size≠0)
  (hyt:P.underlying yt=A4 (.int kk)) (hzc:All2 (RC μ) zero z.cells.toList) (hx:RV μ x X) (hy:RV μ y Y) (hc:B7Q h i.size zero x y=A4 (v,h')) :
  ∃ V w' μ',(Builtin.append_ #[s,yt] ty #[X,Y]).run P w=.ok V w' /\ μ.le μ'/\RV μ' v V/\Inv Γ μ' h' w'/\(∀ id,id<h.length -> μ' id = μ id):=by
 unfold B7Q at hc;simp only [E67] at hc;obtain ⟨n2,hn2,hc⟩:=hc;have hY:Y=.int .i64 n2/\n2<=1073741824:=by
  unfold A5P at hn2;split at hn2
  ·split at hn2
   ·cases hn2;rename_i k hk;have:Y=.int .i64 k:=hy;subst this;exact ⟨by congr 1;omega,by omega⟩
   ·cases hn2
  ·cases hn2
 obtain ⟨rfl,hnb⟩:=hY;have hvs:All2 (RC μ) (rows zero n2) (Builtin.zeroCells z.cells n2).toList:=by
  have:=D7W hzc n2 (by omega);simpa [Builtin.zeroCells] using this
 have hvl:(Builtin.zeroCells z.cells n2).size=n2*i.size:=by simp [Builtin.zeroCells,yN]
 have D28:μ h.length=A7:=hi.dom _ (E7b _);have cG:∀ x id,id<h.length->(μ.add h.length x) id = μ id:=λx id hid=>by
  have:id≠h.length:=by omega
  simp [Mu.add,this]
 split at hc
 ·
  ·cases hc;cases hx;by_cases h0:n2=0
   ·subst h0;have hr:=A4D (P:=P) (ty:=ty) (sLen:=0) (sCap:=0) (base:=A7) (w':=w) (n:=0) hs eH hbl hz yN B50 hyt (by omega) (by omega) (λa h=>by cases h) (λ_=>rfl);exact ⟨_,w,μ,hr,Mu.le_refl _,.inr ⟨rfl,A7,rfl⟩,A5l (slot:=A7) (n0:=0) hi trivial,λ_ _=>rfl⟩
   ·obtain ⟨w',c,hr,hc1,hI⟩:=A4C (P:=P) (ty:=ty) (sLen:=0) (sCap:=0) (base:=A7) (old:=#[]) (oc:=[]) (n:=n2) hi hs eH hbl hz yN hyt hb0 B50 (by simp [Builtin.firstCells]) (by omega) (E7b _) (by omega) trivial hvs (by simp);refine ⟨_,w',_,hr,Mu.le_add D28,.inl ⟨w.heap.size,c*i.size,c,V0 _ _ _,by omega,by simp,by simp⟩,hI,cG _⟩
 ·rename_i id off len sz';simp only [E67] at hc;obtain ⟨r,hr,hc⟩:=hc;split at hc
  ·cases hc;rename_i A1J;obtain ⟨mD,rfl,xY,hsz,hbd⟩:=A1J;subst hsz;rcases hx with ⟨b,m,cap,hm,hlc,B8i,rfl⟩ | ⟨h0,a,rfl⟩
   ·by_cases A1M:len+n2<=cap
    ·have E2k:r.cells.length+(rows zero n2).length<=m:=by
      have h1:=hvs.length;simp at h1;have h2:(len+n2)*i.size<=cap*i.size:=Nat.mul_le_mul_right _ A1M;rw [E78] at h2;omega
     have wS:=A3e (P:=P) hi hr mD hm hvs E2k;have hr':=A4D (P:=P) (ty:=ty) (sLen:=len) (sCap:=cap) (base:=A4 ⟨b,0,A7⟩) (w':=w.setCells b r.cells.length (Builtin.zeroCells z.cells n2).toList) hs eH hbl hz yN B50 hyt hnb A1M
      (λa ha=>by cases ha;rw [kL,xY,E7t];exact wS.1) (λh=>by cases h)
     exact ⟨_,_,_,hr',Mu.le_add D28,.inl ⟨b,m,cap,V0 _ _ _,A1M,B8i,rfl⟩,wS.2,cG _⟩
    ·have hrow:=hi.rows id r hr;obtain ⟨olds,ho1,ho2,ho3⟩:=hrow.cells hm 0 (len*i.size) (by omega) (by rw [mD];rfl);have oD:(r.cells.drop 0).take (len*i.size)=r.cells:=by rw [E7p,xY,List.take_length]
     rw [oD] at ho1;have hold:=run_loadCells_list (P:=P) w.drew ⟨b,0,A7⟩ olds (λj v hv=>by rw [kL];exact ho3 j v hv);rw [ho2] at hold;obtain ⟨w',c,hr',hc1,hI⟩:=A4C (P:=P) (ty:=ty) (sLen:=len) (sCap:=cap) (base:=A4 ⟨b,0,A7⟩) (old:=olds.toArray) (oc:=r.cells) (n:=n2) hi hs eH hbl hz yN hyt hb0 B50
      (by simpa [Builtin.firstCells] using hold) A1M hlc (by omega) ho1 hvs (by simpa using ho2)
     refine ⟨_,w',_,hr',Mu.le_add D28,.inl ⟨w.heap.size,c*i.size,c,V0 _ _ _,by omega,by simp,by simp⟩,?_,cG _⟩;have:=hI.drop id
     rwa [List.set_append_left _ _ (C8 hr)] at this
   ·subst h0;have hrc:r.cells=[]:=by
     have:r.cells.length=0:=by omega
     exact List.length_eq_zero_iff.1 this
    by_cases h0:n2=0
    ·subst h0;have hr':=A4D (P:=P) (ty:=ty) (sLen:=0) (sCap:=0) (base:=a) (w':=w) (n:=0) (z:=z) hs eH hbl hz yN B50 hyt (by omega) (by omega) (λa h=>by simp [storeCells,Builtin.zeroCells]) (λ_=>rfl);refine ⟨_,w,μ,hr',Mu.le_refl _,.inr ⟨rfl,a,rfl⟩,?_,λ_ _=>rfl⟩;have:=(A5l (slot:=A7) (n0:=0) hi trivial).drop id;rw [hrc];simp only [dO] at this
     rwa [List.set_append_left _ _ (C8 hr)] at this
    ·obtain ⟨w',c,hr',hc1,hI⟩:=A4C (P:=P) (ty:=ty) (sLen:=0) (sCap:=0) (base:=a) (old:=#[]) (oc:=[]) (n:=n2) hi hs eH hbl hz yN hyt hb0 B50
      (by cases a<;>simp [Builtin.firstCells,loadCells,loadCellsFrom]) (by omega) (E7b _) (by omega) trivial hvs (by simp)
     refine ⟨_,w',_,hr',Mu.le_add D28,.inl ⟨w.heap.size,c*i.size,c,V0 _ _ _,by omega,by simp,by simp⟩,?_,cG _⟩;have:=hI.drop id;rw [hrc]
     rwa [List.set_append_left _ _ (C8 hr)] at this
  ·cases hc
 ·cases hc
end
section
variable {P:Program} {μ:Mu} {w:World}
theorem Inv.marked {Γ:Ctx} {h:B5} {id b n:Nat} {r:Row} (hi:Inv Γ μ h w) (hr:rd h id=A4 r) (mD:r.rw=A5) (hm:μ id=A4 (b,n)) :
  ∃ w',(markStringish ⟨b,0,A7⟩).run P w=.ok () w'/\Inv Γ μ h w'/\∀ off,(markStringish ⟨b,off,A7⟩).run P w=.ok () w':=by
 obtain ⟨C,elem,fz,h1,h2,h3,h4⟩:=(hi.rows id r hr).mem hm mD;have hsh:w.shape? b=A4 (elem,n):=by simp [World.shape?,h1,h2]
 have A84:∀ off,(markStringish ⟨b,off,A7⟩).run P w=.ok () (w.freeze ⟨b,n,A7⟩ 1):=by
  intro off;simp [markStringish,hsh]
 refine ⟨w.freeze ⟨b,n,A7⟩ 1,A84 0,?_,A84⟩;have D1H:∀ b',(w.freeze ⟨b,n,A7⟩ 1).heap[b']?=if b=b' then A4 (.cells C elem (if fz.1==fz.2 then (n,n+1) else (min fz.1 n,max fz.2 (n+1)))) else w.heap[b']? := by
  intro b';simp only [World.freeze,if_neg (show ¬ (1:Nat)=0 by omega),Array.getElem?_modify];split
  ·rename_i e;subst e;rw [h1];simp
  ·rfl
 have E33:∀ b',b'≠b->(w.freeze ⟨b,n,A7⟩ 1).heap[b']?=w.heap[b']? := λb' hb=>by rw [D1H,if_neg (Ne.symm hb)]
 have:=hi.write hr mD hm (w':=w.freeze ⟨b,n,A7⟩ 1) (cs:=r.cells) rfl rfl rfl E33 (by
  unfold RowOk;rw [hm];refine .inl ⟨C,elem,_,by rw [D1H,if_pos rfl],h2,(mD ▸ h3:All2 (RL μ A5) _ _),λ_=>.inr ?_⟩;have h5:=h4 mD;split
  ·exact E7b _
  ·rename_i T8;rcases h5 with h5 | h5
   ·simp [h5] at T8
   ·show n<=min fz.1 n;omega)
 have e:h.set id (A4 ⟨r.cells,A5⟩)=h:=by
  apply List.ext_getElem?;intro j;by_cases hj:id=j
  ·subst hj;rw [List.getElem?_set_self (C8 hr)];rw [rd_some] at hr;rw [hr,<-mD]
  ·rw [List.getElem?_set_ne hj]
 rwa [e] at this
theorem run_mark {Γ:Ctx} {s e:TypeId} {h:B5} {x v:Val} {X:Value} (hi:Inv Γ μ h w) (hs:sliceB P s=A4 e) (he:B52 P e=A4 .u8) (hx:RV μ x X) (hc:zN h x=A4 v) :
  ∃ w',(convert s s X).run P w=.ok X w'/\v=x/\Inv Γ μ h w':=by
 unfold zN at hc;split at hc
 ·rename_i id off len sz;simp only [E67] at hc;obtain ⟨r,hr,hc⟩:=hc;split at hc
  ·cases hc;rename_i A1J;rcases hx with ⟨b,m,cap,hm,hlc,B8i,rfl⟩ | ⟨h0,a,rfl⟩
   ·obtain ⟨w',h1,h2,h3⟩:=hi.marked (P:=P) hr A1J.1 hm;exact ⟨w',by simp [convert,F5 (P6 hs),F5 (A5I he),h3 off],rfl,h2⟩
   ·omega
  ·cases hc
 ·cases hc
theorem E2W {Γ:Ctx} {h:B5} {n0:Nat} {slot:Option Nat} {s d e:TypeId} {l:List UInt8} (hi:Inv Γ μ h w) (nC:uR μ h n0 slot) (hs:cD P s=A5) (hd:sliceB P d=A4 e) (he:B52 P e=A4 .u8) (hl:l.length<=1073741824) :
  ∃ V w' μ',(convert s d (.string ⟨l.toArray⟩)).run P w=.ok V w' /\ μ.le μ'/\RV μ' (.c (.sl (dO h n0 slot ⟨B4 l,A5⟩).1 0 l.length 1)) V/\Inv Γ μ' (dO h n0 slot ⟨B4 l,A5⟩).2 w'/\Keeps μ μ' h n0 slot:=by
 have hsz:(ByteArray.mk l.toArray).size=l.length:=by show l.toArray.size=_;simp
 have B8i:l.length<=(Question.appendCap l.length 0 e).cut (w.tape w.drawn (.appendCap l.length 0 e)):=by show l.length<=l.length+_%_;omega
 generalize hk:(Question.appendCap l.length 0 e).cut (w.tape w.drawn (.appendCap l.length 0 e))=cap at B8i;have hC:((l.toArray.map λ(b:UInt8)=>Value.int .u8 b.toNat)++Array.replicate (cap-l.length) (Value.int .u8 0)).toList=(l.map λ(b:UInt8)=>Value.int .u8 b.toNat)++E68 (cap-l.length) (Value.int .u8 0):=by simp
 have hw:Inv Γ μ h w.drew:=hi.world rfl rfl rfl λ_ _=>rfl
 have hn:=B56 (t:=e) hw nC (cs:=B4 l) (C:=(l.map λ(b:UInt8)=>Value.int .u8 b.toNat)++E68 (cap-l.length) (Value.int .u8 0)) (by
  rw [show (B4 l).length=(l.map λ(b:UInt8)=>Value.int .u8 b.toNat).length by simp [B4],List.take_left];exact D7t l)
 have hsp:=pO (r:=⟨B4 l,A5⟩) nC hi.dom;obtain ⟨w',h1,h2,h3⟩:=hn.marked (P:=P) hsp.2.2.2.2.2 rfl (V0 _ _ _);refine ⟨.slice (A4 ⟨w.heap.size,0,A7⟩) l.length cap,w',_,?_,Mu.le_add hsp.1,.inl ⟨_,_,cap,V0 _ _ _,B8i,by simp;omega,rfl⟩,h2,Keeps.new⟩;have h1:(markStringish ⟨w.heap.size,0,A7⟩).run P (w.drew.alloc (.cells ((l.map λ(b:UInt8)=>Value.int .u8 b.toNat)++E68 (cap-l.length) (Value.int .u8 0)).toArray e))=.ok () w':=h1;rw [<-hC,Array.toArray_toList] at h1;have hfo:(Question.appendCap l.length 0 e).forced=A6:=rfl;simp only [convert,Sem.run_bind,F5 (mC hs),Result.andThen_ok,F5 (P6 hd),F5 (A5I he),Conv.stringToBytes,run_choose,hsz,hfo,Bool.false_eq_true,if_false,hk,iD];have hdr:({ w with drawn:=w.drawn+1 }:World)=w.drew:=rfl;rw [hdr,h1];rfl
theorem E1m {Γ:Ctx} {h h':B5} {s e yt ty:TypeId} {sz:Nat} {x y v:Val} {X Y:Value} (hi:Inv Γ μ h w) (hs:sliceB P s=A4 e) (hsz:R4 P e=A4 sz) (B50:sz≠0) (hx:RV μ x X) (hy:RV μ y Y) (hc:C6Y h sz x y=A4 (v,h')) :
  ∃ V w',(Builtin.copy_ #[s,yt] ty #[X,Y]).run P w=.ok V w'/\RV μ v V/\Inv Γ μ h' w':=by
 unfold C6Y at hc;split at hc
 ·cases hc
 rename_i E6n;simp only [E67] at hc;obtain ⟨ys,hys,hc⟩:=hc;split at hc
 ·rename_i id off len sz';simp only [E67] at hc;obtain ⟨r,hr,hc⟩:=hc;split at hc
  ·cases hc;rename_i A1J;obtain ⟨mD,E2k,rfl⟩:=A1J;have src:∃ n vs,(Builtin.lenOf Y).run P w=.ok n w/\All2 (RC μ) ys vs/\vs.length=n*sz/\∀ m,m<=n->(Builtin.firstCells sz m Y).run P w=.ok (vs.take (m*sz)).toArray w:=by
    cases y with
    | c c =>
     cases c with
     | sl id2 off2 len2 sz2 =>
      simp only [P8] at hys;split at hys
      ·rename_i hs2;subst hs2;obtain ⟨len',cap,a,vs,rfl,hvs,hlen,C7X,A5E⟩:=B6f hi.rows hy hys;have hl:=hlen sz (λ_ _ _ _ h=>by cases h;rfl);refine ⟨len',vs,rfl,hvs,hl,λm hm=>?_⟩;cases a with
       | none=>have:=C7X rfl;subst this;simp [Builtin.firstCells]
       | some b =>
        have hml:(vs.take (m*sz)).length=m*sz:=by
         have:=Nat.mul_le_mul_right sz hm;simp;omega
        have:=run_loadCells_list (P:=P) w b (vs.take (m*sz)) (λj v hv=>A5E b rfl j v (by
         have hj:=(List.getElem?_eq_some_iff.1 hv).1;rw [E7G (by omega)] at hv;exact hv))
        rw [hml] at this;simpa [Builtin.firstCells] using this
      ·cases hys
     | ns =>
      simp only [P8] at hys;cases hys;cases hy;exact ⟨0,[],rfl,trivial,by simp,λm hm=>by simp [Builtin.firstCells]⟩
     | s l=>exact absurd rfl (E6n l)
     | _=>simp [P8] at hys
    | _=>simp [P8] at hys
   obtain ⟨n,vs,hlen,hvs,hvl,C05⟩:=src;have hyl:ys.length/sz=n:=by rw [hvs.length,hvl];exact Nat.mul_div_cancel _ (by omega)
   rw [hyl];have hf:=C05 (Nat.min n len) (Nat.min_le_left _ _);have hml:(ys.take (Nat.min n len*sz)).length=Nat.min n len*sz:=by
    have h1:=hvs.length;have h2:Nat.min n len*sz<=n*sz:=Nat.mul_le_mul_right sz (Nat.min_le_left n len);rw [E7A];omega
   have E49:off+(ys.take (Nat.min n len*sz)).length<=r.cells.length:=by
    have h2:Nat.min n len*sz<=len*sz:=Nat.mul_le_mul_right sz (Nat.min_le_right n len);omega
   rcases hx with ⟨b,m,cap,hm,hlc,B8i,rfl⟩ | ⟨h0,a,rfl⟩
   ·have wS:=C82 (P:=P) hi hr mD hm (off:=off) (hvs.take (Nat.min n len*sz)) E49;refine ⟨_,_,?_,rfl,wS.2⟩;simp [Builtin.copy_,F5 (P6 hs),hlen,Q4 hsz,hf,wS.1,goInt]
   ·subst h0;refine ⟨_,w,?_,rfl,?_⟩
    ·have hz:(Builtin.firstCells sz 0 Y).run P w=.ok #[] w:=by simpa using C05 0 (Nat.zero_le _)
     cases a<;>simp [Builtin.copy_,F5 (P6 hs),hlen,Q4 hsz,hz,goInt,storeCells]
    ·have e0:lay r.cells off (ys.take (Nat.min n 0*sz))=r.cells:=by simp [lay]
     rw [e0];have e:h.set id (A4 ⟨r.cells,A5⟩)=h:=by
      apply List.ext_getElem?;intro j;by_cases hj:id=j
      ·subst hj;rw [List.getElem?_set_self (C8 hr)];rw [rd_some] at hr;rw [hr,<-mD]
      ·rw [List.getElem?_set_ne hj]
     rw [e];exact hi
  ·cases hc
 ·cases hc
end
def C8d (leaf:TypeId->Option (List Sh)) (P:Program):Nat->List Field->Option (List Sh)
 | _,[]=>A4 []
 | off,f::fs=>(leaf f.type).bind λl =>
   if f.name ≠ "_" ∧ f.offset = off ∧ R4 P f.type = some l.length then (C8d leaf P (off + l.length) fs).map λr => l ++ r else none
def B1L (P:Program):Nat->TypeId->Option (List Sh)
 | 0,_=>A7
 | d+1,t =>
  match P.underlying t with
  | some .bool=>A4 [.b]
  | some (.int k)=>A4 [.i k]
  | some .string=>A4 [.s]
  | some (.struct fs)=>if P.stoodInHeld t=A6 then C8d (B1L P d) P 0 fs.toList else A7
  | some (.array n e)=>(B1L P d e).bind λl=>if R4 P e=A4 l.length then A4 (E68 n l).flatten else A7
  | _=>A7
section
variable {P:Program} {μ:Mu} {w:World}
def mkv (P:Program) (t:TypeId) (vs:List Value):Value :=
 if kM P t=A4 A5 then .agg vs.toArray else vs.headD undef
theorem D70 {c:Cell} {k:IntKind} (h:c.sh=A4 (.i k)):∃ n,c=.i k n:=by
 cases c<;>simp [Cell.sh] at h
 subst h;exact ⟨_,rfl⟩
theorem D7Z {c:Cell} (h:c.sh=A4 .b):∃ x,c=.b x:=by
 cases c<;>simp [Cell.sh] at h
 exact ⟨_,rfl⟩
theorem D71 {c:Cell} (h:c.sh=A4 .s):∃ x,c=.s x:=by
 cases c<;>simp [Cell.sh] at h
 exact ⟨_,rfl⟩
theorem C1g {q:Sh} {xs:List Cell} {Xs:List Value} (h:xs.map Cell.sh=[q].map A4) (hX:All2 (RC μ) xs Xs):∃ x X,xs=[x]/\Xs=[X]/\x.sh=A4 q/\RC μ x X:=by
 cases xs with
 | nil=>simp at h
 | cons x r =>
  cases r with
  | cons y r=>simp at h
  | nil =>
   cases Xs with
   | nil=>exact hX.elim
   | cons X R =>
    cases R with
    | nil=>exact ⟨x,X,rfl,rfl,by simpa using h,hX.1⟩
    | cons Y R=>exact hX.2.elim
theorem D7o {α:Type} [DecidableEq α] (a b:α):(a==b)=decide (a=b):=by rw [Bool.eq_iff_iff];simp
theorem B71 {a b c d:List Cell} (h:a.length=c.length):decide (a++b=c++d)=(decide (a=c)&&decide (b=d)):=by
 rw [Bool.eq_iff_iff];simp only [E69,decide_eq_true_eq];exact ⟨λk=>List.append_inj k h,λ⟨h,k⟩=>by rw [h,k]⟩
def E3w (P:Program) (D:Nat) (t:TypeId) (l:List Sh):Prop :=
 ∀ (μ:Mu) (w:World) (xs ys:List Cell) (Xs Ys:List Value),xs.map Cell.sh=l.map A4->ys.map Cell.sh=l.map A4->All2 (RC μ) xs Xs->All2 (RC μ) ys Ys ->
  (Op.equalIn D t (mkv P t Xs) (mkv P t Ys)).run P w=.ok (decide (xs=ys)) w
theorem B8S {t:TypeId} {l:List Sh} {xs:List Cell} {Xs:List Value} {off:Nat} (hsz:R4 P t=A4 l.length) (oC:kM P t=A4 A5\/(kM P t=A4 A6/\l.length=1))
  (hX:All2 (RC μ) xs Xs) (hl:off+l.length<=xs.length):(part t Xs.toArray off).run P w=.ok (mkv P t ((Xs.drop off).take l.length)) w:=by
 have hlen:=hX.length;rcases oC with h | ⟨h,h1⟩
 ·simp [part,B2G h,Q4 hsz,mkv,h,List.take_drop]
 ·have V5:off<Xs.length:=by omega
  have:((Xs.drop off).take l.length).headD undef=Xs[off]:=by
   rw [h1,E7d V5];rfl
  unfold mkv;rw [if_neg (by rw [h];simp),this];simp [part,B2G h,V5]
theorem D58 {t:TypeId} {d:Nat} {l:List Sh} (h:B1L P d t=A4 l):kM P t=A4 A5\/(kM P t=A4 A6/\l.length=1):=by
 cases d with
 | zero=>simp [B1L] at h
 | succ d =>
  unfold B1L at h;unfold kM;split at h
  ·rename_i hu;cases h;right;simp [hu]
  ·rename_i hu;cases h;right;simp [hu]
  ·rename_i hu;cases h;right;simp [hu]
  ·rename_i hu;left;simp [hu]
  ·rename_i hu;left;simp [hu]
  ·cases h
theorem D1z {leaf:TypeId->Option (List Sh)} {D:Nat} (hok:∀ t l,leaf t=A4 l->E3w P D t l) (oC:∀ t l,leaf t=A4 l->kM P t=A4 A5\/(kM P t=A4 A6/\l.length=1)) :
  ∀ (fs:List Field) (off:Nat) (l:List Sh) (μ:Mu) (w:World) (xs ys:List Cell) (Xs Ys:List Value),C8d leaf P off fs=A4 l->xs.length=off+l.length->ys.length=off+l.length ->
   (xs.drop off).map Cell.sh=l.map A4->(ys.drop off).map Cell.sh=l.map A4->All2 (RC μ) xs Xs->All2 (RC μ) ys Ys ->
   (Op.eqFields D Xs.toArray Ys.toArray fs).run P w=.ok (decide (xs.drop off=ys.drop off)) w
 | [],off,l,μ,w,xs,ys,Xs,Ys,hl,h1,h2,hs1,hs2,hX,hY=>by
  simp [C8d] at hl;subst hl;simp at h1 h2;rw [E7k (by omega),E7k (by omega)];simp [Op.eqFields]
 | f::fs,off,l,μ,w,xs,ys,Xs,Ys,hl,h1,h2,hs1,hs2,hX,hY=>by
  simp only [C8d,E67] at hl;obtain ⟨lf,hlf,hl⟩:=hl;split at hl
  ·rename_i hc;obtain ⟨D45,E6o,hsz⟩:=hc;simp only [E7q] at hl;obtain ⟨r,hr,rfl⟩:=hl;simp only [E7a] at h1 h2;have e:∀ zs:List Cell,(zs.drop off).map Cell.sh=(lf++r).map A4->zs.length=off+(lf.length+r.length)->((zs.drop off).take lf.length).map Cell.sh=lf.map A4/\(zs.drop (off+lf.length)).map Cell.sh=r.map A4:=by
    intro zs hz yN;constructor
    ·rw [List.map_take,hz,E71,List.take_left' (by simp)]
    ·rw [<-E7X,List.map_drop,hz,E71,List.drop_left' (by simp)]
   obtain ⟨a1,a2⟩:=e xs hs1 h1;obtain ⟨b1,b2⟩:=e ys hs2 h2;have hp1:=B8S (P:=P) (w:=w) (off:=off) hsz (oC _ _ hlf) hX (by omega);have hp2:=B8S (P:=P) (w:=w) (off:=off) hsz (oC _ _ hlf) hY (by omega);have wR:=hok _ _ hlf μ w _ _ _ _ a1 b1 ((hX.drop off).take lf.length) ((hY.drop off).take lf.length);have ih:=D1z hok oC fs (off+lf.length) r μ w xs ys Xs Ys hr (by omega) (by omega) a2 b2 hX hY;have split:∀ zs:List Cell,zs.drop off=(zs.drop off).take lf.length++zs.drop (off+lf.length):=by
    intro zs;rw [<-E7X];exact (List.take_append_drop _ _).symm
   have hd:decide (xs.drop off=ys.drop off)=(decide ((xs.drop off).take lf.length=(ys.drop off).take lf.length)&&decide (xs.drop (off+lf.length)=ys.drop (off+lf.length))):=by
    have hlen:((xs.drop off).take lf.length).length=((ys.drop off).take lf.length).length:=by simp;omega
    conv=>lhs;rw [split xs,split ys]
    exact B71 hlen
   subst E6o;simp only [Op.eqFields,D45,ne_eq,not_false_eq_true,if_true,Sem.run_bind,hp1,Result.andThen_ok,hp2,wR];rw [hd];cases decide ((xs.drop f.offset).take lf.length=(ys.drop f.offset).take lf.length) with
   | true=>simpa using ih
   | false=>simp
  ·cases hl
def A7s (D:Nat) (e:TypeId) (n:Nat) (xs ys:Array Value):List Nat->Sem Bool
 | []=>pure A5
 | i::r=>do
  let a <-part e xs (i*n)
  let b <-part e ys (i*n)
  let q <-Op.equalIn D e a b
  if (!q)=A5 then pure A6 else A7s D e n xs ys r
theorem run_equalIn_array {D:Nat} {t e:TypeId} {n sz:Nat} {xs ys:Array Value} (ha:oV P t=A4 (n,e)) (hsz:R4 P e=A4 sz) :
  (Op.equalIn (D+1) t (.agg xs) (.agg ys)).run P w=(A7s D e sz xs ys (E7C n)).run P w:=by
 simp only [Op.equalIn,Sem.run_bind,F5 (oW ha),Result.andThen_ok,Q4 hsz];rw [Std.Legacy.Range.forIn_eq_forIn_range'];have hr:E7M (Std.Legacy.Range.start [0:n]) (Std.Legacy.Range.size [0:n]) (Std.Legacy.Range.step [0:n])=E7C n:=by
  simp [List.range_eq_range',Std.Legacy.Range.size]
 rw [hr];generalize E7C n=is
 induction is generalizing w with
 | nil=>simp [A7s]
 | cons i is ih =>
  simp only [List.forIn_cons,A7s,Sem.run_bind];generalize (part e xs (i*sz)).run P w=r1;cases r1 with
  | ok a w1 =>
   simp only [Result.andThen_ok];generalize (part e ys (i*sz)).run P w1=r2;cases r2 with
   | ok b w2 =>
    simp only [Result.andThen_ok];generalize (Op.equalIn D e a b).run P w2=r3;cases r3 with
    | ok r w3 =>
     cases r
     ·simp
     ·simpa using ih
    | halt x w3=>simp [Result.andThen]
   | halt x w2=>simp [Result.andThen]
  | halt x w1=>simp [Result.andThen]
theorem D4R {D:Nat} {e:TypeId} {l:List Sh} (hok:E3w P D e l) (oC:kM P e=A4 A5\/(kM P e=A4 A6/\l.length=1)) (hsz:R4 P e=A4 l.length) :
  ∀ (k i:Nat) (μ:Mu) (w:World) (xs ys:List Cell) (Xs Ys:List Value),xs.length=i*l.length+k*l.length->ys.length=i*l.length+k*l.length ->
   (xs.drop (i*l.length)).map Cell.sh=(E68 k l).flatten.map A4->(ys.drop (i*l.length)).map Cell.sh=(E68 k l).flatten.map A4->All2 (RC μ) xs Xs->All2 (RC μ) ys Ys ->
   (A7s D e l.length Xs.toArray Ys.toArray (E7M i k)).run P w=.ok (decide (xs.drop (i*l.length)=ys.drop (i*l.length))) w
 | 0,i,μ,w,xs,ys,Xs,Ys,h1,h2,hs1,hs2,hX,hY=>by
  rw [E7k (by omega),E7k (by omega)];simp [A7s]
 | k+1,i,μ,w,xs,ys,Xs,Ys,h1,h2,hs1,hs2,hX,hY=>by
  have hk:(k+1)*l.length=l.length+k*l.length:=by rw [E78];omega
  have hi:(i+1)*l.length=i*l.length+l.length:=by rw [E78];omega
  rw [hk] at h1 h2;have e:∀ zs:List Cell,(zs.drop (i*l.length)).map Cell.sh=(E68 (k+1) l).flatten.map A4->zs.length=i*l.length+(l.length+k*l.length) ->
    ((zs.drop (i*l.length)).take l.length).map Cell.sh=l.map A4/\(zs.drop ((i+1)*l.length)).map Cell.sh=(E68 k l).flatten.map A4:=by
   intro zs hz yN;rw [E7z,List.flatten_cons] at hz;constructor
   ·rw [List.map_take,hz,E71,List.take_left' (by simp)]
   ·rw [hi,<-E7X,List.map_drop,hz,E71,List.drop_left' (by simp)]
  obtain ⟨a1,a2⟩:=e xs hs1 h1;obtain ⟨b1,b2⟩:=e ys hs2 h2;have hp1:=B8S (P:=P) (w:=w) (off:=i*l.length) hsz oC hX (by omega);have hp2:=B8S (P:=P) (w:=w) (off:=i*l.length) hsz oC hY (by omega);have wR:=hok μ w _ _ _ _ a1 b1 ((hX.drop (i*l.length)).take l.length) ((hY.drop (i*l.length)).take l.length);have ih:=D4R hok oC hsz k (i+1) μ w xs ys Xs Ys (by omega) (by omega) a2 b2 hX hY;have split:∀ zs:List Cell,zs.drop (i*l.length)=(zs.drop (i*l.length)).take l.length++zs.drop ((i+1)*l.length):=by
   intro zs;rw [hi,<-E7X];exact (List.take_append_drop _ _).symm
  have hd:decide (xs.drop (i*l.length)=ys.drop (i*l.length))=(decide ((xs.drop (i*l.length)).take l.length=(ys.drop (i*l.length)).take l.length)&&decide (xs.drop ((i+1)*l.length)=ys.drop ((i+1)*l.length))):=by
   have hlen:((xs.drop (i*l.length)).take l.length).length=((ys.drop (i*l.length)).take l.length).length:=by simp;omega
   conv=>lhs;rw [split xs,split ys]
   exact B71 hlen
  rw [List.range'_succ];simp only [A7s,Sem.run_bind,hp1,Result.andThen_ok,hp2,wR];rw [hd];cases decide ((xs.drop (i*l.length)).take l.length=(ys.drop (i*l.length)).take l.length) with
  | true=>simpa using ih
  | false=>simp
theorem D7H:∀ (d D:Nat) (t:TypeId) (l:List Sh),d<=D->B1L P d t=A4 l->E3w P D t l
 | 0,_,_,_,_,h=>by simp [B1L] at h
 | d+1,0,_,_,hD,_=>by omega
 | d+1,D+1,t,l,hD,h=>by
  have ih:=λt' l'=>D7H d D t' l' (by omega)
  have oC:=D58 h;intro μ w xs ys Xs Ys hx hy hX hY;unfold B1L at h;split at h
  ·rename_i hu;cases h;obtain ⟨x,X,rfl,rfl,h1,h2⟩:=C1g hx hX;obtain ⟨y,Y,rfl,rfl,h3,h4⟩:=C1g hy hY;obtain ⟨a,rfl⟩:=D7Z h1;obtain ⟨b,rfl⟩:=D7Z h3;cases h2;cases h4;have hm:∀ v:Value,mkv P t [v]=v:=λv=>by simp [mkv,kM,hu]
   rw [hm,hm,run_equalIn_bool' w D t a b hu,D7o];simp
  ·rename_i k hu;cases h;obtain ⟨x,X,rfl,rfl,h1,h2⟩:=C1g hx hX;obtain ⟨y,Y,rfl,rfl,h3,h4⟩:=C1g hy hY;obtain ⟨a,rfl⟩:=D70 h1;obtain ⟨b,rfl⟩:=D70 h3;cases h2;cases h4;have hm:∀ v:Value,mkv P t [v]=v:=λv=>by simp [mkv,kM,hu]
   rw [hm,hm,run_equalIn_int w D t k k a b hu,D7o];simp
  ·rename_i hu;cases h;obtain ⟨x,X,rfl,rfl,h1,h2⟩:=C1g hx hX;obtain ⟨y,Y,rfl,rfl,h3,h4⟩:=C1g hy hY;obtain ⟨a,rfl⟩:=D71 h1;obtain ⟨b,rfl⟩:=D71 h3;cases h2;cases h4;have hm:∀ v:Value,mkv P t [v]=v:=λv=>by simp [mkv,kM,hu]
   rw [hm,hm,run_equalIn_string w D t _ _ hu,ByteArray.toList_mk,ByteArray.toList_mk,show (a==b)=decide (a=b) by rw [Bool.eq_iff_iff];simp];simp
  ·rename_i fs hu;split at h
   ·rename_i wS;have hm:∀ vs:List Value,mkv P t vs=.agg vs.toArray:=λvs=>by simp [mkv,kM,hu]
    have hfo:P.fieldsOf t=fs:=by simp [Program.fieldsOf,hu]
    rw [hm,hm,run_equalIn_struct w D t _ _ (by rw [hfo];exact hu) wS,hfo];have hxl:xs.length=l.length:=by have:=congrArg List.length hx;simpa using this
    have hyl:ys.length=l.length:=by have:=congrArg List.length hy;simpa using this
    have:=D1z (P:=P) (leaf:=B1L P d) (D:=D) (λt' l' h'=>ih t' l' h') (λt' l' h'=>D58 h') fs.toList 0 l μ w xs ys Xs Ys h (by omega) (by omega) (by simpa using hx) (by simpa using hy) hX hY;simpa using this
   ·cases h
  ·rename_i n e hu;simp only [E67] at h;obtain ⟨le,cC,h⟩:=h;split at h
   ·cases h;rename_i hsz;have hm:∀ vs:List Value,mkv P t vs=.agg vs.toArray:=λvs=>by simp [mkv,kM,hu]
    have E55:oV P t=A4 (n,e):=by simp [oV,hu]
    rw [hm,hm,run_equalIn_array E55 hsz];have hxl:xs.length=n*le.length:=by have:=congrArg List.length hx;simpa using this
    have hyl:ys.length=n*le.length:=by have:=congrArg List.length hy;simpa using this
    have:=D4R (ih e le cC) (D58 cC) hsz n 0 μ w xs ys Xs Ys (by omega) (by omega) (by simpa using hx) (by simpa using hy) hX hY;rw [<-List.range_eq_range'] at this;simpa using this
   ·cases h
  ·cases h
theorem E2P {neg:Bool} {t:TypeId} {l:List Sh} {x y v:Val} {X Y:Value} (oC:kM P t=A4 A5) (hl:B1L P 100 t=A4 l) (hx:RV μ x X) (hy:RV μ y Y) (h:aeq neg l x y=A4 v) :
  ∃ V,(binOp (bif neg then .neq else .eql) t X Y).run P w=.ok V w/\RV μ v V:=by
 unfold aeq at h;split at h
 ·obtain ⟨Xs,rfl,hX⟩:=hx;obtain ⟨Ys,rfl,hY⟩:=hy;split at h
  ·rename_i hc;cases h;have:=D7H (P:=P) 100 10000 t l (by omega) hl μ w _ _ Xs Ys hc.1 hc.2 hX hY;have hm:∀ vs:List Value,mkv P t vs=.agg vs.toArray:=λvs=>by simp [mkv,oC]
   rw [hm,hm] at this;cases neg
   ·exact ⟨_,by rw [cond_false,run_eql_struct,this];rfl,rfl⟩
   ·exact ⟨_,by rw [cond_true,run_neq_struct,this];rfl,rfl⟩
  ·cases h
 ·cases h
end
section
variable {P:Program} {μ:Mu} {w:World}
def D3j (P:Program) (t:TypeId):Option (TypeId × TypeId):=match P.underlying t with | some (.map k e)=>A4 (k,e) | _=>A7
theorem A1O {t k e:TypeId} (h:D3j P t=A4 (k,e)):P.underlying t=A4 (.map k e):=by
 unfold D3j at h;cases hu:P.underlying t with
 | none=>rw [hu] at h;cases h
 | some d=>rw [hu] at h;cases d<;>simp_all
def A8I (P:Program) (k:TypeId) (kk:Option IntKind):Bool :=
 match P.underlying k,kk with
 | some (.int i),A4 j=>decide (i=j)
 | some .string,none=>A5
 | _,_=>A6
def A7m (v:Value):Part->Bool
 | .c x=>v.oneCell'&&jU v [x]
 | .a l=>(match v with | .agg _=>A5 | _=>A6)&&jU v l
theorem B5O {v:Value} {p:Part} (h:A7m v p=A5):RP μ p v:=by
 cases p with
 | c x =>
  simp only [A7m,E69] at h;have h2:=gQ (μ:=μ) h.2;have h3:v.cells = #[v]:=by
   have:=h.1;cases v<;>simp_all [Value.oneCell',Value.cells]
  rw [h3] at h2;exact h2.1
 | a l =>
  simp only [A7m,E69] at h;have h2:=gQ (μ:=μ) h.2;cases v with
  | agg vs=>exact ⟨vs.toList,by simp,by simpa [Value.cells] using h2⟩
  | _=>cases h.1
theorem C78 {k:TypeId} {kk:Option IntKind} {d:TypeDesc} {c:Cell} {V:Value} (hd:P.underlying k=A4 d) (hk:A8I P k kk=A5) (hs:tQ kk c=A5) (hc:RC μ c V):MapKept.IsKey d V:=by
 unfold A8I at hk;rw [hd] at hk;cases d<;>cases kk<;>simp at hk
 all_goals
  cases c<;>simp [tQ] at hs
 ·subst hk;subst hs;cases hc;rfl
 ·cases hc;trivial
theorem E4i {kk:Option IntKind} {c c':Cell} {V V':Value} (h1:tQ kk c=A5) (h2:tQ kk c'=A5) (hc:RC μ c V) (hc':RC μ c' V'):V=V'↔c=c':=by
 cases kk with
 | none =>
  cases c<;>simp [tQ] at h1
  cases c'<;>simp [tQ] at h2
  cases hc;cases hc';simp
 | some k =>
  cases c<;>simp [tQ] at h1
  cases c'<;>simp [tQ] at h2
  cases hc;cases hc';subst h1;subst h2;simp
theorem D3n {d:TypeDesc} {kk:Option IntKind} {k:Cell} {K:Value} (hkd:∀ c V,tQ kk c=A5->RC μ c V->MapKept.IsKey d V) (hk:tQ kk k=A5) (hK:RC μ k K) :
  ∀ (es:W9) (E:List MapEntry) (i:Nat),All2 (RE μ) es E->(es.all λe=>tQ kk e.1)=A5 ->
   match mgo k es i with
   | none=>Instr.findNow d K E i=A4 A7
   | some (j,p)=>∃ V,Instr.findNow d K E i=A4 (A4 (j,V))/\RP μ p V/\i<=j/\∃ e E',es[j-i]?=A4 e/\e=(k,p)/\E[j-i]?=A4 E'/\E'.val=V/\E'.key=K
 | [],[],i,_,_=>rfl
 | e::es,E0::E,i,⟨⟨h1,h2⟩,h3⟩,hs=>by
  simp only [E7P,E69] at hs;obtain ⟨r,hr,C06⟩:=MapKept.sameNow_of_keys (hkd k K hk hK) (hkd e.1 E0.key hs.1 h1);have hke:=E4i hk hs.1 hK h1;unfold mgo;by_cases he:e.1=k
  ·rw [if_pos he];have:r=A5:=C06.2 (hke.2 he.symm);subst this;refine ⟨E0.val,by simp [Instr.findNow,hr],h2,E7b _,e,E0,by simp,by rw [<-he],by simp,rfl,(hke.2 he.symm).symm⟩
  ·rw [if_neg he];have hrf:r=A6:=by
    cases r with
    | false=>rfl
    | true=>exact absurd (hke.1 (C06.1 rfl)).symm he
   subst hrf;have ih:=D3n hkd hk hK es E (i+1) h3 hs.2;cases hm:mgo k es (i+1) with
   | none=>rw [hm] at ih;simp only at ih ⊢;simp [Instr.findNow,hr,ih]
   | some jp =>
    obtain ⟨j,p⟩:=jp;rw [hm] at ih;obtain ⟨V,g1,g2,g3,e',E',g4,g5,g6,g7,g8⟩:=ih;refine ⟨V,by simp [Instr.findNow,hr,g1],g2,by omega,e',E',?_,g5,?_,g7,g8⟩
    ·rw [show j-i=(j-(i+1))+1 by omega];simpa using g4
    ·rw [show j-i=(j-(i+1))+1 by omega];simpa using g6
 | [],_::_,_,h,_=>h.elim
 | _::_,[],_,h,_=>h.elim
theorem RP.val {p:Part} {V:Value} (h:RP μ p V):RV μ (A5S A6 p A5) V:=by
 cases p<;>exact h
theorem D6Q {p:Part} {b:Bool}:A5S A6 p b=A5S A6 p A5:=by cases p<;>rfl
theorem D3x {ok b:Bool} {p:Part} {V:Value} (h:RP μ p V):RV μ (A5S ok p b) (if ok then .tuple #[V,.bool b] else V):=by
 cases ok with
 | true=>exact ⟨[V,.bool b],rfl,h,rfl,trivial⟩
 | false =>
  rw [D6Q];exact RP.val h
theorem D3g {v:Val} {c:Cell} {V:Value} (h:C8a v=A4 c) (hv:RV μ v V):RC μ c V:=by
 cases v<;>simp [C8a] at h
 subst h;exact hv
theorem D5z {v:Val} {p:Part} {V:Value} (h:C8I v=A4 p) (hv:RV μ v V):RP μ p V:=by
 cases v<;>simp [C8I] at h
 ·subst h;exact hv
 ·subst h;exact hv
theorem E2u {hp:B5} {m:Val} {M:Value} {es:W9} (hrow:∀ id r,rd hp id=A4 r->RowOk μ w id r) (hm:RV μ m M) (h:D8N hp m=A4 es) :
  (M=.map A7/\es=[])\/∃ b E,M=.map (A4 b)/\w.heap[b]?=A4 (.map E E.size)/\All2 (RE μ) es E.toList/\∀ (i:Nat) (e:MapEntry),E[i]?=A4 e->e.born=i:=by
 unfold D8N at h;split at h
 ·cases h;exact .inl ⟨hm,rfl⟩
 ·rename_i id;obtain ⟨b,n,h1,rfl⟩:=hm;simp only [E67] at h;obtain ⟨r,hr,h⟩:=h;have:=B2A h;subst this;obtain ⟨E,h2,h3,h4⟩:=(hrow id _ hr).map h1;exact .inr ⟨b,E,rfl,h2,h3,h4⟩
 ·cases h
theorem E1s {t kt et:TypeId} {kk:Option IntKind} {z:Value} {zero:Part} {ok:Bool} {hp:B5} {m x v:Val} {M X:Value} (ht:D3j P t=A4 (kt,et)) (hkk:A8I P kt kk=A5) (hz:yL P et=A4 z) (hc:A7m z zero=A5)
  (hrow:∀ id r,rd hp id=A4 r->RowOk μ w id r) (hm:RV μ m M) (hx:RV μ x X) (h:A8j hp kk zero ok m x=A4 v) :
  ∃ V,(Instr.lookup t M X ok).run P w=.ok V w/\RV μ v V:=by
 simp only [A8j,E67] at h;obtain ⟨k,hk,es,hes,h⟩:=h;split at h
 ·cases h;rename_i A22;simp only [A4u,E69] at A22;have hK:=D3g hk hx;cases hd:P.underlying kt with
  | none=>unfold A8I at hkk;rw [hd] at hkk;cases hkk
  | some d =>
   have hkd:∀ c V,tQ kk c=A5->RC μ c V->MapKept.IsKey d V:=λc V=>C78 hd hkk
   have hX:=hkd k X A22.1 hK;rcases E2u hrow hm hes with ⟨rfl,rfl⟩ | ⟨b,E,rfl,h1,h2,_⟩
   ·refine ⟨_,?_,D3x (B5O hc)⟩;simp [Instr.lookup,F5 (A1O ht),MapKept.run_checkKey hd hX,MapKept.run_findKey (l:=[]) hd (show Instr.findNow d X [] 0=A4 A7 from rfl),yI hz]
   ·have hg:=D3n hkd A22.1 hK es E.toList 0 h2 A22.2;unfold B1Q;cases hmg:mgo k es 0 with
    | none =>
     rw [hmg] at hg;refine ⟨_,?_,D3x (B5O hc)⟩;simp [Instr.lookup,F5 (A1O ht),MapKept.run_getObj_map h1,MapKept.run_checkKey hd hX,MapKept.run_findKey hd hg,yI hz]
    | some jp =>
     obtain ⟨j,p⟩:=jp;rw [hmg] at hg;obtain ⟨V,g1,g2,_⟩:=hg;refine ⟨_,?_,D3x g2⟩;simp [Instr.lookup,F5 (A1O ht),MapKept.run_getObj_map h1,MapKept.run_checkKey hd hX,MapKept.run_findKey hd g1]
 ·cases h
theorem B1O {Γ:Ctx} {h:B5} {id b n:Nat} {es es':W9} {E E':Array MapEntry} (hi:Inv Γ μ h w) (hr:rd h id=A4 (T1 es)) (hm:μ id=A4 (b,n)) (hb:w.heap[b]?=A4 (.map E E.size))
  (h1:All2 (RE μ) es' E'.toList) (h2:∀ (i:Nat) (e:MapEntry),E'[i]?=A4 e->e.born=i):Inv Γ μ (h.set id (A4 (T1 es'))) { w with heap:=w.heap.setIfInBounds b (.map E' E'.size) }:=by
 obtain ⟨g1,g2⟩:=MapKept.heap_set (o':=.map E' E'.size) hb;refine hi.turn hr (Row.own_mrow _) (Row.own_mrow _) hm rfl rfl rfl g2 ?_;unfold RowOk;rw [hm];exact .inr (.inl ⟨es',E',rfl,g1,h1,h2⟩)
theorem All2.modify {es:W9} {E:List MapEntry} {i:Nat} {e:Cell × Part} {f:MapEntry->MapEntry} (h:All2 (RE μ) es E) (hf:∀ x,E[i]?=A4 x->RE μ e (f x)):All2 (RE μ) (es.set i e) (E.modify i f):=by
 refine All2.of_get (by simp [h.length]) λj a b ha hb=>?_
 rw [List.getElem?_modify] at hb;by_cases hj:i=j
 ·subst hj;obtain ⟨x,hx,rfl⟩:∃ x,E[i]?=A4 x/\f x=b:=by
   cases hE:E[i]? with
   | none=>rw [hE] at hb;simp at hb
   | some y=>rw [hE] at hb;simp at hb;exact ⟨y,rfl,hb⟩
  have V5:i<es.length:=by
   have:=(List.getElem?_eq_some_iff.1 hx).1;rw [h.length];exact this
  rw [List.getElem?_set_self V5] at ha;cases ha;exact hf x hx
 ·rw [List.getElem?_set_ne hj] at ha;have hb':E[j]?=A4 b:=by
   cases hE:E[j]? with
   | none=>rw [hE] at hb;simp at hb
   | some y=>rw [hE] at hb;simp [hj] at hb;rw [hb]
  obtain ⟨y,hy,hR⟩:=h.get j a ha;rw [hb'] at hy;cases hy;exact hR
theorem D5L {Γ:Ctx} {t kt et:TypeId} {kk:Option IntKind} {h h':B5} {m k x:Val} {M K X:Value} (ht:D3j P t=A4 (kt,et)) (hkk:A8I P kt kk=A5)
  (hi:Inv Γ μ h w) (hm:RV μ m M) (hk:RV μ k K) (hx:RV μ x X) (hh:A2O h kk m k x=A4 h') :
  ∃ w',(Instr.mapUpdate t M K X).run P w=.ok () w'/\Inv Γ μ h' w':=by
 unfold A2O at hh;split at hh
 ·rename_i id;obtain ⟨b,n,hmu,rfl⟩:=hm;simp only [E67] at hh;obtain ⟨kc,hkc,p,hp,r,hr,es,hes,hh⟩:=hh;split at hh
  ·cases hh;rename_i A22;simp only [A4u,E69] at A22;have:=B2A hes;subst this;have hK:=D3g hkc hk;have hX:=D5z hp hx;obtain ⟨E,h1,h2,h3⟩:=(hi.rows id _ hr).map hmu;cases hd:P.underlying kt with
   | none=>unfold A8I at hkk;rw [hd] at hkk;cases hkk
   | some d =>
    have hkd:∀ c V,tQ kk c=A5->RC μ c V->MapKept.IsKey d V:=λc V=>C78 hd hkk
    have D6p:=hkd kc K A22.1 hK;have hg:=D3n hkd A22.1 hK es E.toList 0 h2 A22.2;unfold A88 B1Q;cases hmg:mgo kc es 0 with
    | none =>
     rw [hmg] at hg;refine ⟨_,?_,B1O (E':=E.push { key:=K,val:=X,born:=E.size }) hi hr hmu h1 (by rw [Array.toList_push];exact h2.append ⟨⟨hK,hX⟩,trivial⟩) ?_⟩
     ·simp [Instr.mapUpdate,F5 (A1O ht),MapKept.run_getObj_map h1,MapKept.run_checkKey hd D6p,MapKept.run_findKey hd hg,MapKept.run_setObj_map _ h1]
     ·intro i e he;rw [Array.getElem?_push] at he;split at he
      ·cases he;rename_i hh;exact hh.symm
      ·exact h3 i e he
    | some jp =>
     obtain ⟨j,q⟩:=jp;rw [hmg] at hg;obtain ⟨V,g1,g2,_,e0,E0,g4,g5,g6,g7,g8⟩:=hg;simp only [Nat.sub_zero] at g4 g6;have g6':E[j]?=A4 E0:=by simpa using g6
     refine ⟨_,?_,B1O (E':=E.modify j λe=>{ e with key:=K,val:=X }) hi hr hmu h1 ?_ ?_⟩
     ·simp [Instr.mapUpdate,F5 (A1O ht),MapKept.run_getObj_map h1,MapKept.run_checkKey hd D6p,MapKept.run_findKey hd g1,g6',g8,MapKept.run_keyThatStays D6p,MapKept.run_setObj_map _ h1]
     ·rw [Array.toList_modify];exact All2.modify h2 λx hx=>⟨hK,hX⟩
     ·intro i e he;rw [Array.getElem?_modify] at he;split at he
      ·rw [E7q] at he;obtain ⟨e',he',rfl⟩:=he;exact h3 i e' he'
      ·exact h3 i e he
  ·cases hh
 ·cases hh
theorem E1t {Γ:Ctx} {t kt et:TypeId} {kk:Option IntKind} {z:Value} {zero:Part} {h h':B5} {m k v:Val} {M K:Value} (ht:D3j P t=A4 (kt,et)) (hkk:A8I P kt kk=A5) (hz:yL P et=A4 z) (hc:A7m z zero=A5)
  (hi:Inv Γ μ h w) (hm:RV μ m M) (hk:RV μ k K) (hh:D4i h kk zero m k=A4 (v,h')) :
  ∃ V w',(Instr.mapEntry t M K).run P w=.ok V w'/\RV μ v V/\Inv Γ μ h' w':=by
 unfold D4i at hh;split at hh
 ·rename_i id;obtain ⟨b,n,hmu,rfl⟩:=hm;simp only [E67] at hh;obtain ⟨kc,hkc,r,hr,es,hes,hh⟩:=hh;split at hh
  ·rename_i A22;simp only [A4u,E69] at A22;have:=B2A hes;subst this;have hK:=D3g hkc hk;have hZ:RP μ zero z:=B5O hc;obtain ⟨E,h1,h2,h3⟩:=(hi.rows id _ hr).map hmu;cases hd:P.underlying kt with
   | none=>unfold A8I at hkk;rw [hd] at hkk;cases hkk
   | some d =>
    have hkd:∀ c V,tQ kk c=A5->RC μ c V->MapKept.IsKey d V:=λc V=>C78 hd hkk
    have D6p:=hkd kc K A22.1 hK;have hg:=D3n hkd A22.1 hK es E.toList 0 h2 A22.2;unfold B1Q at hh;cases hmg:mgo kc es 0 with
    | none =>
     rw [hmg] at hg hh;cases hh;have hlen:es.length=E.size:=by have:=h2.length;simpa using this
     refine ⟨.tuple #[z,goInt E.size],_,?_,⟨[z,goInt E.size],rfl,hZ,by rw [hlen];rfl,trivial⟩,B1O (E':=E.push { key:=K,val:=z,born:=E.size }) hi hr hmu h1 (by rw [Array.toList_push];exact h2.append ⟨⟨hK,hZ⟩,trivial⟩) ?_⟩
     ·simp [Instr.mapEntry,F5 (A1O ht),MapKept.run_getObj_map h1,MapKept.run_checkKey hd D6p,MapKept.run_findKey hd hg,yI hz,MapKept.run_setObj_map _ h1]
     ·intro i e he;rw [Array.getElem?_push] at he;split at he
      ·cases he;rename_i hh;exact hh.symm
      ·exact h3 i e he
    | some jp =>
     obtain ⟨j,q⟩:=jp;rw [hmg] at hg hh;cases hh;obtain ⟨V,g1,g2,_,e0,E0,g4,g5,g6,g7,g8⟩:=hg;simp only [Nat.sub_zero] at g4 g6;have g6':E[j]?=A4 E0:=by simpa using g6
     have E43:=h3 j E0 g6';have E6u:es.set j (kc,q)=es:=by
      apply List.ext_getElem?;intro i;by_cases hij:j=i
      ·subst hij;rw [List.getElem?_set_self (List.getElem?_eq_some_iff.1 g4).1,g4,g5]
      ·rw [List.getElem?_set_ne hij]
     have hI:=B1O (es':=es.set j (kc,q)) (E':=E.modify j λe=>{ e with key:=K }) hi hr hmu h1 (by
      rw [Array.toList_modify];refine All2.modify h2 λx hx=>⟨hK,?_⟩
      rw [g6] at hx;cases hx;show RP μ q E0.val;rw [g7];exact g2) (by
      intro i e he;rw [Array.getElem?_modify] at he;split at he
      ·rw [E7q] at he;obtain ⟨e',he',rfl⟩:=he;exact h3 i e' he'
      ·exact h3 i e he)
     rw [E6u] at hI;have hsame:h.set id (A4 (T1 es))=h:=by
      apply List.ext_getElem?;intro i;by_cases hij:id=i
      ·subst hij;rw [List.getElem?_set_self (C8 hr)];rw [rd_some] at hr;rw [hr]
      ·rw [List.getElem?_set_ne hij]
     rw [hsame] at hI;refine ⟨.tuple #[V,goInt j],_,?_,⟨[V,goInt j],rfl,g2,rfl,trivial⟩,hI⟩;simp [Instr.mapEntry,F5 (A1O ht),MapKept.run_getObj_map h1,MapKept.run_checkKey hd D6p,MapKept.run_findKey hd g1,g6',g8,E43,MapKept.run_keyThatStays D6p,MapKept.run_setObj_map _ h1]
  ·cases hh
 ·cases hh
theorem E1v {Γ:Ctx} {t:TypeId} {h h':B5} {m s x:Val} {M S X:Value}
  (hi:Inv Γ μ h w) (hm:RV μ m M) (hs:RV μ s S) (hx:RV μ x X) (hh:D4j h m s x=A4 h') :
  ∃ w',(Instr.entryStore t M S X).run P w=.ok () w'/\Inv Γ μ h' w':=by
 unfold D4j at hh;split at hh
 ·rename_i id n;obtain ⟨b,nn,hmu,rfl⟩:=hm;cases hs;simp only [E67] at hh;obtain ⟨p,hp,r,hr,es,hes,hh⟩:=hh;split at hh
  ·rename_i hn;simp only [E67,Option.some.injEq] at hh;obtain ⟨e,he,rfl⟩:=hh;have:=B2A hes;subst this;have hX:=D5z hp hx;obtain ⟨E,h1,h2,h3⟩:=(hi.rows id _ hr).map hmu;obtain ⟨E0,hE0,hR⟩:=h2.get _ _ he;have E5Z:E[n.toNat]?=A4 E0:=by simpa using hE0
   have E48:E.findIdx? (λe=>(e.born:Int)==n)=A4 n.toNat:=by
    rw [Array.findIdx?_eq_some_iff_getElem];have V5:=(Array.getElem?_eq_some_iff.1 E5Z).1;refine ⟨V5,?_,λj hj=>?_⟩
    ·have:=h3 n.toNat E[n.toNat] (by simp [V5]);simp [this];omega
    ·have:=h3 j E[j] (by simp);simp [this];omega
   refine ⟨_,?_,B1O (E':=E.modify n.toNat λe=>{ e with val:=X }) hi hr hmu h1 ?_ ?_⟩
   ·simp [Instr.entryStore,MapKept.run_getObj_map h1,asInt,asIntOf,E48,MapKept.run_setObj_map _ h1]
   ·rw [Array.toList_modify];refine All2.modify h2 λx hx=>⟨?_,hX⟩
    rw [hE0] at hx;cases hx;exact hR.1
   ·intro i e' he';rw [Array.getElem?_modify] at he';split at he'
    ·rw [E7q] at he';obtain ⟨e'',E59,rfl⟩:=he';exact h3 i e'' E59
    ·exact h3 i e' he'
  ·cases hh
 ·cases hh
theorem D9c {Γ:Ctx} {t:TypeId} {h:B5} {n0:Nat} {slot:Option Nat} (hi:Inv Γ μ h w) (hs:uR μ h n0 slot) :
  ∃ V w' μ',(Instr.makeMap t A7).run P w=.ok V w' /\ μ.le μ'/\RV μ' (.c (.m (dO h n0 slot (T1 [])).1)) V/\Inv Γ μ' (dO h n0 slot (T1 [])).2 w'/\Keeps μ μ' h n0 slot:=by
 obtain ⟨h1,h2,h3,h4,h5,h6⟩:=pO (r:=T1 []) hs hi.dom;refine ⟨.map (A4 w.heap.size),w.alloc (.map #[] 0),_,rfl,Mu.le_add h1,⟨_,0,V0 _ _ _,rfl⟩,?_,Keeps.new⟩;refine hi.fresh h1 rfl rfl rfl (λb hb=>?_) h2 h3 h4 h5 ?_
 ·show (w.heap.push _)[b]?=_;rw [Array.getElem?_push,if_neg (by omega)]
 ·unfold RowOk;simp only [Mu.add,if_true];refine .inr (.inl ⟨[],#[],rfl,by show (w.heap.push _)[w.heap.size]?=_;simp,trivial,λi e he=>by simp at he⟩)
end
def A7G:Value->Bool
 | .slice A7 0 0=>A5
 | _=>A6
def xP (place:Nat->Option (Nat × Nat)):List (Nat × Operand)->List (Nat × Nat × Opd)->Bool
 | [],[]=>A5
 | q::qs,p::ps=>decide (place q.1=A4 (p.1,p.2.1))&&E7 q.2 p.2.2&&xP place qs ps
 | _,_=>A6
def places (P:Program) (fs:Array Field):List (Option (Nat × Nat)):=fs.toList.map λf=>(R4 P f.type).map λn=>(f.offset,n)
def B2p {α:Type}:List (Option α)->Option (List α)
 | []=>A4 []
 | some a::r=>(B2p r).map λl=>a::l
 | none::_=>A7
def A5f (P:Program) (s:TypeId) (j:Nat):Option Field:=(A3f P s).bind λfs=>fs[j]?
def B05 (P:Program) (e:TypeId):Bool :=
 match P.info? e with
 | some i=>decide (i.bytes<=65536)&&decide (i.bytes≠0)&&decide (i.size≠0)&&(match i.zero with | some z=>decide (z.cells.size=i.size) | none=>A6)
 | none=>A6
def E3I (P:Program) (t:TypeId):Bool :=
 match P.underlying t with
 | some .string=>A5
 | some (.slice _)=>A5
 | _=>A6
def E15 (P:Program) (o:Op):AOp->Bool
 | .mv y=>(match o with | .move x=>E7 x y | .assign x=>E7 x y | _=>A6)
 | .nilrow _=>(match o with | .move (.const v)=>A7G v | .assign (.const v)=>A7G v | _=>A6)
 | .pick c a b=>(match o with | .pick c' a' b'=>E7 c' c&&E7 a' a&&E7 b' b | _=>A6)
 | .alloc z=>(match o with | .alloc t=>(match yL P t with | some v=>jU v z | none=>A6) | _=>A6)
 | .box y=>(match o with | .box _ x=>E7 x y | _=>A6)
 | .build z ps=>(match o with
   | .build t qs=>(match yL P t with | some v=>jU v z | none=>A6) &&
     (match A3f P t with
      | some fs=>(match B2p (places P fs) with | some pl=>xP (pl[·]?) qs.toList ps | none=>A6)
      | none=>(match oV P t with | some (_,e)=>(match R4 P e with | some sz=>xP (λi=>A4 (i*sz,sz)) qs.toList ps | none=>A6) | none=>A6))
   | _=>A6)
 | .buildSl sz len z ps=>(match o with
   | .buildSlice t len' qs=>decide (len=len')&&(match sliceB P t with
     | some e=>decide (R4 P e=A4 sz)&&decide (len*sz<=2 ^ 24)&&(match yL P e with
       | some v=>jU (.agg ((Array.range (len*sz)).map (v.cells[· % v.cells.size]!))) z
       | none=>A6)&&xP (λi=>A4 (i*sz,sz)) qs.toList ps
     | none=>A6)
   | _=>A6)
 | .load1 y=>(match o with | .load t x=>decide (kM P t=A4 A6)&&E7 x y | _=>A6)
 | .loadN n y=>(match o with | .load t x=>decide (kM P t=A4 A5)&&decide (R4 P t=A4 n)&&E7 x y | _=>A6)
 | .store1 y z=>(match o with | .store t x v=>decide (R4 P t=A4 1)&&E7 x y&&E7 v z | _=>A6)
 | .storeN n y z=>(match o with | .store t x v=>decide (R4 P t=A4 n)&&E7 x y&&E7 v z | _=>A6)
 | .bin op y z=>(match o with | .binOp op' _ x v _=>decide (op=op')&&E7 x y&&E7 v z | _=>A6)
 | .eqA neg sh y z=>(match o with | .binOp op' t x v _=>decide ((bif neg then BinOp.neq else .eql)=op')&&decide (kM P t=A4 A5)&&decide (B1L P 100 t=A4 sh) && !P.eqGuardType P.depth t&&E7 x y&&E7 v z | _=>A6)
 | .eqB neg y z=>(match o with | .binOp op' t x v _=>decide ((bif neg then BinOp.neq else .eql)=op')&&(match P.underlying t with | some .bool=>A5 | _=>A6)&&E7 x y&&E7 v z | _=>A6)
 | .eqN fn neg y=>(match o with | .binOp op' t x (.const c) _=>decide ((bif neg then BinOp.neq else .eql)=op')&&D3f P fn t c&&E7 x y | _=>A6)
 | .nilc y=>(match o with | .nilCheck x=>E7 x y | _=>A6)
 | .un op y=>(match o with | .unOp op' _ x=>decide (op=op')&&E7 x y | _=>A6)
 | .conv k y=>(match o with | .convert s d x=>(B52 P s).isSome&&decide (B52 P d=A4 k)&&E7 x y | _=>A6)
 | .convS y=>(match o with | .convert s d x=>cD P s&&cD P d&&E7 x y | _=>A6)
 | .s2b y=>(match o with | .convert s d x=>cD P s&&(match sliceB P d with | some e=>decide (B52 P e=A4 .u8) | none=>A6)&&E7 x y | _=>A6)
 | .b2s y=>(match o with | .convert s d x=>cD P d&&(match sliceB P s with | some e=>decide (B52 P e=A4 .u8) | none=>A6)&&E7 x y | _=>A6)
 | .b2sN _ y=>(match o with | .convert s d x=>cD P d&&(match sliceB P s with | some e=>decide (B52 P e=A4 .u8) | none=>A6)&&E7 x y | _=>A6)
 | .mark y=>(match o with | .convert s d x=>decide (s=d)&&(match sliceB P s with | some e=>decide (B52 P e=A4 .u8) | none=>A6)&&E7 x y | _=>A6)
 | .mkf f caps=>(match o with | .makeFunc (.func g) first cs=>decide (f=g)&&first.isEmpty&&A2S cs.toList caps | _=>A6)
 | .mkSl sz z y y2=>(match o with
   | .makeSlice t x x2=>E7 x y&&E7 x2 y2&&(match sliceB P t with
     | some e=>B05 P e&&decide (R4 P e=A4 sz)&&decide (z.length=sz)&&(match yL P e with | some v=>jU v z | none=>A6)
     | none=>A6)
   | _=>A6)
 | .slS y lo hi=>(match o with | .slice t x l h none=>cD P t&&E7 x y&&B04 l lo&&B04 h hi | _=>A6)
 | .slL sz y lo hi=>(match o with | .slice t x l h none=>(match sliceB P t with | some e=>decide (R4 P e=A4 sz) | none=>A6)&&E7 x y&&B04 l lo&&B04 h hi | _=>A6)
 | .slA n sz y lo hi=>(match o with | .slice t x l h none=>(match oV P t with | some (m,e)=>decide (m=n)&&decide (R4 P e=A4 sz) | none=>A6)&&E7 x y&&B04 l lo&&B04 h hi | _=>A6)
 | .fAddr y off=>(match o with | .fieldAddr s x j=>(match A5f P s j with | some f=>decide (f.offset=off)&&(match R4 P f.type with | some n=>decide (n≠0) | none=>A6) | none=>A6)&&E7 x y | _=>A6)
 | .iAddrA n sz y z=>(match o with | .indexAddr t x i=>(match oV P t with | some (m,e)=>decide (m=n)&&decide (R4 P e=A4 sz) | none=>A6)&&E7 x y&&E7 i z | _=>A6)
 | .iAddrL sz y z=>(match o with | .indexAddr t x i=>(match sliceB P t with | some e=>decide (R4 P e=A4 sz) | none=>A6)&&E7 x y&&E7 i z | _=>A6)
 | .fld1 y off=>(match o with | .field s x j=>(match A5f P s j with | some f=>decide (f.offset=off)&&decide (kM P f.type=A4 A6) | none=>A6)&&E7 x y | _=>A6)
 | .fldN y off n=>(match o with | .field s x j=>(match A5f P s j with | some f=>decide (f.offset=off)&&decide (kM P f.type=A4 A5)&&decide (R4 P f.type=A4 n) | none=>A6)&&E7 x y | _=>A6)
 | .idxA1 n y z=>(match o with | .index t x i=>(match oV P t with | some (m,e)=>decide (m=n)&&decide (kM P e=A4 A6)&&decide (R4 P e=A4 1) | none=>A6)&&E7 x y&&E7 i z | _=>A6)
 | .idxAN n sz y z=>(match o with | .index t x i=>(match oV P t with | some (m,e)=>decide (m=n)&&decide (kM P e=A4 A5)&&decide (R4 P e=A4 sz) | none=>A6)&&E7 x y&&E7 i z | _=>A6)
 | .idxS y z=>(match o with | .index t x i=>cD P t&&E7 x y&&E7 i z | _=>A6)
 | .ext y k=>(match o with | .extract x k'=>decide (k=k')&&E7 x y | _=>A6)
 | .call _ _=>A6
 | .callV _ _=>A6
 | .len y=>(match o with | .call c=>(match c.callee,c.args.toList,c.argTypes.toList with | .builtin .len,[x],[t]=>(sliceB P t).isSome&&E7 x y | _,_,_=>A6) | _=>A6)
 | .lenS y=>(match o with | .call c=>(match c.callee,c.args.toList,c.argTypes.toList with | .builtin .len,[x],[t]=>cD P t&&E7 x y | _,_,_=>A6) | _=>A6)
 | .app sz y z=>(match o with
   | .call c=>(match c.callee,c.args.toList,c.argTypes.toList with
     | .builtin .append,[x,v],[s,yt]=>(match sliceB P s with | some e=>B05 P e&&decide (R4 P e=A4 sz) | none=>A6)&&E3I P yt&&E7 x y&&E7 v z
     | _,_,_=>A6)
   | _=>A6)
 | .appZ sz zero y z=>(match o with
   | .call c=>(match c.callee,c.args.toList,c.argTypes.toList with
     | .builtin .append,[x,v],[s,yt]=>(match sliceB P s with | some e=>B05 P e&&decide (R4 P e=A4 sz)&&(match yL P e with | some v=>jU v zero | none=>A6) | none=>A6)&&(B52 P yt).isSome&&E7 x y&&E7 v z
     | _,_,_=>A6)
   | _=>A6)
 | .max y z=>(match o with | .call c=>(match c.callee,c.args.toList with | .builtin .max,[x,v]=>E7 x y&&E7 v z | _,_=>A6) | _=>A6)
 | .min y z=>(match o with | .call c=>(match c.callee,c.args.toList with | .builtin .min,[x,v]=>E7 x y&&E7 v z | _,_=>A6) | _=>A6)
 | .copy sz y z=>(match o with
   | .call c=>(match c.callee,c.args.toList,c.argTypes.toList with
     | .builtin .copy,[x,v],[s,yt]=>(match sliceB P s with | some e=>decide (R4 P e=A4 sz)&&decide (sz≠0) | none=>A6)&&E7 x y&&E7 v z
     | _,_,_=>A6)
   | _=>A6)
 | .mkMap=>(match o with | .makeMap _ none=>A5 | _=>A6)
 | .look kk zero ok y z=>(match o with
   | .lookup t m k ok'=>(match D3j P t with
     | some (kt,et)=>A8I P kt kk&&(match yL P et with | some v=>A7m v zero | none=>A6)
     | none=>A6)&&decide (ok=ok')&&E7 m y&&E7 k z
   | _=>A6)
 | .mput kk y z z2=>(match o with
   | .mapUpdate t m k x=>(match D3j P t with
     | some (kt,et)=>A8I P kt kk
     | none=>A6)&&E7 m y&&E7 k z&&E7 x z2
   | .insert t m k x=>(match D3j P t with
     | some (kt,et)=>A8I P kt kk
     | none=>A6)&&E7 m y&&E7 k z&&E7 x z2
   | _=>A6)
 | .ment kk zero y z=>(match o with
   | .mapEntry t m k=>(match D3j P t with
     | some (kt,et)=>A8I P kt kk&&(match yL P et with | some v=>A7m v zero | none=>A6)
     | none=>A6)&&E7 m y&&E7 k z
   | _=>A6)
 | .mset y z z2=>(match o with
   | .entryStore _ m s x=>E7 m y&&E7 s z&&E7 x z2
   | _=>A6)
def Res (P:Program) (o:Oper) (a:Act) (w:World) (V:Value) (w':World):Prop :=
 (execOp a.eval o).run P w=.ok (.value V) w'\/((execOp a.eval o).run P w=.ok .skip w'/\V=undef)
section
variable {P:Program} {μ:Mu} {w:World}
theorem A0O {e:Env} {a:Act} {x:Option Operand} {y:Option Opd} (h:B04 x y=A5) (hs:SEnv μ e a):D2l μ (y.map e.ev) (x.map a.eval):=by
 cases x<;>cases y<;>simp [B04] at h
 ·trivial
 ·exact D6 h hs
theorem A2T {e:Env} {a:Act} (hs:SEnv μ e a) {place:Nat->Option (Nat × Nat)}:∀ {qs:List (Nat × Operand)} {ps:List (Nat × Nat × Opd)},xP place qs ps=A5 ->
  C5k μ place (ps.map λp=>(p.1,p.2.1,e.ev p.2.2)) (qs.map λ(i,x)=>(i,a.eval x))
 | [],[],_=>trivial
 | q::qs,p::ps,h=>by
  simp [xP] at h;exact ⟨⟨h.1.1,D6 h.1.2 hs⟩,A2T hs h.2⟩
 | [],_::_,h=>by simp [xP] at h
 | _::_,[],h=>by simp [xP] at h
theorem C63 {α:Type}:∀ {l:List (Option α)} {m:List α},B2p l=A4 m->l=m.map A4
 | [],m,h=>by simp [B2p] at h;subst h;rfl
 | some a::r,m,h=>by
  simp only [B2p,E7q] at h;obtain ⟨l,hl,rfl⟩:=h;simp [C63 hl]
 | none::_,m,h=>by simp [B2p] at h
theorem B06 {e:TypeId} (h:B05 P e=A5):∃ i z,P.info? e=A4 i/\i.bytes<=65536/\i.bytes≠0/\i.size≠0/\i.zero=A4 z/\z.cells.size=i.size:=by
 unfold B05 at h;split at h
 ·rename_i i hi;simp only [E69,decide_eq_true_eq] at h;obtain ⟨⟨⟨h1,h2⟩,h3⟩,h4⟩:=h;split at h4
  ·rename_i z hz;exact ⟨i,z,hi,h1,h2,h3,hz,by simpa using h4⟩
  ·cases h4
 ·cases h
theorem E16 {t:TypeId} (h:E3I P t=A5):P.underlying t=A4 .string\/∃ e',P.underlying t=A4 (.slice e'):=by
 unfold E3I at h;split at h
 ·exact .inl ‹_›
 ·exact .inr ⟨_,‹_›⟩
 ·cases h
theorem D1p:∀ {l:List Val} {cs:List (Nat × Nat)} {Vs:List Value},C7f l=A4 cs->All2 (RV μ) l Vs->All2 (RPtr μ) cs Vs
 | [],cs,[],h,_=>by simp [C7f] at h;subst h;trivial
 | v::r,cs,V::Vs,h,⟨h1,h2⟩=>by
  unfold C7f at h;split at h
  ·rename_i wR;cases wR
  ·rename_i id off r' wR;cases wR;simp only [E7q] at h;obtain ⟨l,hl,rfl⟩:=h;exact ⟨h1,D1p hl h2⟩
  ·cases h
 | [],_,_::_,_,h=>h.elim
 | _::_,_,[],_,h=>h.elim
end
section
variable {P:Program} {μ:Mu} {w:World}
def E1K (P:Program) (Γ:Ctx) (μ:Mu) (o:Oper) (a:Act) (w:World) (h:B5) (n0:Nat) (slot:Option Nat) (v:Val) (h':B5):Prop :=
 ∃ V w' μ',Res P o a w V w' /\ μ.le μ'/\RV μ' v V/\Inv Γ μ' h' w'/\Keeps μ μ' h n0 slot
theorem N0 {Γ:Ctx} {o:Oper} {a:Act} {v:Val} {h:B5} {n0:Nat} {slot:Option Nat} {s:Sem Value} (hi:Inv Γ μ h w) (he:execOp a.eval o=(do pure (Next.value (<-s)))) (hr:∃ V,s.run P w=.ok V w/\RV μ v V):E1K P Γ μ o a w h n0 slot v h:=by
 obtain ⟨V,h1,h2⟩:=hr;exact ⟨V,w,μ,.inl (by rw [he];simp [h1]),Mu.le_refl _,h2,hi,Keeps.refl _ _ _ _⟩
theorem lZ {Γ:Ctx} {o:Oper} {a:Act} {v:Val} {h h':B5} {n0:Nat} {slot:Option Nat} {s:Sem Value} (he:execOp a.eval o=(do pure (Next.value (<-s)))) (hr:∃ V w' μ',s.run P w=.ok V w' /\ μ.le μ'/\RV μ' v V/\Inv Γ μ' h' w'/\Keeps μ μ' h n0 slot):E1K P Γ μ o a w h n0 slot v h':=by
 obtain ⟨V,w',μ',h1,h2,h3,h4⟩:=hr;exact ⟨V,w',μ',.inl (by rw [he];simp [h1]),h2,h3,h4⟩
theorem A5Q {Γ:Ctx} {o:Oper} {a:Act} {h h':B5} {n0:Nat} {slot:Option Nat} {s:Sem Unit} (he:execOp a.eval o=(do s;pure Next.skip)) (hr:∃ w',s.run P w=.ok () w'/\Inv Γ μ h' w'):E1K P Γ μ o a w h n0 slot .un h':=by
 obtain ⟨w',h1,h2⟩:=hr;exact ⟨undef,w',μ,.inr ⟨by rw [he];simp [h1],rfl⟩,Mu.le_refl _,trivial,h2,Keeps.refl _ _ _ _⟩
theorem C7T {op:BinOp} {t:TypeId} {x y:Operand} {X Y:Value} (hX:∀ c,X≠.agg c) (hX2:X≠.nilIface):(eqGuard op t x y X Y).run P w=.ok () w:=by
 unfold eqGuard;cases X<;>cases Y<;>simp_all<;>split<;>rfl
theorem D52 {op:BinOp} {x y v:Val} {X:Value} (h:O4 op x y=A4 v) (hx:RV μ x X):(∀ c,X≠.agg c)/\X≠.nilIface:=by
 unfold O4 at h;split at h
 ·cases hx;simp
 ·cases hx;simp
 ·cases h
theorem E4E {Γ:Ctx} {E:O3} {q:Bool} {hr:B5} {n0:Nat} {slot:Option Nat} {o:Oper} {ao:AOp} {e:Env} {h:B5} {a:Act} {v:Val} {h':B5}
  (hc:E15 P o.op ao=A5) (hs:SEnv μ e a) (hi:Inv Γ μ h w) (hrd:∀ id r,rd hr id=A4 r->rd h id=A4 r) (nC:uR μ h n0 slot)
  (D7:aop E q hr n0 slot ao e h (λv h=>A4 (v,h))=A4 (v,h')):E1K P Γ μ o a w h n0 slot v h':=by
 have hrow:∀ id r,rd hr id=A4 r->RowOk μ w id r:=λid r h1=>hi.rows id r (hrd id r h1)
 obtain ⟨dst,op,type,pos,after,guard⟩:=o;simp only at hc;cases ao<;>simp only [E15] at hc<;>simp only [aop] at D7
 case mv y =>
  cases D7;split at hc
  ·exact ⟨_,w,μ,.inl rfl,Mu.le_refl _,D6 hc hs,hi,Keeps.refl _ _ _ _⟩
  ·exact ⟨_,w,μ,.inl rfl,Mu.le_refl _,D6 hc hs,hi,Keeps.refl _ _ _ _⟩
  ·cases hc
 case nilrow sz =>
  cases D7;have key:∀ x:Value,A7G x=A5->x=.slice A7 0 0:=by
   intro x hx;unfold A7G at hx;split at hx<;>first | rfl | cases hx
  split at hc
  ·exact ⟨_,w,μ,.inl rfl,Mu.le_refl _,.inr ⟨rfl,A7,key _ hc⟩,A5l hi nC,Keeps.refl _ _ _ _⟩
  ·exact ⟨_,w,μ,.inl rfl,Mu.le_refl _,.inr ⟨rfl,A7,key _ hc⟩,A5l hi nC,Keeps.refl _ _ _ _⟩
  ·cases hc
 case pick c x y =>
  simp only [E67,Option.some.injEq,Prod.mk.injEq] at D7;obtain ⟨_,hp,rfl,rfl⟩:=D7;split at hc
  ·simp only [E69] at hc;rename_i c' x' y';have h1:RV μ _ _:=D6 hc.1.1 hs;have h2:=D6 hc.1.2 hs;have h3:=D6 hc.2 hs;unfold D4n at hp;split at hp
   ·rename_i b wR;cases hp;rw [wR] at h1;have h1:a.eval c'=.bool b:=h1;cases b
    ·exact ⟨_,w,μ,.inl (by simp [execOp,h1,asBool]),Mu.le_refl _,h3,hi,Keeps.refl _ _ _ _⟩
    ·exact ⟨_,w,μ,.inl (by simp [execOp,h1,asBool]),Mu.le_refl _,h2,hi,Keeps.refl _ _ _ _⟩
   ·cases hp
  ·cases hc
 case alloc z =>
  cases D7;split at hc
  ·split at hc
   ·exact lZ rfl (D86 hi nC ‹_› hc)
   ·cases hc
  ·cases hc
 case box y =>
  simp only [E67,Option.some.injEq,Prod.mk.injEq] at D7;obtain ⟨cs,hp,rfl,rfl⟩:=D7;split at hc
  ·exact lZ rfl (E2O hi nC (D6 hc hs) hp)
  ·cases hc
 case build z ps =>
  simp only [E67,Option.some.injEq,Prod.mk.injEq] at D7;obtain ⟨cs,hp,rfl,rfl⟩:=D7;split at hc
  ·rename_i t qs;simp only [E69] at hc;obtain ⟨hz,hc⟩:=hc;split at hz
   ·rename_i zv hzv;have wR:∀ qs:Array (Nat × Operand),(qs.map λ(i,x)=>(i,a.eval x))=(qs.toList.map λ(i,x)=>(i,a.eval x)).toArray:=by intro qs;apply Array.ext';simp
    split at hc
    ·rename_i fs hfs;split at hc
     ·rename_i pl hpl;refine N0 hi rfl ?_;rw [wR];exact D6X hfs hzv hz (C63 hpl) (A2T hs hc) hp
     ·cases hc
    ·split at hc
     ·rename_i n e T8;split at hc
      ·rename_i sz hsz;refine N0 hi rfl ?_;rw [wR];exact D6W T8 hsz hzv hz (A2T hs hc) hp
      ·cases hc
     ·cases hc
   ·cases hz
  ·cases hc
 case buildSl sz len z ps =>
  simp only [E67,Option.some.injEq,Prod.mk.injEq] at D7;obtain ⟨cs,hp,rfl,rfl⟩:=D7;split at hc
  ·rename_i t len' qs;simp only [E69,decide_eq_true_eq] at hc;obtain ⟨rfl,hc⟩:=hc;split at hc
   ·rename_i e he;simp only [E69,decide_eq_true_eq] at hc;obtain ⟨⟨⟨h1,h2⟩,h3⟩,h4⟩:=hc;split at h3
    ·rename_i zv hzv;refine lZ rfl ?_;have wR:(qs.map λ(i,x)=>(i,a.eval x))=(qs.toList.map λ(i,x)=>(i,a.eval x)).toArray:=by apply Array.ext';simp
     rw [wR];exact D5K hi nC he h1 hzv h2 h3 (A2T hs h4) hp
    ·cases h3
   ·cases hc
  ·cases hc
 case load1 y =>
  simp only [E67,Option.some.injEq,Prod.mk.injEq] at D7;obtain ⟨_,hp,rfl,rfl⟩:=D7;split at hc
  ·simp only [E69,decide_eq_true_eq] at hc;exact N0 hi rfl (D2a hc.1 hrow (D6 hc.2 hs) hp)
  ·cases hc
 case loadN n y =>
  simp only [E67,Option.some.injEq,Prod.mk.injEq] at D7;obtain ⟨_,hp,rfl,rfl⟩:=D7;split at hc
  ·simp only [E69,decide_eq_true_eq] at hc;exact N0 hi rfl (D2b hc.1.1 hc.1.2 hrow (D6 hc.2 hs) hp)
  ·cases hc
 case store1 y z =>
  simp only [E67,Option.some.injEq,Prod.mk.injEq] at D7;obtain ⟨_,hp,rfl,rfl⟩:=D7;split at hc
  ·simp only [E69,decide_eq_true_eq] at hc;exact A5Q rfl (D60 hc.1.1 hi (D6 hc.1.2 hs) (D6 hc.2 hs) hp)
  ·cases hc
 case storeN n y z =>
  simp only [E67,Option.some.injEq,Prod.mk.injEq] at D7;obtain ⟨_,hp,rfl,rfl⟩:=D7;split at hc
  ·simp only [E69,decide_eq_true_eq] at hc;exact A5Q rfl (D61 hc.1.1 hi (D6 hc.1.2 hs) (D6 hc.2 hs) hp)
  ·cases hc
 case bin op' y z =>
  simp only [E67,Option.some.injEq,Prod.mk.injEq] at D7;obtain ⟨_,hp,rfl,rfl⟩:=D7;split at hc
  ·rename_i op2 xt x y2 yt;simp only [E69,decide_eq_true_eq] at hc;obtain ⟨⟨rfl,h1⟩,h2⟩:=hc;have hx:RV μ _ _:=D6 h1 hs;have hy:RV μ _ _:=D6 h2 hs;refine N0 (s:=do eqGuard op' xt x y2 (a.eval x) (a.eval y2);binOp op' xt (a.eval x) (a.eval y2)) hi rfl ?_;obtain ⟨V,h3,h4⟩:=E2N (P:=P) (w:=w) (xt:=xt) hx hy hp;have h5:=D52 hp hx;exact ⟨V,by rw [Sem.run_bind,C7T h5.1 h5.2];exact h3,h4⟩
  ·cases hc
 case eqA neg sh y z =>
  simp only [E67,Option.some.injEq,Prod.mk.injEq] at D7;obtain ⟨_,hp,rfl,rfl⟩:=D7;split at hc
  ·rename_i op2 xt x y2 yt;simp only [E69,decide_eq_true_eq,E7V] at hc;obtain ⟨⟨⟨⟨⟨rfl,h1⟩,h2⟩,h3⟩,h4⟩,h5⟩:=hc;have hx:RV μ _ _:=D6 h4 hs;have hy:RV μ _ _:=D6 h5 hs;refine N0 (s:=do eqGuard (bif neg then .neq else .eql) xt x y2 (a.eval x) (a.eval y2);binOp (bif neg then .neq else .eql) xt (a.eval x) (a.eval y2)) hi rfl ?_;obtain ⟨V,h6,h7⟩:=E2P (P:=P) (w:=w) h1 h2 hx hy hp;have hag:(eqGuard (bif neg then BinOp.neq else .eql) xt x y2 (a.eval x) (a.eval y2)).run P w=.ok () w:=by
    unfold aeq at hp;split at hp
    ·rename_i e1 e2;rw [e1] at hx;rw [e2] at hy;obtain ⟨xs,e3,_⟩:=hx;obtain ⟨ys,e4,_⟩:=hy;rw [e3,e4];exact run_eqGuard_agg w _ xt x y2 _ _ h3
    ·cases hp
   exact ⟨V,by rw [Sem.run_bind,hag];exact h6,h7⟩
  ·cases hc
 case eqB neg y z =>
  simp only [E67,Option.some.injEq,Prod.mk.injEq] at D7;obtain ⟨_,hp,rfl,rfl⟩:=D7;split at hc
  ·rename_i op2 xt x y2 yt;simp only [E69,decide_eq_true_eq] at hc;obtain ⟨⟨⟨rfl,h1⟩,h4⟩,h5⟩:=hc;split at h1
   ·rename_i hu;have hx:RV μ _ _:=D6 h4 hs;have hy:RV μ _ _:=D6 h5 hs;refine N0 (s:=do eqGuard (bif neg then .neq else .eql) xt x y2 (a.eval x) (a.eval y2);binOp (bif neg then .neq else .eql) xt (a.eval x) (a.eval y2)) hi rfl ?_;obtain ⟨V,h6,h7⟩:=E2Q (P:=P) (w:=w) hu hx hy hp;have hag:(eqGuard (bif neg then BinOp.neq else .eql) xt x y2 (a.eval x) (a.eval y2)).run P w=.ok () w:=by
     unfold D53 at hp;split at hp
     ·rename_i e1 e2;rw [e1] at hx;have hx:a.eval x=.bool _:=hx;rw [hx];exact C7T (by simp) (by simp)
     ·cases hp
    exact ⟨V,by rw [Sem.run_bind,hag];exact h6,h7⟩
   ·cases h1
  ·cases hc
 case eqN fn neg y =>
  simp only [E67,Option.some.injEq,Prod.mk.injEq] at D7;obtain ⟨_,hp,rfl,rfl⟩:=D7;split at hc
  ·rename_i op2 xt x c yt;simp only [E69,decide_eq_true_eq] at hc;obtain ⟨⟨rfl,h1⟩,h4⟩:=hc;have hx:RV μ _ _:=D6 h4 hs;refine N0 (s:=do eqGuard (bif neg then .neq else .eql) xt x (.const c) (a.eval x) (a.eval (.const c));binOp (bif neg then .neq else .eql) xt (a.eval x) (a.eval (.const c))) hi rfl ?_;obtain ⟨V,h6,h7⟩:=E2R (P:=P) (w:=w) h1 hx hp;have cH:(∀ c,a.eval x≠.agg c)/\a.eval x≠.nilIface:=by
    unfold D2P at hp;split at hp
    ·rename_i e1;rw [e1] at hx;have hx:a.eval x=.nilFunc:=hx;rw [hx];simp
    ·rename_i e1;rw [e1] at hx;obtain ⟨cs,hx,_⟩:=hx;rw [hx];simp
    ·rename_i e1;rw [e1] at hx;have hx:a.eval x=.pointer A7:=hx;rw [hx];simp
    ·rename_i e1;rw [e1] at hx;obtain ⟨b,n,_,hx⟩:=hx;rw [hx];simp
    ·cases hp
   exact ⟨V,by rw [Sem.run_bind,C7T cH.1 cH.2];exact h6,h7⟩
  ·cases hc
 case nilc y =>
  simp only [E67,Option.some.injEq,Prod.mk.injEq] at D7;obtain ⟨_,hp,rfl,rfl⟩:=D7;split at hc
  ·rename_i x;have hx:RV μ _ _:=D6 hc hs;unfold A49 at hp;split at hp
   ·rename_i e1;cases hp;rw [e1] at hx;have hx':=hx;obtain ⟨b,n,_,hx⟩:=hx;exact ⟨_,w,μ,.inl (by simp only [execOp,hx];rfl),Mu.le_refl _,hx ▸ hx',hi,Keeps.refl _ _ _ _⟩
   ·rename_i e1;cases hp;rw [e1] at hx;have hx':=hx;obtain ⟨cs,hx,_⟩:=hx;exact ⟨_,w,μ,.inl (by simp only [execOp,hx];rfl),Mu.le_refl _,hx ▸ hx',hi,Keeps.refl _ _ _ _⟩
   ·cases hp
  ·cases hc
 case un op' y =>
  simp only [E67,Option.some.injEq,Prod.mk.injEq] at D7;obtain ⟨_,hp,rfl,rfl⟩:=D7;split at hc
  ·simp only [E69,decide_eq_true_eq] at hc;obtain ⟨rfl,h1⟩:=hc;exact N0 hi rfl (E4F (D6 h1 hs) hp)
  ·cases hc
 case conv k y =>
  simp only [E67,Option.some.injEq,Prod.mk.injEq] at D7;obtain ⟨_,hp,rfl,rfl⟩:=D7;split at hc
  ·simp only [E69,decide_eq_true_eq] at hc;obtain ⟨ks,hks⟩:=Option.isSome_iff_exists.1 hc.1.1;exact N0 hi rfl (E1l hks hc.1.2 (D6 hc.2 hs) hp)
  ·cases hc
 case convS y =>
  simp only [E67,Option.some.injEq,Prod.mk.injEq] at D7;obtain ⟨_,hp,rfl,rfl⟩:=D7;split at hc
  ·simp only [E69] at hc;exact N0 hi rfl (D88 hc.1.1 hc.1.2 (D6 hc.2 hs) hp)
  ·cases hc
 case s2b y =>
  simp only [E67,Option.some.injEq,Prod.mk.injEq] at D7;obtain ⟨l,hp,rfl,rfl⟩:=D7;split at hc
  ·simp only [E69] at hc;obtain ⟨⟨h1,h2⟩,h3⟩:=hc;split at h2
   ·rename_i e he;have hx:RV μ _ _:=D6 h3 hs;unfold E3G at hp;split at hp
    ·rename_i wR;split at hp
     ·cases hp;rename_i hl;rw [wR] at hx;have hx:a.eval _=.string ⟨l.toArray⟩:=hx;refine lZ rfl ?_;rw [hx];exact E2W hi nC h1 he (by simpa using h2) hl
     ·cases hp
    ·cases hp
   ·cases h2
  ·cases hc
 case b2s y =>
  simp only [E67,Option.some.injEq,Prod.mk.injEq] at D7;obtain ⟨_,hp,rfl,rfl⟩:=D7;split at hc
  ·simp only [E69] at hc;obtain ⟨⟨h1,h2⟩,h3⟩:=hc;split at h2
   ·exact N0 hi rfl (D5J ‹_› (by simpa using h2) h1 hrow (D6 h3 hs) hp)
   ·cases h2
  ·cases hc
 case b2sN own y =>
  simp only [E67,Option.some.injEq,Prod.mk.injEq] at D7;obtain ⟨_,hp,rfl,rfl⟩:=D7;have hp:=D51 hp;split at hc
  ·simp only [E69] at hc;obtain ⟨⟨h1,h2⟩,h3⟩:=hc;split at h2
   ·exact N0 hi rfl (D5J ‹_› (by simpa using h2) h1 hi.rows (D6 h3 hs) hp)
   ·cases h2
  ·cases hc
 case mark y =>
  simp only [E67,Option.some.injEq,Prod.mk.injEq] at D7;obtain ⟨_,hp,rfl,rfl⟩:=D7;split at hc
  ·simp only [E69,decide_eq_true_eq] at hc;obtain ⟨⟨rfl,h2⟩,h3⟩:=hc;split at h2
   ·have hx:=D6 (μ:=μ) h3 hs;obtain ⟨w',h4,h5,h6⟩:=run_mark (P:=P) hi ‹_› (by simpa using h2) hx hp;exact lZ rfl ⟨_,w',μ,h4,Mu.le_refl _,h5 ▸ hx,h6,Keeps.refl _ _ _ _⟩
   ·cases h2
  ·cases hc
 case mkf f caps =>
  simp only [E67,Option.some.injEq,Prod.mk.injEq] at D7;obtain ⟨_,hp,rfl,rfl⟩:=D7;split at hc
  ·rename_i g first cs
   simp only [E69,decide_eq_true_eq] at hc;obtain ⟨⟨rfl,h1⟩,h2⟩:=hc;unfold B5H at hp;simp only [E7q] at hp;obtain ⟨l,hl,rfl⟩:=hp;have h3:=D1p hl (A7l hs h2);refine ⟨_,w,μ,.inl rfl,Mu.le_refl _,⟨cs.toList.map a.eval,?_,h3⟩,hi,Keeps.refl _ _ _ _⟩;have:first = #[]:=by simpa using h1
   subst this;show Value.func _ _ _=Value.func _ _ _
   congr 1<;>(apply Array.ext';simp)
  ·cases hc
 case mkSl sz z y y2 =>
  simp only [E67,Option.some.injEq,Prod.mk.injEq] at D7;obtain ⟨n',hp,rfl,rfl⟩:=D7;unfold A13 at hp;simp only [E67] at hp;obtain ⟨n,hn,c,hcc,hp⟩:=hp;split at hp
  ·cases hp;rename_i hnc;split at hc
   ·simp only [E69] at hc;obtain ⟨⟨h1,h2⟩,h3⟩:=hc;split at h3
    ·rename_i e he;simp only [E69,decide_eq_true_eq] at h3;obtain ⟨⟨⟨h4,h5⟩,h6⟩,h7⟩:=h3;split at h7
     ·rename_i zv hzv;obtain ⟨i,z',hi1,hi2,hi3,hi4,hi5,hi6⟩:=B06 h4;have hsz:i.size=sz:=by simpa [R4,hi1] using h5
      refine lZ rfl (E1u hi nC he h5 hzv h7 h6 (by omega) (show C7e P e=A4 i.bytes by simp [C7e,hi1]) hi2 (D6 h1 hs) (D6 h2 hs) hn hcc hnc)
     ·cases h7
    ·cases h3
   ·cases hc
  ·cases hp
 case slS y lo hi' =>
  simp only [E67,Option.some.injEq,Prod.mk.injEq] at D7;obtain ⟨_,hp,rfl,rfl⟩:=D7;split at hc
  ·simp only [E69] at hc;obtain ⟨⟨⟨h1,h2⟩,h3⟩,h4⟩:=hc;exact N0 hi rfl (E2Z h1 (D6 h2 hs) (A0O h3 hs) (A0O h4 hs) hp)
  ·cases hc
 case slL sz y lo hi' =>
  simp only [E67,Option.some.injEq,Prod.mk.injEq] at D7;obtain ⟨_,hp,rfl,rfl⟩:=D7;split at hc
  ·simp only [E69] at hc;obtain ⟨⟨⟨h1,h2⟩,h3⟩,h4⟩:=hc;split at h1
   ·exact N0 hi rfl (E2Y ‹_› (by simpa using h1) (D6 h2 hs) (A0O h3 hs) (A0O h4 hs) hp)
   ·cases h1
  ·cases hc
 case slA n sz y lo hi' =>
  simp only [E67,Option.some.injEq,Prod.mk.injEq] at D7;obtain ⟨_,hp,rfl,rfl⟩:=D7;split at hc
  ·simp only [E69] at hc;obtain ⟨⟨⟨h1,h2⟩,h3⟩,h4⟩:=hc;split at h1
   ·simp only [E69,decide_eq_true_eq] at h1;obtain ⟨rfl,h1⟩:=h1;exact N0 hi rfl (E2X ‹_› h1 hrow (D6 h2 hs) (A0O h3 hs) (A0O h4 hs) hp)
   ·cases h1
  ·cases hc
 case fAddr y off =>
  simp only [E67,Option.some.injEq,Prod.mk.injEq] at D7;obtain ⟨_,hp,rfl,rfl⟩:=D7;split at hc
  ·simp only [E69] at hc;obtain ⟨h1,h2⟩:=hc;split at h1
   ·rename_i f hf;simp only [E69,decide_eq_true_eq] at h1;obtain ⟨h3,h4⟩:=h1;split at h4
    ·simp only [A5f,E67] at hf;obtain ⟨fs,hfs,hf⟩:=hf;exact N0 hi rfl (D89 hfs hf ‹_› (by simpa using h4) h3 (D6 h2 hs) hp)
    ·cases h4
   ·cases h1
  ·cases hc
 case iAddrA n sz y z =>
  simp only [E67,Option.some.injEq,Prod.mk.injEq] at D7;obtain ⟨_,hp,rfl,rfl⟩:=D7;split at hc
  ·simp only [E69] at hc;obtain ⟨⟨h1,h2⟩,h3⟩:=hc;split at h1
   ·simp only [E69,decide_eq_true_eq] at h1;obtain ⟨rfl,h1⟩:=h1;exact N0 hi rfl (D6Y ‹_› h1 (D6 h2 hs) (D6 h3 hs) hp)
   ·cases h1
  ·cases hc
 case iAddrL sz y z =>
  simp only [E67,Option.some.injEq,Prod.mk.injEq] at D7;obtain ⟨_,hp,rfl,rfl⟩:=D7;split at hc
  ·simp only [E69] at hc;obtain ⟨⟨h1,h2⟩,h3⟩:=hc;split at h1
   ·exact N0 hi rfl (D6Z ‹_› (by simpa using h1) (D6 h2 hs) (D6 h3 hs) hp)
   ·cases h1
  ·cases hc
 case fld1 y off =>
  simp only [E67,Option.some.injEq,Prod.mk.injEq] at D7;obtain ⟨_,hp,rfl,rfl⟩:=D7;split at hc
  ·simp only [E69] at hc;obtain ⟨h1,h2⟩:=hc;split at h1
   ·rename_i f hf;simp only [E69,decide_eq_true_eq] at h1;obtain ⟨rfl,h4⟩:=h1;simp only [A5f,E67] at hf;obtain ⟨fs,hfs,hf⟩:=hf;exact N0 hi rfl (E1n hfs hf h4 (D6 h2 hs) hp)
   ·cases h1
  ·cases hc
 case fldN y off n =>
  simp only [E67,Option.some.injEq,Prod.mk.injEq] at D7;obtain ⟨_,hp,rfl,rfl⟩:=D7;split at hc
  ·simp only [E69] at hc;obtain ⟨h1,h2⟩:=hc;split at h1
   ·rename_i f hf;simp only [E69,decide_eq_true_eq] at h1;obtain ⟨⟨rfl,h4⟩,h5⟩:=h1;simp only [A5f,E67] at hf;obtain ⟨fs,hfs,hf⟩:=hf;exact N0 hi rfl (E1o hfs hf h4 h5 (D6 h2 hs) hp)
   ·cases h1
  ·cases hc
 case idxA1 n y z =>
  simp only [E67,Option.some.injEq,Prod.mk.injEq] at D7;obtain ⟨_,hp,rfl,rfl⟩:=D7;split at hc
  ·simp only [E69] at hc;obtain ⟨⟨h1,h2⟩,h3⟩:=hc;split at h1
   ·simp only [E69,decide_eq_true_eq] at h1;obtain ⟨⟨rfl,h4⟩,h5⟩:=h1;exact N0 hi rfl (D9a ‹_› h4 h5 (D6 h2 hs) (D6 h3 hs) hp)
   ·cases h1
  ·cases hc
 case idxAN n sz y z =>
  simp only [E67,Option.some.injEq,Prod.mk.injEq] at D7;obtain ⟨_,hp,rfl,rfl⟩:=D7;split at hc
  ·simp only [E69] at hc;obtain ⟨⟨h1,h2⟩,h3⟩:=hc;split at h1
   ·simp only [E69,decide_eq_true_eq] at h1;obtain ⟨⟨rfl,h4⟩,h5⟩:=h1;exact N0 hi rfl (D9b ‹_› h4 h5 (D6 h2 hs) (D6 h3 hs) hp)
   ·cases h1
  ·cases hc
 case idxS y z =>
  simp only [E67,Option.some.injEq,Prod.mk.injEq] at D7;obtain ⟨_,hp,rfl,rfl⟩:=D7;split at hc
  ·simp only [E69] at hc;obtain ⟨⟨h1,h2⟩,h3⟩:=hc;exact N0 hi rfl (E1p h1 (D6 h2 hs) (D6 h3 hs) hp)
  ·cases hc
 case ext y k =>
  simp only [E67,Option.some.injEq,Prod.mk.injEq] at D7;obtain ⟨_,hp,rfl,rfl⟩:=D7;split at hc
  ·simp only [E69,decide_eq_true_eq] at hc;obtain ⟨rfl,h1⟩:=hc;exact N0 hi rfl (E2S (D6 h1 hs) hp)
  ·cases hc
 case call=>cases hc
 case callV=>cases hc
 case len y =>
  simp only [E67,Option.some.injEq,Prod.mk.injEq] at D7;obtain ⟨_,hp,rfl,rfl⟩:=D7;split at hc
  ·rename_i c;split at hc
   ·rename_i x t hca hargs hty;simp only [E69] at hc;obtain ⟨e,he⟩:=Option.isSome_iff_exists.1 hc.1;have h1:c.args = #[x]:=by cases hcc:c.args;simp_all
    have h2:c.argTypes = #[t]:=by cases hcc:c.argTypes;simp_all
    refine N0 (s:=Builtin.len_ #[t] type #[a.eval x]) hi ?_ (E2T he (D6 hc.2 hs) hp);simp [execOp,resolve,hca,h1,h2,invoke,builtin]
   ·cases hc
  ·cases hc
 case lenS y =>
  simp only [E67,Option.some.injEq,Prod.mk.injEq] at D7;obtain ⟨_,hp,rfl,rfl⟩:=D7;split at hc
  ·rename_i c;split at hc
   ·rename_i x t hca hargs hty;simp only [E69] at hc;have h1:c.args = #[x]:=by cases hcc:c.args;simp_all
    have h2:c.argTypes = #[t]:=by cases hcc:c.argTypes;simp_all
    refine N0 (s:=Builtin.len_ #[t] type #[a.eval x]) hi ?_ (E1r hc.1 (D6 hc.2 hs) hp);simp [execOp,resolve,hca,h1,h2,invoke,builtin]
   ·cases hc
  ·cases hc
 case app sz y z =>
  simp only [E67,Option.some.injEq] at D7;obtain ⟨p,hp,zQ⟩:=D7;simp only [Prod.mk.injEq] at zQ;obtain ⟨rfl,rfl⟩:=zQ;split at hc
  ·rename_i c;split at hc
   ·rename_i x x2 s yt hca hargs hty;simp only [E69] at hc;obtain ⟨⟨⟨h1,h2⟩,h3⟩,h4⟩:=hc;split at h1
    ·rename_i e he;simp only [E69,decide_eq_true_eq] at h1;obtain ⟨i,z',hi1,hi2,hi3,hi4,hi5,hi6⟩:=B06 h1.1;have hsz:i.size=sz:=by simpa [R4,hi1] using h1.2
     subst hsz;have e1:c.args = #[x,x2]:=by cases hcc:c.args;simp_all
     have e2:c.argTypes = #[s,yt]:=by cases hcc:c.argTypes;simp_all
     obtain ⟨V,w',μ',g1,g2,g3,g4,g5⟩:=E2M (P:=P) (ty:=type) hi (P6 he) hi1 hi2 hi3 hi5 hi6 hi4 (E16 h2) (D6 h3 hs) (D6 h4 hs) hp;refine lZ (s:=Builtin.append_ #[s,yt] type #[a.eval x,a.eval x2]) ?_ ⟨V,w',μ',g1,g2,g3,g4,λid hid _=>g5 id hid⟩;simp [execOp,resolve,hca,e1,e2,invoke,builtin]
    ·cases h1
   ·cases hc
  ·cases hc
 case appZ sz zero y z =>
  simp only [E67,Option.some.injEq] at D7;obtain ⟨p,hp,zQ⟩:=D7;simp only [Prod.mk.injEq] at zQ;obtain ⟨rfl,rfl⟩:=zQ;split at hc
  ·rename_i c;split at hc
   ·rename_i x x2 s yt hca hargs hty;simp only [E69] at hc;obtain ⟨⟨⟨h1,h2⟩,h3⟩,h4⟩:=hc;split at h1
    ·rename_i e he;simp only [E69,decide_eq_true_eq] at h1;obtain ⟨⟨h1,h1s⟩,h1z⟩:=h1;obtain ⟨i,z',hi1,hi2,hi3,hi4,hi5,hi6⟩:=B06 h1;have hsz:i.size=sz:=by simpa [R4,hi1] using h1s
     subst hsz;have e1:c.args = #[x,x2]:=by cases hcc:c.args;simp_all
     have e2:c.argTypes = #[s,yt]:=by cases hcc:c.argTypes;simp_all
     split at h1z
     ·rename_i zv hzv;have hzz:zv=z':=by
       have:=hzv;simp [yL,hi1,hi5] at this;exact this.symm
      subst hzz;obtain ⟨kk,hkk⟩:=Option.isSome_iff_exists.1 h2;obtain ⟨V,w',μ',g1,g2,g3,g4,g5⟩:=E1k (P:=P) (ty:=type) hi (P6 he) hi1 hi2 hi3 hi5 hi6 hi4 (A5I hkk) (gQ h1z) (D6 h3 hs) (D6 h4 hs) hp;refine lZ (s:=Builtin.append_ #[s,yt] type #[a.eval x,a.eval x2]) ?_ ⟨V,w',μ',g1,g2,g3,g4,λid hid _=>g5 id hid⟩;simp [execOp,resolve,hca,e1,e2,invoke,builtin]
     ·cases h1z
    ·cases h1
   ·cases hc
  ·cases hc
 case max y z =>
  simp only [E67,Option.some.injEq,Prod.mk.injEq] at D7;obtain ⟨_,hp,rfl,rfl⟩:=D7;split at hc
  ·rename_i c;split at hc
   ·rename_i x x2 hca hargs;simp only [E69] at hc;have e1:c.args = #[x,x2]:=by cases hcc:c.args;simp_all
    refine N0 (s:=Builtin.max_ c.argTypes type #[a.eval x,a.eval x2]) hi ?_ (E2U (D6 hc.1 hs) (D6 hc.2 hs) hp);simp [execOp,resolve,hca,e1,invoke,builtin]
   ·cases hc
  ·cases hc
 case min y z =>
  simp only [E67,Option.some.injEq,Prod.mk.injEq] at D7;obtain ⟨_,hp,rfl,rfl⟩:=D7;split at hc
  ·rename_i c;split at hc
   ·rename_i x x2 hca hargs;simp only [E69] at hc;have e1:c.args = #[x,x2]:=by cases hcc:c.args;simp_all
    refine N0 (s:=Builtin.min_ c.argTypes type #[a.eval x,a.eval x2]) hi ?_ (E2V (D6 hc.1 hs) (D6 hc.2 hs) hp);simp [execOp,resolve,hca,e1,invoke,builtin]
   ·cases hc
  ·cases hc
 case mkMap =>
  cases D7;split at hc
  ·exact lZ rfl (D9c hi nC)
  ·cases hc
 case look kk zero ok y z =>
  simp only [E67,Option.some.injEq,Prod.mk.injEq] at D7;obtain ⟨_,hp,rfl,rfl⟩:=D7;split at hc
  ·simp only [E69,decide_eq_true_eq] at hc;obtain ⟨⟨⟨h1,h2⟩,h3⟩,h4⟩:=hc;subst h2;split at h1
   ·simp only [E69] at h1;obtain ⟨h1,h5⟩:=h1;split at h5
    ·exact N0 hi rfl (E1s ‹_› h1 ‹_› h5 hrow (D6 h3 hs) (D6 h4 hs) hp)
    ·cases h5
   ·cases h1
  ·cases hc
 case mput kk y z z2 =>
  simp only [E67,Option.some.injEq,Prod.mk.injEq] at D7;obtain ⟨_,hp,rfl,rfl⟩:=D7;split at hc
  ·simp only [E69] at hc;obtain ⟨⟨⟨h1,h2⟩,h3⟩,h4⟩:=hc;split at h1
   ·exact A5Q rfl (D5L ‹_› h1 hi (D6 h2 hs) (D6 h3 hs) (D6 h4 hs) hp)
   ·cases h1
  ·simp only [E69] at hc;obtain ⟨⟨⟨h1,h2⟩,h3⟩,h4⟩:=hc;split at h1
   ·exact A5Q rfl (D5L ‹_› h1 hi (D6 h2 hs) (D6 h3 hs) (D6 h4 hs) hp)
   ·cases h1
  ·cases hc
 case ment kk zero y z =>
  simp only [E67,Option.some.injEq] at D7;obtain ⟨p,hp,zQ⟩:=D7;simp only [Prod.mk.injEq] at zQ;obtain ⟨rfl,rfl⟩:=zQ;split at hc
  ·simp only [E69] at hc;obtain ⟨⟨h1,h3⟩,h4⟩:=hc;split at h1
   ·simp only [E69] at h1;obtain ⟨h1,h5⟩:=h1;split at h5
    ·obtain ⟨V,w',h6,h7,h8⟩:=E1t ‹_› h1 ‹_› h5 hi (D6 h3 hs) (D6 h4 hs) hp;exact lZ rfl ⟨V,w',μ,h6,Mu.le_refl _,h7,h8,Keeps.refl _ _ _ _⟩
    ·cases h5
   ·cases h1
  ·cases hc
 case mset y z z2 =>
  simp only [E67,Option.some.injEq,Prod.mk.injEq] at D7;obtain ⟨_,hp,rfl,rfl⟩:=D7;split at hc
  ·simp only [E69] at hc;obtain ⟨⟨h2,h3⟩,h4⟩:=hc;exact A5Q rfl (E1v hi (D6 h2 hs) (D6 h3 hs) (D6 h4 hs) hp)
  ·cases hc
 case copy sz y z =>
  simp only [E67,Option.some.injEq] at D7;obtain ⟨p,hp,zQ⟩:=D7;simp only [Prod.mk.injEq] at zQ;obtain ⟨rfl,rfl⟩:=zQ;split at hc
  ·rename_i c;split at hc
   ·rename_i x x2 s yt hca hargs hty;simp only [E69] at hc;obtain ⟨⟨h1,h3⟩,h4⟩:=hc;split at h1
    ·rename_i e he;simp only [E69,decide_eq_true_eq] at h1;have e1:c.args = #[x,x2]:=by cases hcc:c.args;simp_all
     have e2:c.argTypes = #[s,yt]:=by cases hcc:c.argTypes;simp_all
     obtain ⟨V,w',h5,h6,h7⟩:=E1m (P:=P) (yt:=yt) (ty:=type) hi he h1.1 h1.2 (D6 h3 hs) (D6 h4 hs) hp;refine lZ (s:=Builtin.copy_ #[s,yt] type #[a.eval x,a.eval x2]) ?_ ⟨V,w',μ,h5,Mu.le_refl _,h6,h7,Keeps.refl _ _ _ _⟩;simp [execOp,resolve,hca,e1,e2,invoke,builtin]
    ·cases h1
   ·cases hc
  ·cases hc
end
def kB (P : Program) (f : FuncId) : Prop := ∃ fn : Func, P.funcs[f]? = some fn ∧ (fn.name == "runtime.NumGoroutine") = false ∧ fn.body.isNone = false
def CallOk (P:Program) (f:FuncId) (args:List Val) (h:B5) (v:Val) (h':B5):Prop :=
 ∀ (Γ:Ctx) (μ:Mu) (w:World) (V:List Value),Inv Γ μ h w->All2 (RV μ) args V ->
  Calls P f V.toArray w λe w'=>∃ V' μ',e=.returned V' /\ μ.le μ'/\RV μ' v V'/\Inv Γ μ' h' w'/\∀ id,id<h.length -> μ' id = μ id
def gD (P:Program) (E:O3):Prop:=∀ f args h v h',E f args h=A4 (v,h')->kB P f/\CallOk P f args h v h'/\h.length<=h'.length
def D2V (o:Op):AOp->Bool
 | .call f args=>(match o with
   | .call c=>(match c.callee with | .value (.func g)=>decide (f=g)&&A2S c.args.toList args | _=>A6)
   | _=>A6)
 | .callV x args=>(match o with
   | .call c=>(match c.callee with | .value y=>E7 y x&&A2S c.args.toList args | _=>A6)
   | _=>A6)
 | _=>A6
def D4E (ops:Array Oper):Option (Nat × Bool)->Option (Nat × Bool)->Bool
 | none,none=>A5
 | some q,A4 p=>decide (q.2=p.2)&&decide ((ops[q.1]?).bind (·.dst)=A4 p.1)
 | _,_=>A6
def yW (N:Nat) (d:Option Nat):Bool:=match d with | some d=>decide (d<N) | none=>A5
def aW (P:Program) (N:Nat) (ops:Array Oper) (o:Oper) (ao:AOper):Bool :=
 decide (o.dst=ao.dst)&&yW N o.dst&&D4E ops o.guard ao.guard&&(E15 P o.op ao.op||D2V o.op ao.op)
section
variable {P:Program} {R:Type}
theorem D4k (E:O3) (q:Bool) (hr:B5) (n0:Nat) (slot:Option Nat) (o:AOp) (e:Env) (h:B5) (k:Val->B5->Option R) :
  aop E q hr n0 slot o e h k=(aop E q hr n0 slot o e h λv h=>A4 (v,h)).bind λp=>k p.1 p.2:=by
 cases o<;>simp only [aop,E7h,Option.bind_assoc]
theorem B7Y {f:FuncId} (hf:kB P f) (args:Array Value) (w:World):(callFunc f args).run P w=.ok (.enter f args) w:=by
 obtain ⟨fn,h1,h2,h3⟩:=hf;unfold callFunc;simp only [Sem.run_bind,run_program,Result.andThen_ok,h1,h2,h3,Bool.false_eq_true,if_false];rfl
theorem B5N {μ:Mu}:∀ {l:List (Nat × Nat)} {cs:List Value},All2 (RPtr μ) l cs->All2 (RV μ) (C4K l) cs
 | [],[],_=>trivial
 | q::l,c::cs,⟨h1,h2⟩=>⟨h1,B5N h2⟩
 | [],_::_,h=>h.elim
 | _::_,[],h=>h.elim
theorem D7q {Γ:Ctx} {μ:Mu} {o:Oper} {a:Act} {w:World} {g:FuncId} {args:List Val} {h h':B5} {v:Val} {c:Call} {y:Operand} {cs:List Value}
  (ho:o.op=.call c) (D6s:c.callee=.value y) (hy:a.eval y=.func (.func g) #[] cs.toArray) (hg:kB P g) (hk:CallOk P g args h v h')
  (hargs:All2 (RV μ) args (c.args.toList.map a.eval++cs)) (hi:Inv Γ μ h w) {next:Act->World->Prop} {Q:Exit->Act->World->Prop}
  {n0:Nat} {slot:Option Nat} (hn:∀ V w' μ',μ.le μ'->RV μ' v V->Inv Γ μ' h' w'->Keeps μ μ' h n0 slot->next (a.put o.dst V) w'):o.wp P a w next Q:=by
 have A84:(execOp a.eval o).run P w=.ok (.enter g (c.args.toList.map a.eval++cs).toArray) w:=by
  have e:(#[]++c.args.map a.eval++cs.toArray:Array Value)=(c.args.toList.map a.eval++cs).toArray:=by apply Array.ext';simp
  simp only [execOp,ho,resolve,D6s,hy,Deferred.ofValue,pure_bind,invoke];rw [e];exact B7Y hg _ _
 unfold Oper.wp;rw [A84,Oper.upon_enter];refine (hk Γ μ w _ hi hargs).mono ?_;rintro e w' ⟨V,μ',rfl,h1,h2,h3,h4⟩;exact hn V w' μ' h1 h2 h3 λid hid _=>h4 id hid
theorem D9I {N:Nat} {ops:Array Oper} {E:O3} (hE:gD P E) {q:Bool} {o:Oper} {ao:AOp} {e:Env} {h hr:B5} {v:Val} {h':B5} {n0:Nat} {slot:Option Nat} {Γ:Ctx} {μ:Mu} {a:Act} {w:World}
  (hc:(E15 P o.op ao||D2V o.op ao)=A5) (hs:SEnv μ e a) (hi:Inv Γ μ h w) (hrd:∀ id r,rd hr id=A4 r->rd h id=A4 r) (nC:uR μ h n0 slot)
  (D7:aop E q hr n0 slot ao e h (λv h=>A4 (v,h))=A4 (v,h')) {next:Act->World->Prop} {Q:Exit->Act->World->Prop}
  (hn:∀ V w' μ',μ.le μ'->RV μ' v V->Inv Γ μ' h' w'->Keeps μ μ' h n0 slot->next (a.put o.dst V) w'):o.wp P a w next Q:=by
 rw [E74] at hc;rcases hc with hc | hc
 ·obtain ⟨V,w',μ',h1,h2,h3,h4,h5⟩:=E4E hc hs hi hrd nC D7;unfold Oper.wp;rcases h1 with h1 | ⟨h1,rfl⟩
  ·rw [h1];exact hn V w' μ' h2 h3 h4 h5
  ·rw [h1];exact hn undef w' μ' h2 h3 h4 h5
 ·cases ao<;>simp only [D2V] at hc
  case call f args =>
   simp only [aop,E67,Option.some.injEq] at D7;obtain ⟨p,hp,zQ⟩:=D7;simp only [Prod.mk.injEq] at zQ;obtain ⟨rfl,rfl⟩:=zQ;have hE1:E f (args.map e.ev) h=A4 (p.1,p.2):=by
    cases q with
    | false=>simpa using hp
    | true =>
     simp only [cond_true,quiet,E67] at hp;obtain ⟨p',h1,h2⟩:=hp;split at h2
     ·cases h2;exact h1
     ·cases h2
   obtain ⟨hg,hk,_⟩:=hE _ _ _ _ _ hE1;split at hc
   ·rename_i c ho;split at hc
    ·rename_i g D6s;simp only [E69,decide_eq_true_eq] at hc;obtain ⟨rfl,hargs⟩:=hc;exact D7q ho D6s (cs:=[]) rfl hg hk (by rw [E7w];exact A7l hs hargs) hi hn
    ·cases hc
   ·cases hc
  case callV x args =>
   simp only [aop,E67,Option.some.injEq] at D7;obtain ⟨p,hp,zQ⟩:=D7;simp only [Prod.mk.injEq] at zQ;obtain ⟨rfl,rfl⟩:=zQ;have hE0:A2R E (e.ev x) (args.map e.ev) h=A4 (p.1,p.2):=by
    cases q with
    | false=>simpa using hp
    | true =>
     simp only [cond_true,quiet,E67] at hp;obtain ⟨p',h1,h2⟩:=hp;split at h2
     ·cases h2;exact h1
     ·cases h2
   unfold A2R at hE0;split at hE0
   ·rename_i g caps wR;obtain ⟨hg,hk,_⟩:=hE _ _ _ _ _ hE0;split at hc
    ·rename_i c ho;split at hc
     ·rename_i y D6s;simp only [E69] at hc;have hy:RV μ _ _:=D6 hc.1 hs;rw [wR] at hy;obtain ⟨cs,h1,h2⟩:=hy;exact D7q ho D6s h1 hg hk ((A7l hs hc.2).append (B5N h2)) hi hn
     ·cases hc
    ·cases hc
   ·cases hE0
  all_goals cases hc
theorem D7c {ops:Array Oper} {j g:Nat} {a:Act} {e:Env} {μ:Mu} {x:Bool} (hj:(ops[j]?).bind (·.dst)=A4 g) (hs:SEnv μ e a) (he:e.get g=.c (.b x)):yielded ops a.tmps j=A4 x:=by
 have h1:a.tmps.getD g undef=.bool x:=by have:=hs g;rw [he] at this;exact this
 unfold yielded;rw [hj];simp only [E7h];have:a.tmps[g]?=A4 (.bool x):=by
  simp only [Array.getD_eq_getD_getElem?] at h1;cases hh:a.tmps[g]? with
  | none=>rw [hh] at h1;simp [undef] at h1
  | some y=>rw [hh] at h1;simpa using h1
 rw [this]
theorem D7b {ops:Array Oper} {j g:Nat} {a:Act} {e:Env} {μ:Mu} (hj:(ops[j]?).bind (·.dst)=A4 g) (hs:SEnv μ e a) (he:e.get g=.no):yielded ops a.tmps j=A7:=by
 have h1:a.tmps.getD g undef=undef:=by have:=hs g;rw [he] at this;exact this
 unfold yielded;rw [hj];simp only [E7h];simp only [Array.getD_eq_getD_getElem?] at h1;cases hh:a.tmps[g]? with
 | none=>rfl
 | some y=>rw [hh] at h1;simp [undef] at h1;subst h1;rfl
theorem D9J {N:Nat} {ops:Array Oper} {E:O3} (hE:gD P E) {q:Bool} {o:Oper} {ao:AOper} {e:Env} {h hr:B5} {n0:Nat} {k:Val->B5->Option R} {r:R}
  (hc:aW P N ops o ao=A5) (D7:X9 E q hr n0 ao e h k=A4 r) :
  ∃ v h',k v h'=A4 r/\X9 E q hr n0 ao e h (λv h=>A4 (v,h))=A4 (v,h'):=by
 unfold X9 at D7 ⊢;cases hg:ao.guard with
 | none =>
  simp only [hg] at D7 ⊢;rw [D4k] at D7;simp only [E67] at D7;obtain ⟨p,hp,hk⟩:=D7;exact ⟨p.1,p.2,hk,hp⟩
 | some g =>
  simp only [hg] at D7 ⊢;simp only [E67] at D7;obtain ⟨p,hp,hk⟩:=D7;exact ⟨p.1,p.2,hk,by rw [hp];rfl⟩
theorem A5a {N:Nat} {ops:Array Oper} {E:O3} (hE:gD P E) {q:Bool} {o:Oper} {ao:AOper} {e:Env} {h hr:B5} {n0:Nat} {v:Val} {h':B5} {Γ:Ctx} {μ:Mu} {a:Act} {w:World}
  (hc:aW P N ops o ao=A5) (D7:X9 E q hr n0 ao e h (λv h=>A4 (v,h))=A4 (v,h')) (hs:SEnv μ e a) (hi:Inv Γ μ h w) (hrd:∀ id r,rd hr id=A4 r->rd h id=A4 r) (nC:uR μ h n0 ao.slot)
  {next:Act->World->Prop} {Q:Exit->Act->World->Prop} (hn:∀ V w' μ',μ.le μ'->RV μ' v V->Inv Γ μ' h' w'->Keeps μ μ' h n0 ao.slot->next (a.put o.dst V) w') :
  if Region.wanted o (yielded ops a.tmps) then o.wp P a w next Q\/(o.asks P a w/\LetsOut Q) else next (a.put o.dst undef) w:=by
 simp only [aW,E69] at hc;obtain ⟨⟨⟨_,_⟩,hg⟩,hop⟩:=hc;unfold X9 at D7;unfold D4E at hg;cases hag:ao.guard with
 | none =>
  simp only [hag] at D7 hg;cases hog:o.guard with
  | some _=>simp [hog] at hg
  | none =>
   have hw:Region.wanted o (yielded ops a.tmps)=A5:=by simp [Region.wanted,hog]
   rw [if_pos hw];exact .inl (D9I (N:=N) (ops:=ops) hE hop hs hi hrd nC D7 hn)
 | some g =>
  simp only [hag] at D7 hg;cases hog:o.guard with
  | none=>simp [hog] at hg
  | some q2 =>
   simp only [hog,E69,decide_eq_true_eq] at hg;simp only [E67] at D7;obtain ⟨p,hp,zQ⟩:=D7;simp only [Option.some.injEq,Prod.mk.injEq] at zQ;obtain ⟨rfl,rfl⟩:=zQ;unfold gd at hp;split at hp
   ·rename_i x wR;have hy:=D7c hg.2 hs wR;have hw:Region.wanted o (yielded ops a.tmps)=(x==g.2):=by
     simp [Region.wanted,hog,hy,hg.1]
    rw [hw];cases hx:(x==g.2) with
    | true =>
     rw [hx] at hp;rw [if_pos rfl];exact .inl (D9I (N:=N) (ops:=ops) hE hop hs hi hrd nC hp hn)
    | false =>
     rw [hx] at hp;simp only [cond_false,Option.some.injEq] at hp;rw [if_neg (by simp)];cases hp;exact hn undef w μ (Mu.le_refl _) rfl hi (Keeps.refl _ _ _ _)
   ·rename_i wR;have hy:=D7b hg.2 hs wR;have hw:Region.wanted o (yielded ops a.tmps)=A6:=by
     simp [Region.wanted,hog,hy,hg.1]
    rw [hw,if_neg (by simp)];cases hp;exact hn undef w μ (Mu.le_refl _) rfl hi (Keeps.refl _ _ _ _)
   ·cases hp
end
def AExit.conv:AExit->Exit
 | .normal=>.normal
 | .exit id=>.exit id
 | .ret=>.ret
def B2o (P:Program) (N L:Nat) (W:(Exit->Act->World->Prop)->Act->World->Prop) (e:Env) (h:B5) (x:AExit) (e':Env) (h':B5):Prop :=
 ∀ (Γ:Ctx) (μ:Mu) (a:Act) (w:World),SEnv μ e a->Inv Γ μ h w->N<=a.tmps.size->a.defers = Γ.ds->∀ Q:Exit->Act->World->Prop,
  (∀ μ' a' w',μ.le μ'->(∀ id,id<L -> μ' id = μ id)->SEnv μ' e' a'->Inv Γ μ' h' w'->N<=a'.tmps.size->a'.defers = Γ.ds->Q x.conv a' w')->W Q a w
def X4:AOp->Bool
 | .alloc _ | .box _ | .nilrow _ | .buildSl .. | .s2b _ | .mkSl .. | .mkMap=>A5
 | _=>A6
def Y5:AOp->Bool
 | .call .. | .callV ..=>A5
 | _=>A6
def A7L:AOp->Bool
 | .store1 .. | .storeN .. | .app .. | .appZ .. | .copy .. | .mput .. | .ment .. | .mset ..=>A6
 | _=>A5
def A1N:AOp->Bool
 | .mark _=>A5
 | .b2sN A7 _=>A5
 | _=>A6
def B8Q:AOp->Option Nat
 | .b2sN own _=>own
 | _=>A7
def AOp.opds:AOp->List Opd
 | .mv x | .box x | .load1 x | .loadN _ x | .eqN _ _ x | .nilc x | .un _ x | .conv _ x | .convS x | .s2b x | .b2s x | .b2sN _ x | .mark x | .fAddr x _ | .fld1 x _ | .fldN x _ _ | .ext x _ | .len x | .lenS x=>[x]
 | .nilrow _ | .alloc _ | .mkMap=>[]
 | .pick c a b=>[c,a,b]
 | .look _ _ _ a x | .ment _ _ a x=>[a,x]
 | .mput _ a x y | .mset a x y=>[a,x,y]
 | .build _ ps | .buildSl _ _ _ ps=>ps.map (·.2.2)
 | .store1 a x | .storeN _ a x | .bin _ a x | .eqA _ _ a x | .eqB _ a x | .mkSl _ _ a x | .iAddrA _ _ a x | .iAddrL _ a x | .idxA1 _ a x | .idxAN _ _ a x | .idxS a x | .app _ a x | .appZ _ _ a x | .max a x | .min a x | .copy _ a x=>[a,x]
 | .mkf _ cs=>cs
 | .slS x lo hi | .slL _ x lo hi | .slA _ _ x lo hi=>x::(lo.toList++hi.toList)
 | .call _ args=>args
 | .callV f args=>f::args
def E6B:Opd->Option Nat
 | .t n=>A4 n
 | _=>A7
def AOper.reads (o:AOper):List Nat:=o.op.opds.filterMap E6B++(o.guard.toList.map (·.1))
def Z2 (o:Oper):List Nat:=(o.after.toList.filter (Region.binds .any)).map (·.on)
def D3k (acc:List Nat) (o:Oper):Nat:=(Z2 o).foldl (λs p=>s ||| (2 ^ p) ||| acc.getD p 0) 0
def closure:List Oper->List Nat->List Nat
 | [],acc=>acc
 | o::r,acc=>closure r (acc++[D3k acc o])
def R0 (ops:Array Oper):List Nat:=closure ops.toList []
theorem D1E (g:Nat->Nat) (b:Nat):∀ (ds:List Nat) (s:Nat),(ds.foldl (λs p=>s ||| (2 ^ p) ||| g p) s).testBit b=A5->s.testBit b=A5\/∃ p∈ds,b=p\/(g p).testBit b=A5
 | [],s,h=>.inl h
 | d::ds,s,h=>by
  rcases D1E g b ds _ h with h | ⟨p,hp,h⟩
  ·rw [Nat.testBit_or,Nat.testBit_or,Nat.testBit_two_pow] at h;simp only [E74,decide_eq_true_eq] at h;rcases h with (h | h) | h
   ·exact .inl h
   ·exact .inr ⟨d,by simp,.inl h.symm⟩
   ·exact .inr ⟨d,by simp,.inr h⟩
  ·exact .inr ⟨p,by simp [hp],h⟩
theorem A7o:∀ (os:List Oper) (acc:List Nat) (i:Nat),i<acc.length->(closure os acc).getD i 0=acc.getD i 0
 | [],acc,i,h=>rfl
 | o::r,acc,i,h=>by
  rw [closure,A7o r _ i (by simp;omega)];simp [List.getD,E7H h]
theorem C7o:∀ (os:List Oper) (acc:List Nat) (k:Nat) (o:Oper),os[k]?=A4 o->∃ acc',acc'.length=acc.length+k/\(closure os acc).getD (acc.length+k) 0=D3k acc' o/\∀ i,i<acc'.length->(closure os acc).getD i 0=acc'.getD i 0
 | [],acc,k,o,h=>by simp at h
 | x::r,acc,0,o,h=>by
  simp at h;subst h;refine ⟨acc,rfl,?_,λi hi=>?_⟩
  ·rw [closure,A7o r _ _ (by simp)];simp [List.getD]
  ·rw [closure,A7o r _ i (by simp;omega)];simp [List.getD,E7H hi]
 | x::r,acc,k+1,o,h=>by
  simp at h;obtain ⟨acc',h1,h2,h3⟩:=C7o r (acc++[D3k acc x]) k o h;refine ⟨acc',by simp at h1;omega,?_,λi hi=>by rw [closure];exact h3 i hi⟩;rw [closure,<-h2]
  congr 1;simp;omega
theorem uT {ops:Array Oper} {done:Nat->Bool} (V5:∀ i o,ops[i]?=A4 o->∀ p∈Z2 o,p<i)
  (dH:∀ i o,ops[i]?=A4 o->done i=A5->∀ p∈Z2 o,done p=A5):∀ (i:Nat) (o:Oper),ops[i]?=A4 o->(∀ p∈Z2 o,done p=A5)->∀ b,((R0 ops).getD i 0).testBit b=A5->done b=A5:=by
 intro i
 induction i using Nat.strongRecOn with
 | _ i ih =>
  intro o ho hd b hb;obtain ⟨acc,h1,h2,h3⟩:=C7o ops.toList [] i o (by simpa using ho);simp only [E7v,E7t] at h1 h2;rw [R0,h2] at hb;unfold D3k at hb;rcases D1E _ b _ _ hb with hb | ⟨p,hp,rfl | hb⟩
  ·simp at hb
  ·exact hd _ hp
  ·have hpi:=V5 i o ho p hp;have hps:p<ops.size:=by have:=(Array.getElem?_eq_some_iff.1 ho).1;omega
   have hop:ops[p]?=A4 ops[p]:=by simp [hps]
   refine ih p hpi ops[p] hop (dH p _ hop (hd p hp)) b ?_;rw [R0,h3 p (by omega)];exact hb
section
variable {R:Type}
theorem D7i {E:O3} {q:Bool} {hr:B5} {n0:Nat} {slot:Option Nat} {o:AOp} {e e':Env} {h:B5} {k:Val->B5->Option R} (he:∀ x∈o.opds,e.ev x=e'.ev x):aop E q hr n0 slot o e h k=aop E q hr n0 slot o e' h k:=by
 have parts:∀ ps:List (Nat × Nat × Opd),(∀ x∈ps.map (·.2.2),e.ev x=e'.ev x)->(ps.map λp=>(p.1,p.2.1,e.ev p.2.2))=ps.map λp=>(p.1,p.2.1,e'.ev p.2.2):=λps hp =>
  List.map_congr_left λp hm=>by rw [hp p.2.2 (List.mem_map.2 ⟨p,hm,rfl⟩)]
 have all:∀ l:List Opd,(∀ x∈l,e.ev x=e'.ev x)->l.map e.ev=l.map e'.ev:=λl hl=>List.map_congr_left hl
 have opt:∀ l:Option Opd,(∀ x∈l.toList,e.ev x=e'.ev x)->l.map e.ev=l.map e'.ev:=λl hl=>by cases l with
  | none=>rfl
  | some x=>simp [hl x (by simp)]
 cases o<;>simp only [AOp.opds] at he<;>simp only [aop]
 case build z ps=>rw [parts ps he]
 case buildSl a b z ps=>rw [parts ps he]
 case mkf f cs=>rw [all cs he]
 case call f args=>rw [all args he]
 case callV f args=>rw [he f (by simp),all args λx hx=>he x (by simp [hx])]
 case slS x lo hi=>rw [he x (by simp),opt lo λy hy=>he y (by simp [hy]),opt hi λy hy=>he y (by simp [hy])]
 case slL sz x lo hi=>rw [he x (by simp),opt lo λy hy=>he y (by simp [hy]),opt hi λy hy=>he y (by simp [hy])]
 case slA n sz x lo hi=>rw [he x (by simp),opt lo λy hy=>he y (by simp [hy]),opt hi λy hy=>he y (by simp [hy])]
 all_goals (repeat (rw [he _ (by simp)]))
theorem C0O {E:O3} {q:Bool} {hr:B5} {n0:Nat} {o:AOper} {e e':Env} {h:B5} {k:Val->B5->Option R} (he:∀ t∈o.reads,e.get t=e'.get t):X9 E q hr n0 o e h k=X9 E q hr n0 o e' h k:=by
 have h1:∀ x∈o.op.opds,e.ev x=e'.ev x:=by
  intro x hx;cases x with
  | v x=>rfl
  | t n=>exact he n (List.mem_append_left _ (List.mem_filterMap.2 ⟨.t n,hx,rfl⟩))
 unfold X9;cases hg:o.guard with
 | none=>exact D7i h1
 | some g =>
  have h2:e.get g.1=e'.get g.1:=he g.1 (List.mem_append_right _ (by simp [hg]));simp only;rw [h2,D7i h1]
theorem C65 (E:O3) (q:Bool) (hr:B5) (n0:Nat) (o:AOper) (e:Env) (h:B5) (k:Val->B5->Option R):X9 E q hr n0 o e h k=(X9 E q hr n0 o e h λv h=>A4 (v,h)).bind λp=>k p.1 p.2:=by
 unfold X9;cases o.guard with
 | none=>exact D4k ..
 | some g=>simp only [Option.bind_assoc,E7h]
theorem D1h {E:O3} {q:Bool} {hr:B5} {n0:Nat} {slot:Option Nat} {o:AOp} {e:Env} {h h':B5} {v:Val} (hq:A7L o=A5) (hm:A1N o=A6) (how:B8Q o=A7) (hc:Y5 o=A6) (hs:X4 o=A6)
  (D7:aop E q hr n0 slot o e h (λv h=>A4 (v,h))=A4 (v,h')):h'=h/\∀ h2,aop E q hr n0 slot o e h2 (λv h=>A4 (v,h))=A4 (v,h2):=by
 have hnb:∀ own x,o≠.b2sN own x:=by
  intro own x he;subst he;simp only [B8Q] at how;subst how;simp [A1N] at hm
 cases o<;>simp [A7L,A1N,Y5,X4] at hq hm hc hs<;>simp only [aop] at D7 ⊢
 case b2sN own x=>exact absurd rfl (hnb own x)
 case mv=>cases D7;exact ⟨rfl,λ_=>rfl⟩
 all_goals
  simp only [E67,Option.some.injEq,Prod.mk.injEq] at D7;obtain ⟨_,h1,rfl,rfl⟩:=D7;exact ⟨rfl,λh2=>by rw [h1];rfl⟩
theorem D35 {h h2:B5} {x v:Val} (h1:B5C h x=A4 v) (A7B:∀ id off len sz r,x=.c (.sl id off len sz)->rd h id=A4 r->rd h2 id=A4 r):B5C h2 x=A4 v:=by
 unfold B5C at h1 ⊢;split at h1
 ·rename_i id off len sz;split at h1
  ·rename_i hsz;rw [if_pos hsz];rw [E7q] at h1 ⊢;obtain ⟨s,h3,h4⟩:=h1;rw [E67] at h3;obtain ⟨cs,h5,h6⟩:=h3;refine ⟨s,?_,h4⟩;rw [E67];refine ⟨cs,?_,h6⟩;unfold iE at h5 ⊢;simp only [E67] at h5 ⊢;obtain ⟨r,h7,h8⟩:=h5;exact ⟨r,A7B _ _ _ _ r rfl h7,h8⟩
  ·cases h1
 ·exact h1
 ·cases h1
theorem D7k {E:O3} {q:Bool} {hr:B5} {n0 j:Nat} {slot:Option Nat} {o:AOp} {e:Env} {h h':B5} {v:Val} (ho:B8Q o=A4 j)
  (D7:aop E q hr n0 slot o e h (λv h=>A4 (v,h))=A4 (v,h')):h'=h/\∀ h2:B5,(∀ x,rd h (n0+j)=A4 x->rd h2 (n0+j)=A4 x)->aop E q hr n0 slot o e h2 (λv h=>A4 (v,h))=A4 (v,h2):=by
 obtain ⟨x,rfl⟩:∃ x,o=.b2sN (A4 j) x:=by
  unfold B8Q at ho;split at ho
  ·subst ho;exact ⟨_,rfl⟩
  ·cases ho
 simp only [aop,E67,Option.some.injEq,Prod.mk.injEq] at D7;obtain ⟨v',h1,rfl,rfl⟩:=D7;refine ⟨rfl,λh2 A7B=>?_⟩;have:C2q h2 n0 (A4 j) (e.ev x)=A4 v':=by
  unfold C2q at h1 ⊢;simp only at h1 ⊢;split at h1
  ·rename_i id off len sz wR;split at h1
   ·rename_i hid;rw [if_pos hid];refine D35 h1 λbF _ _ _ r hx hr=>?_
    cases hx;rw [hid] at hr ⊢;exact A7B r hr
   ·cases h1
  ·cases h1
 simp only [aop,this];rfl
theorem D4l {E:O3} {q:Bool} {hr:B5} {n0:Nat} {slot:Option Nat} {o:AOp} {e:Env} {h h':B5} {v:Val} (hm:A1N o=A5)
  (D7:aop E q hr n0 slot o e h (λv h=>A4 (v,h))=A4 (v,h')):h'=h/\∀ h2:B5,(∀ id x,rd h id=A4 x->rd h2 id=A4 x)->aop E q hr n0 slot o e h2 (λv h=>A4 (v,h))=A4 (v,h2):=by
 have nC:∀ (h2:B5) (x:Val) (v:Val),(∀ id x,rd h id=A4 x->rd h2 id=A4 x)->B5C h x=A4 v->B5C h2 x=A4 v:=λh2 x v A7B h1=>D35 h1 λid _ _ _ r _ hr=>A7B id r hr
 by_cases hb:∃ x,o=.b2sN A7 x
 ·obtain ⟨x,rfl⟩:=hb;simp only [aop,C2q,E67,Option.some.injEq,Prod.mk.injEq] at D7;obtain ⟨v',h1,rfl,rfl⟩:=D7;exact ⟨rfl,λh2 A7B=>by simp only [aop,C2q,nC h2 _ _ A7B h1];rfl⟩
 obtain ⟨x,rfl⟩:∃ x,o=.mark x:=by
  unfold A1N at hm;split at hm
  ·exact ⟨_,rfl⟩
  ·exact absurd ⟨_,rfl⟩ hb
  ·cases hm
 simp only [aop,E67,Option.some.injEq,Prod.mk.injEq] at D7;obtain ⟨v',h1,rfl,rfl⟩:=D7;refine ⟨rfl,λh2 A7B=>?_⟩;have:zN h2 (e.ev x)=A4 v':=by
  unfold zN at h1 ⊢;split at h1
  ·simp only [E67] at h1 ⊢;obtain ⟨r,hr,h3⟩:=h1;exact ⟨r,A7B _ _ hr,h3⟩
  ·cases h1
 simp only [aop,this];rfl
theorem D4m {E:O3} {q:Bool} {hr:B5} {n0 j:Nat} {o:AOp} {e:Env} {h h':B5} {v:Val} (hs:X4 o=A5)
  (D7:aop E q hr n0 (A4 j) o e h (λv h=>A4 (v,h))=A4 (v,h')):∃ r:Row,h'=h.set (n0+j) (A4 r)/\∀ h2:B5,aop E q hr n0 (A4 j) o e h2 (λv h=>A4 (v,h))=A4 (v,h2.set (n0+j) (A4 r)):=by
 cases o<;>simp [X4] at hs<;>simp only [aop,dO] at D7 ⊢
 case alloc z=>cases D7;exact ⟨_,rfl,λ_=>rfl⟩
 case nilrow z=>cases D7;exact ⟨_,rfl,λ_=>rfl⟩
 case mkMap=>cases D7;exact ⟨_,rfl,λ_=>rfl⟩
 all_goals
  simp only [E67,Option.some.injEq,Prod.mk.injEq] at D7;obtain ⟨_,h1,rfl,rfl⟩:=D7;exact ⟨_,rfl,λh2=>by rw [h1];rfl⟩
def Grows (h h':B5):Prop:=h <+: h'/\∀ id x,h.length<=id->rd h' id=A4 x->x.own=A5
theorem Grows.refl (h:B5):Grows h h:=⟨List.prefix_refl _,λid x hid hx=>by have:=C8 hx;omega⟩
theorem B6b {h:B5} {r:Option (Val × B5)} {p:Val × B5} (hq:quiet h r=A4 p):r=A4 p/\Grows h p.2:=by
 simp only [quiet,E67] at hq;obtain ⟨p',h1,h2⟩:=hq;split at h2
 ·cases h2;exact ⟨h1,‹_›⟩
 ·cases h2
theorem quiet_of {h:B5} {p:Val × B5} (hg:Grows h p.2):quiet h (A4 p)=A4 p:=by
 unfold quiet;simp only [E7h];exact if_pos hg
end
theorem B2F {h h':B5} (hp:h <+: h') {id:Nat} (hl:id<h.length):rd h' id=rd h id:=by
 obtain ⟨t,rfl⟩:=hp;exact D9 hl
theorem B10 {hD h h':B5} (hl:hD.length=h.length) (id:Nat):rd (hD++h'.drop h.length) id=if id<h.length then rd hD id else rd h' id:=by
 split
 ·rw [D9 (by omega)]
 ·unfold rd;rw [E7l (by omega),E7W,hl]
  congr 2;omega
open Classical in
theorem CallOk.frame {P:Program} {f:FuncId} {args:List Val} {h h' hD:B5} {v:Val} (hk:CallOk P f args h v h') (hg:Grows h h') (hl:hD.length=h.length) (A7B:∀ id x,rd h id=A4 x->rd hD id=A4 x) :
  CallOk P f args hD v (hD++h'.drop h.length):=by
 intro Γ μ w V hi hargs
 let Γ':Ctx:={ Γ with F:=λb=>match Γ.F b with | some o=>A4 o | none=>if (∃ id x n,rd h id=A7/\rd hD id=A4 x /\ μ id=A4 (b,n)) then w.heap[b]? else A7 }
 have hpl:h.length<=h'.length:=hg.1.length_le;have hΓ:∀ b,Γ'.F b=A7 -> Γ.F b=A7:=by
  intro b hb;cases hF:Γ.F b with
  | none=>rfl
  | some o=>simp only [Γ',hF] at hb;cases hb
 have hex:∀ id x b n,rd h id=A7->rd hD id=A4 x -> μ id=A4 (b,n)->∃ o,Γ'.F b=A4 o/\w.heap[b]?=A4 o:=by
  intro id x b n h1 h2 h3;obtain ⟨ob,h4⟩:=(hi.rows id x h2).there h3;cases hF:Γ.F b with
  | some o=>exact ⟨o,by simp only [Γ',hF],hi.ctx.block b o hF⟩
  | none=>exact ⟨_,by simp only [Γ',hF];rw [if_pos ⟨id,x,n,h1,h2,h3⟩];exact h4,h4⟩
 have hinv:Inv Γ' μ h w:=by
  refine ⟨λid r hr=>hi.rows id r (A7B id r hr),λid bF r r' x x' hr hr'=>hi.sep id bF r r' x x' (A7B _ _ hr) (A7B _ _ hr'),λid r x hr mD hx=>?_,λid hid=>hi.dom id (by omega),⟨hi.ctx.os,hi.ctx.tape,hi.ctx.output,λb o ho=>?_⟩⟩
  ·have h0:=hi.own id r x (A7B _ _ hr) mD hx;simp only [Γ',h0];rw [if_neg];rintro ⟨bF,x',n,h1,h2,h3⟩;have T8:id≠bF:=by intro e;subst e;rw [hr] at h1;cases h1
   exact hi.sep id bF r x' x (x.1,n) (A7B _ _ hr) h2 mD T8 hx h3 rfl
  ·cases hF:Γ.F b with
   | some o'=>simp only [Γ',hF] at ho;cases ho;exact hi.ctx.block b _ hF
   | none =>
    simp only [Γ',hF] at ho;split at ho
    ·exact ho
    ·cases ho
 refine (hk Γ' μ w V hinv hargs).mono ?_;rintro e w' ⟨V',μ',rfl,cC,hv,hi',cG⟩;refine ⟨V',μ',rfl,cC,hv,?_,λid hid=>cG id (by omega)⟩;have sS:∀ id x,rd (hD++h'.drop h.length) id=A4 x->rd h' id=A4 x\/(id<h.length/\rd h id=A7/\rd hD id=A4 x):=by
  intro id x hx;rw [B10 hl] at hx;split at hx
  ·rename_i V5;cases hh:rd h id with
   | none=>exact .inr ⟨V5,rfl,hx⟩
   | some y =>
    have:=A7B id y hh;rw [hx] at this;cases this;exact .inl (by rw [B2F hg.1 V5];exact hh)
  ·exact .inl hx
 have hold:∀ id,id<h.length -> μ' id = μ id:=cG;have E3W:∀ id x y,id<h.length->rd h id=A7->rd hD id=A4 x -> μ' id=A4 y->∃ o,Γ'.F y.1=A4 o/\w.heap[y.1]?=A4 o:=by
  intro id x y h1 h2 h3 h4;rw [hold id h1] at h4;exact hex id x y.1 y.2 h2 h3 h4
 refine ⟨λid r hr=>?_,λid bF r r' x x' hr hr' mD T8 hx hx'=>?_,λid r x hr mD hx=>?_,λid hid=>?_,⟨hi'.ctx.os,hi'.ctx.tape,hi'.ctx.output,λb o ho=>hi'.ctx.block b o (by simp only [Γ',ho])⟩⟩
 ·rcases sS id r hr with h1 | ⟨h1,h2,h3⟩
  ·exact hi'.rows id r h1
  ·refine (hi.rows id r h3).mono cC (hold id h1) λy hy=>?_
   obtain ⟨o,h4,h5⟩:=E3W id r y h1 h2 h3 (by rw [hold id h1];exact hy);rw [h5];exact hi'.ctx.block _ o h4
 ·rcases sS id r hr with h1 | ⟨h1,h2,h3⟩
  ·rcases sS bF r' hr' with h4 | ⟨h4,h5,h6⟩
   ·exact hi'.sep id bF r r' x x' h1 h4 mD T8 hx hx'
   ·have h7:=hi'.own id r x h1 mD hx;obtain ⟨o,h8,_⟩:=E3W bF r' x' h4 h5 h6 hx';intro e;rw [e,h8] at h7;cases h7
  ·rcases sS bF r' hr' with h4 | ⟨h4,h5,h6⟩
   ·obtain ⟨o,h8,_⟩:=E3W id r x h1 h2 h3 hx;by_cases V5:bF<h.length
    ·rw [B2F hg.1 V5] at h4;rw [hold id h1] at hx;rw [hold bF V5] at hx';exact hi.sep id bF r r' x x' h3 (A7B _ _ h4) mD T8 hx hx'
    ·have h9:=hi'.own bF r' x' h4 (hg.2 bF r' (by omega) h4) hx';intro e;rw [<-e,h8] at h9;cases h9
   ·rw [hold id h1] at hx;rw [hold bF h4] at hx';exact hi.sep id bF r r' x x' h3 h6 mD T8 hx hx'
 ·rcases sS id r hr with h1 | ⟨h1,h2,h3⟩
  ·exact hΓ _ (hi'.own id r x h1 mD hx)
  ·rw [hold id h1] at hx;exact hi.own id r x h3 mD hx
 ·refine hi'.dom id ?_;simp at hid;omega
def A0q (P:Program) (N:Nat) (ops:Array Oper) (m:Nat) (l r:List AOper):Bool :=
 let all:=l++r
 let cl:=R0 ops
 let ahead (i j:Nat):Bool:=(cl.getD i 0).testBit j
 P.follows .mixedOrders &&
 decide (ops.size=l.length+r.length) &&
 (ops.toList.zip all).all (λp=>aW P N ops p.1 p.2) &&
 (ops.toList.zipIdx).all (λp=>(Z2 p.1).all (λq=>decide (q<p.2))) &&
 l.all (λo=>A7L o.op&&decide (X4 o.op=o.slot.isSome)&&(match o.slot with | some j=>decide (j<m) | none=>A5)) &&
 r.all (λo=>decide (o.slot=A7)) &&
 l.zipIdx.all (λp=>l.zipIdx.all λq=>decide (p.2=q.2)||(decide (p.1.dst≠q.1.dst\/p.1.dst=A7)&&decide (p.1.slot≠q.1.slot\/p.1.slot=A7))) &&
 l.zipIdx.all (λp=>l.zipIdx.all λq=>(match q.1.dst with | some d=>!(p.1.reads.contains d)||(ahead p.2 q.2&&decide (q.2<p.2))||(ahead q.2 p.2&&decide (p.2<q.2)) | none=>A5)) &&
 l.zipIdx.all (λp=>l.zipIdx.all λq=>!((Y5 p.1.op||A1N p.1.op)&&decide (q.2<p.2)&&(Y5 q.1.op||X4 q.1.op))||ahead p.2 q.2) &&
 l.zipIdx.all (λp=>match B8Q p.1.op with | none=>A5 | some j=>l.zipIdx.any λq=>decide (q.1.slot=A4 j)&&ahead p.2 q.2)
def B7Z (ops:Array Oper) (a n:Nat):Bool :=
 let cl:=R0 ops
 (E7M a n).all (λi=>(E7C i).all λj=>(cl.getD i 0).testBit j)
structure DrawOk (P:Program) (N:Nat) (ops:Array Oper) (m:Nat) (l r:List AOper):Prop where
 follows:P.follows .mixedOrders=A5
 size:ops.size=l.length+r.length
 oper:∀ (i:Nat) (o:Oper) (ao:AOper),ops[i]?=A4 o->(l++r)[i]?=A4 ao->aW P N ops o ao=A5
 dir:∀ (i:Nat) (o:Oper),ops[i]?=A4 o->∀ p∈Z2 o,p<i
 quiet:∀ (i:Nat) (ao:AOper),l[i]?=A4 ao->A7L ao.op=A5/\X4 ao.op=ao.slot.isSome/\∀ j,ao.slot=A4 j->j<m
 rslot:∀ ao∈r,ao.slot=A7
 apart:∀ (i j:Nat) ai aj,l[i]?=A4 ai->l[j]?=A4 aj->i≠j->(∀ d,ai.dst=A4 d->aj.dst≠A4 d)/\(∀ s,ai.slot=A4 s->aj.slot≠A4 s)
 reads:∀ (i j:Nat) ai aj d,l[i]?=A4 ai->l[j]?=A4 aj->aj.dst=A4 d->d∈ai.reads->(((R0 ops).getD i 0).testBit j=A5/\j<i)\/(((R0 ops).getD j 0).testBit i=A5/\i<j)
 calls:∀ (i j:Nat) ai aj,l[i]?=A4 ai->l[j]?=A4 aj->(Y5 ai.op=A5\/A1N ai.op=A5)->j<i->(Y5 aj.op=A5\/X4 aj.op=A5)->((R0 ops).getD i 0).testBit j=A5
 own:∀ (i:Nat) ai j,l[i]?=A4 ai->B8Q ai.op=A4 j->∃ (k:Nat) (ak:AOper),l[k]?=A4 ak/\ak.slot=A4 j/\((R0 ops).getD i 0).testBit k=A5
theorem mem_zipIdx {α:Type} {l:List α} {i:Nat} {a:α} (h:l[i]?=A4 a):(a,i)∈l.zipIdx:=by
 rw [List.mem_zipIdx_iff_getElem?];simpa using h
theorem A7k {P:Program} {N:Nat} {ops:Array Oper} {m:Nat} {l r:List AOper} (hc:A0q P N ops m l r=A5):DrawOk P N ops m l r:=by
 simp only [A0q,E69,decide_eq_true_eq] at hc;obtain ⟨⟨⟨⟨⟨⟨⟨⟨⟨h1,h2⟩,h3⟩,h4⟩,h5⟩,h6⟩,h7⟩,h8⟩,h9⟩,h10⟩:=hc;simp only [E70] at h3 h4 h5 h6 h7 h8 h9 h10;refine ⟨h1,h2,?_,?_,?_,?_,?_,?_,?_,?_⟩
 ·intro i o ao ho ha;refine h3 (o,ao) ?_;have:(ops.toList.zip (l++r))[i]?=A4 (o,ao):=by
   rw [List.getElem?_zip_eq_some];exact ⟨by simpa using ho,ha⟩
  exact E7y this
 ·intro i o ho p hp;have:=h4 (o,i) (mem_zipIdx (by simpa using ho));simpa using this p hp
 ·intro i ao ha;have:=h5 ao (E7y ha);simp only [E69,decide_eq_true_eq] at this;refine ⟨this.1.1,this.1.2,λj hj=>?_⟩;have h:=this.2;rw [hj] at h;simpa using h
 ·intro ao ha;simpa using h6 ao ha
 ·intro i j ai aj hi hj T8;have:=h7 _ (mem_zipIdx hi) _ (mem_zipIdx hj);simp only [E74,E69,decide_eq_true_eq] at this;rcases this with this | ⟨ha,hb⟩
  ·exact absurd this T8
  ·refine ⟨λd hd he=>?_,λs hs he=>?_⟩
   ·rcases ha with ha | ha
    ·exact ha (by rw [hd,he])
    ·rw [hd] at ha;cases ha
   ·rcases hb with hb | hb
    ·exact hb (by rw [hs,he])
    ·rw [hs] at hb;cases hb
 ·intro i j ai aj d hi hj hd hr;have:=h8 _ (mem_zipIdx hi) _ (mem_zipIdx hj);simp only [hd,E74,E7V,E69,decide_eq_true_eq] at this;rcases this with (this | this) | this
  ·have hc:ai.reads.contains d=A5:=by simpa using hr
   rw [hc] at this;cases this
  ·exact .inl this
  ·exact .inr this
 ·intro i j ai aj hi hj hc V5 hor;have:=h9 _ (mem_zipIdx hi) _ (mem_zipIdx hj);simp only [E74,E7V] at this;rcases this with this | this
  ·have:((Y5 ai.op||A1N ai.op)&&decide (j<i)&&(Y5 aj.op||X4 aj.op))=A5:=by
    simp only [E69,decide_eq_true_eq,E74];exact ⟨⟨hc,V5⟩,hor⟩
   simp_all
  ·exact this
 ·intro i ai j hi ho;have:=h10 _ (mem_zipIdx hi);simp only [ho,List.any_eq_true,E69,decide_eq_true_eq] at this;obtain ⟨⟨ak,k⟩,hk,hs,ht⟩:=this;rw [List.mem_zipIdx_iff_getElem?] at hk;exact ⟨k,ak,hk,hs,ht⟩
theorem C7m {ops:Array Oper} {a n:Nat} (hc:B7Z ops a n=A5) (hs:ops.size=a+n):∀ i,a<=i->i<ops.size->∀ j,j<i->((R0 ops).getD i 0).testBit j=A5:=by
 intro i hi V5 j hj;simp only [B7Z,E70] at hc;exact hc i (by rw [List.mem_range'_1];omega) j (by simpa using hj)
structure Trace (E:O3) (hr:B5) (n0:Nat) (l:List AOper) (es:Nat->Env) (hs:Nat->B5) (vs:Nat->Val):Prop where
 step:∀ (i:Nat) o,l[i]?=A4 o->X9 E A5 hr n0 o (es i) (hs i) (λv h=>A4 (v,h))=A4 (vs i,hs (i+1))
 env:∀ (i:Nat) o,l[i]?=A4 o->es (i+1)=(es i).put o.dst (vs i)
theorem C89 {E:O3} {hr:B5} {n0:Nat} {R:Type} {k:Env->B5->Option R} {res:R}:∀ (l:List AOper) (e:Env) (h:B5),B3H E hr n0 l e h k=A4 res ->
  ∃ es hs vs,es 0=e/\hs 0=h/\Trace E hr n0 l es hs vs/\k (es l.length) (hs l.length)=A4 res
 | [],e,h,D7=>⟨λ_=>e,λ_=>h,λ_=>.un,rfl,rfl,⟨λi o ho=>by simp at ho,λi o ho=>by simp at ho⟩,D7⟩
 | o::l,e,h,D7=>by
  rw [C6Z,C65] at D7;simp only [E67] at D7;obtain ⟨p,hp,D7⟩:=D7;obtain ⟨es,hs,vs,h1,h2,h3,h4⟩:=C89 l _ _ D7;refine ⟨λi=>match i with | 0=>e | i+1=>es i,λi=>match i with | 0=>h | i+1=>hs i,λi=>match i with | 0=>p.1 | i+1=>vs i,rfl,rfl,⟨λi o' ho=>?_,λi o' ho=>?_⟩,h4⟩
  ·cases i with
   | zero=>simp at ho;subst ho;simp only;rw [h2];exact hp
   | succ i=>simp at ho;exact h3.step i o' ho
  ·cases i with
   | zero=>simp at ho;subst ho;exact h1
   | succ i=>simp at ho;exact h3.env i o' ho
def A10 (l:List AOper) (n0:Nat) (i id:Nat):Prop:=∃ ao j,l[i]?=A4 ao/\ao.slot=A4 j/\id=n0+j
section
variable {P:Program} {N m:Nat} {ops:Array Oper} {l r:List AOper} {E:O3} {hr:B5} {es:Nat->Env} {hs:Nat->B5} {vs:Nat->Val}
theorem A5Z (hq:∀ (i:Nat) (ao:AOper),l[i]?=A4 ao->A7L ao.op=A5/\X4 ao.op=ao.slot.isSome/\∀ j,ao.slot=A4 j->j<m) (ht:Trace E hr hr.length l es hs vs) {i:Nat} {ao:AOper} (ha:l[i]?=A4 ao) :
  (Y5 ao.op=A5/\ao.slot=A7/\Grows (hs i) (hs (i+1)))\/(Y5 ao.op=A6/\(hs (i+1)=hs i\/∃ j row,ao.slot=A4 j/\hs (i+1)=(hs i).set (hr.length+j) (A4 row))):=by
 have h1:=ht.step i ao ha;obtain ⟨q1,q2,q3⟩:=hq i ao ha;have key:hs (i+1)=hs i\/∃ v,aop E A5 hr hr.length ao.slot ao.op (es i) (hs i) (λv h=>A4 (v,h))=A4 (v,hs (i+1)):=by
  unfold X9 at h1;cases hgu:ao.guard with
  | none=>rw [hgu] at h1;exact .inr ⟨_,h1⟩
  | some g =>
   rw [hgu] at h1;simp only [E67,Option.some.injEq] at h1;obtain ⟨⟨v',h2⟩,hp,zQ⟩:=h1;cases zQ;unfold gd at hp;split at hp
   ·rename_i x _;cases hx:(x==g.2) with
    | true=>rw [hx] at hp;exact .inr ⟨_,hp⟩
    | false=>rw [hx] at hp;simp only [cond_false,Option.some.injEq,Prod.mk.injEq] at hp;exact .inl hp.2.symm
   ·simp only [Option.some.injEq,Prod.mk.injEq] at hp;exact .inl hp.2.symm
   ·cases hp
 cases hc:Y5 ao.op with
 | true =>
  left
  have hns:X4 ao.op=A6:=by cases hop:ao.op<;>simp_all [Y5,X4]
  have hsn:ao.slot=A7:=by
   rw [hns] at q2;cases nC:ao.slot with
   | none=>rfl
   | some j=>rw [nC] at q2;cases q2
  refine ⟨rfl,hsn,?_⟩;rcases key with h | ⟨v,h⟩
  ·rw [h];exact Grows.refl _
  ·cases hop:ao.op<;>rw [hop] at hc h<;>simp [Y5] at hc
   case call f args =>
    simp only [aop,cond_true,E67,Option.some.injEq] at h;obtain ⟨⟨v',h2⟩,hp,zQ⟩:=h;cases zQ;exact (B6b hp).2
   case callV f args =>
    simp only [aop,cond_true,E67,Option.some.injEq] at h;obtain ⟨⟨v',h2⟩,hp,zQ⟩:=h;cases zQ;exact (B6b hp).2
 | false =>
  right
  refine ⟨rfl,?_⟩;rcases key with h | ⟨v,h⟩
  ·exact .inl h
  ·cases nC:X4 ao.op with
   | false =>
    cases hmk:A1N ao.op with
    | false =>
     cases vH:B8Q ao.op with
     | none=>exact .inl (D1h q1 hmk vH hc nC h).1
     | some j=>exact .inl (D7k vH h).1
    | true=>exact .inl (D4l hmk h).1
   | true =>
    rw [nC] at q2;obtain ⟨j,hj⟩:=Option.isSome_iff_exists.1 q2.symm;rw [hj] at h;obtain ⟨row,h2,_⟩:=D4m nC h;exact .inr ⟨j,row,hj,h2⟩
theorem D5T (hq:∀ (i:Nat) (ao:AOper),l[i]?=A4 ao->A7L ao.op=A5/\X4 ao.op=ao.slot.isSome/\∀ j,ao.slot=A4 j->j<m) (ht:Trace E hr hr.length l es hs vs) {i:Nat} (hi:i<l.length) :
  (hs i).length<=(hs (i+1)).length:=by
 rcases A5Z hq ht (E66 hi) with ⟨_,_,h⟩ | ⟨_,h | ⟨j,row,_,h⟩⟩
 ·exact h.1.length_le
 ·rw [h];exact E7b _
 ·rw [h];simp
theorem B1M (hq:∀ (i:Nat) (ao:AOper),l[i]?=A4 ao->A7L ao.op=A5/\X4 ao.op=ao.slot.isSome/\∀ j,ao.slot=A4 j->j<m) (ht:Trace E hr hr.length l es hs vs):∀ (t i:Nat),i+t<=l.length->(hs i).length<=(hs (i+t)).length
 | 0,i,_=>E7b _
 | t+1,i,h=>E7K (B1M hq ht t i (by omega)) (D5T hq ht (i:=i+t) (by omega))
theorem A5R (D:DrawOk P N ops m l r) (ht:Trace E hr hr.length l es hs vs) (h0:hs 0=hr++E68 m A7) {i id:Nat} (ho:A10 l hr.length i id):∀ k,k<=i->rd (hs k) id=A7:=by
 obtain ⟨ao,j,ha,hj,rfl⟩:=ho;have hjm:=(D.quiet i ao ha).2.2 j hj;have O9:i<l.length:=(List.getElem?_eq_some_iff.1 ha).1;intro k
 induction k with
 | zero =>
  intro _;rw [h0];unfold rd;rw [E7l (by omega)];simp only [List.getElem?_replicate];split<;>rfl
 | succ k ih =>
  intro hk;have ih:=ih (by omega);have hkl:k<l.length:=by omega
  have hin:hr.length+j<(hs k).length:=by
   have:=B1M D.quiet ht k 0 (by omega);rw [h0] at this;simp at this;omega
  rcases A5Z D.quiet ht (E66 hkl) with ⟨_,_,h⟩ | ⟨_,h | ⟨j',row,hj',h⟩⟩
  ·rw [B2F h.1 hin];exact ih
  ·rw [h];exact ih
  ·rw [h];have T8:j≠j':=by
    intro e;subst e;exact (D.apart i k ao l[k] ha (E66 hkl) (by omega)).2 j hj hj'
   rw [B6 (by omega)];exact ih
theorem oE (D:DrawOk P N ops m l r) (ht:Trace E hr hr.length l es hs vs) {k id:Nat} (hid:id<(hs k).length) (cH:∀ i,k<=i->¬ A10 l hr.length i id):∀ t,k+t<=l.length->rd (hs (k+t)) id=rd (hs k) id
 | 0,_=>rfl
 | t+1,hl=>by
  have ih:=oE D ht hid cH t (by omega);have V5:k+t<l.length:=by omega
  have hin:id<(hs (k+t)).length:=Nat.lt_of_lt_of_le hid (B1M D.quiet ht t k (by omega));rw [<-ih];rcases A5Z D.quiet ht (E66 V5) with ⟨_,_,h⟩ | ⟨_,h | ⟨j',row,hj',h⟩⟩
  ·exact B2F h.1 hin
  ·show rd (hs (k+t+1)) id=_;rw [h]
  ·show rd (hs (k+t+1)) id=_;rw [h];have T8:hr.length+j'≠id:=λe=>cH (k+t) (by omega) ⟨l[k+t],j',E66 V5,hj',e.symm⟩
   rw [B6 T8]
def und (l:List AOper) (n0:Nat) (done:Nat->Bool) (id:Nat):Bool:=(E7C l.length).any λi=>!done i&&decide (((l[i]?).bind (·.slot)).map (n0 + ·)=A4 id)
theorem Z6 {n0:Nat} {done:Nat->Bool} {id:Nat}:und l n0 done id=A5↔∃ i,done i=A6/\A10 l n0 i id:=by
 unfold und A10;simp only [List.any_eq_true,List.mem_range,E69,E7V,decide_eq_true_eq,E7q,E67];constructor
 ·rintro ⟨i,hi,hd,j,⟨ao,ha,hj⟩,rfl⟩;exact ⟨i,hd,ao,j,ha,hj,rfl⟩
 ·rintro ⟨i,hd,ao,j,ha,hj,rfl⟩;exact ⟨i,(List.getElem?_eq_some_iff.1 ha).1,hd,j,⟨ao,ha,hj⟩,rfl⟩
def HD (F:B5) (u:Nat->Bool) (L:Nat):B5:=(E7C L).map λid=>if u id=A5 then A7 else rd F id
theorem J7 (F:B5) (u:Nat->Bool) (L:Nat):(HD F u L).length=L:=by simp [HD]
theorem tS (F:B5) (u:Nat->Bool) (L id:Nat):rd (HD F u L) id=if id<L/\u id=A6 then rd F id else A7:=by
 unfold HD
 conv=>lhs;unfold rd
 rw [List.getElem?_map];by_cases h:id<L
 ·rw [List.getElem?_range h];cases hu:u id
  ·simp [h,hu];rfl
  ·simp [h,hu]
 ·rw [E7L (by simp;omega)];simp [h]
theorem xZ {h h':B5} (hl:h.length=h'.length) (hr:∀ id,id<h.length->rd h id=rd h' id):h=h':=by
 apply List.ext_getElem hl;intro i h1 h2;have:=hr i h1;unfold rd at this;rw [E66 h1,E66 h2] at this;simpa using this
structure Sim (Γ:Ctx) (l:List AOper) (n0 N:Nat) (e:Env) (es:Nat->Env) (hs:Nat->B5) (vs:Nat->Val) (μ0:Mu) (done:Nat->Bool) (q:Nat) (μ:Mu) (a:Act) (w:World):Prop where
 qle:q<=l.length
 calls:∀ (i:Nat) ao,l[i]?=A4 ao->Y5 ao.op=A5->(done i=A5↔i<q)
 envD:∀ (i:Nat) ao d,l[i]?=A4 ao->done i=A5->ao.dst=A4 d->RV μ (vs i) (a.tmps.getD d undef)
 envO:∀ t,(∀ (i:Nat) ao,l[i]?=A4 ao->done i=A5->ao.dst≠A4 t)->RV μ (e.get t) (a.tmps.getD t undef)
 inv:Inv Γ μ (HD (hs l.length) (und l n0 done) (hs q).length) w
 free:∀ id,und l n0 done id=A5 -> μ id=A7
 le:μ0.le μ
 keep:∀ id,id<n0 -> μ id = μ0 id
 size:N<=a.tmps.size
 defers:a.defers = Γ.ds
end
theorem Env.get_keep_mem (e:Env) (l:List Nat) (t:Nat):(e.keep l).get t=if t∈l then e.get t else .un:=by
 induction l with
 | nil=>rfl
 | cons x r ih =>
  simp only [Env.keep,Env.get];by_cases h:x=t
  ·subst h;simp
  ·have:Nat.beq x t=A6:=by cases hb:Nat.beq x t with
    | false=>rfl
    | true=>exact absurd (Nat.eq_of_beq_eq_true hb) h
   rw [this,cond_false,ih];have h':t≠x:=Ne.symm h;simp [h']
section
variable {P:Program} {N m:Nat} {ops:Array Oper} {l r:List AOper} {E:O3} {hr:B5} {e:Env} {es:Nat->Env} {hs:Nat->B5} {vs:Nat->Val} {Γ:Ctx} {μ0:Mu}
theorem pU (D:DrawOk P N ops m l r) (ht:Trace E hr hr.length l es hs vs) {j t:Nat} {aj:AOper} (nX:l[j]?=A4 aj) (hd:aj.dst=A4 t):∀ k,j<k->k<=l.length->(es k).get t=vs j:=by
 intro k
 induction k with
 | zero=>intro h;omega
 | succ k ih =>
  intro hjk hk;rw [ht.env k l[k] (E66 (by omega))];by_cases e:j=k
  ·subst e;have:l[j]=aj:=by have h2:=E66 (l:=l) (i:=j) (by omega);rw [nX] at h2;cases h2;rfl
   rw [this,hd];exact Env.get_put_same _ _ _
  ·have T8:=(D.apart j k aj l[k] nX (E66 (by omega)) e).1 t hd;cases hdk:l[k].dst with
   | none=>exact ih (by omega) (by omega)
   | some d =>
    rw [hdk] at T8;rw [Env.get_put_other _ _ _ _ (by intro h;subst h;exact T8 rfl)];exact ih (by omega) (by omega)
theorem xU (ht:Trace E hr hr.length l es hs vs) (he:es 0=e) {t:Nat}:∀ k,k<=l.length->(∀ (j:Nat) aj,j<k->l[j]?=A4 aj->aj.dst≠A4 t)->(es k).get t=e.get t:=by
 intro k
 induction k with
 | zero=>intro _ _;rw [he]
 | succ k ih =>
  intro hk cH;rw [ht.env k l[k] (E66 (by omega))];have T8:=cH k l[k] (by omega) (E66 (by omega));cases hdk:l[k].dst with
  | none=>exact ih (by omega) λj aj hj=>cH j aj (by omega)
  | some d =>
   rw [hdk] at T8;rw [Env.get_put_other _ _ _ _ (by intro h;subst h;exact T8 rfl)];exact ih (by omega) λj aj hj=>cH j aj (by omega)
def nZ (done:Nat->Bool) (i:Nat):Nat->Bool:=λk=>decide (k=i)||done k
theorem uV (done:Nat->Bool) (i:Nat):nZ done i i=A5:=by simp [nZ]
theorem Z0 (done:Nat->Bool) (i:Nat) {k:Nat} (h:k≠i):nZ done i k=done k:=by simp [nZ,h]
theorem E20 (D:DrawOk P N ops m l r) (ht:Trace E hr hr.length l es hs vs) (he:es 0=e) {done:Nat->Bool} {q:Nat} {μ:Mu} {a:Act} {w:World}
  (S:Sim Γ l hr.length N e es hs vs μ0 done q μ a w) {i:Nat} {ao:AOper} (ha:l[i]?=A4 ao) (hnd:done i=A6) (hah:∀ b,((R0 ops).getD i 0).testBit b=A5->done b=A5) (xY:∀ j,done j=A5->∀ b,((R0 ops).getD j 0).testBit b=A5->done b=A5):SEnv μ ((es i).keep ao.reads) a:=by
 intro t;rw [Env.get_keep_mem];split
 ·rename_i yA;have O9:i<l.length:=(List.getElem?_eq_some_iff.1 ha).1;by_cases hw:∃ (j:Nat) (aj:AOper),l[j]?=A4 aj/\aj.dst=A4 t
  ·obtain ⟨j,aj,nX,hd⟩:=hw;rcases D.reads i j ao aj t ha nX hd yA with ⟨h1,h2⟩ | ⟨h1,h2⟩
   ·rw [pU D ht nX hd i h2 (by omega)];exact S.envD j aj t nX (hah j h1) hd
   ·have hnj:done j=A6:=by
     cases hdj:done j with
     | false=>rfl
     | true=>rw [xY j hdj i h1] at hnd;cases hnd
    have E3o:∀ (k:Nat) (ak:AOper),l[k]?=A4 ak->ak.dst=A4 t->k=j:=λk ak oZ hk=>by
     by_cases e:k=j
     ·exact e
     ·exact absurd hd ((D.apart k j ak aj oZ nX e).1 t hk)
    rw [xU ht he i (by omega) λk ak hk oZ hkd=>by have:=E3o k ak oZ hkd;omega];exact S.envO t λk ak oZ hk hkd=>by rw [E3o k ak oZ hkd,hnj] at hk;cases hk
  ·have cH:∀ (j:Nat) (aj:AOper),l[j]?=A4 aj->aj.dst≠A4 t:=λj aj nX hd=>hw ⟨j,aj,nX,hd⟩
   rw [xU ht he i (by omega) λj aj _ nX=>cH j aj nX];exact S.envO t λj aj nX _=>cH j aj nX
 ·trivial
theorem D1S {n0 i id:Nat} (h:id<n0):¬ A10 l n0 i id:=by
 rintro ⟨ao,j,_,_,rfl⟩;omega
theorem kP (D:DrawOk P N ops m l r) (ht:Trace E hr hr.length l es hs vs) (h0:hs 0=hr++E68 m A7) {k:Nat} (hk:k<=l.length):hr.length+m<=(hs k).length:=by
 have:=B1M D.quiet ht k 0 (by omega);rw [h0] at this;simp at this;omega
theorem D3w (D:DrawOk P N ops m l r) {n0 i id:Nat} (h:A10 l n0 i id):id<n0+m:=by
 obtain ⟨ao,j,ha,hj,rfl⟩:=h;have:=(D.quiet i ao ha).2.2 j hj;omega
theorem C8z (D:DrawOk P N ops m l r) {n0 i k id:Nat} (h:A10 l n0 i id) (h2:A10 l n0 k id):i=k:=by
 obtain ⟨ao,j,ha,hj,rfl⟩:=h;obtain ⟨ao',j',ha',hj',he⟩:=h2;by_cases e:i=k
 ·exact e
 ·have:j=j':=by omega
  subst this;exact absurd hj' ((D.apart i k ao ao' ha ha' e).2 j hj)
theorem D5O (D:DrawOk P N ops m l r) (ht:Trace E hr hr.length l es hs vs) (h0:hs 0=hr++E68 m A7) {done:Nat->Bool} {q:Nat} {μ:Mu} {a:Act} {w:World}
  (S:Sim Γ l hr.length N e es hs vs μ0 done q μ a w) {i:Nat} {ao:AOper} (ha:l[i]?=A4 ao) (hnd:done i=A6) {V:Value} {w':World} {μ':Mu} {q':Nat} {dst:Option Nat} (A0x:dst=ao.dst) (E3V:yW N dst=A5)
  (cC:μ.le μ') (hv:RV μ' (vs i) V) (hinv:Inv Γ μ' (HD (hs l.length) (und l hr.length (nZ done i)) (hs q').length) w') (cG:Keeps μ μ' (HD (hs l.length) (und l hr.length done) (hs q).length) hr.length ao.slot)
  (hq':q'<=l.length) (E3R:∀ (k:Nat) ak,l[k]?=A4 ak->Y5 ak.op=A5->(nZ done i k=A5↔k<q')):Sim Γ l hr.length N e es hs vs μ0 (nZ done i) q' μ' (a.put dst V) w':=by
 have sS:∀ t,dst≠A4 t->(a.put dst V).tmps.getD t undef=a.tmps.getD t undef:=by
  intro t h;cases hd:dst with
  | none=>rfl
  | some d =>
   rw [hd] at h;simp [Act.put,Array.getElem?_setIfInBounds_ne (show d≠t from λe=>h (by rw [e]))]
 refine ⟨hq',E3R,?_,?_,hinv,?_,Mu.le_trans S.le cC,?_,by rw [Act.size_put];exact S.size,?_⟩
 ·intro k ak d oZ hdk hd;by_cases e:k=i
  ·subst e;rw [ha] at oZ;cases oZ;rw [A0x,hd];have V5:d<a.tmps.size:=by
    rw [A0x,hd] at E3V;simp [yW] at E3V;exact Nat.lt_of_lt_of_le E3V S.size
   have:(a.put (A4 d) V).tmps.getD d undef=V:=by simp [Act.put,Array.getD,V5]
   rw [this];exact hv
  ·rw [Z0 _ _ e] at hdk;rw [sS d (by rw [A0x];exact λh=>(D.apart i k ao ak ha oZ (Ne.symm e)).1 d h hd)];exact (S.envD k ak d oZ hdk hd).mono cC
 ·intro t cH;have h1:=cH i ao ha (uV _ _);rw [sS t (by rw [A0x];exact h1)];refine (S.envO t λk ak oZ hdk=>?_).mono cC;by_cases e:k=i
  ·subst e;rw [hnd] at hdk;cases hdk
  ·exact cH k ak oZ (by rw [Z0 _ _ e];exact hdk)
 ·intro id hid;obtain ⟨k,hk,ho⟩:=Z6.1 hid;have e:k≠i:=by intro e;subst e;rw [uV] at hk;cases hk
  rw [Z0 _ _ e] at hk;have h1:=S.free id (Z6.2 ⟨k,hk,ho⟩);rw [<-h1];refine cG id (by rw [J7];have:=kP D ht h0 S.qle;have:=D3w D ho;omega) λj hj he=>e ?_
  exact C8z D ho ⟨ao,j,ha,hj,he⟩
 ·intro id hid;rw [<-S.keep id hid];exact cG id (by rw [J7];have:=kP D ht h0 S.qle;omega) λj hj he=>by omega
 ·have:∀ d:Option Nat,(a.put d V).defers=a.defers:=λd=>by cases d<;>rfl
  rw [this];exact S.defers
theorem B9c (D:DrawOk P N ops m l r) {n0 i id:Nat} {done:Nat->Bool} (h:¬ A10 l n0 i id):und l n0 (nZ done i) id=und l n0 done id:=by
 rw [Bool.eq_iff_iff,Z6,Z6];constructor
 ·rintro ⟨k,hk,ho⟩;have e:k≠i:=by intro e;subst e;exact h ho
  exact ⟨k,by rw [Z0 _ _ e] at hk;exact hk,ho⟩
 ·rintro ⟨k,hk,ho⟩;have e:k≠i:=by intro e;subst e;exact h ho
  exact ⟨k,by rw [Z0 _ _ e];exact hk,ho⟩
theorem D78 (D:DrawOk P N ops m l r) {n0 i id:Nat} {done:Nat->Bool} (h:A10 l n0 i id):und l n0 (nZ done i) id=A6:=by
 cases hu:und l n0 (nZ done i) id with
 | false=>rfl
 | true =>
  obtain ⟨k,hk,ho⟩:=Z6.1 hu;have e:=C8z D ho h;subst e;rw [uV] at hk;cases hk
theorem E4G (D:DrawOk P N ops m l r) (ht:Trace E hr hr.length l es hs vs) (h0:hs 0=hr++E68 m A7) {done:Nat->Bool} {q:Nat} (hq:q<=l.length) (id:Nat) (x:Row) (hx:rd hr id=A4 x) :
  rd (HD (hs l.length) (und l hr.length done) (hs q).length) id=A4 x:=by
 have V5:=C8 hx;have hu:und l hr.length done id=A6:=by
  cases hu:und l hr.length done id with
  | false=>rfl
  | true=>obtain ⟨k,_,ho⟩:=Z6.1 hu;exact absurd ho (D1S V5)
 rw [tS,if_pos ⟨by have:=kP D ht h0 hq;omega,hu⟩];have:=oE D ht (k:=0) (id:=id) (by rw [h0];simp;omega) (λi _=>D1S V5) l.length (by omega);rw [E7t] at this;rw [this,h0,D9 V5];exact hx
theorem E1y (D:DrawOk P N ops m l r) (ht:Trace E hr hr.length l es hs vs) (h0:hs 0=hr++E68 m A7) {done:Nat->Bool} {q:Nat} {μ:Mu} {a:Act} {w:World}
  (S:Sim Γ l hr.length N e es hs vs μ0 done q μ a w) {i:Nat} {ao:AOper} (ha:l[i]?=A4 ao) (hnd:done i=A6):uR μ (HD (hs l.length) (und l hr.length done) (hs q).length) hr.length ao.slot:=by
 cases nC:ao.slot with
 | none=>trivial
 | some j =>
  refine ⟨S.free _ (Z6.2 ⟨i,hnd,ao,j,ha,nC,rfl⟩),?_⟩;rw [J7];have:=kP D ht h0 S.qle;have:=(D.quiet i ao ha).2.2 j nC;omega
theorem yC (D:DrawOk P N ops m l r) (ht:Trace E hr hr.length l es hs vs) {q:Nat}:∀ t,q+t<=l.length->(∀ (k:Nat) ak,q<=k->k<q+t->l[k]?=A4 ak->Y5 ak.op=A6)->(hs (q+t)).length=(hs q).length
 | 0,_,_=>rfl
 | t+1,hl,cH=>by
  have ih:=yC D ht (q:=q) t (by omega) λk ak h1 h2=>cH k ak h1 (by omega)
  rw [<-ih];have hk:q+t<l.length:=by omega
  rcases A5Z D.quiet ht (E66 hk) with ⟨h,_,_⟩ | ⟨_,h | ⟨j,row,_,h⟩⟩
  ·have:=cH (q+t) l[q+t] (by omega) (by omega) (E66 hk);rw [h] at this;cases this
  ·show (hs (q+t+1)).length=_;rw [h]
  ·show (hs (q+t+1)).length=_;rw [h];simp
theorem E22 (D:DrawOk P N ops m l r) (ht:Trace E hr hr.length l es hs vs) (h0:hs 0=hr++E68 m A7) {done:Nat->Bool} {q:Nat} {μ:Mu} {a:Act} {w:World}
  (S:Sim Γ l hr.length N e es hs vs μ0 done q μ a w) {i:Nat} {ao:AOper} (ha:l[i]?=A4 ao) (hah:∀ b,((R0 ops).getD i 0).testBit b=A5->done b=A5) (hl:Y5 ao.op=A5\/A1N ao.op=A5) :
  ∀ id x,rd (hs i) id=A4 x->rd (HD (hs l.length) (und l hr.length done) (hs q).length) id=A4 x:=by
 have O9:i<l.length:=(List.getElem?_eq_some_iff.1 ha).1;have hql:=S.qle;have hlen:(hs i).length<=(hs q).length:=by
  by_cases hiq:i<=q
  ·have:=B1M D.quiet ht (q-i) i (by omega)
   rwa [show i+(q-i)=q by omega] at this
  ·have:=yC D ht (q:=q) (i-q) (by omega) λk ak h1 h2 oZ=>by
    cases hck:Y5 ak.op with
    | false=>rfl
    | true =>
     have h3:=hah k (D.calls i k ao ak ha oZ hl (by omega) (.inl hck));have:=(S.calls k ak oZ hck).1 h3;omega
   rw [show q+(i-q)=i by omega] at this;omega
 intro id x hx;have A1K:∀ k,i<=k->¬ A10 l hr.length k id:=λk hk ho'=>by
  have:=A5R D ht h0 ho' i hk;rw [this] at hx;cases hx
 have hu:und l hr.length done id=A6:=by
  cases hu:und l hr.length done id with
  | false=>rfl
  | true =>
   obtain ⟨k,hk,ho'⟩:=Z6.1 hu;by_cases e1:i<=k
   ·exact absurd ho' (A1K k e1)
   ·obtain ⟨ak,j,oZ,hj,_⟩:=ho';have hsk:X4 ak.op=A5:=by have:=(D.quiet k ak oZ).2.1;rw [hj] at this;exact this
    have:=hah k (D.calls i k ao ak ha oZ hl (by omega) (.inr hsk));rw [hk] at this;cases this
 rw [tS,if_pos ⟨by have:=C8 hx;omega,hu⟩];have:=oE D ht (C8 hx) A1K (l.length-i) (by omega);rw [show i+(l.length-i)=l.length by omega] at this;rw [this];exact hx
theorem E21 (D:DrawOk P N ops m l r) (ht:Trace E hr hr.length l es hs vs) (h0:hs 0=hr++E68 m A7) {done:Nat->Bool} {q:Nat} {μ:Mu} {a:Act} {w:World}
  (S:Sim Γ l hr.length N e es hs vs μ0 done q μ a w) {i j:Nat} {ao:AOper} (ha:l[i]?=A4 ao) (hah:∀ b,((R0 ops).getD i 0).testBit b=A5->done b=A5) (vH:B8Q ao.op=A4 j) :
  ∀ x,rd (hs i) (hr.length+j)=A4 x->rd (HD (hs l.length) (und l hr.length done) (hs q).length) (hr.length+j)=A4 x:=by
 have O9:i<l.length:=(List.getElem?_eq_some_iff.1 ha).1;have hql:=S.qle;intro x hx;obtain ⟨k,ak,oZ,hsk,E57⟩:=D.own i ao j ha vH;have hO:A10 l hr.length k (hr.length+j):=⟨ak,j,oZ,hsk,rfl⟩;have hdk:=hah k E57;have A1K:∀ k',i<=k'->¬ A10 l hr.length k' (hr.length+j):=λk' hk' ho'=>by
  have:=A5R D ht h0 ho' i hk';rw [this] at hx;cases hx
 have hu:und l hr.length done (hr.length+j)=A6:=by
  cases hu:und l hr.length done (hr.length+j) with
  | false=>rfl
  | true =>
   obtain ⟨k',hk',ho'⟩:=Z6.1 hu;have:=C8z D ho' hO;subst this;rw [hk'] at hdk;cases hdk
 rw [tS,if_pos ⟨by have:=kP D ht h0 S.qle;have:=D3w D hO;omega,hu⟩];have:=oE D ht (C8 hx) A1K (l.length-i) (by omega);rw [show i+(l.length-i)=l.length by omega] at this;rw [this];exact hx
open Classical in
theorem D5P (D:DrawOk P N ops m l r) (hE:gD P E) (ht:Trace E hr hr.length l es hs vs) (h0:hs 0=hr++E68 m A7) (he:es 0=e) {done:Nat->Bool} {q:Nat} {μ:Mu} {a:Act} {w:World}
  (S:Sim Γ l hr.length N e es hs vs μ0 done q μ a w) {i:Nat} {ao:AOper} {o:Oper} (ha:l[i]?=A4 ao) (ho:ops[i]?=A4 o) (hnd:done i=A6)
  (hah:∀ b,((R0 ops).getD i 0).testBit b=A5->done b=A5) (xY:∀ j,done j=A5->∀ b,((R0 ops).getD j 0).testBit b=A5->done b=A5)
  {next:Act->World->Prop} {Q:Exit->Act->World->Prop} (hn:∀ V w' μ' q',Sim Γ l hr.length N e es hs vs μ0 (nZ done i) q' μ' (a.put o.dst V) w'->next (a.put o.dst V) w') :
  if Region.wanted o (yielded ops a.tmps) then o.wp P a w next Q\/(o.asks P a w/\LetsOut Q) else next (a.put o.dst undef) w:=by
 have O9:i<l.length:=(List.getElem?_eq_some_iff.1 ha).1;have hco:aW P N ops o ao=A5:=D.oper i o ao ho (by rw [E7H O9];exact ha);have A0x:o.dst=ao.dst/\yW N o.dst=A5:=by
  simp only [aW,E69,decide_eq_true_eq] at hco;exact ⟨hco.1.1.1,hco.1.1.2⟩
 have D0l:=E20 D ht he S ha hnd hah xY;have hrd:=E4G D ht h0 (done:=done) S.qle;have D49:=E1y D ht h0 S ha hnd;have lF:=ht.step i ao ha;have E3k:∀ (E:O3) (h:B5),X9 E A5 hr hr.length ao (es i) h (λv h=>A4 (v,h))=X9 E A5 hr hr.length ao ((es i).keep ao.reads) h λv h=>A4 (v,h) :=
  λE h=>C0O λt ht'=>by rw [Env.get_keep_mem,if_pos ht']
 have hqi:=D.quiet i ao ha;have E6K:=kP D ht h0 S.qle;cases hc:Y5 ao.op with
 | false =>
  have key:∃ h2,X9 E A5 hr hr.length ao (es i) (HD (hs l.length) (und l hr.length done) (hs q).length) (λv h=>A4 (v,h))=A4 (vs i,h2)/\h2=HD (hs l.length) (und l hr.length (nZ done i)) (hs q).length:=by
   have C21:hs (i+1)=hs i->HD (hs l.length) (und l hr.length done) (hs q).length=HD (hs l.length) (und l hr.length (nZ done i)) (hs q).length:=by
    intro hsame;refine xZ (by rw [J7,J7]) λid hid=>?_
    rw [J7] at hid;rw [tS,tS];by_cases vH:A10 l hr.length i id
    ·rw [D78 D vH,Z6.2 ⟨i,hnd,vH⟩];have h1:=A5R D ht h0 vH i (E7b _);have h2:=oE D ht (k:=i+1) (id:=id) (by rw [hsame];have:=kP D ht h0 (k:=i) (by omega);have:=D3w D vH;omega)
      (λk hk ho'=>by have:=C8z D ho' vH;omega) (l.length-(i+1)) (by omega)
     rw [show i+1+(l.length-(i+1))=l.length by omega,hsame,h1] at h2;simp [h2]
    ·rw [B9c D vH]
   have A84:∀ v h3,aop E A5 hr hr.length ao.slot ao.op (es i) (hs i) (λv h=>A4 (v,h))=A4 (v,h3)->h3=hs (i+1) ->
     ∃ h2,aop E A5 hr hr.length ao.slot ao.op (es i) (HD (hs l.length) (und l hr.length done) (hs q).length) (λv h=>A4 (v,h))=A4 (v,h2)/\h2=HD (hs l.length) (und l hr.length (nZ done i)) (hs q).length:=by
    intro v h3 A84 he3;subst he3;cases nC:X4 ao.op with
    | false =>
     cases hmk:A1N ao.op with
     | false =>
      cases vH:B8Q ao.op with
      | none =>
       obtain ⟨h4,h5⟩:=D1h hqi.1 hmk vH hc nC A84;exact ⟨_,h5 _,C21 h4⟩
      | some j =>
       obtain ⟨h4,h5⟩:=D7k vH A84;exact ⟨_,h5 _ (E21 D ht h0 S ha hah vH),C21 h4⟩
     | true =>
      obtain ⟨h4,h5⟩:=D4l hmk A84;exact ⟨_,h5 _ (E22 D ht h0 S ha hah (.inr hmk)),C21 h4⟩
    | true =>
     have h6:=hqi.2.1;rw [nC] at h6;obtain ⟨j,hj⟩:=Option.isSome_iff_exists.1 h6.symm;rw [hj] at A84 ⊢;obtain ⟨row,h7,h8⟩:=D4m nC A84;refine ⟨_,h8 _,?_⟩;have vH:A10 l hr.length i (hr.length+j):=⟨ao,j,ha,hj,rfl⟩;have hjm:=hqi.2.2 j hj;have hbi:=kP D ht h0 (k:=i) (by omega);refine xZ (by rw [E7D,J7,J7]) λid hid=>?_
     rw [E7D,J7] at hid;by_cases e1:hr.length+j=id
     ·subst e1;rw [C6 (by rw [J7];omega),tS,if_pos ⟨by omega,D78 D vH⟩];have h9:=oE D ht (k:=i+1) (id:=hr.length+j) (by rw [h7];simp;omega) (λk hk ho'=>by have:=C8z D ho' vH;omega) (l.length-(i+1)) (by omega);rw [show i+1+(l.length-(i+1))=l.length by omega,h7,C6 (by omega)] at h9;exact h9.symm
     ·rw [B6 e1,tS,tS,B9c D];rintro ⟨ao',j',h10,h11,h12⟩;rw [ha] at h10;cases h10;rw [hj] at h11;cases h11;exact e1 h12.symm
   unfold X9 at lF ⊢;cases hgu:ao.guard with
   | none=>rw [hgu] at lF;exact A84 _ _ lF rfl
   | some g =>
    rw [hgu] at lF;simp only [E67,Option.some.injEq] at lF;obtain ⟨⟨v',h3⟩,hp,zQ⟩:=lF;simp only [Prod.mk.injEq] at zQ;obtain ⟨hv',hh3⟩:=zQ;unfold gd at hp ⊢;split at hp
    ·rename_i x wR;simp only [wR];cases hx:(x==g.2) with
     | true =>
      rw [hx] at hp;obtain ⟨h2,h4,h5⟩:=A84 _ _ hp hh3;exact ⟨h2,by rw [cond_true,h4];simp [hv'],h5⟩
     | false =>
      rw [hx] at hp;simp only [cond_false,Option.some.injEq,Prod.mk.injEq] at hp;refine ⟨_,by rw [cond_false];simp [<-hv',<-hp.1],C21 ?_⟩;rw [<-hh3];exact hp.2.symm
    ·rename_i wR;simp only [wR];simp only [Option.some.injEq,Prod.mk.injEq] at hp;refine ⟨_,by simp [<-hv',<-hp.1],C21 ?_⟩;rw [<-hh3];exact hp.2.symm
    ·cases hp
  obtain ⟨h2,hk1,hk2⟩:=key;rw [E3k] at hk1;refine A5a hE hco hk1 D0l S.inv hrd D49 ?_;intro V w' μ' cC hv hinv cG;subst hk2;refine hn V w' μ' q (D5O D ht h0 S ha hnd A0x.1 A0x.2 cC hv hinv cG S.qle ?_);intro k ak oZ hck;have e1:k≠i:=by intro e1;subst e1;rw [ha] at oZ;cases oZ;rw [hc] at hck;cases hck
  rw [Z0 _ _ e1];exact S.calls k ak oZ hck
 | true =>
  have hsn:ao.slot=A7:=by
   rcases A5Z D.quiet ht ha with ⟨_,h,_⟩ | ⟨h,_⟩
   ·exact h
   ·rw [hc] at h;cases h
  have E65:q<=i:=by
   have:=S.calls i ao ha hc;rw [hnd] at this;have:¬ i<q:=λh=>by have:=this.2 h;cases this
   omega
  have hlen:(hs i).length=(hs q).length:=by
   have:=yC D ht (q:=q) (i-q) (by omega) λk ak h1 h2 oZ=>by
    cases hck:Y5 ak.op with
    | false=>rfl
    | true =>
     have h3:=hah k (D.calls i k ao ak ha oZ (.inl hc) (by omega) (.inl hck));have:=(S.calls k ak oZ hck).1 h3;omega
   rwa [show q+(i-q)=i by omega] at this
  have E0w:∀ id,¬ A10 l hr.length i id:=by
   rintro id ⟨ao',j,h1,h2,_⟩;rw [ha] at h1;cases h1;rw [hsn] at h2;cases h2
  have E2j:∀ (k:Nat) ak,l[k]?=A4 ak->Y5 ak.op=A5->(nZ done i k=A5↔k<i+1):=by
   intro k ak oZ hck;by_cases e1:k=i
   ·subst e1;simp [uV]
   ·rw [Z0 _ _ e1];constructor
    ·intro hk;have:¬ i<k:=λh=>by
      have h2:=xY k hk i (D.calls k i ak ao oZ ha (.inl hck) h (.inl hc));rw [hnd] at h2;cases h2
     omega
    ·intro hk;exact hah k (D.calls i k ao ak ha oZ (.inl hc) (by omega) (.inl hck))
  have E6P:=D5T D.quiet ht O9;have C21:hs (i+1)=hs i->HD (hs l.length) (und l hr.length done) (hs q).length=HD (hs l.length) (und l hr.length (nZ done i)) (hs (i+1)).length:=by
   intro hsame;rw [hsame,hlen];refine xZ (by rw [J7,J7]) λid hid=>?_
   rw [tS,tS,B9c D (E0w id)]
  have A84:∀ (g:Nat) (args:List Val),quiet (hs i) (E g args (hs i))=A4 (vs i,hs (i+1)) ->
    ∃ E':O3,gD P E'/\quiet (HD (hs l.length) (und l hr.length done) (hs q).length) (E' g args (HD (hs l.length) (und l hr.length done) (hs q).length))=A4 (vs i,HD (hs l.length) (und l hr.length (nZ done i)) (hs (i+1)).length):=by
   intro g args E0q;obtain ⟨h1,h2⟩:=B6b E0q;obtain ⟨hg,hk,_⟩:=hE _ _ _ _ _ h1;have A7B:∀ id x,rd (hs i) id=A4 x->rd (HD (hs l.length) (und l hr.length done) (hs q).length) id=A4 x:=by
    intro id x hx;have A1K:∀ k,i<=k->¬ A10 l hr.length k id:=λk hk ho'=>by
     have:=A5R D ht h0 ho' i hk;rw [this] at hx;cases hx
    have hu:und l hr.length done id=A6:=by
     cases hu:und l hr.length done id with
     | false=>rfl
     | true =>
      obtain ⟨k,hk,ho'⟩:=Z6.1 hu;by_cases e1:i<=k
      ·exact absurd ho' (A1K k e1)
      ·obtain ⟨ak,j,oZ,hj,_⟩:=ho';have hsk:X4 ak.op=A5:=by have:=(D.quiet k ak oZ).2.1;rw [hj] at this;exact this
       have:=hah k (D.calls i k ao ak ha oZ (.inl hc) (by omega) (.inr hsk));rw [hk] at this;cases this
    rw [tS,if_pos ⟨by have:=C8 hx;omega,hu⟩];have:=oE D ht (C8 hx) A1K (l.length-i) (by omega);rw [show i+(l.length-i)=l.length by omega] at this;rw [this];exact hx
   have hfr:=hk.frame h2 (hD:=HD (hs l.length) (und l hr.length done) (hs q).length) (by rw [J7,hlen]) A7B;have wR:HD (hs l.length) (und l hr.length done) (hs q).length++(hs (i+1)).drop (hs i).length=HD (hs l.length) (und l hr.length (nZ done i)) (hs (i+1)).length:=by
    refine xZ (by rw [E7a,J7,J7,E72];omega) λid hid=>?_
    rw [B10 (by rw [J7,hlen])];split
    ·rw [tS,tS,B9c D (E0w id)];have:id<(hs q).length:=by omega
     have:id<(hs (i+1)).length:=by omega
     simp [*]
    ·rename_i hge;have hbi:=kP D ht h0 (k:=i) (by omega);have cH:∀ k,¬ A10 l hr.length k id:=λk ho'=>by have:=D3w D ho';omega
     have hu:und l hr.length (nZ done i) id=A6:=by
      cases hu:und l hr.length (nZ done i) id with
      | false=>rfl
      | true=>obtain ⟨k,_,ho'⟩:=Z6.1 hu;exact absurd ho' (cH k)
     have V5:id<(hs (i+1)).length:=by
      rw [E7a,J7,E72] at hid;omega
     rw [tS,if_pos ⟨V5,hu⟩];have:=oE D ht V5 (λk _=>cH k) (l.length-(i+1)) (by omega);rw [show i+1+(l.length-(i+1))=l.length by omega] at this;exact this.symm
   rw [wR] at hfr;have hgr:Grows (HD (hs l.length) (und l hr.length done) (hs q).length) (HD (hs l.length) (und l hr.length (nZ done i)) (hs (i+1)).length):=by
    rw [<-wR];refine ⟨List.prefix_append _ _,λid x hid hx=>?_⟩;rw [J7] at hid;rw [B10 (by rw [J7,hlen]),if_neg (by omega)] at hx;exact h2.2 id x (by omega) hx
   refine ⟨λf' a' h'=>if f'=g/\a'=args/\h'=HD (hs l.length) (und l hr.length done) (hs q).length then A4 (vs i,HD (hs l.length) (und l hr.length (nZ done i)) (hs (i+1)).length) else A7,?_,?_⟩
   ·intro f' a' h' v' h'' hv';simp only at hv';split at hv'
    ·rename_i A1J;obtain ⟨rfl,rfl,rfl⟩:=A1J;cases hv';exact ⟨hg,hfr,by rw [J7,J7];omega⟩
    ·cases hv'
   ·exact (congrArg (quiet _) (if_pos ⟨rfl,rfl,rfl⟩)).trans (quiet_of hgr)
  have key:∃ E':O3,gD P E'/\X9 E' A5 hr hr.length ao (es i) (HD (hs l.length) (und l hr.length done) (hs q).length) (λv h=>A4 (v,h))=A4 (vs i,HD (hs l.length) (und l hr.length (nZ done i)) (hs (i+1)).length):=by
   have hop:∀ v h3,aop E A5 hr hr.length ao.slot ao.op (es i) (hs i) (λv h=>A4 (v,h))=A4 (v,h3)->v=vs i->h3=hs (i+1) ->
     ∃ E':O3,gD P E'/\aop E' A5 hr hr.length ao.slot ao.op (es i) (HD (hs l.length) (und l hr.length done) (hs q).length) (λv h=>A4 (v,h))=A4 (vs i,HD (hs l.length) (und l hr.length (nZ done i)) (hs (i+1)).length):=by
    intro v h3 hr1 hv1 he3;subst hv1 he3;cases E6p:ao.op<;>rw [E6p] at hc hr1<;>simp [Y5] at hc
    case call f args =>
     simp only [aop,cond_true,E67,Option.some.injEq] at hr1;obtain ⟨⟨v',h4⟩,hp,zQ⟩:=hr1;cases zQ;obtain ⟨E',h5,h6⟩:=A84 f _ hp;exact ⟨E',h5,by simp only [aop,cond_true];rw [h6];rfl⟩
    case callV f args =>
     simp only [aop,cond_true,E67,Option.some.injEq] at hr1;obtain ⟨⟨v',h4⟩,hp,zQ⟩:=hr1;cases zQ;unfold A2R at hp;split at hp
     ·rename_i g caps wR;obtain ⟨E',h5,h6⟩:=A84 g _ hp;refine ⟨E',h5,?_⟩;simp only [aop,cond_true];unfold A2R;rw [wR];simp only;rw [h6];rfl
     ·simp [quiet] at hp
   unfold X9 at lF ⊢;cases hgu:ao.guard with
   | none=>rw [hgu] at lF;exact hop _ _ lF rfl rfl
   | some g =>
    rw [hgu] at lF;simp only [E67,Option.some.injEq] at lF;obtain ⟨⟨v',h3⟩,hp,zQ⟩:=lF;simp only [Prod.mk.injEq] at zQ;obtain ⟨hv',hh3⟩:=zQ;unfold gd at hp ⊢;split at hp
    ·rename_i x wR;simp only [wR];cases hx:(x==g.2) with
     | true =>
      rw [hx] at hp;obtain ⟨E',h2,h4⟩:=hop _ _ hp hv' hh3;exact ⟨E',h2,by rw [cond_true,h4];rfl⟩
     | false =>
      rw [hx] at hp;simp only [cond_false,Option.some.injEq,Prod.mk.injEq] at hp;refine ⟨E,hE,?_⟩;rw [cond_false,<-C21 (by rw [<-hh3];exact hp.2.symm)];simp [<-hv',<-hp.1]
    ·rename_i wR;simp only [wR];simp only [Option.some.injEq,Prod.mk.injEq] at hp;refine ⟨E,hE,?_⟩;rw [<-C21 (by rw [<-hh3];exact hp.2.symm)];simp [<-hv',<-hp.1]
    ·cases hp
  obtain ⟨E',hE',hk1⟩:=key;rw [E3k] at hk1;refine A5a hE' hco hk1 D0l S.inv hrd D49 ?_;intro V w' μ' cC hv hinv cG;exact hn V w' μ' (i+1) (D5O D ht h0 S ha hnd A0x.1 A0x.2 cC hv hinv cG (by omega) E2j)
end
end Go.Esc
