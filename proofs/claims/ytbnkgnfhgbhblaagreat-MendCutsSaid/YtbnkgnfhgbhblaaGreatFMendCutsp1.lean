/- What the proof of this claim leans on, part 1. -/
import Derived.ProofKit
import Derived.OpenShut
import Derived.Deep.Slices
import Derived.Carry
import Derived.ChangeCalls
import GoSem.Claims
import Derived.Calls
import Derived.Orders
import Derived.Laws.Cells
import Derived.Laws.IdiomCopy
import Derived.Laws.World
import Derived.Laws.Bits
import Derived.Laws.Strings
import Derived.IntWalk
import Derived.Laws.Append
import Derived.Laws.StructEq
import Derived.MapKept
import Derived.LoopN
import Derived.Defers
import Derived.KernelRfl
import Derived.Test.YtbnkgnfhgbhblaaGreatChecked
set_option linter.all false
namespace Go.Esc
end Go.Esc
set_option maxRecDepth 100000
open Go Go.Esc
noncomputable section
open Bool renaming and_eq_true→D9v,false_eq_true→E0v,not_eq_true'→E0e,or_eq_true→E0y,false→A6,true→A5
open List renaming all_cons→E0j,all_eq_true→E0k,append_assoc→D9C,append_nil→D9Q,drop_drop→E0t,drop_eq_getElem_cons→D9E,drop_left'→E0s,drop_of_length_le→D9K,drop_zero→D9O,ext_getElem?→E0q,flatten_cons→E0l,getElem?_append_left→D94,getElem?_append_right→D9P,getElem?_drop→E0u,getElem?_eq_getElem→D9u,getElem?_eq_none→D9W,getElem?_map→E0C,getElem?_set_ne→E0o,getElem?_take_of_lt→D97,getElem_mem→D9Y,length_append→D9A,length_cons→D9G,length_drop→E0f,length_nil→D95,length_set→E0c,length_take→D91,map_append→E0h,map_cons→E0d,mem_cons→E0B,mem_cons_of_mem→D9F,mem_cons_self→D9I,mem_of_getElem?→D9S,prefix_refl→E0a,range→D90,range'→E0g,replicate→D9w,replicate_succ→D92,take_left'→E0x,take_of_length_le→D9M
open Nat renaming add_mul→E0A,le_refl→D9x,le_trans→D93,min→E0J,min_eq_left→E0F,mod_eq_of_lt→E0G,zero_add→D9T,zero_le→E0I
open Option renaming bind_eq_some_iff→D9t,bind_some→D9H,map_eq_some_iff→D9J,map_some→E0b,none→A7,some→A4
open Option.some renaming injEq→D9y
open Prod.mk renaming injEq→D9D
namespace Go.Esc
section
inductive Cell where
 | b (x:Bool)
 | i (k:IntKind) (n:Int)
 | s (x:List UInt8)
 | p (id off:Nat)
 | np
 | sl (id off len sz:Nat)
 | ns
 | f (fn:Nat) (caps:List (Nat × Nat))
 | nf
 | m (id:Nat)
 | nm
 | dark
 | mh
 | hk (agg:Bool) (x:Cell)
 | hx (x:Cell)
 deriving DecidableEq,Inhabited
inductive Part where
 | c (x:Cell)
 | a (l:List Cell)
 deriving Inhabited
inductive Val where
 | un
 | no
 | c (x:Cell)
 | a (l:List Cell)
 | t (l:List Part)
 deriving Inhabited
structure Row where
 cells:List Cell
 rw:Bool
 deriving Inhabited
abbrev A9:=List (Option Row)
abbrev Env:=List (Nat × Val)
def Env.get:Env->Nat->Val
 | [],_=>.un
 | (d,v)::r,t=>bif Nat.beq d t then v else Env.get r t
def Env.keep (e:Env):List Nat->Env
 | []=>[]
 | t::r=>(t,e.get t)::Env.keep e r
def Env.put (e:Env) (d:Option Nat) (v:Val):Env :=
 match d with
 | some d=>(d,v)::e
 | none=>e
inductive Opd where
 | t (n:Nat)
 | v (x:Val)
 deriving Inhabited
def Env.ev (e:Env):Opd->Val
 | .t n=>e.get n
 | .v x=>x
inductive Sh where
 | b
 | i (k:IntKind)
 | s
 deriving DecidableEq,Inhabited
def Cell.sh:Cell->Option Sh
 | .b _=>A4 .b
 | .i k _=>A4 (.i k)
 | .s _=>A4 .s
 | _=>A7
inductive AOp where
 | mv (x:Opd)
 | nilrow (sz:Nat)
 | pick (c a b:Opd)
 | alloc (zero:List Cell)
 | box (x:Opd)
 | build (zero:List Cell) (parts:List (Nat × Nat × Opd))
 | buildSl (sz len:Nat) (zero:List Cell) (parts:List (Nat × Nat × Opd))
 | load1 (a:Opd)
 | loadN (n:Nat) (a:Opd)
 | store1 (a x:Opd)
 | storeN (n:Nat) (a x:Opd)
 | bin (op:BinOp) (x y:Opd)
 | eqA (neg:Bool) (sh:List Sh) (x y:Opd)
 | eqB (neg:Bool) (x y:Opd)
 | eqN (fn neg:Bool) (x:Opd)
 | nilc (x:Opd)
 | un (op:UnOp) (x:Opd)
 | conv (k:IntKind) (x:Opd)
 | convS (x:Opd)
 | s2b (x:Opd)
 | b2s (x:Opd)
 | b2sN (own:Option Nat) (x:Opd)
 | mark (x:Opd)
 | mkf (fn:Nat) (caps:List Opd)
 | mkSl (sz:Nat) (zero:List Cell) (len cap:Opd)
 | slS (x:Opd) (lo hi:Option Opd)
 | slL (sz:Nat) (x:Opd) (lo hi:Option Opd)
 | slA (n sz:Nat) (x:Opd) (lo hi:Option Opd)
 | fAddr (x:Opd) (off:Nat)
 | iAddrA (n sz:Nat) (x i:Opd)
 | iAddrL (sz:Nat) (x i:Opd)
 | fld1 (x:Opd) (off:Nat)
 | fldN (x:Opd) (off n:Nat)
 | idxA1 (n:Nat) (x i:Opd)
 | idxAN (n sz:Nat) (x i:Opd)
 | idxS (x i:Opd)
 | ext (x:Opd) (k:Nat)
 | call (f:Nat) (args:List Opd)
 | callV (f:Opd) (args:List Opd)
 | len (x:Opd)
 | lenS (x:Opd)
 | app (sz:Nat) (x y:Opd)
 | appZ (sz:Nat) (zero:List Cell) (x y:Opd)
 | max (x y:Opd)
 | min (x y:Opd)
 | copy (sz:Nat) (x y:Opd)
 | mkMap
 | look (kk:Option IntKind) (zero:Part) (ok:Bool) (m k:Opd)
 | mput (kk:Option IntKind) (m k x:Opd)
 | ment (kk:Option IntKind) (zero:Part) (m k:Opd)
 | mset (m s x:Opd)
 deriving Inhabited
structure AOper where
 dst:Option Nat
 op:AOp
 guard:Option (Nat × Bool):=A7
 slot:Option Nat:=A7
 deriving Inhabited
inductive ACode where
 | skip
 | ops (l:List AOper)
 | draw (n:Nat) (l:List AOper) (r:List AOper)
 | drawS (n:Nat) (l:List AOper) (s:AOper) (chk:List (Nat × AOp)) (r:List AOper)
 | seq (keep:List Nat) (a b:ACode)
 | cond (c:Opd) (a b:ACode)
 | block (id:Nat) (a:ACode)
 | loop (keep:List Nat) (a:ACode)
 | exit (id:Nat)
 | ret
 deriving Inhabited
def cells? : Val->Option (List Cell)
 | .c x=>A4 [x]
 | .a l=>A4 l
 | _=>A7
def A8C (op:BinOp) (k:IntKind) (a b:Int):Option Cell :=
 match op with
 | .add=>A4 (.i k (k.wrap (a+b)))
 | .sub=>A4 (.i k (k.wrap (a-b)))
 | .mul=>A4 (.i k (k.wrap (a*b)))
 | .quo=>if b=0 then A7 else A4 (.i k (k.wrap (a.tdiv b)))
 | .rem=>if b=0 then A7 else A4 (.i k (a.tmod b))
 | .and=>A4 (.i k (k.wrap (BitVec.ofInt k.bits a &&& BitVec.ofInt k.bits b).toNat))
 | .or=>A4 (.i k (k.wrap (BitVec.ofInt k.bits a ||| BitVec.ofInt k.bits b).toNat))
 | .xor=>A4 (.i k (k.wrap (BitVec.ofInt k.bits a ^^^ BitVec.ofInt k.bits b).toNat))
 | .andNot=>A4 (.i k (k.wrap (BitVec.ofInt k.bits a &&& ~~~ BitVec.ofInt k.bits b).toNat))
 | .eql=>A4 (.b (a==b))
 | .neq=>A4 (.b (a != b))
 | .lss=>A4 (.b (decide (a<b)))
 | .leq=>A4 (.b (decide (a<=b)))
 | .gtr=>A4 (.b (decide (a > b)))
 | .geq=>A4 (.b (decide (a>=b)))
 | _=>A7
def D63 (k:IntKind) (a b:Int):Option Cell:=if b<0 then A7 else A4 (.i k (k.wrap (a*2 ^ (E0J b.toNat k.bits))))
def D64 (k:IntKind) (a b:Int):Option Cell:=if b<0 then A7 else A4 (.i k (a.fdiv (2 ^ (E0J b.toNat k.bits))))
def S5:List UInt8->List UInt8->Bool
 | _,[]=>A6
 | [],_::_=>A5
 | a::x,b::y=>decide (a<b)||(a==b&&S5 x y)
def D4d (op:BinOp) (a b:List UInt8):Option Cell :=
 match op with
 | .add=>if a.length+b.length<=1073741824 then A4 (.s (a++b)) else A7
 | .eql=>A4 (.b (a==b))
 | .neq=>A4 (.b (!(a==b)))
 | .lss=>A4 (.b (S5 a b))
 | .leq=>A4 (.b (S5 a b||a==b))
 | .gtr=>A4 (.b (!(S5 a b||a==b)))
 | .geq=>A4 (.b (!S5 a b))
 | _=>A7
def K6 (op:BinOp) (x y:Val):Option Val :=
 match x,y with
 | .c (.i k a),.c (.i k' b) =>
  match op with
  | .shl=>(D63 k a b).map .c
  | .shr=>(D64 k a b).map .c
  | op=>bif decide (k=k') then (A8C op k a b).map .c else A7
 | .c (.s a),.c (.s b)=>(D4d op a b).map .c
 | _,_=>A7
def C7U (neg:Bool) (x y:Val):Option Val :=
 match x,y with
 | .c (.b a),.c (.b b)=>A4 (.c (.b (bif neg then !(a==b) else a==b)))
 | _,_=>A7
def C4f (fn neg:Bool) (x:Val):Option Val :=
 match fn,x with
 | true,.c .nf=>A4 (.c (.b (!neg)))
 | true,.c (.f _ _)=>A4 (.c (.b neg))
 | false,.c .np=>A4 (.c (.b (!neg)))
 | false,.c (.p _ _)=>A4 (.c (.b neg))
 | _,_=>A7
def A3H (x:Val):Option Val :=
 match x with
 | .c (.p id off)=>A4 (.c (.p id off))
 | .c (.f g cs)=>A4 (.c (.f g cs))
 | _=>A7
def aeq (neg:Bool) (sh:List Sh) (x y:Val):Option Val :=
 match x,y with
 | .a l,.a l'=>if l.map Cell.sh=sh.map A4/\l'.map Cell.sh=sh.map A4 then A4 (.c (.b (bif neg then !(decide (l=l')) else decide (l=l')))) else A7
 | _,_=>A7
def aun (op:UnOp) (x:Val):Option Val :=
 match op,x with
 | .not,.c (.b b)=>A4 (.c (.b (!b)))
 | .neg,.c (.i k n)=>A4 (.c (.i k (k.wrap (0-n))))
 | .xor,.c (.i k n)=>A4 (.c (.i k (k.wrap (BitVec.ofInt k.bits (if k.signed then -1 else k.max) ^^^ BitVec.ofInt k.bits n).toNat)))
 | _,_=>A7
def C5H (c a b:Val):Option Val :=
 match c with
 | .c (.b x)=>A4 (bif x then a else b)
 | _=>A7
def rd (h:A9) (id:Nat):Option Row:=(h[id]?).join
def Cell.isX:Cell->Bool
 | .dark=>A5
 | .mh=>A5
 | .hk _ _=>A5
 | .hx _=>A5
 | _=>A6
def Cell.isD:Cell->Bool
 | .dark=>A5
 | _=>A6
def noX (l:List Cell):Bool:=l.all λc=>!c.isX
def B8 (h:A9):Val->Option Val
 | .c (.p id off)=>(rd h id).bind λr=>(r.cells[off]?).bind λc=>bif r.rw || !c.isX then A4 (.c c) else A7
 | _=>A7
def D3 (h:A9) (n:Nat):Val->Option Val
 | .c (.p id off)=>(rd h id).bind λr=>if off+n<=r.cells.length/\(r.rw||noX ((r.cells.drop off).take n))=A5 then A4 (.a ((r.cells.drop off).take n)) else A7
 | _=>A7
def lay (cs:List Cell) (off:Nat) (xs:List Cell):List Cell:=cs.take off++(xs++cs.drop (off+xs.length))
def H1 (h:A9) (a x:Val):Option A9 :=
 match a,x with
 | .c (.p id off),.c x=>(rd h id).bind λr=>if r.rw=A5/\off<r.cells.length then A4 (h.set id (A4 ⟨r.cells.set off x,A5⟩)) else A7
 | _,_=>A7
def E9 (h:A9) (n:Nat) (a x:Val):Option A9 :=
 match a,x with
 | .c (.p id off),.a xs=>(rd h id).bind λr=>if r.rw=A5/\xs.length=n/\off+n<=r.cells.length then A4 (h.set id (A4 ⟨lay r.cells off xs,A5⟩)) else A7
 | _,_=>A7
def bU (h:A9) (n0:Nat) (slot:Option Nat) (r:Row):Nat × A9 :=
 match slot with
 | none=>(h.length,h++[A4 r])
 | some j=>(n0+j,h.set (n0+j) (A4 r))
def E7 (zero:List Cell):List (Nat × Nat × Val)->Option (List Cell)
 | []=>A4 zero
 | (off,n,v)::r =>
  match cells? v with
  | some xs=>if xs.length=n/\off+n<=zero.length then E7 (lay zero off xs) r else A7
  | none=>A7
def C5x (k:IntKind):Val->Option Val
 | .c (.i _ n)=>A4 (.c (.i k (k.wrap n)))
 | _=>A7
def kY (h:A9):Val->Option (List Cell)
 | .c .ns=>A4 []
 | .c (.sl id off len sz)=>(rd h id).bind λr=>if off+len*sz<=r.cells.length/\(r.rw||noX ((r.cells.drop off).take (len*sz)))=A5 then A4 ((r.cells.drop off).take (len*sz)) else A7
 | _=>A7
def C2Z:Cell->Option UInt8
 | .i .u8 n=>if 0<=n/\n<256 then A4 (UInt8.ofNat n.toNat) else A7
 | _=>A7
def bytes? : List Cell->Option (List UInt8)
 | []=>A4 []
 | c::r=>(C2Z c).bind λx=>(bytes? r).map λl=>x::l
def C4e (x:Val):Option Val :=
 match x with
 | .c (.s s)=>A4 (.c (.s s))
 | _=>A7
def B1A (h:A9) (x:Val):Option Val :=
 match x with
 | .c (.sl id off len sz)=>if sz=1 then ((kY h (.c (.sl id off len sz))).bind bytes?).map λs=>.c (.s s) else A7
 | .c .ns=>A4 (.c (.s []))
 | _=>A7
def B6T (h:A9) (n0:Nat) (own:Option Nat) (x:Val):Option Val :=
 match own with
 | none=>B1A h x
 | some j =>
  match x with
  | .c (.sl id off len sz)=>if id=n0+j then B1A h (.c (.sl id off len sz)) else A7
  | _=>A7
def B4 (l:List UInt8):List Cell:=l.map λx=>.i .u8 x.toNat
def bound (x:Option Val) (d:Nat):Option Nat :=
 match x with
 | none=>A4 d
 | some (.c (.i _ n))=>if 0<=n then A4 n.toNat else A7
 | _=>A7
def D4N (x:Val) (lo hi:Option Val):Option Val :=
 match x with
 | .c (.s s)=>(bound lo 0).bind λl=>(bound hi s.length).bind λh=>if l<=h/\h<=s.length then A4 (.c (.s ((s.take h).drop l))) else A7
 | _=>A7
def D0A (sz:Nat) (x:Val) (lo hi:Option Val):Option Val :=
 match x with
 | .c (.sl id off len sz')=>(bound lo 0).bind λl=>(bound hi len).bind λh=>if l<=h/\h<=len/\sz=sz' then A4 (.c (.sl id (off+l*sz) (h-l) sz)) else A7
 | .c .ns=>(bound lo 0).bind λl=>(bound hi 0).bind λh=>if l=0/\h=0 then A4 (.c .ns) else A7
 | _=>A7
def C4j (hp:A9) (n sz:Nat) (x:Val) (lo hi:Option Val):Option Val :=
 match x with
 | .c (.p id off)=>(rd hp id).bind λr=>(bound lo 0).bind λl=>(bound hi n).bind λh =>
   if l<=h/\h<=n/\off+n*sz<=r.cells.length/\(r.rw||(r.cells[off]?).any λc=>!c.isX)=A5 then A4 (.c (.sl id (off+l*sz) (h-l) sz)) else A7
 | _=>A7
def V8 (x:Val) (off:Nat):Option Val :=
 match x with
 | .c (.p id o)=>A4 (.c (.p id (o+off)))
 | _=>A7
def I5 (n sz:Nat) (x i:Val):Option Val :=
 match x,i with
 | .c (.p id o),.c (.i _ j)=>if 0<=j/\j<n then A4 (.c (.p id (o+j.toNat*sz))) else A7
 | _,_=>A7
def E5 (sz:Nat) (x i:Val):Option Val :=
 match x,i with
 | .c (.sl id o len sz'),.c (.i _ j)=>if 0<=j/\j<len/\sz=sz' then A4 (.c (.p id (o+j.toNat*sz))) else A7
 | _,_=>A7
def B3g (x:Val) (off:Nat):Option Val :=
 match x with
 | .a l=>(l[off]?).map .c
 | _=>A7
def C9t (x:Val) (off n:Nat):Option Val :=
 match x with
 | .a l=>if off+n<=l.length then A4 (.a ((l.drop off).take n)) else A7
 | _=>A7
def A2U (n:Nat) (x i:Val):Option Val :=
 match x,i with
 | .a l,.c (.i _ j)=>if 0<=j/\j<n then (l[j.toNat]?).map .c else A7
 | _,_=>A7
def C4g (n sz:Nat) (x i:Val):Option Val :=
 match x,i with
 | .a l,.c (.i _ j)=>if 0<=j/\j<n/\j.toNat*sz+sz<=l.length then A4 (.a ((l.drop (j.toNat*sz)).take sz)) else A7
 | _,_=>A7
def B9L (x i:Val):Option Val :=
 match x,i with
 | .c (.s s),.c (.i _ j)=>if 0<=j then (s[j.toNat]?).map λb=>.c (.i .u8 b.toNat) else A7
 | _,_=>A7
def ofPart:Part->Val
 | .c x=>.c x
 | .a l=>.a l
def D2e (x:Val) (k:Nat):Option Val :=
 match x with
 | .t l=>(l[k]?).map ofPart
 | _=>A7
def C5A (x:Val):Option Val :=
 match x with
 | .c (.s s)=>A4 (.c (.i .i64 s.length))
 | _=>A7
def C1Y (x:Val):Option Val :=
 match x with
 | .c (.sl _ _ len _)=>A4 (.c (.i .i64 len))
 | .c .ns=>A4 (.c (.i .i64 0))
 | _=>A7
def Q2 (h:A9) (sz:Nat):Val->Option (List Cell)
 | .c (.s s)=>if sz=1 then A4 (B4 s) else A7
 | .c (.sl id off len sz')=>if sz=sz' then kY h (.c (.sl id off len sz')) else A7
 | .c .ns=>A4 []
 | _=>A7
def qK (h:A9) (sz:Nat) (x y:Val):Option (Val × A9) :=
 (Q2 h sz y).bind λys =>
  match x with
  | .c .ns=>if ys.length/sz<=1073741824 then A4 (.c (.sl h.length 0 (ys.length/sz) sz),h++[A4 ⟨ys,A5⟩]) else A7
  | .c (.sl id off len sz')=>(rd h id).bind λr =>
    if r.rw=A5/\off=0/\len*sz=r.cells.length/\sz=sz'/\len+ys.length/sz<=1073741824 then
     A4 (.c (.sl h.length 0 (len+ys.length/sz) sz),h.set id A7++[A4 ⟨r.cells++ys,A5⟩]) else A7
  | _=>A7
def A6d (h:A9) (x:Val):Option Val :=
 match x with
 | .c (.sl id _ len _)=>(rd h id).bind λr=>if r.rw=A5/\0<len then A4 x else A7
 | _=>A7
def B8k (x y:Val):Option Val :=
 match x,y with
 | .c (.i k a),.c (.i _ b)=>A4 (.c (.i k (if b > a then b else a)))
 | _,_=>A7
def A90 (x y:Val):Option Val :=
 match x,y with
 | .c (.i k a),.c (.i _ b)=>A4 (.c (.i k (if b<a then b else a)))
 | _,_=>A7
def B9G (h:A9) (sz:Nat) (x y:Val):Option (Val × A9) :=
 match y with
 | .c (.s _)=>A7
 | _=>(Q2 h sz y).bind λys =>
  match x with
  | .c (.sl id off len sz')=>(rd h id).bind λr =>
    if r.rw=A5/\off+len*sz<=r.cells.length/\sz=sz' then
     A4 (.c (.i .i64 (E0J (ys.length/sz) len:Nat)),h.set id (A4 ⟨lay r.cells off (ys.take (E0J (ys.length/sz) len*sz)),A5⟩)) else A7
  | _=>A7
def B9V:List Val->Option (List (Nat × Nat))
 | []=>A4 []
 | .c (.p id off)::r=>(B9V r).map λl=>(id,off)::l
 | _=>A7
def A70 (fn:Nat) (caps:List Val):Option Val:=(B9V caps).map λl=>.c (.f fn l)
abbrev Q7:=List (Cell × Part)
def A0J (e:Cell × Part):List Cell :=
 match e.2 with
 | .c x=>[.hk A6 e.1,.hx x]
 | .a l=>.hk A5 e.1::l.map .hx
def B10 (es:Q7):List Cell:=.mh::es.flatMap A0J
def C0T (c:Cell) (s:List Cell × Q7):List Cell × Q7 :=
 match c with
 | .hx x=>(x::s.1,s.2)
 | .hk a k=>([],(k,bif a then .a s.1 else .c (s.1.headD .mh))::s.2)
 | _=>s
def C4U (cs:List Cell):Q7:=(cs.foldr C0T ([],[])).2
def C6O (r:Row):Option Q7:=if r.rw=A6/\r.cells=B10 (C4U r.cells) then A4 (C4U r.cells) else A7
def K8 (es:Q7):Row:=⟨B10 es,A6⟩
def oO (kk:Option IntKind) (c:Cell):Bool :=
 match kk,c with
 | some k,.i k' _=>decide (k'=k)
 | none,.s _=>A5
 | _,_=>A6
def mgo (k:Cell):Q7->Nat->Option (Nat × Part)
 | [],_=>A7
 | e::es,i=>if e.1=k then A4 (i,e.2) else mgo k es (i+1)
def A4b (k:Cell) (es:Q7):Option (Nat × Part):=mgo k es 0
def A4c (k:Cell) (p:Part) (es:Q7):Q7 :=
 match A4b k es with
 | some (i,_)=>es.set i (k,p)
 | none=>es++[(k,p)]
def wV (kk:Option IntKind) (k:Cell) (es:Q7):Bool:=oO kk k&&es.all λe=>oO kk e.1
def C4O (h:A9):Val->Option Q7
 | .c .nm=>A4 []
 | .c (.m id)=>(rd h id).bind C6O
 | _=>A7
def B3S:Val->Option Cell
 | .c x=>A4 x
 | _=>A7
def B7y:Val->Option Part
 | .c x=>A4 (.c x)
 | .a l=>A4 (.a l)
 | _=>A7
def oV (ok:Bool) (p:Part) (f:Bool):Val:=match ok with
 | true=>.t [p,.c (.b f)]
 | false=>match p with
  | .c x=>.c x
  | .a l=>.a l
def qN (h:A9) (kk:Option IntKind) (zero:Part) (ok:Bool) (m k:Val):Option Val :=
 (B3S k).bind λk=>(C4O h m).bind λes=>if wV kk k es=A5 then
  A4 (match A4b k es with
   | some (_,p)=>oV ok p A5
   | none=>oV ok zero A6) else A7
def xK (h:A9) (kk:Option IntKind) (m k x:Val):Option A9 :=
 match m with
 | .c (.m id)=>(B3S k).bind λk=>(B7y x).bind λp=>(rd h id).bind λr=>(C6O r).bind λes=>if wV kk k es=A5 then
  A4 (h.set id (A4 (K8 (A4c k p es)))) else A7
 | _=>A7
def C5C (h:A9) (kk:Option IntKind) (zero:Part) (m k:Val):Option (Val × A9) :=
 match m with
 | .c (.m id)=>(B3S k).bind λk=>(rd h id).bind λr=>(C6O r).bind λes=>if wV kk k es=A5 then
  A4 (match A4b k es with
   | some (i,p)=>(.t [p,.c (.i .i64 i)],h)
   | none=>(.t [zero,.c (.i .i64 es.length)],h.set id (A4 (K8 (es++[(k,zero)]))))) else A7
 | _=>A7
def C5D (h:A9) (m s x:Val):Option A9 :=
 match m,s with
 | .c (.m id),.c (.i .i64 n)=>(B7y x).bind λp=>(rd h id).bind λr=>(C6O r).bind λes=>if 0<=n then (es[n.toNat]?).bind λe=>A4 (h.set id (A4 (K8 (es.set n.toNat (e.1,p))))) else A7
 | _,_=>A7
def A96:Val->Option Nat
 | .c (.i .i64 n)=>if 0<=n/\n<=1073741824 then A4 n.toNat else A7
 | _=>A7
def rows (zero:List Cell) (n:Nat):List Cell:=(D9w n zero).flatten
def B8G (l:List (Nat × Nat)):List Val:=l.map λq=>.c (.p q.1 q.2)
abbrev J9:=Nat->List Val->A9->Option (Val × A9)
def Row.head (r:Row):Bool :=
 match r.cells with
 | .mh::l=>l.all Cell.isX
 | _=>A6
def Row.own (r:Row):Bool:=r.rw||r.head
open Classical in
def quiet (h:A9) (r:Option (Val × A9)):Option (Val × A9) :=
 r.bind λp=>if h <+: p.2/\(∀ id x,h.length<=id->rd p.2 id=A4 x->x.own=A5) then A4 p else A7
def qT (E:J9) (f:Val) (args:List Val) (h:A9):Option (Val × A9) :=
 match f with
 | .c (.f g caps)=>E g (args++B8G caps) h
 | _=>A7
def D6w (x:Val):Option (List UInt8) :=
 match x with
 | .c (.s s)=>if s.length<=1073741824 then A4 s else A7
 | _=>A7
def B8l (x y:Val):Option Nat:=(A96 x).bind λn=>(A96 y).bind λc=>if n<=c then A4 n else A7
def B9E (h:A9) (sz:Nat) (zero:List Cell) (x y:Val):Option (Val × A9) :=
 (A96 y).bind λn =>
  match x with
  | .c .ns=>A4 (.c (.sl h.length 0 n sz),h++[A4 ⟨rows zero n,A5⟩])
  | .c (.sl id off len sz')=>(rd h id).bind λr =>
    if r.rw=A5/\off=0/\len*sz=r.cells.length/\sz=sz'/\len+n<=1073741824 then
     A4 (.c (.sl h.length 0 (len+n) sz),h.set id A7++[A4 ⟨r.cells++rows zero n,A5⟩]) else A7
  | _=>A7
variable {R:Type}
def cnd (v:Val) (a b:Option R):Option R :=
 match v with
 | .c (.b x)=>bif x then a else b
 | _=>A7
def aop (E:J9) (q:Bool) (hr:A9) (n0:Nat) (slot:Option Nat) (o:AOp) (e:Env) (h:A9) (k:Val->A9->Option R):Option R :=
 match o with
 | .mv x=>k (e.ev x) h
 | .nilrow sz=>let p:=bU h n0 slot ⟨[],A5⟩;k (.c (.sl p.1 0 0 sz)) p.2
 | .pick c a b=>(C5H (e.ev c) (e.ev a) (e.ev b)).bind λv=>k v h
 | .alloc zero=>let p:=bU h n0 slot ⟨zero,A5⟩;k (.c (.p p.1 0)) p.2
 | .box x=>(cells? (e.ev x)).bind λcs=>let p:=bU h n0 slot ⟨cs,A5⟩;k (.c (.p p.1 0)) p.2
 | .build zero parts=>(E7 zero (parts.map λp=>(p.1,p.2.1,e.ev p.2.2))).bind λcs=>k (.a cs) h
 | .buildSl sz len zero parts=>(E7 zero (parts.map λp=>(p.1,p.2.1,e.ev p.2.2))).bind λcs=>let p:=bU h n0 slot ⟨cs,A5⟩;k (.c (.sl p.1 0 len sz)) p.2
 | .load1 a=>(B8 hr (e.ev a)).bind λv=>k v h
 | .loadN n a=>(D3 hr n (e.ev a)).bind λv=>k v h
 | .store1 a x=>(H1 h (e.ev a) (e.ev x)).bind λh=>k .un h
 | .storeN n a x=>(E9 h n (e.ev a) (e.ev x)).bind λh=>k .un h
 | .bin op x y=>(K6 op (e.ev x) (e.ev y)).bind λv=>k v h
 | .eqA neg sh x y=>(aeq neg sh (e.ev x) (e.ev y)).bind λv=>k v h
 | .eqB neg x y=>(C7U neg (e.ev x) (e.ev y)).bind λv=>k v h
 | .eqN fn neg x=>(C4f fn neg (e.ev x)).bind λv=>k v h
 | .nilc x=>(A3H (e.ev x)).bind λv=>k v h
 | .un op x=>(aun op (e.ev x)).bind λv=>k v h
 | .conv kd x=>(C5x kd (e.ev x)).bind λv=>k v h
 | .convS x=>(C4e (e.ev x)).bind λv=>k v h
 | .s2b x=>(D6w (e.ev x)).bind λs=>let p:=bU h n0 slot ⟨B4 s,A5⟩;k (.c (.sl p.1 0 s.length 1)) p.2
 | .b2s x=>(B1A hr (e.ev x)).bind λv=>k v h
 | .b2sN own x=>(B6T h n0 own (e.ev x)).bind λv=>k v h
 | .mark x=>(A6d h (e.ev x)).bind λv=>k v h
 | .mkf fn caps=>(A70 fn (caps.map e.ev)).bind λv=>k v h
 | .mkSl sz zero len cap=>(B8l (e.ev len) (e.ev cap)).bind λn=>let p:=bU h n0 slot ⟨rows zero n,A5⟩;k (.c (.sl p.1 0 n sz)) p.2
 | .slS x lo hi=>(D4N (e.ev x) (lo.map e.ev) (hi.map e.ev)).bind λv=>k v h
 | .slL sz x lo hi=>(D0A sz (e.ev x) (lo.map e.ev) (hi.map e.ev)).bind λv=>k v h
 | .slA n sz x lo hi=>(C4j hr n sz (e.ev x) (lo.map e.ev) (hi.map e.ev)).bind λv=>k v h
 | .fAddr x off=>(V8 (e.ev x) off).bind λv=>k v h
 | .iAddrA n sz x i=>(I5 n sz (e.ev x) (e.ev i)).bind λv=>k v h
 | .iAddrL sz x i=>(E5 sz (e.ev x) (e.ev i)).bind λv=>k v h
 | .fld1 x off=>(B3g (e.ev x) off).bind λv=>k v h
 | .fldN x off n=>(C9t (e.ev x) off n).bind λv=>k v h
 | .idxA1 n x i=>(A2U n (e.ev x) (e.ev i)).bind λv=>k v h
 | .idxAN n sz x i=>(C4g n sz (e.ev x) (e.ev i)).bind λv=>k v h
 | .idxS x i=>(B9L (e.ev x) (e.ev i)).bind λv=>k v h
 | .ext x j=>(D2e (e.ev x) j).bind λv=>k v h
 | .call f args=>(bif q then quiet h (E f (args.map e.ev) h) else E f (args.map e.ev) h).bind λp=>k p.1 p.2
 | .callV f args=>(bif q then quiet h (qT E (e.ev f) (args.map e.ev) h) else qT E (e.ev f) (args.map e.ev) h).bind λp=>k p.1 p.2
 | .len x=>(C1Y (e.ev x)).bind λv=>k v h
 | .lenS x=>(C5A (e.ev x)).bind λv=>k v h
 | .app sz x y=>(qK h sz (e.ev x) (e.ev y)).bind λp=>k p.1 p.2
 | .appZ sz zero x y=>(B9E h sz zero (e.ev x) (e.ev y)).bind λp=>k p.1 p.2
 | .max x y=>(B8k (e.ev x) (e.ev y)).bind λv=>k v h
 | .min x y=>(A90 (e.ev x) (e.ev y)).bind λv=>k v h
 | .copy sz x y=>(B9G h sz (e.ev x) (e.ev y)).bind λp=>k p.1 p.2
 | .mkMap=>let p:=bU h n0 slot (K8 []);k (.c (.m p.1)) p.2
 | .look kk z ok m x=>(qN hr kk z ok (e.ev m) (e.ev x)).bind λv=>k v h
 | .mput kk m x y=>(xK h kk (e.ev m) (e.ev x) (e.ev y)).bind λh=>k .un h
 | .ment kk z m x=>(C5C h kk z (e.ev m) (e.ev x)).bind λp=>k p.1 p.2
 | .mset m x y=>(C5D h (e.ev m) (e.ev x) (e.ev y)).bind λh=>k .un h
def gd (v:Val) (want:Bool) (a b:Option (Val × A9)):Option (Val × A9) :=
 match v with
 | .c (.b x)=>bif x==want then a else b
 | .no=>b
 | _=>A7
def U0 (E:J9) (q:Bool) (hr:A9) (n0:Nat) (o:AOper) (e:Env) (h:A9) (k:Val->A9->Option R):Option R :=
 match o.guard with
 | none=>aop E q hr n0 o.slot o.op e h k
 | some g=>(gd (e.get g.1) g.2 (aop E q hr n0 o.slot o.op e h λv h=>A4 (v,h)) (A4 (.no,h))).bind λp=>k p.1 p.2
def A71 (E:J9) (l:List AOper):Env->A9->(Env->A9->Option R)->Option R :=
 List.rec (motive:=λ_=>Env->A9->(Env->A9->Option R)->Option R) (λe h k=>k e h) (λo _ ih e h k=>U0 E A6 h 0 o e h λv h=>ih (e.put o.dst v) h k) l
def C2S (E:J9) (o:AOper) (r:List AOper) (e:Env) (h:A9) (k:Env->A9->Option R):A71 E (o::r) e h k=U0 E A6 h 0 o e h λv h=>A71 E r (e.put o.dst v) h k:=rfl
def B0s (E:J9) (hr:A9) (n0:Nat) (l:List AOper):Env->A9->(Env->A9->Option R)->Option R :=
 List.rec (motive:=λ_=>Env->A9->(Env->A9->Option R)->Option R) (λe h k=>k e h) (λo _ ih e h k=>U0 E A5 hr n0 o e h λv h=>ih (e.put o.dst v) h k) l
def B9H (E:J9) (hr:A9) (n0:Nat) (o:AOper) (r:List AOper) (e:Env) (h:A9) (k:Env->A9->Option R):B0s E hr n0 (o::r) e h k=U0 E A5 hr n0 o e h λv h=>B0s E hr n0 r (e.put o.dst v) h k:=rfl
def A5N (h:A9) (o:AOp) (e:Env):Option Val :=
 match o with
 | .load1 a=>B8 h (e.ev a)
 | .loadN n a=>D3 h n (e.ev a)
 | _=>A7
open Classical in
def agn (x:Option Val) (v:Val) (k:Option R):Option R:=if x=A4 v then k else A7
def again (l:List (Nat × AOp)) (e:Env) (h:A9) (k:Option R):Option R :=
 List.rec (motive:=λ_=>Option R) k (λc _ ih=>agn (A5N h c.2 e) (e.get c.1) ih) l
def B9J (c:Nat × AOp) (l:List (Nat × AOp)) (e:Env) (h:A9) (k:Option R):again (c::l) e h k=agn (A5N h c.2 e) (e.get c.1) (again l e h k):=rfl
inductive AExit where
 | normal
 | exit (id:Nat)
 | ret
abbrev A9L (R:Type):=AExit->Env->A9->Option R
abbrev Sm (R:Type):=A9L R->Env->A9->Option R
def D6e (keep:List Nat) (again:Env->A9->Option R) (k:A9L R):A9L R:=λx e h=>match x with | .normal=>again (e.keep keep) h | .exit id=>k (.exit id) e h | .ret=>k .ret e h
def A5m (c:Sm R) (keep:List Nat) (k:A9L R) (n:Nat):Env->A9->Option R :=
 Nat.rec (motive:=λ_=>Env->A9->Option R) (λ_ _=>A7) (λ_ ih e h=>c (D6e keep ih k) e h) n
def B60 (c:Sm R) (keep:List Nat) (k:A9L R) (e:Env) (h:A9):A5m c keep k 0 e h=A7:=rfl
def B6Z (c:Sm R) (keep:List Nat) (k:A9L R) (n:Nat) (e:Env) (h:A9):A5m c keep k (n+1) e h=c (λx e h=>match x with | .normal=>A5m c keep k n (e.keep keep) h | .exit id=>k (.exit id) e h | .ret=>k .ret e h) e h:=rfl
def hold {α:Type} (x:α):α:=(λ_=>x) gd
def D4k:Sm R:=λk e h=>(λ_=>k .normal e h) (@A71 Nat)
def D4j (E:J9) (l:List AOper):Sm R:=λk e h=>A71 E l e h λe h=>k .normal e h
def C9d (E:J9) (m:Nat) (l r:List AOper):Sm R:=λk e h=>B0s E h h.length l e (h++D9w m A7) λe h=>A71 E r e h λe h=>k .normal e h
def C5b (E:J9) (m:Nat) (l:List AOper) (s:AOper) (chk:List (Nat × AOp)) (r:List AOper):Sm R:=λk e h=>B0s E h h.length l e (h++D9w m A7) λe h=>U0 E A6 h 0 s e h λv h2=>again chk e h2 (A71 E r (e.put s.dst v) h2 λe h=>k .normal e h)
def D5h (keep:List Nat) (b:Sm R) (k:A9L R):A9L R:=λx e h=>match x with | .normal=>hold (b k (e.keep keep) h) | .exit id=>k (.exit id) e h | .ret=>k .ret e h
def C8E (id:Nat) (k:A9L R):A9L R:=λx e h=>match x with | .exit i=>bif Nat.beq i id then k .normal e h else k (.exit i) e h | .normal=>k .normal e h | .ret=>k .ret e h
def C7B (keep:List Nat) (a b:Sm R):Sm R:=λk e h=>a (D5h keep b k) e h
def C1m (c:Opd) (a b:Sm R):Sm R:=λk e h=>(λ_=>cnd (e.ev c) (a k e h) (b k e h)) (@A71 Nat)
def B4r (id:Nat) (a:Sm R):Sm R:=λk e h=>(λ_=>a (C8E id k) e h) (@A71 Nat)
def C1n (n:Nat) (keep:List Nat) (a:Sm R):Sm R:=λk e h=>(λ_=>A5m a keep k n (e.keep keep) h) (@A71 Nat)
def D4i (id:Nat):Sm R:=λk e h=>(λ_=>k (.exit id) e h) (@A71 Nat)
def D6k:Sm R:=λk e h=>(λ_=>k .ret e h) (@A71 Nat)
def aex (E:J9) (n:Nat):ACode->Sm R
 | .skip=>D4k
 | .ops l=>D4j E l
 | .draw m l r=>C9d E m l r
 | .drawS m l s chk r=>C5b E m l s chk r
 | .seq keep a b=>C7B keep (aex E n a) (aex E n b)
 | .cond c a b=>C1m c (aex E n a) (aex E n b)
 | .block id a=>B4r id (aex E n a)
 | .loop keep a=>C1n n keep (aex E n a)
 | .exit id=>D4i id
 | .ret=>D6k
def ax (E:J9) (n:Nat) (c:ACode):Sm R :=
 ACode.rec (motive:=λ_=>Sm R) D4k (λl=>D4j E l) (λm l r=>C9d E m l r) (λm l s chk r=>C5b E m l s chk r) (λkeep _ _ a b=>C7B keep a b) (λc _ _ a b=>C1m c a b) (λid _ a=>B4r id a) (λkeep _ a=>C1n n keep a) (λid=>D4i id) D6k c
def B3i (E:J9) (n:Nat):∀ c:ACode,(ax E n c:Sm R)=aex E n c
 | .skip=>rfl
 | .ops _=>rfl
 | .draw _ _ _=>rfl
 | .drawS _ _ _ _ _=>rfl
 | .seq keep a b=>by show C7B keep (ax E n a) (ax E n b)=C7B keep (aex E n a) (aex E n b);rw [B3i E n a,B3i E n b]
 | .cond c a b=>by show C1m c (ax E n a) (ax E n b)=C1m c (aex E n a) (aex E n b);rw [B3i E n a,B3i E n b]
 | .block id a=>by show B4r id (ax E n a)=B4r id (aex E n a);rw [B3i E n a]
 | .loop keep a=>by show C1n n keep (ax E n a)=C1n n keep (aex E n a);rw [B3i E n a]
 | .exit _=>rfl
 | .ret=>rfl
inductive ARes where
 | tmp (t:Nat)
 | cell1 (t:Nat)
 | cellN (t n:Nat)
def D0z (e:Env) (h:A9):ARes->Option Val
 | .tmp t=>A4 (e.get t)
 | .cell1 t=>B8 h (e.get t)
 | .cellN t n=>D3 h n (e.get t)
def oR:Val->Option Part
 | .c x=>A4 (.c x)
 | .a l=>A4 (.a l)
 | _=>A7
def B6Y (e:Env) (h:A9):List ARes->Option (List Part)
 | []=>A4 []
 | r::l=>(D0z e h r).bind λv=>(oR v).bind λp=>(B6Y e h l).map λq=>p::q
def kD (rs:List ARes) (e:Env) (h:A9):Option (Val × A9) :=
 match rs with
 | [r]=>(D0z e h r).map λv=>(v,h)
 | rs=>(B6Y e h rs).map λl=>(.t l,h)
def C1G:List (Option Val)->Option (List Part)
 | []=>A4 []
 | r::l=>r.bind λv=>(oR v).bind λp=>(C1G l).map λq=>p::q
def B8D (l:List (Option Val)) (h:A9):Option (Val × A9):=(C1G l).map λl=>(.t l,h)
structure AFn where
 code:ACode
 res:List ARes
def params:Nat->List Val->Env
 | _,[]=>[]
 | i,v::r=>(i,v)::params (i+1) r
def AFn.fin (f:AFn):AExit->Env->A9->Option (Val × A9)
 | .normal,e,h=>kD f.res e h
 | .ret,e,h=>kD f.res e h
 | .exit _,_,_=>A7
def AFn.run (f:AFn) (E:J9) (n:Nat) (args:List Val) (h:A9):Option (Val × A9) :=
 aex E n f.code f.fin (params 0 args) h
def D6x {f:AFn} {E:J9} {n:Nat} {args:List Val} {h:A9}:f.run E n args h=ax E n f.code f.fin (params 0 args) h:=by
 rw [B3i];rfl
def aO (d:Nat) (x:AOp):AOper:={ dst:=A4 d,op:=x }
def aN (x:AOp):AOper:={ dst:=A7,op:=x }
def aG (d g:Nat) (w:Bool) (x:AOp):AOper:={ dst:=A4 d,op:=x,guard:=A4 (g,w) }
def aM (d t:Nat):AOper:=aO d (.mv (.t t))
def aL (d t:Nat):AOper:=aO d (.load1 (.t t))
def aL' (d n t:Nat):AOper:=aO d (.loadN n (.t t))
def aF (d t k:Nat):AOper:=aO d (.fAddr (.t t) k)
def aE (d t k:Nat):AOper:=aO d (.ext (.t t) k)
def aB (d t:Nat):AOper:=aO d (.box (.t t))
def sO (k:List Nat) (l:List AOper) (b:ACode):ACode:=.seq k (.ops l) b
end
def All2 {α β:Type} (R:α -> β -> Prop):List α -> List β -> Prop
 | [],[]=>True
 | a::l,b::m=>R a b/\All2 R l m
 | _,_=>False
section
variable {α β:Type} {R S:α -> β -> Prop}
@[simp] theorem All2.nil_nil:All2 R [] []=True:=rfl
@[simp] theorem All2.cons_cons {a:α} {l:List α} {b:β} {m:List β}:All2 R (a::l) (b::m)=(R a b/\All2 R l m):=rfl
@[simp] theorem All2.nil_cons {b:β} {m:List β}:All2 R [] (b::m)=False:=rfl
@[simp] theorem All2.cons_nil {a:α} {l:List α}:All2 R (a::l) []=False:=rfl
def All2.mono (h:∀ a b,R a b->S a b):∀ {l:List α} {m:List β},All2 R l m->All2 S l m
 | [],[],_=>trivial
 | _::_,_::_,⟨h1,h2⟩=>⟨h _ _ h1,All2.mono h h2⟩
 | [],_::_,h=>h.elim
 | _::_,[],h=>h.elim
def All2.length:∀ {l:List α} {m:List β},All2 R l m->l.length=m.length
 | [],[],_=>rfl
 | _::_,_::_,⟨_,h2⟩=>by simp [All2.length h2]
 | [],_::_,h=>h.elim
 | _::_,[],h=>h.elim
def All2.get:∀ {l:List α} {m:List β},All2 R l m->∀ (i:Nat) (a:α),l[i]?=A4 a->∃ b,m[i]?=A4 b/\R a b
 | [],[],_,i,a,h=>by simp at h
 | x::l,y::m,⟨h1,h2⟩,0,a,h=>by simp at h;subst h;exact ⟨y,rfl,h1⟩
 | x::l,y::m,⟨h1,h2⟩,i+1,a,h=>by simp at h;simpa using All2.get h2 i a h
 | [],_::_,h,_,_,_=>h.elim
 | _::_,[],h,_,_,_=>h.elim
def All2.of_get:∀ {l:List α} {m:List β},l.length=m.length->(∀ (i:Nat) (a:α) (b:β),l[i]?=A4 a->m[i]?=A4 b->R a b)->All2 R l m
 | [],[],_,_=>trivial
 | x::l,y::m,hl,h=>⟨h 0 x y rfl rfl,All2.of_get (by simpa using hl) λi a b h1 h2=>h (i+1) a b (by simpa using h1) (by simpa using h2)⟩
 | [],_::_,h,_=>by simp at h
 | _::_,[],h,_=>by simp at h
def All2.append:∀ {l l':List α} {m m':List β},All2 R l m->All2 R l' m'->All2 R (l++l') (m++m')
 | [],_,[],_,_,h=>h
 | _::_,_,_::_,_,⟨h1,h2⟩,h=>⟨h1,All2.append h2 h⟩
 | [],_,_::_,_,h,_=>h.elim
 | _::_,_,[],_,h,_=>h.elim
def All2.take:∀ {l:List α} {m:List β} (n:Nat),All2 R l m->All2 R (l.take n) (m.take n)
 | [],[],n,_=>by simp
 | _::_,_::_,0,_=>by simp
 | _::_,_::_,n+1,⟨h1,h2⟩=>by simpa using ⟨h1,All2.take n h2⟩
 | [],_::_,_,h=>h.elim
 | _::_,[],_,h=>h.elim
def All2.drop:∀ {l:List α} {m:List β} (n:Nat),All2 R l m->All2 R (l.drop n) (m.drop n)
 | [],[],n,_=>by simp
 | _::_,_::_,0,h=>by simpa using h
 | _::_,_::_,n+1,⟨_,h2⟩=>by simpa using All2.drop n h2
 | [],_::_,_,h=>h.elim
 | _::_,[],_,h=>h.elim
def All2.flatten_replicate {l:List α} {m:List β} (h:All2 R l m):∀ n,All2 R (D9w n l).flatten (D9w n m).flatten
 | 0=>trivial
 | n+1=>by simpa [D92] using h.append (All2.flatten_replicate h n)
end
abbrev Mu:=Nat->Option (Nat × Nat)
def Mu.le (m m':Mu):Prop:=∀ id x,m id=A4 x->m' id=A4 x
def Mu.le_refl (m:Mu):m.le m:=λ_ _ h=>h
def Mu.le_trans {a b c:Mu} (h:a.le b) (k:b.le c):a.le c:=λ_ _ x=>k _ _ (h _ _ x)
def RPtr (μ:Mu) (q:Nat × Nat) (V:Value):Prop:=∃ b n,μ q.1=A4 (b,n)/\V=.pointer (A4 ⟨b,q.2,A7⟩)
def RC (μ:Mu):Cell->Value->Prop
 | .b x,V=>V=.bool x
 | .i k n,V=>V=.int k n
 | .s x,V=>V=.string ⟨x.toArray⟩
 | .p id off,V=>RPtr μ (id,off) V
 | .np,V=>V=.pointer A7
 | .sl id off len sz,V=>(∃ b n cap,μ id=A4 (b,n)/\len<=cap/\off+cap*sz<=n/\V=.slice (A4 ⟨b,off,A7⟩) len cap)\/(len=0/\∃ a,V=.slice a 0 0)
 | .ns,V=>V=.slice A7 0 0
 | .f fn caps,V=>∃ cs:List Value,V=.func (.func fn) #[] cs.toArray/\All2 (RPtr μ) caps cs
 | .nf,V=>V=.nilFunc
 | .m id,V=>∃ b n,μ id=A4 (b,n)/\V=.map (A4 b)
 | .nm,V=>V=.map A7
 | .dark,_=>False
 | .mh,_=>False
 | .hk _ _,_=>False
 | .hx _,_=>False
def RPtr.mono {μ μ':Mu} (h:μ.le μ') {q:Nat × Nat} {V:Value}:RPtr μ q V->RPtr μ' q V :=
 λ⟨b,n,h1,h2⟩=>⟨b,n,h _ _ h1,h2⟩
def RC.mono {μ μ':Mu} (h:μ.le μ') {c:Cell} {V:Value} (hc:RC μ c V):RC μ' c V:=by
 cases c with
 | p id off=>exact RPtr.mono h hc
 | sl id off len sz =>
  rcases hc with ⟨b,n,cap,h1,h2⟩ | hc
  ·exact .inl ⟨b,n,cap,h _ _ h1,h2⟩
  ·exact .inr hc
 | f fn caps=>obtain ⟨cs,h1,h2⟩:=hc;exact ⟨cs,h1,h2.mono λ_ _=>RPtr.mono h⟩
 | m id=>obtain ⟨b,n,h1,h2⟩:=hc;exact ⟨b,n,h _ _ h1,h2⟩
 | _=>exact hc
def RC.one {μ:Mu} {c:Cell} {V:Value} (hc:RC μ c V):V.oneCell'=A5:=by
 cases c with
 | sl id off len sz=>rcases hc with ⟨b,n,cap,_,_,_,rfl⟩ | ⟨_,a,rfl⟩<;>rfl
 | p id off=>obtain ⟨b,n,_,rfl⟩:=hc;rfl
 | f fn caps=>obtain ⟨cs,rfl,_⟩:=hc;rfl
 | m id=>obtain ⟨b,n,_,rfl⟩:=hc;rfl
 | b x=>cases hc;rfl
 | i k n=>cases hc;rfl
 | s x=>cases hc;rfl
 | np=>cases hc;rfl
 | ns=>cases hc;rfl
 | nf=>cases hc;rfl
 | nm=>cases hc;rfl
 | dark=>exact hc.elim
 | mh=>exact hc.elim
 | hk _ _=>exact hc.elim
 | hx _=>exact hc.elim
def RC.cells {μ:Mu} {c:Cell} {V:Value} (hc:RC μ c V):V.cells = #[V]:=by
 have:=hc.one;cases V<;>simp_all [Value.oneCell',Value.cells]
def RP (μ:Mu):Part->Value->Prop
 | .c x,V=>RC μ x V
 | .a l,V=>∃ vs:List Value,V=.agg vs.toArray/\All2 (RC μ) l vs
def RV (μ:Mu):Val->Value->Prop
 | .un,_=>True
 | .no,V=>V=undef
 | .c x,V=>RC μ x V
 | .a l,V=>∃ vs:List Value,V=.agg vs.toArray/\All2 (RC μ) l vs
 | .t l,V=>∃ vs:List Value,V=.tuple vs.toArray/\All2 (RP μ) l vs
def RP.mono {μ μ':Mu} (h:μ.le μ') {c:Part} {V:Value} (hc:RP μ c V):RP μ' c V:=by
 cases c with
 | c x=>exact RC.mono h hc
 | a l=>obtain ⟨vs,h1,h2⟩:=hc;exact ⟨vs,h1,h2.mono λ_ _=>RC.mono h⟩
def RV.mono {μ μ':Mu} (h:μ.le μ') {c:Val} {V:Value} (hc:RV μ c V):RV μ' c V:=by
 cases c with
 | un=>trivial
 | no=>exact hc
 | c x=>exact RC.mono h hc
 | a l=>obtain ⟨vs,h1,h2⟩:=hc;exact ⟨vs,h1,h2.mono λ_ _=>RC.mono h⟩
 | t l=>obtain ⟨vs,h1,h2⟩:=hc;exact ⟨vs,h1,h2.mono λ_ _=>RP.mono h⟩
def RV.cells {μ:Mu} {v:Val} {V:Value} {cs:List Cell} (h:RV μ v V) (hc:cells? v=A4 cs):All2 (RC μ) cs V.cells.toList:=by
 cases v with
 | c x=>simp [cells?] at hc;subst hc;rw [RC.cells h];exact ⟨h,trivial⟩
 | a l=>simp [cells?] at hc;subst hc;obtain ⟨vs,rfl,h2⟩:=h;simpa [Value.cells] using h2
 | un=>simp [cells?] at hc
 | no=>simp [cells?] at hc
 | t l=>simp [cells?] at hc
def RV.ofPart {μ:Mu} {p:Part} {V:Value} (h:RP μ p V):RV μ (ofPart p) V:=by
 cases p<;>exact h
def RP.ofVal {μ:Mu} {v:Val} {p:Part} {V:Value} (h:RV μ v V) (hp:oR v=A4 p):RP μ p V:=by
 cases v<;>simp [oR] at hp<;>subst hp<;>exact h
def RL (μ:Mu) (rw:Bool) (c:Cell) (V:Value):Prop:=RC μ c V\/(rw=A6/\c.isD=A5)
def C0I {c:Cell} (h:c.isD=A5):c.isX=A5:=by cases c<;>simp_all [Cell.isD,Cell.isX]
def RL.mono {μ μ':Mu} (h:μ.le μ') {rw:Bool} {c:Cell} {V:Value}:RL μ rw c V->RL μ' rw c V
 | .inl k=>.inl (k.mono h)
 | .inr k=>.inr k
def RL.told {μ:Mu} {rw:Bool} {c:Cell} {V:Value} (h:RL μ rw c V) (hx:(rw || !c.isX)=A5):RC μ c V:=by
 rcases h with h | ⟨h1,h2⟩
 ·exact h
 ·rw [h1,C0I h2] at hx;cases hx
def RL.all {μ:Mu} {rw:Bool}:∀ {l:List Cell} {vs:List Value},All2 (RL μ rw) l vs->(rw||noX l)=A5->All2 (RC μ) l vs
 | [],[],_,_=>trivial
 | c::l,V::vs,⟨h1,h2⟩,hx=>by
  have hx':(rw || !c.isX)=A5/\(rw||noX l)=A5:=by
   cases rw<;>simp_all [noX]
  exact ⟨h1.told hx'.1,RL.all h2 hx'.2⟩
 | [],_::_,h,_=>h.elim
 | _::_,[],h,_=>h.elim
def RE (μ:Mu) (e:Cell × Part) (E:MapEntry):Prop:=RC μ e.1 E.key/\RP μ e.2 E.val
def RE.mono {μ μ':Mu} (h:μ.le μ') {e:Cell × Part} {E:MapEntry} (k:RE μ e E):RE μ' e E:=⟨k.1.mono h,k.2.mono h⟩
def MemOk (μ:Mu) (w:World) (b n:Nat) (r:Row):Prop :=
 ∃ C elem fz,w.heap[b]?=A4 (.cells C elem fz)/\C.size=n/\All2 (RL μ r.rw) r.cells (C.toList.take r.cells.length)/\(r.rw=A5->fz.1=fz.2\/n<=fz.1)
def D7C (μ:Mu) (w:World) (b:Nat) (r:Row):Prop :=
 ∃ es E,r=K8 es/\w.heap[b]?=A4 (.map E E.size)/\All2 (RE μ) es E.toList/\∀ (i:Nat) (e:MapEntry),E[i]?=A4 e->e.born=i
def D6l (w:World) (b:Nat) (r:Row):Prop:=r.rw=A6/\b<w.heap.size/\r.cells.all Cell.isD=A5
def RowOk (μ:Mu) (w:World) (id:Nat) (r:Row):Prop :=
 match μ id with
 | none=>r.cells=[]
 | some (b,n)=>MemOk μ w b n r\/D7C μ w b r\/D6l w b r
def C4s (e:Cell × Part):∀ c∈A0J e,c.isX=A5:=by
 intro c hc;unfold A0J at hc;split at hc
 ·simp at hc;rcases hc with rfl | rfl<;>rfl
 ·simp at hc;rcases hc with rfl | ⟨x,_,rfl⟩<;>rfl
def C0P (es:Q7):∀ c∈B10 es,c.isX=A5:=by
 intro c hc;simp only [B10,E0B,List.mem_flatMap] at hc;rcases hc with rfl | ⟨e,_,hc⟩
 ·rfl
 ·exact C4s e c hc
def Row.head_mrow (es:Q7):(K8 es).head=A5:=by
 show (es.flatMap A0J).all Cell.isX=A5;rw [E0k];exact λc hc=>C0P es c (D9F _ hc)
def Row.head_isX {r:Row} (h:r.head=A5):∀ c∈r.cells,c.isX=A5:=by
 unfold Row.head at h;split at h
 ·rename_i l hl;intro c hc;rw [hl] at hc;rcases List.mem_cons.1 hc with rfl | hc
  ·rfl
  ·exact List.all_eq_true.1 h c hc
 ·cases h
def Row.own_rw {r:Row} (h:r.rw=A5):r.own=A5:=by simp [Row.own,h]
def Row.own_mrow (es:Q7):(K8 es).own=A5:=by simp [Row.own,Row.head_mrow]
structure Ctx where
 F:Nat->Option Obj
 os:Os
 tape:Nat->Question->Nat
 output:Array (Nat × ByteArray)
 ds:List Deferred:=[]
structure Ctx.ok (Γ:Ctx) (w:World):Prop where
 os:w.os = Γ.os
 tape:w.tape = Γ.tape
 output:w.output = Γ.output
 block:∀ b o,Γ.F b=A4 o->w.heap[b]?=A4 o
structure Inv (Γ:Ctx) (μ:Mu) (h:A9) (w:World):Prop where
 rows:∀ id r,rd h id=A4 r->RowOk μ w id r
 sep:∀ id bQ r r' x x',rd h id=A4 r->rd h bQ=A4 r'->r.own=A5->id≠bQ -> μ id=A4 x -> μ bQ=A4 x'->x.1≠x'.1
 own:∀ id r x,rd h id=A4 r->r.own=A5 -> μ id=A4 x -> Γ.F x.1=A7
 dom:∀ id,h.length<=id -> μ id=A7
 ctx:Γ.ok w
def SEnv (μ:Mu) (e:Env) (a:Act):Prop:=∀ t,RV μ (e.get t) (a.tmps.getD t undef)
def SEnv.mono {μ μ':Mu} (h:μ.le μ') {e:Env} {a:Act} (hs:SEnv μ e a):SEnv μ' e a:=λt=>(hs t).mono h
def Env.get_put_same (e:Env) (d:Nat) (v:Val):(e.put (A4 d) v).get d=v:=by simp [Env.put,Env.get]
def Env.get_put_other (e:Env) (d t:Nat) (v:Val) (h:d≠t):(e.put (A4 d) v).get t=e.get t:=by
 have:Nat.beq d t=A6:=by cases hb:Nat.beq d t with
  | false=>rfl
  | true=>exact absurd (Nat.eq_of_beq_eq_true hb) h
 simp [Env.put,Env.get,this]
def SEnv.put {μ:Mu} {e:Env} {a:Act} (hs:SEnv μ e a) {d:Option Nat} {v:Val} {V:Value} (hd:∀ t,d=A4 t->t<a.tmps.size) (hv:RV μ v V) :
  SEnv μ (e.put d v) (a.put d V):=by
 cases d with
 | none=>exact hs
 | some d =>
  intro t;by_cases h:d=t
  ·subst h;rw [Env.get_put_same];have:=hd d rfl;simpa [Act.put,Array.getD,this] using hv
  ·rw [Env.get_put_other _ _ _ _ h];have h1:(a.put (A4 d) V).tmps.getD t undef=a.tmps.getD t undef:=by
    simp [Act.put,Array.getElem?_setIfInBounds_ne h]
   rw [h1];exact hs t
def Act.size_put (a:Act) (d:Option Nat) (V:Value):(a.put d V).tmps.size=a.tmps.size:=by
 cases d<;>simp [Act.put]
def Env.get_keep (e:Env) (l:List Nat) (t:Nat):(e.keep l).get t=e.get t\/(e.keep l).get t=.un:=by
 induction l with
 | nil=>right;rfl
 | cons x r ih =>
  simp only [Env.keep,Env.get];by_cases h:x=t
  ·subst h;left;simp
  ·have:Nat.beq x t=A6:=by cases hb:Nat.beq x t with
    | false=>rfl
    | true=>exact absurd (Nat.eq_of_beq_eq_true hb) h
   simpa [this] using ih
def SEnv.keep {μ:Mu} {e:Env} {a:Act} (hs:SEnv μ e a) (l:List Nat):SEnv μ (e.keep l) a:=by
 intro t;rcases Env.get_keep e l t with h | h
 ·rw [h];exact hs t
 ·rw [h];trivial
def rd_some {h:A9} {id:Nat} {r:Row}:rd h id=A4 r↔h[id]?=A4 (A4 r):=by
 unfold rd;cases h[id]?<;>simp
def D7 {h:A9} {id:Nat} {r:Row} (hr:rd h id=A4 r):id<h.length:=by
 rw [rd_some] at hr;exact (List.getElem?_eq_some_iff.1 hr).1
def E2 {h g:A9} {id:Nat} (hl:id<h.length):rd (h++g) id=rd h id:=by
 unfold rd;rw [D94 hl]
def B6 {h g:A9} {id:Nat} {r:Row} (hr:rd h id=A4 r):rd (h++g) id=A4 r:=by
 rw [E2 (D7 hr)];exact hr
def D1 {h:A9} {id:Nat} {x:Option Row} (hl:id<h.length):rd (h.set id x) id=x:=by
 unfold rd;rw [List.getElem?_set_self hl];rfl
def B7 {h:A9} {id bQ:Nat} {x:Option Row} (Z5:id≠bQ):rd (h.set id x) bQ=rd h bQ:=by
 unfold rd;rw [E0o Z5]
def MemOk.mono {μ μ':Mu} {w w':World} {b n:Nat} {r:Row} (hr:MemOk μ w b n r) (gX:μ.le μ') (hb:w'.heap[b]?=w.heap[b]?):MemOk μ' w' b n r:=by
 obtain ⟨C,elem,fz,h1,h2,h3,h4⟩:=hr;exact ⟨C,elem,fz,by rw [hb];exact h1,h2,h3.mono λ_ _=>RL.mono gX,h4⟩
def RowOk.mono {μ μ':Mu} {w w':World} {id:Nat} {r:Row} (hr:RowOk μ w id r) (gX:μ.le μ') (hid:μ' id = μ id)
  (hb:∀ x,μ id=A4 x->w'.heap[x.1]?=w.heap[x.1]?):RowOk μ' w' id r:=by
 unfold RowOk at *;rw [hid];cases hm:μ id with
 | none=>rw [hm] at hr;exact hr
 | some x =>
  obtain ⟨b,n⟩:=x;rw [hm] at hr;have hb:=hb _ hm;simp only at hb;rcases hr with hr | ⟨es,E,h1,h2,h3,h4⟩ | ⟨h1,h2,h3⟩
  ·exact .inl (hr.mono gX hb)
  ·exact .inr (.inl ⟨es,E,h1,by rw [hb];exact h2,h3.mono λ_ _=>RE.mono gX,h4⟩)
  ·refine .inr (.inr ⟨h1,?_,h3⟩);have:w.heap[b]?=A4 w.heap[b]:=by simp [h2]
   rw [this] at hb;exact (Array.getElem?_eq_some_iff.1 hb).1
def RowOk.mem {μ:Mu} {w:World} {id:Nat} {r:Row} (hr:RowOk μ w id r) {b n:Nat} (hm:μ id=A4 (b,n)) (jN:r.rw=A5):MemOk μ w b n r:=by
 unfold RowOk at hr;rw [hm] at hr;rcases hr with hr | ⟨es,E,h1,_⟩ | ⟨h1,_⟩
 ·exact hr
 ·rw [h1] at jN;cases jN
 ·rw [h1] at jN;cases jN
def RowOk.seen {μ:Mu} {w:World} {id:Nat} {r:Row} (hr:RowOk μ w id r) {b n:Nat} (hm:μ id=A4 (b,n)) {c:Cell} (hc:c∈r.cells) (hx:(r.rw || !c.isX)=A5):MemOk μ w b n r:=by
 unfold RowOk at hr;rw [hm] at hr;rcases hr with hr | ⟨es,E,h1,_⟩ | ⟨h1,_,h3⟩
 ·exact hr
 ·rw [h1] at hc hx;have:=C0P es c hc;rw [this] at hx;cases hx
 ·have:=C0I (List.all_eq_true.1 h3 c hc);rw [h1,this] at hx;cases hx
def RowOk.cell {μ:Mu} {w:World} {id:Nat} {r:Row} (hr:RowOk μ w id r) {b n:Nat} (hm:μ id=A4 (b,n)) {off:Nat} {c:Cell} (hc:r.cells[off]?=A4 c) (hx:(r.rw || !c.isX)=A5) :
  ∃ V,w.cell? ⟨b,off,A7⟩=A4 V/\RC μ c V:=by
 obtain ⟨C,elem,fz,h1,h2,h3,h4⟩:=hr.seen hm (D9S hc) hx;obtain ⟨V,hV,hR⟩:=h3.get off c hc;refine ⟨V,?_,hR.told hx⟩;have T1:off<r.cells.length:=(List.getElem?_eq_some_iff.1 hc).1;rw [D97 T1] at hV;simp only [World.cell?,h1];simpa using hV
def RowOk.cells {μ:Mu} {w:World} {id:Nat} {r:Row} (hr:RowOk μ w id r) {b n:Nat} (hm:μ id=A4 (b,n)) (off k:Nat) (hk:off+k<=r.cells.length) (hx:(r.rw||noX ((r.cells.drop off).take k))=A5) :
  ∃ vs:List Value,All2 (RC μ) ((r.cells.drop off).take k) vs/\vs.length=k/\∀ j v,vs[j]?=A4 v->w.cell? ⟨b,off+j,A7⟩=A4 v:=by
 by_cases hk0:k=0
 ·subst hk0;exact ⟨[],by simp,rfl,λj v h=>by simp at h⟩
 have lQ:MemOk μ w b n r:=by
  have T1:off<r.cells.length:=by omega
  refine hr.seen hm (c:=r.cells[off]) (D9Y _) ?_;cases jN:r.rw with
  | true=>rfl
  | false =>
   rw [jN] at hx;simp only [Bool.false_or,noX,E0k] at hx ⊢;refine hx _ ?_;obtain ⟨k',rfl⟩:∃ k',k=k'+1:=⟨k-1,by omega⟩;rw [D9E T1,List.take_succ_cons];exact D9I ..
 obtain ⟨C,elem,fz,h1,h2,h3,h4⟩:=lQ;refine ⟨((C.toList.take r.cells.length).drop off).take k,RL.all ((h3.drop off).take k) hx,?_,?_⟩
 ·have:=h3.length;simp at this ⊢;omega
 ·intro j v hv;have hj:j<k:=by
   have:=(List.getElem?_eq_some_iff.1 hv).1;simp at this;omega
  rw [D97 hj,E0u,D97 (by omega)] at hv;simp only [World.cell?,h1];simpa using hv
def RowOk.there {μ:Mu} {w:World} {id:Nat} {r:Row} (hr:RowOk μ w id r) {b n:Nat} (hm:μ id=A4 (b,n)):∃ o,w.heap[b]?=A4 o:=by
 unfold RowOk at hr;rw [hm] at hr;rcases hr with ⟨C,elem,fz,h1,_⟩ | ⟨es,E,_,h1,_⟩ | ⟨_,h1,_⟩
 ·exact ⟨_,h1⟩
 ·exact ⟨_,h1⟩
 ·exact ⟨w.heap[b],by simp [h1]⟩
def C8M (e:Cell × Part) (es:Q7):(A0J e).foldr C0T ([],es)=([],e::es):=by
 have hx:∀ (l:List Cell) (s:Q7),(l.map Cell.hx).foldr C0T ([],s)=(l,s):=by
  intro l s
  induction l with
  | nil=>rfl
  | cons a l ih=>rw [E0d,List.foldr_cons,ih];rfl
 obtain ⟨k,p⟩:=e;cases p with
 | c x=>rfl
 | a l =>
  show (Cell.hk A5 k::l.map .hx).foldr C0T ([],es)=_;rw [List.foldr_cons,hx];rfl
def A27 (es:Q7):C4U (B10 es)=es:=by
 have:∀ es:Q7,(es.flatMap A0J).foldr C0T ([],[])=([],es):=by
  intro es
  induction es with
  | nil=>rfl
  | cons e es ih=>rw [List.flatMap_cons,List.foldr_append,ih,C8M]
 show (C0T .mh ((es.flatMap A0J).foldr C0T ([],[]))).2=es;rw [this];rfl
def kP (es:Q7):C6O (K8 es)=A4 es:=by
 unfold C6O K8;simp [A27]
def A9B {r:Row} {es:Q7} (h:C6O r=A4 es):r=K8 es:=by
 unfold C6O at h;split at h
 ·rename_i hc;cases h;obtain ⟨cs,rw⟩:=r;obtain ⟨h1,h2⟩:=hc;simp only at h1 h2;subst h1;show Row.mk cs A6=⟨_,A6⟩;rw [<-h2]
 ·cases h
def RowOk.map {μ:Mu} {w:World} {id:Nat} {es:Q7} (hr:RowOk μ w id (K8 es)) {b n:Nat} (hm:μ id=A4 (b,n)) :
  ∃ E:Array MapEntry,w.heap[b]?=A4 (.map E E.size)/\All2 (RE μ) es E.toList/\∀ (i:Nat) (e:MapEntry),E[i]?=A4 e->e.born=i:=by
 unfold RowOk at hr;rw [hm] at hr;rcases hr with ⟨C,elem,fz,h1,h2,h3,_⟩ | ⟨es',E,h1,h2,h3,h4⟩ | ⟨_,_,h1⟩
 ·exfalso;have hl:=h3.length;cases hC:C.toList.take (K8 es).cells.length with
  | nil=>rw [hC] at hl;simp [K8,B10] at hl
  | cons v vs =>
   rw [hC] at h3;rcases h3.1 with h | ⟨_,h⟩
   ·exact h
   ·cases h
 ·have:es=es':=by rw [<-A27 es,<-A27 es'];exact congrArg (λr=>C4U r.cells) h1
  subst this;exact ⟨E,h2,h3,h4⟩
 ·simp [K8,B10,Cell.isD] at h1
def Inv.lt {Γ:Ctx} {μ:Mu} {h:A9} {w:World} (hi:Inv Γ μ h w) {id:Nat} {r:Row} (hr:rd h id=A4 r) {x:Nat × Nat} (hx:μ id=A4 x):x.1<w.heap.size:=by
 obtain ⟨o,h1⟩:=(hi.rows id r hr).there hx;exact (Array.getElem?_eq_some_iff.1 h1).1
def Mu.add (μ:Mu) (id:Nat) (x:Nat × Nat):Mu:=λj=>if j=id then A4 x else μ j
def Mu.le_add {μ:Mu} {id:Nat} {x:Nat × Nat} (h:μ id=A7):μ.le (μ.add id x):=by
 intro j y hj;unfold Mu.add;by_cases e:j=id
 ·subst e;rw [h] at hj;cases hj
 ·simp [e,hj]
def Inv.world {Γ:Ctx} {μ:Mu} {h:A9} {w w':World} (hi:Inv Γ μ h w) (hos:w'.os=w.os) (htape:w'.tape=w.tape) (hout:w'.output=w.output)
  (hb:∀ b,b<w.heap.size->w'.heap[b]?=w.heap[b]?):Inv Γ μ h w' where
 rows id r hr:=(hi.rows id r hr).mono (Mu.le_refl _) rfl λx hx=>hb _ (hi.lt hr hx)
 sep:=hi.sep
 own:=hi.own
 dom:=hi.dom
 ctx:=⟨hos.trans hi.ctx.os,htape.trans hi.ctx.tape,hout.trans hi.ctx.output,λb o ho=>by
  have h1:=hi.ctx.block b o ho;rw [hb b (Array.getElem?_eq_some_iff.1 h1).1];exact h1⟩
def Inv.fresh {Γ:Ctx} {μ:Mu} {h:A9} {w w':World} (hi:Inv Γ μ h w) {id:Nat} {r:Row} {h':A9} {n:Nat}
  (hμ:μ id=A7) (hos:w'.os=w.os) (htape:w'.tape=w.tape) (hout:w'.output=w.output)
  (hb:∀ b,b<w.heap.size->w'.heap[b]?=w.heap[b]?)
  (hsame:∀ j,j≠id->∀ x,rd h' j=A4 x->rd h j=A4 x) (C2f:∀ x,rd h' id=A4 x->x=r) (hlen:h.length<=h'.length) (hid:id<h'.length)
  (hrow:RowOk (μ.add id (w.heap.size,n)) w' id r):Inv Γ (μ.add id (w.heap.size,n)) h' w' where
 rows j x hx:=by
  by_cases e:j=id
  ·subst e;rw [C2f x hx];exact hrow
  ·exact (hi.rows j x (hsame j e x hx)).mono (Mu.le_add hμ) (by simp [Mu.add,e]) λy hy=>hb _ (hi.lt (hsame j e x hx) hy)
 sep j j' x x' y y' hx hx' jN Z5 hy hy':=by
  unfold Mu.add at hy hy';by_cases e:j=id
  ·subst e;have e':j'≠j:=λh=>Z5 h.symm
   simp at hy;simp [e'] at hy';have:=hi.lt (hsame j' e' x' hx') hy';subst hy;show w.heap.size≠y'.1;omega
  ·simp [e] at hy;by_cases e':j'=id
   ·subst e';simp at hy';have:=hi.lt (hsame j e x hx) hy;subst hy';show y.1≠w.heap.size;omega
   ·simp [e'] at hy';exact hi.sep j j' x x' y y' (hsame j e x hx) (hsame j' e' x' hx') jN Z5 hy hy'
 own j x y hx jN hy:=by
  unfold Mu.add at hy;by_cases e:j=id
  ·subst e;simp at hy;subst hy;show Γ.F w.heap.size=A7;cases hF:Γ.F w.heap.size with
   | none=>rfl
   | some o=>have:=(Array.getElem?_eq_some_iff.1 (hi.ctx.block _ _ hF)).1;omega
  ·simp [e] at hy;exact hi.own j x y (hsame j e x hx) jN hy
 dom j hj:=by
  have e:j≠id:=by omega
  simp only [Mu.add,e,if_false];exact hi.dom j (by omega)
 ctx:=⟨hos.trans hi.ctx.os,htape.trans hi.ctx.tape,hout.trans hi.ctx.output,λb o ho=>by
  have h1:=hi.ctx.block b o ho;rw [hb b (Array.getElem?_eq_some_iff.1 h1).1];exact h1⟩
def Inv.turn {Γ:Ctx} {μ:Mu} {h:A9} {w w':World} (hi:Inv Γ μ h w) {id:Nat} {r r':Row} {b n:Nat} (hr:rd h id=A4 r) (jN:r.own=A5) (D8W:r'.own=A5) (hμ:μ id=A4 (b,n))
  (hos:w'.os=w.os) (htape:w'.tape=w.tape) (hout:w'.output=w.output) (hb:∀ b',b'≠b->w'.heap[b']?=w.heap[b']?)
  (hrow:RowOk μ w' id r'):Inv Γ μ (h.set id (A4 r')) w' where
 rows j x hx:=by
  by_cases e:j=id
  ·subst e;rw [D1 (D7 hr)] at hx;cases hx;exact hrow
  ·rw [B7 (Ne.symm e)] at hx;exact (hi.rows j x hx).mono (Mu.le_refl _) rfl λy hy=>hb _ (Ne.symm (hi.sep id j r x (b,n) y hr hx jN (Ne.symm e) hμ hy))
 sep j j' x x' y y' hx hx' hxw Z5 hy hy':=by
  have get:∀ i z,rd (h.set id (A4 r')) i=A4 z->z.own=A5->∃ z',rd h i=A4 z'/\z'.own=A5:=by
   intro i z hz hzw;by_cases e:i=id
   ·subst e;exact ⟨r,hr,jN⟩
   ·rw [B7 (Ne.symm e)] at hz;exact ⟨z,hz,hzw⟩
  have get':∀ i z,rd (h.set id (A4 r')) i=A4 z->∃ z',rd h i=A4 z':=by
   intro i z hz;by_cases e:i=id
   ·subst e;exact ⟨r,hr⟩
   ·rw [B7 (Ne.symm e)] at hz;exact ⟨z,hz⟩
  obtain ⟨z,hz,hzw⟩:=get j x hx hxw;obtain ⟨z',hz'⟩:=get' j' x' hx';exact hi.sep j j' z z' y y' hz hz' hzw Z5 hy hy'
 own j x y hx hxw hy:=by
  by_cases e:j=id
  ·subst e;exact hi.own j r y hr jN hy
  ·rw [B7 (Ne.symm e)] at hx;exact hi.own j x y hx hxw hy
 dom j hj:=hi.dom j (by simpa using hj)
 ctx:=⟨hos.trans hi.ctx.os,htape.trans hi.ctx.tape,hout.trans hi.ctx.output,λb' o ho=>by
  have Z5:b'≠b:=by
   intro e;subst e;have:=hi.own id r (b',n) hr jN hμ;simp at this;rw [ho] at this;cases this
  rw [hb b' Z5];exact hi.ctx.block b' o ho⟩
def Inv.write {Γ:Ctx} {μ:Mu} {h:A9} {w w':World} (hi:Inv Γ μ h w) {id:Nat} {r:Row} {b n:Nat} {cs:List Cell} (hr:rd h id=A4 r) (jN:r.rw=A5) (hμ:μ id=A4 (b,n))
  (hos:w'.os=w.os) (htape:w'.tape=w.tape) (hout:w'.output=w.output) (hb:∀ b',b'≠b->w'.heap[b']?=w.heap[b']?)
  (hrow:RowOk μ w' id ⟨cs,A5⟩):Inv Γ μ (h.set id (A4 ⟨cs,A5⟩)) w' :=
 hi.turn hr (Row.own_rw jN) rfl hμ hos htape hout hb hrow
def iQ (P:Program) (t:TypeId):Option Bool :=
 match P.underlying t with
 | some (.struct _)=>A4 A5
 | some (.array _ _)=>A4 A5
 | some _=>A4 A6
 | none=>A7
def O2 (P:Program) (t:TypeId):Option Nat:=(P.info? t).map (·.size)
def B9U (P:Program) (t:TypeId):Option Nat:=(P.info? t).map (·.bytes)
def wG (P:Program) (t:TypeId):Option Value:=(P.info? t).bind (·.zero)
def sliceB (P:Program) (t:TypeId):Option TypeId:=match P.underlying t with | some (.slice e)=>A4 e | _=>A7
def nI (P:Program) (t:TypeId):Option (Nat × TypeId):=match P.underlying t with | some (.array n e)=>A4 (n,e) | _=>A7
def A18 (P:Program) (t:TypeId):Option (Array Field):=match P.underlying t with | some (.struct fs)=>A4 fs | _=>A7
def aP (P:Program) (t:TypeId):Bool:=match P.underlying t with | some .string=>A5 | _=>A6
def B1X (P:Program) (t:TypeId):Option IntKind:=match P.underlying t with | some (.int k)=>A4 k | _=>A7
section
variable {P:Program} {w:World} {t:TypeId}
def E6 {d:TypeDesc} (h:P.underlying t=A4 d):(underlying t).run P w=.ok d w:=by simp [underlying,h]
def M9 {n:Nat} (h:O2 P t=A4 n):(sizeOf t).run P w=.ok n w:=by
 unfold O2 at h;cases hi:P.info? t with
 | none=>simp [hi] at h
 | some i=>simp [hi] at h;simp [sizeOf,typeInfo,hi,h]
def D1E {n:Nat} (h:B9U P t=A4 n):∃ i:TypeInfo,(typeInfo t).run P w=.ok i w/\i.bytes=n:=by
 unfold B9U at h;cases hi:P.info? t with
 | none=>simp [hi] at h
 | some i=>simp [hi] at h;exact ⟨i,by simp [typeInfo,hi],h⟩
def wD {v:Value} (h:wG P t=A4 v):(zeroValue t).run P w=.ok v w:=by
 unfold wG at h;cases hi:P.info? t with
 | none=>simp [hi] at h
 | some i=>simp [hi] at h;simp [zeroValue,typeInfo,hi,h]
def A9I {b:Bool} (h:iQ P t=A4 b):(isAgg t).run P w=.ok b w:=by
 unfold iQ at h;cases hu:P.underlying t with
 | none=>simp [hu] at h
 | some d=>cases d<;>simp [hu] at h<;>subst h<;>simp [isAgg,E6 hu]
def M0 {e:TypeId} (h:sliceB P t=A4 e):P.underlying t=A4 (.slice e):=by
 unfold sliceB at h;cases hu:P.underlying t with
 | none=>simp [hu] at h
 | some d=>cases d<;>simp_all
def nJ {n:Nat} {e:TypeId} (h:nI P t=A4 (n,e)):P.underlying t=A4 (.array n e):=by
 unfold nI at h;cases hu:P.underlying t with
 | none=>simp [hu] at h
 | some d=>cases d<;>simp_all
def A19 {fs:Array Field} (h:A18 P t=A4 fs):P.underlying t=A4 (.struct fs):=by
 unfold A18 at h;cases hu:P.underlying t with
 | none=>simp [hu] at h
 | some d=>cases d<;>simp_all
def jL (h:aP P t=A5):P.underlying t=A4 .string:=by
 unfold aP at h;cases hu:P.underlying t with
 | none=>simp [hu] at h
 | some d=>cases d<;>simp_all
def A39 {k:IntKind} (h:B1X P t=A4 k):P.underlying t=A4 (.int k):=by
 unfold B1X at h;cases hu:P.underlying t with
 | none=>simp [hu] at h
 | some d=>cases d<;>simp_all
end
def B8H:Value->Cell->Bool
 | .bool b,.b x=>b==x
 | .int k n,.i k' n'=>decide (k=k')&&decide (n=n')
 | .string s,.s l=>decide (s.data.toList=l)
 | .slice A7 0 0,.ns=>A5
 | .nilFunc,.nf=>A5
 | .pointer A7,.np=>A5
 | .map A7,.nm=>A5
 | .func (.func f) _ cs,.f g l=>decide (f=g)&&l.isEmpty&&cs.isEmpty
 | _,_=>A6
def A0G:List Value->List Cell->Bool
 | [],[]=>A5
 | v::r,c::l=>B8H v c&&A0G r l
 | _,_=>A6
def B9Z:Value->Val->Bool
 | .agg vs,.a l=>A0G vs.toList l
 | .tuple vs,.un=>vs.isEmpty
 | v,.c x=>B8H v x
 | _,_=>A6
def tJ:Value->Bool
 | .func _ f _=>f.isEmpty
 | _=>A5
def D2z:Operand->Opd->Bool
 | .tmp t,.t n=>decide (t=n)
 | .const v,.v x=>B9Z v x&&tJ v
 | .func f,.v (.c (.f g []))=>decide (f=g)
 | _,_=>A6
def B9Y {μ:Mu} {v:Value} {c:Cell} (h:B8H v c=A5) (hf:tJ v=A5):RC μ c v:=by
 unfold B8H at h;split at h<;>simp_all [RC,tJ]
 all_goals first
  | (obtain ⟨s⟩:=‹ByteArray›;rename_i uR;simp [<-uR];done)
  | skip
 ·subst h;rfl
def C0X:Value->Bool
 | .func ..=>A6
 | _=>A5
def C19 {v:Value} (h:C0X v=A5):tJ v=A5:=by cases v<;>simp_all [C0X,tJ]
def A8c {μ:Mu}:∀ {vs:List Value} {l:List Cell},A0G vs l=A5->vs.all C0X=A5->All2 (RC μ) l vs
 | [],[],_,_=>trivial
 | v::r,c::l,h,hn=>by
  simp [A0G] at h;simp at hn;exact ⟨B9Y h.1 (C19 hn.1),A8c h.2 (by simpa using hn.2)⟩
 | [],_::_,h,_=>by simp [A0G] at h
 | _::_,[],h,_=>by simp [A0G] at h
def gT (v:Value) (l:List Cell):Bool:=A0G v.cells.toList l&&v.cells.toList.all C0X
def eQ {μ:Mu} {v:Value} {l:List Cell} (h:gT v l=A5):All2 (RC μ) l v.cells.toList:=by
 simp only [gT,D9v] at h;exact A8c h.1 h.2
def C2M:Value->Bool
 | .agg vs=>vs.toList.all C0X
 | _=>A5
def C5V {μ:Mu} {v:Value} {x:Val} (h:B9Z v x=A5) (hf:tJ v=A5) (ha:C2M v=A5):RV μ x v:=by
 unfold B9Z at h;split at h
 ·rename_i vs l;exact ⟨vs.toList,by simp,A8c h ha⟩
 ·trivial
 ·exact B9Y h hf
 ·cases h
def D6 (x:Operand) (y:Opd):Bool:=D2z x y&&(match x with | .const v=>C2M v | _=>A5)
def C5 {μ:Mu} {e:Env} {a:Act} {x:Operand} {y:Opd} (h:D6 x y=A5) (hs:SEnv μ e a):RV μ (e.ev y) (a.eval x):=by
 simp only [D6,D9v] at h;obtain ⟨h,ha⟩:=h;unfold D2z at h;split at h
 ·simp at h;subst h;exact hs _
 ·simp at h;exact C5V h.1 h.2 ha
 ·simp at h;subst h;exact ⟨[],rfl,trivial⟩
 ·cases h
def A1P:List Operand->List Opd->Bool
 | [],[]=>A5
 | x::r,y::l=>D6 x y&&A1P r l
 | _,_=>A6
def A5q {μ:Mu} {e:Env} {a:Act} (hs:SEnv μ e a):∀ {xs:List Operand} {ys:List Opd},A1P xs ys=A5->All2 (RV μ) (ys.map e.ev) (xs.map a.eval)
 | [],[],_=>trivial
 | x::r,y::l,h=>by simp [A1P] at h;exact ⟨C5 h.1 hs,A5q hs h.2⟩
 | [],_::_,h=>by simp [A1P] at h
 | _::_,[],h=>by simp [A1P] at h
def A8e:Option Operand->Option Opd->Bool
 | none,none=>A5
 | some x,A4 y=>D6 x y
 | _,_=>A6
section
variable {P:Program} {μ:Mu} {w:World}
def C5P:∀ (x y:List UInt8),Op.bytesLess x y=S5 x y
 | _,[]=>by cases ‹List UInt8› <;> rfl
 | [],_::_=>rfl
 | a::x,b::y=>by simp [Op.bytesLess,S5,C5P x y]
def D5C {op:BinOp} {xt:TypeId} {x y v:Val} {X Y:Value} (hx:RV μ x X) (hy:RV μ y Y) (h:K6 op x y=A4 v) :
  ∃ V,(binOp op xt X Y).run P w=.ok V w/\RV μ v V:=by
 unfold K6 at h;split at h
 ·rename_i k a k' b;have hX:X=.int k a:=hx;have hY:Y=.int k' b:=hy;subst hX hY;have key:∀ o,o≠BinOp.shl->o≠BinOp.shr->∀ v,(bif decide (k=k') then (A8C o k a b).map Val.c else A7)=A4 v->∃ V,(binOp o xt (.int k a) (.int k' b)).run P w=.ok V w/\RV μ v V:=by
   intro o h1 h2 v hv;by_cases hk:k=k'
   ·subst hk;simp at hv;obtain ⟨c,hc,rfl⟩:=hv;cases o<;>simp only [A8C] at hc<;>(try cases hc) <;>
     first
      | exact ⟨_,by simp [binOp,Op.intArith,Op.intBits,Op.intCmp],rfl⟩
      | (split at hc<;>cases hc;rename_i hb;exact ⟨_,by simp [binOp,Op.intDiv,hb],rfl⟩)
      | skip
   ·simp [hk] at hv
  split at h
  ·unfold D63 at h;split at h
   ·simp at h
   ·simp at h;subst h;rename_i hb;refine ⟨.int k (k.wrap (a*2 ^ (E0J b.toNat k.bits))),?_,rfl⟩;simp [binOp,Op.shift,hb,Nat.min_def]
  ·unfold D64 at h;split at h
   ·simp at h
   ·simp at h;subst h;rename_i hb;refine ⟨.int k (a.fdiv (2 ^ (E0J b.toNat k.bits))),?_,rfl⟩;simp [binOp,Op.shift,hb,Nat.min_def]
  ·rename_i h1 h2;exact key op h1 h2 v h
 ·rename_i a b;have hX:X=.string ⟨a.toArray⟩:=hx;have hY:Y=.string ⟨b.toArray⟩:=hy;subst hX hY;simp only [D9J] at h;obtain ⟨c,hc,rfl⟩:=h;cases op<;>simp only [D4d] at hc<;>(try cases hc)
  ·split at hc<;>cases hc
   rename_i hl;refine ⟨.string (⟨a.toArray⟩++⟨b.toArray⟩),?_,?_⟩
   ·have:¬ (((ByteArray.mk a.toArray).size+(ByteArray.mk b.toArray).size:Nat):Int) > IntKind.i64.max:=by
     show ¬ ((a.toArray.size+b.toArray.size:Nat):Int) > 9223372036854775807;simp;omega
    simp [binOp,Op.stringOp] at this ⊢;exact this
   ·show Value.string _=Value.string _
    congr 1
  all_goals exact ⟨_,rfl,by simp [RV,RC,ByteArray.toList_mk,C5P]⟩
 ·cases h
def C4H (P:Program) (fn:Bool) (t:TypeId) (c:Value):Bool :=
 match fn,P.underlying t,c with
 | true,A4 (.func ..),.nilFunc=>A5
 | false,A4 (.pointer _),.pointer none=>A5
 | _,_,_=>A6
def D09 {fn:Bool} {t:TypeId} {c:Value} (h:C4H P fn t c=A5):(fn=A5/\(∃ a b d,P.underlying t=A4 (.func a b d))/\c=.nilFunc)\/(fn=A6/\(∃ a,P.underlying t=A4 (.pointer a))/\c=.pointer A7):=by
 unfold C4H at h;split at h
 ·rename_i h2;exact .inl ⟨rfl,⟨_,_,_,h2⟩,rfl⟩
 ·rename_i h2;exact .inr ⟨rfl,⟨_,h2⟩,rfl⟩
 ·cases h
def C0i {xt:TypeId} {a b:Bool} (hu:P.underlying xt=A4 .bool):(Op.equal xt (.bool a) (.bool b)).run P w=.ok (a==b) w:=by
 unfold Op.equal;rw [show Op.maxDepth=9999+1 from rfl];unfold Op.equalIn;simp only [Sem.run_bind,E6 hu,Result.andThen_ok];rfl
def D5F {neg:Bool} {xt:TypeId} {x y v:Val} {X Y:Value} (hu:P.underlying xt=A4 .bool) (hx:RV μ x X) (hy:RV μ y Y) (h:C7U neg x y=A4 v) :
  ∃ V,(binOp (bif neg then .neq else .eql) xt X Y).run P w=.ok V w/\RV μ v V:=by
 unfold C7U at h;split at h
 ·rename_i a b;have hX:X=.bool a:=hx;have hY:Y=.bool b:=hy;subst hX hY;cases h;cases neg
  ·exact ⟨_,by show (Op.equal xt (.bool a) (.bool b) >>= λr=>pure (Value.bool r)).run P w=_;rw [Sem.run_bind,C0i hu];rfl,rfl⟩
  ·exact ⟨_,by show (Op.equal xt (.bool a) (.bool b) >>= λr=>pure (Value.bool !r)).run P w=_;rw [Sem.run_bind,C0i hu];rfl,rfl⟩
 ·cases h
def D5G {fn neg:Bool} {xt:TypeId} {x v:Val} {X c:Value} (hu:C4H P fn xt c=A5) (hx:RV μ x X) (h:C4f fn neg x=A4 v) :
  ∃ V,(binOp (bif neg then .neq else .eql) xt X c).run P w=.ok V w/\RV μ v V:=by
 unfold C4f at h;have one:∀ (r:Bool),(binOp (bif neg then .neq else .eql) xt X c=(Op.equal xt X c >>= λr=>pure (Value.bool (bif neg then !r else r))))->(Op.equal xt X c).run P w=.ok r w->(binOp (bif neg then .neq else .eql) xt X c).run P w=.ok (.bool (bif neg then !r else r)) w:=by
  intro r e1 he;rw [e1,Sem.run_bind,he];rfl
 rcases D09 hu with ⟨rfl,⟨a,b,d,h2⟩,rfl⟩ | ⟨rfl,⟨a,h2⟩,rfl⟩
 ·have eq:∀ (r:Bool),((X=.nilFunc/\r=A5)\/(∃ g cs,X=.func (.func g) #[] cs/\r=A6))->(Op.equal xt X .nilFunc).run P w=.ok r w:=by
   intro r h;unfold Op.equal;rw [show Op.maxDepth=9999+1 from rfl];unfold Op.equalIn;rcases h with ⟨rfl,rfl⟩ | ⟨g,cs,rfl,rfl⟩<;>simp only [Sem.run_bind,E6 h2,Result.andThen_ok]<;>rfl
  split at h
  ·cases h;have hX:X=.nilFunc:=hx;subst hX;exact ⟨_,one A5 (by cases neg<;>rfl) (eq A5 (.inl ⟨rfl,rfl⟩)),by cases neg<;>rfl⟩
  ·cases h;obtain ⟨cs,hX,_⟩:=hx;subst hX;exact ⟨_,one A6 (by cases neg<;>rfl) (eq A6 (.inr ⟨_,_,rfl,rfl⟩)),by cases neg<;>rfl⟩
  ·rename_i h3;cases h3
  ·rename_i h3;cases h3
  ·cases h
 ·have eq:∀ (r:Bool),((X=.pointer A7/\r=A5)\/(∃ q,X=.pointer (A4 q)/\r=A6))->(Op.equal xt X (.pointer A7)).run P w=.ok r w:=by
   intro r h;unfold Op.equal;rw [show Op.maxDepth=9999+1 from rfl];unfold Op.equalIn;rcases h with ⟨rfl,rfl⟩ | ⟨q,rfl,rfl⟩<;>simp only [Sem.run_bind,E6 h2,Result.andThen_ok]<;>rfl
  split at h
  ·rename_i h3;cases h3
  ·rename_i h3;cases h3
  ·cases h;have hX:X=.pointer A7:=hx;subst hX;exact ⟨_,one A5 (by cases neg<;>rfl) (eq A5 (.inl ⟨rfl,rfl⟩)),by cases neg<;>rfl⟩
  ·cases h;obtain ⟨b,n,_,hX⟩:=hx;subst hX;exact ⟨_,one A6 (by cases neg<;>rfl) (eq A6 (.inr ⟨_,rfl,rfl⟩)),by cases neg<;>rfl⟩
  ·cases h
def D7p {op:UnOp} {x v:Val} {X:Value} (hx:RV μ x X) (h:aun op x=A4 v):∃ V,(Op.unary op X).run P w=.ok V w/\RV μ v V:=by
 unfold aun at h;split at h<;>cases h<;>cases hx<;>exact ⟨_,rfl,rfl⟩
def iP (b off k:Nat):(⟨b,off,A7⟩:Addr).add k=⟨b,off+k,A7⟩:=by
 unfold Addr.add;split<;>simp_all
def C3F {t:TypeId} {hp:A9} {a v:Val} {A:Value} (mO:iQ P t=A4 A6) (hrow:∀ id r,rd hp id=A4 r->RowOk μ w id r)
  (ha:RV μ a A) (h:B8 hp a=A4 v):∃ V,(Instr.loadAt t A).run P w=.ok V w/\RV μ v V:=by
 unfold B8 at h;split at h
 ·rename_i id off;obtain ⟨b,n,hm,rfl⟩:=ha;simp only [D9t] at h;obtain ⟨r,hr,c,hc,h⟩:=h;cases hx:(r.rw || !c.isX) with
  | false=>rw [hx] at h;cases h
  | true =>
  rw [hx] at h;cases h;obtain ⟨V,hV,hR⟩:=(hrow id r hr).cell hm hc hx;refine ⟨V,?_,hR⟩;simp [Instr.loadAt,Instr.sureAddr,loadVar,A9I mO,hV]
 ·cases h
def C3G {t:TypeId} {hp:A9} {a v:Val} {A:Value} {k:Nat} (mO:iQ P t=A4 A5) (hsz:O2 P t=A4 k) (hrow:∀ id r,rd hp id=A4 r->RowOk μ w id r)
  (ha:RV μ a A) (h:D3 hp k a=A4 v):∃ V,(Instr.loadAt t A).run P w=.ok V w/\RV μ v V:=by
 unfold D3 at h;split at h
 ·rename_i id off;obtain ⟨b,n,hm,rfl⟩:=ha;simp only [D9t] at h;obtain ⟨r,hr,h⟩:=h;split at h
  ·cases h;rename_i hk;obtain ⟨vs,h1,h2,h3⟩:=(hrow id r hr).cells hm off k hk.1 hk.2;refine ⟨.agg vs.toArray,?_,vs,rfl,h1⟩;have hl:=run_loadCells_list (P:=P) w ⟨b,off,A7⟩ vs (λj v hv=>by rw [iP];exact h3 j v hv);rw [h2] at hl;simp [Instr.loadAt,Instr.sureAddr,loadVar,A9I mO,M9 hsz,hl]
  ·cases h
 ·cases h
def A3f (b:Nat):∀ (vs:List Value) (o:Nat) (w:World) (C:Array Value) (t:TypeId) (fz:Nat × Nat),w.heap[b]?=A4 (.cells C t fz)->o+vs.length<=C.size ->
  ∃ C':Array Value,(w.setCells b o vs).heap[b]?=A4 (.cells C' t fz)/\C'.toList=C.toList.take o++(vs++C.toList.drop (o+vs.length))
 | [],o,w,C,t,fz,h,hl=>⟨C,h,by simp⟩
 | v::r,o,w,C,t,fz,h,hl=>by
  simp only [D9G] at hl;have h1:(w.setCell ⟨b,o,A7⟩ v).heap[b]?=A4 (.cells (C.setIfInBounds o v) t fz):=by
   simp only [World.setCell,Array.getElem?_modify,if_true,h,E0b];simp
  obtain ⟨C',h2,h3⟩:=A3f b r (o+1) (w.setCell ⟨b,o,A7⟩ v) (C.setIfInBounds o v) t fz h1 (by simp;omega);refine ⟨C',h2,?_⟩;rw [h3];have ho:o<C.toList.length:=by simp;omega
  simp only [Array.toList_setIfInBounds];rw [List.drop_set_of_lt (by omega),D9G,show o+1+r.length=o+(r.length+1) by omega];rw [List.take_set,List.take_add_one,List.set_append];have hm:min o C.size=o:=E0F (by simp at ho;omega);simp [D9u ho,hm]
def A03 (b:Nat):∀ (vs:List Value) (o:Nat) (w:World) (b':Nat),b'≠b->(w.setCells b o vs).heap[b']?=w.heap[b']?
 | [],_,_,_,_=>rfl
 | v::r,o,w,b',h=>by
  rw [World.setCells,A03 b r (o+1) _ b' h];simp [World.setCell,Array.getElem?_modify,Ne.symm h]
def A9a (b:Nat):∀ (vs:List Value) (o:Nat) (w:World),(w.setCells b o vs).os=w.os/\(w.setCells b o vs).tape=w.tape/\(w.setCells b o vs).output=w.output
 | [],_,_=>⟨rfl,rfl,rfl⟩
 | v::r,o,w=>by rw [World.setCells];exact A9a b r (o+1) _
def All2.lay {μ:Mu} {cs xs:List Cell} {off:Nat} {Cs vs:List Value} (h:All2 (RC μ) cs (Cs.take cs.length)) (hx:All2 (RC μ) xs vs) (hl:off+xs.length<=cs.length) :
  All2 (RC μ) (lay cs off xs) ((Cs.take off++(vs++Cs.drop (off+vs.length))).take (lay cs off xs).length):=by
 have hlen:=h.length;have hxl:=hx.length;have hL:(Esc.lay cs off xs).length=cs.length:=by simp [Esc.lay];omega
 rw [hL];have e:(Cs.take off++(vs++Cs.drop (off+vs.length))).take cs.length=(Cs.take cs.length).take off++(vs++(Cs.take cs.length).drop (off+vs.length)):=by
  have h1:cs.length<=Cs.length:=by simp at hlen;omega
  rw [List.take_append,List.take_append,List.take_take,List.take_take,D91,List.drop_take,E0F (by omega:off<=cs.length),Nat.min_eq_right (by omega:off<=cs.length),E0F (by omega:off<=Cs.length)];rw [D9M (by omega:vs.length<=cs.length-off)]
  congr 3
  omega
 rw [e];unfold Esc.lay;rw [<-hxl];exact (h.take off).append (hx.append (h.drop _))
def C1r {Γ:Ctx} {h:A9} {id off b n:Nat} {r:Row} {xs:List Cell} {vs:List Value} (hi:Inv Γ μ h w) (hr:rd h id=A4 r) (jN:r.rw=A5) (hm:μ id=A4 (b,n))
  (hx:All2 (RC μ) xs vs) (hl:off+xs.length<=r.cells.length) :
  (storeCells ⟨b,off,A7⟩ vs).run P w=.ok () (w.setCells b off vs)/\Inv Γ μ (h.set id (A4 ⟨lay r.cells off xs,A5⟩)) (w.setCells b off vs):=by
 obtain ⟨C,elem,fz,h1,h2,h3,h4⟩:=(hi.rows id r hr).mem hm jN
 replace h3:=RL.all h3 (by rw [jN];rfl)
 have hlen:=h3.length;have hxl:=hx.length;simp at hlen;have A35:∀ j,j<vs.length->(w.cell? ⟨b,off+0+j,A7⟩).isSome=A5:=by
  intro j hj;simp only [World.cell?,h1];simp;omega
 have hfz:∀ j,j<vs.length->w.frozen? ⟨b,off+0+j,A7⟩=A6:=by
  intro j hj;simp only [World.frozen?,h1];obtain ⟨lo,hi'⟩:=fz;rcases h4 jN with h4 | h4<;>simp at h4 ⊢ <;> omega
 have h1c:∀ v∈vs,v.oneCell'=A5:=by
  intro v hv;obtain ⟨i,T1,rfl⟩:=List.getElem_of_mem hv;have:i<xs.length:=by omega
  obtain ⟨V,hV,hR⟩:=hx.get i xs[i] (by simp [this]);rw [D9u T1] at hV;cases hV;exact hR.one
 refine ⟨by simpa using run_storeCells_cells (P:=P) b off vs 0 w A35 hfz h1c,?_⟩;obtain ⟨C',h5,h6⟩:=A3f b vs off w C elem fz h1 (by omega);obtain ⟨ho,ht,hou⟩:=A9a b vs off w;refine hi.write hr jN hm ho ht hou (λb' hb=>A03 b vs off w b' hb) ?_;unfold RowOk;rw [hm];refine .inl ⟨C',elem,fz,h5,?_,?_,λ_=>h4 jN⟩
 ·have:=congrArg List.length h6;simp at this;omega
 ·rw [h6];exact (All2.lay h3 hx hl).mono λ_ _=>.inl
def C88 {Γ:Ctx} {t:TypeId} {h h':A9} {a x:Val} {A X:Value} (hsz:O2 P t=A4 1) (hi:Inv Γ μ h w) (ha:RV μ a A) (hx:RV μ x X) (hh:H1 h a x=A4 h') :
  ∃ w',(Instr.storeAt t A X).run P w=.ok () w'/\Inv Γ μ h' w':=by
 unfold H1 at hh;split at hh
 ·rename_i id off c;obtain ⟨b,n,hm,rfl⟩:=ha;simp only [D9t] at hh;obtain ⟨r,hr,hh⟩:=hh;split at hh
  ·cases hh;rename_i hc;have B3C:X.cells = #[X]:=RC.cells hx;have:=C1r (P:=P) hi hr hc.1 hm (off:=off) (xs:=[c]) (vs:=[X]) ⟨hx,trivial⟩ (by simp;omega);refine ⟨w.setCells b off [X],?_,?_⟩
   ·simp [Instr.storeAt,Instr.sureAddr,storeVar,B3C,M9 hsz,this.1]
   ·have e:lay r.cells off [c]=r.cells.set off c:=by
     simp [lay,List.set_eq_take_append_cons_drop,hc.2]
    rw [<-e];exact this.2
  ·cases hh
 ·cases hh
def C89 {Γ:Ctx} {t:TypeId} {h h':A9} {a x:Val} {A X:Value} {k:Nat} (hsz:O2 P t=A4 k) (hi:Inv Γ μ h w) (ha:RV μ a A) (hx:RV μ x X) (hh:E9 h k a x=A4 h') :
  ∃ w',(Instr.storeAt t A X).run P w=.ok () w'/\Inv Γ μ h' w':=by
 unfold E9 at hh;split at hh
 ·rename_i id off xs;obtain ⟨b,n,hm,rfl⟩:=ha;obtain ⟨vs,rfl,hvs⟩:=hx;simp only [D9t] at hh;obtain ⟨r,hr,hh⟩:=hh;split at hh
  ·cases hh;rename_i hc;have:=C1r (P:=P) hi hr hc.1 hm (off:=off) hvs (by omega);refine ⟨w.setCells b off vs,?_,this.2⟩;have hl:=hvs.length;have hk:vs.length=k:=by omega
   simp [Instr.storeAt,Instr.sureAddr,storeVar,Value.cells,M9 hsz,hk,this.1]
  ·cases hh
 ·cases hh
end
section
variable {P:Program} {μ:Mu} {w:World}
def D5H {x v:Val} {X:Value} {k:Nat} (hx:RV μ x X) (h:D2e x k=A4 v):∃ V,(Instr.extract X k).run P w=.ok V w/\RV μ v V:=by
 unfold D2e at h;split at h
 ·rename_i l;obtain ⟨vs,rfl,hvs⟩:=hx;simp only [D9J] at h;obtain ⟨p,hp,rfl⟩:=h;obtain ⟨V,hV,hR⟩:=hvs.get k p hp;exact ⟨V,by simp [Instr.extract,hV],RV.ofPart hR⟩
 ·cases h
def C3H {t:TypeId} {l:List Cell} {vs:List Value} {off:Nat} {c:Cell} (mO:iQ P t=A4 A6) (hvs:All2 (RC μ) l vs) (h:l[off]?=A4 c) :
  ∃ V,(part t vs.toArray off).run P w=.ok V w/\RC μ c V:=by
 obtain ⟨V,hV,hR⟩:=hvs.get off c h;exact ⟨V,by simp [part,A9I mO,hV],hR⟩
def C3I {t:TypeId} {l:List Cell} {vs:List Value} {off n:Nat} (mO:iQ P t=A4 A5) (hsz:O2 P t=A4 n) (hvs:All2 (RC μ) l vs) (h:off+n<=l.length) :
  ∃ V,(part t vs.toArray off).run P w=.ok V w/\RV μ (.a ((l.drop off).take n)) V:=by
 refine ⟨.agg (vs.toArray.extract off (off+n)),by simp [part,A9I mO,M9 hsz],(vs.drop off).take n,?_,(hvs.drop off).take n⟩
 congr 1
 apply Array.ext';simp [List.take_drop]
def D34 {s:TypeId} {fs:Array Field} {f:Field} {j:Nat} {x v:Val} {X:Value} (hs:A18 P s=A4 fs) (hf:fs[j]?=A4 f) (mO:iQ P f.type=A4 A6)
  (hx:RV μ x X) (h:B3g x f.offset=A4 v):∃ V,(Instr.field s X j).run P w=.ok V w/\RV μ v V:=by
 unfold B3g at h;split at h
 ·rename_i l;obtain ⟨vs,rfl,hvs⟩:=hx;simp only [D9J] at h;obtain ⟨c,hc,rfl⟩:=h;obtain ⟨V,hV,hR⟩:=C3H (P:=P) (w:=w) mO hvs hc;exact ⟨V,by simp [Instr.field,E6 (A19 hs),hf,asAgg,hV],hR⟩
 ·cases h
def D35 {s:TypeId} {fs:Array Field} {f:Field} {j n:Nat} {x v:Val} {X:Value} (hs:A18 P s=A4 fs) (hf:fs[j]?=A4 f) (mO:iQ P f.type=A4 A5) (hsz:O2 P f.type=A4 n)
  (hx:RV μ x X) (h:C9t x f.offset n=A4 v):∃ V,(Instr.field s X j).run P w=.ok V w/\RV μ v V:=by
 unfold C9t at h;split at h
 ·rename_i l;obtain ⟨vs,rfl,hvs⟩:=hx;split at h
  ·cases h;rename_i hl;obtain ⟨V,hV,hR⟩:=C3I (P:=P) (w:=w) mO hsz hvs hl;exact ⟨V,by simp [Instr.field,E6 (A19 hs),hf,asAgg,hV],hR⟩
  ·cases h
 ·cases h
def D1H {t e:TypeId} {n:Nat} {x i v:Val} {X I:Value} (ha:nI P t=A4 (n,e)) (mO:iQ P e=A4 A6) (hsz:O2 P e=A4 1)
  (hx:RV μ x X) (hi:RV μ i I) (h:A2U n x i=A4 v):∃ V,(Instr.index t X I).run P w=.ok V w/\RV μ v V:=by
 unfold A2U at h;split at h
 ·rename_i l k j;obtain ⟨vs,rfl,hvs⟩:=hx;have hI:I=.int k j:=hi;subst hI;split at h
  ·rename_i hj;simp only [D9J] at h;obtain ⟨c,hc,rfl⟩:=h;obtain ⟨V,hV,hR⟩:=C3H (P:=P) (w:=w) mO hvs hc;exact ⟨V,by simp [Instr.index,E6 (nJ ha),asIntOf,hj,M9 hsz,hV],hR⟩
  ·cases h
 ·cases h
def D1I {t e:TypeId} {n sz:Nat} {x i v:Val} {X I:Value} (ha:nI P t=A4 (n,e)) (mO:iQ P e=A4 A5) (hsz:O2 P e=A4 sz)
  (hx:RV μ x X) (hi:RV μ i I) (h:C4g n sz x i=A4 v):∃ V,(Instr.index t X I).run P w=.ok V w/\RV μ v V:=by
 unfold C4g at h;split at h
 ·rename_i l k j;obtain ⟨vs,rfl,hvs⟩:=hx;have hI:I=.int k j:=hi;subst hI;split at h
  ·rename_i hj;cases h;obtain ⟨V,hV,hR⟩:=C3I (P:=P) (w:=w) mO hsz hvs hj.2.2;exact ⟨V,by simp [Instr.index,E6 (nJ ha),asIntOf,hj.1,hj.2.1,M9 hsz,hV],hR⟩
  ·cases h
 ·cases h
def D36 {t:TypeId} {x i v:Val} {X I:Value} (ht:aP P t=A5) (hx:RV μ x X) (hi:RV μ i I) (h:B9L x i=A4 v) :
  ∃ V,(Instr.index t X I).run P w=.ok V w/\RV μ v V:=by
 unfold B9L at h;split at h
 ·rename_i s k j;have hX:X=.string ⟨s.toArray⟩:=hx;have hI:I=.int k j:=hi;subst hX hI;split at h
  ·rename_i hj;simp only [D9J] at h;obtain ⟨b,hb,rfl⟩:=h;refine ⟨.int .u8 b.toNat,?_,rfl⟩;have:(ByteArray.mk s.toArray)[j.toNat]?=A4 b:=by
    have T1:=(List.getElem?_eq_some_iff.1 hb).1;have hsz:j.toNat<(ByteArray.mk s.toArray).size:=by show j.toNat<s.toArray.size;simpa using T1
    rw [D9u T1] at hb;cases hb;rw [getElem?_pos (ByteArray.mk s.toArray) j.toNat hsz];rfl
   simp [Instr.index,E6 (jL ht),asIntOf,hj,this]
  ·cases h
 ·cases h
def D1G {s:TypeId} {fs:Array Field} {f:Field} {j n off:Nat} {x v:Val} {X:Value} (hs:A18 P s=A4 fs) (hf:fs[j]?=A4 f) (hsz:O2 P f.type=A4 n) (hn:n≠0) (ho:f.offset=off)
  (hx:RV μ x X) (h:V8 x off=A4 v):∃ V,(Instr.fieldAt s X j).run P w=.ok V w/\RV μ v V:=by
 unfold V8 at h;split at h
 ·rename_i id o;obtain ⟨b,m,hm,rfl⟩:=hx;cases h;refine ⟨.pointer (A4 ⟨b,o+off,A7⟩),?_,b,m,hm,rfl⟩;simp [Instr.fieldAt,Instr.sureAddr,E6 (A19 hs),hf,fieldPlace,M9 hsz,hn,iP,ho]
 ·cases h
def C86 {t e:TypeId} {n sz:Nat} {x i v:Val} {X I:Value} (ha:nI P t=A4 (n,e)) (hsz:O2 P e=A4 sz) (hx:RV μ x X) (hi:RV μ i I) (h:I5 n sz x i=A4 v) :
  ∃ V,(Instr.indexAt t X I).run P w=.ok V w/\RV μ v V:=by
 unfold I5 at h;split at h
 ·rename_i id o k j;obtain ⟨b,m,hm,rfl⟩:=hx;have hI:I=.int k j:=hi;subst hI;split at h
  ·rename_i hj;cases h;refine ⟨.pointer (A4 ⟨b,o+j.toNat*sz,A7⟩),?_,b,m,hm,rfl⟩;simp [Instr.indexAt,Instr.sureAddr,asIntOf,E6 (nJ ha),M9 hsz,hj,iP]
  ·cases h
 ·cases h
def C87 {t e:TypeId} {sz:Nat} {x i v:Val} {X I:Value} (ha:sliceB P t=A4 e) (hsz:O2 P e=A4 sz) (hx:RV μ x X) (hi:RV μ i I) (h:E5 sz x i=A4 v) :
  ∃ V,(Instr.indexAt t X I).run P w=.ok V w/\RV μ v V:=by
 unfold E5 at h;split at h
 ·rename_i id o len sz' k j;have hI:I=.int k j:=hi;subst hI;split at h
  ·rename_i hj;cases h;rcases hx with ⟨b,m,cap,hm,_,_,rfl⟩ | ⟨h0,_⟩
   ·refine ⟨.pointer (A4 ⟨b,o+j.toNat*sz,A7⟩),?_,b,m,hm,rfl⟩;simp [Instr.indexAt,asIntOf,E6 (M0 ha),M9 hsz,hj,iP]
   ·omega
  ·cases h
 ·cases h
def D38 {t:TypeId} {x v:Val} {X:Value} {ty:TypeId} (ht:aP P t=A5) (hx:RV μ x X) (h:C5A x=A4 v):∃ V,(Builtin.len_ #[t] ty #[X]).run P w=.ok V w/\RV μ v V:=by
 unfold C5A at h;split at h<;>cases h
 rename_i s;have hX:X=.string ⟨s.toArray⟩:=hx;subst hX;refine ⟨.int .i64 s.length,?_,rfl⟩;simp [Builtin.len_,E6 (jL ht),goInt];show ((s.toArray.size:Nat):Int)=_;simp
def D5I {t e:TypeId} {x v:Val} {X:Value} {ty:TypeId} (he:sliceB P t=A4 e) (hx:RV μ x X) (h:C1Y x=A4 v):∃ V,(Builtin.len_ #[t] ty #[X]).run P w=.ok V w/\RV μ v V:=by
 unfold C1Y at h;split at h<;>cases h
 ·rcases hx with ⟨b,m,cap,hm,_,_,rfl⟩ | ⟨h0,a,rfl⟩
  ·exact ⟨_,by simp [Builtin.len_,E6 (M0 he),goInt],rfl⟩
  ·subst h0;exact ⟨_,by simp [Builtin.len_,E6 (M0 he),goInt],rfl⟩
 ·cases hx;exact ⟨_,by simp [Builtin.len_,E6 (M0 he),goInt],rfl⟩
def D5J {at_:Array TypeId} {ty:TypeId} {x y v:Val} {X Y:Value} (hx:RV μ x X) (hy:RV μ y Y) (h:B8k x y=A4 v):∃ V,(Builtin.max_ at_ ty #[X,Y]).run P w=.ok V w/\RV μ v V:=by
 unfold B8k at h;split at h<;>cases h
 cases hx;cases hy;exact ⟨_,rfl,rfl⟩
def D5K {at_:Array TypeId} {ty:TypeId} {x y v:Val} {X Y:Value} (hx:RV μ x X) (hy:RV μ y Y) (h:A90 x y=A4 v):∃ V,(Builtin.min_ at_ ty #[X,Y]).run P w=.ok V w/\RV μ v V:=by
 unfold A90 at h;split at h<;>cases h
 cases hx;cases hy;exact ⟨_,rfl,rfl⟩
def D32 {s d:TypeId} {k ks:IntKind} {x v:Val} {X:Value} (hs:B1X P s=A4 ks) (hd:B1X P d=A4 k) (hx:RV μ x X) (h:C5x k x=A4 v) :
  ∃ V,(convert s d X).run P w=.ok V w/\RV μ v V:=by
 unfold C5x at h;split at h<;>cases h
 cases hx;exact ⟨_,by simp [convert,E6 (A39 hs),E6 (A39 hd),Conv.intToInt],rfl⟩
def D1F {s d:TypeId} {x v:Val} {X:Value} (hs:aP P s=A5) (hd:aP P d=A5) (hx:RV μ x X) (h:C4e x=A4 v) :
  ∃ V,(convert s d X).run P w=.ok V w/\RV μ v V:=by
 unfold C4e at h;split at h<;>cases h
 cases hx;exact ⟨_,by simp [convert,E6 (jL hs),E6 (jL hd)],rfl⟩
def C3E {o:Option Val} {O:Option Value} {d n y:Nat} {code:BoundsCode} (hO:match o,O with | none,none=>True | some v,A4 V=>RV μ v V | _,_=>False) (hb:bound o d=A4 n) (hn:n<=y) :
  (match O with | some v=>Instr.sliceBound v y code | none=>(pure d:Sem Nat)).run P w=.ok n w:=by
 unfold bound at hb;cases o with
 | none =>
  cases O with
  | none=>simp at hb;subst hb;rfl
  | some _=>exact hO.elim
 | some v =>
  cases O with
  | none=>exact hO.elim
  | some V =>
   simp only at hO hb;split at hb
   ·rename_i uR;cases uR
   ·rename_i k j uR;cases uR;cases hO;split at hb
    ·cases hb;rename_i hj;simp [Instr.sliceBound,asIntOf,hj];omega
    ·cases hb
   ·cases hb
def C30 (μ:Mu):Option Val->Option Value->Prop
 | none,none=>True
 | some v,A4 V=>RV μ v V
 | _,_=>False
def A02 {isSl:Bool} {len cap l h:Nat} {lo hi:Option Val} {Lo Hi:Option Value} (hlo:C30 μ lo Lo) (hhi:C30 μ hi Hi) (bl:bound lo 0=A4 l) (bh:bound hi len=A4 h)
  (h1:l<=h) (h2:h<=cap):(Instr.sliceBounds isSl len cap Lo Hi A7).run P w=.ok (l,h,cap) w:=by
 unfold Instr.sliceBounds;have e1:=λcode=>C3E (P:=P) (w:=w) (μ:=μ) (o:=lo) (O:=Lo) (d:=0) (n:=l) (y:=h) (code:=code) (by cases lo<;>cases Lo<;>exact hlo) bl h1
 have e2:=λcode=>C3E (P:=P) (w:=w) (μ:=μ) (o:=hi) (O:=Hi) (d:=len) (n:=h) (y:=cap) (code:=code) (by cases hi<;>cases Hi<;>exact hhi) bh h2
 cases Hi with
 | none =>
  cases Lo with
  | none=>simp at e1 e2 ⊢;exact ⟨e1,e2⟩
  | some L =>
   simp at e1 e2 ⊢;subst e2;rw [e1 .sliceB];rfl
 | some H =>
  cases Lo with
  | none=>simp at e1 e2 ⊢;rw [e2];simp [e1]
  | some L =>
   simp at e1 e2 ⊢;rw [e2];simp [e1 .sliceB]
def D5O {t:TypeId} {x v:Val} {lo hi:Option Val} {X:Value} {Lo Hi:Option Value} (ht:aP P t=A5) (hx:RV μ x X) (hlo:C30 μ lo Lo) (hhi:C30 μ hi Hi) (h:D4N x lo hi=A4 v) :
  ∃ V,(Instr.sliceAt t X Lo Hi A7).run P w=.ok V w/\RV μ v V:=by
 unfold D4N at h;split at h
 ·rename_i s;have hX:X=.string ⟨s.toArray⟩:=hx;subst hX;simp only [D9t] at h;obtain ⟨l,bl,hh,bh,h⟩:=h;split at h
  ·cases h;rename_i hc;have hsz:(ByteArray.mk s.toArray).size=s.length:=by show s.toArray.size=_;simp
   have:=A02 (P:=P) (w:=w) (μ:=μ) (isSl:=A6) hlo hhi bl bh hc.1 hc.2;refine ⟨.string ((ByteArray.mk s.toArray).extract l hh),?_,?_⟩
   ·simp [Instr.sliceAt,Instr.slice,E6 (jL ht),hsz,this]
   ·show Value.string _=Value.string _
    congr 1
    apply ByteArray.ext;apply Array.ext';simp [List.drop_take]
  ·cases h
 ·cases h
def D5N {t e:TypeId} {sz:Nat} {x v:Val} {lo hi:Option Val} {X:Value} {Lo Hi:Option Value} (ht:sliceB P t=A4 e) (hsz:O2 P e=A4 sz) (hx:RV μ x X) (hlo:C30 μ lo Lo) (hhi:C30 μ hi Hi)
  (h:D0A sz x lo hi=A4 v):∃ V,(Instr.sliceAt t X Lo Hi A7).run P w=.ok V w/\RV μ v V:=by
 unfold D0A at h;split at h
 ·rename_i id off len sz';simp only [D9t] at h;obtain ⟨l,bl,hh,bh,h⟩:=h;split at h
  ·cases h;rename_i hc;obtain ⟨hc1,hc2,rfl⟩:=hc;rcases hx with ⟨b,m,cap,hm,hlc,B3A,rfl⟩ | ⟨h0,a,rfl⟩
   ·have:=A02 (P:=P) (w:=w) (μ:=μ) (isSl:=A5) hlo hhi bl bh hc1 (by omega:hh<=cap);by_cases nQ:cap=l
    ·subst nQ;refine ⟨.slice (A4 ⟨b,off,A7⟩) (hh-cap) (cap-cap),by simp [Instr.sliceAt,Instr.slice,E6 (M0 ht),this,M9 hsz],.inr ?_⟩;have h1:hh-cap=0:=by omega
     exact ⟨h1,A4 ⟨b,off,A7⟩,by rw [h1,show cap-cap=0 by omega]⟩
    ·refine ⟨.slice (A4 ⟨b,off+l*sz,A7⟩) (hh-l) (cap-l),by simp [Instr.sliceAt,Instr.slice,E6 (M0 ht),this,M9 hsz,nQ,iP],.inl ⟨b,m,cap-l,hm,by omega,?_,rfl⟩⟩;have:l*sz+(cap-l)*sz=cap*sz:=by rw [<-E0A];congr 1;omega
     omega
   ·have:=A02 (P:=P) (w:=w) (μ:=μ) (isSl:=A5) (cap:=0) hlo hhi bl bh hc1 (by omega);have h1:hh=0:=by omega
    have h2:l=0:=by omega
    subst h0 h1 h2;exact ⟨.slice a 0 0,by simp [Instr.sliceAt,Instr.slice,E6 (M0 ht),this,M9 hsz],.inr ⟨rfl,a,rfl⟩⟩
  ·cases h
 ·simp only [D9t] at h;obtain ⟨l,bl,hh,bh,h⟩:=h;split at h
  ·cases h;rename_i hc;obtain ⟨rfl,rfl⟩:=hc;cases hx;have:=A02 (P:=P) (w:=w) (μ:=μ) (isSl:=A5) (cap:=0) hlo hhi bl bh (D9x _) (D9x _);exact ⟨.slice A7 0 0,by simp [Instr.sliceAt,Instr.slice,E6 (M0 ht),this,M9 hsz],rfl⟩
  ·cases h
 ·cases h
def D5M {t e:TypeId} {n sz:Nat} {hp:A9} {x v:Val} {lo hi:Option Val} {X:Value} {Lo Hi:Option Value} (ht:nI P t=A4 (n,e)) (hsz:O2 P e=A4 sz)
  (hrow:∀ id r,rd hp id=A4 r->RowOk μ w id r) (hx:RV μ x X) (hlo:C30 μ lo Lo) (hhi:C30 μ hi Hi) (h:C4j hp n sz x lo hi=A4 v) :
  ∃ V,(Instr.sliceAt t X Lo Hi A7).run P w=.ok V w/\RV μ v V:=by
 unfold C4j at h;split at h
 ·rename_i id off;obtain ⟨b,m,hm,rfl⟩:=hx;simp only [D9t] at h;obtain ⟨r,hr,l,bl,hh,bh,h⟩:=h;split at h
  ·cases h;rename_i hc;simp at hm;obtain ⟨hc1,hc2,hc3,hc4⟩:=hc;have hc:l<=hh/\hh<=n/\off+n*sz<=r.cells.length:=⟨hc1,hc2,hc3⟩;have lQ:MemOk μ w b m r:=by
    cases jN:r.rw with
    | true=>exact (hrow id r hr).mem hm jN
    | false =>
     rw [jN] at hc4;simp only [Bool.false_or] at hc4;cases A35:r.cells[off]? with
     | none=>rw [A35] at hc4;cases hc4
     | some c=>rw [A35] at hc4;exact (hrow id r hr).seen hm (D9S A35) (by rw [jN];simpa using hc4)
   obtain ⟨C,elem,fz,h1,h2,h3,h4⟩:=lQ;have hlen:=h3.length;simp at hlen;have:=A02 (P:=P) (w:=w) (μ:=μ) (isSl:=A6) hlo hhi bl bh hc.1 hc.2.1;by_cases nQ:n=l
   ·subst nQ;refine ⟨.slice (A4 ⟨b,off,A7⟩) (hh-n) (n-n),by simp [Instr.sliceAt,Instr.sureAddr,E6 (nJ ht),this,M9 hsz],.inr ?_⟩;have h1:hh-n=0:=by omega
    exact ⟨h1,A4 ⟨b,off,A7⟩,by rw [h1,show n-n=0 by omega]⟩
   ·refine ⟨.slice (A4 ⟨b,off+l*sz,A7⟩) (hh-l) (n-l),by simp [Instr.sliceAt,Instr.sureAddr,E6 (nJ ht),this,M9 hsz,nQ,iP],.inl ⟨b,m,n-l,hm,by omega,?_,rfl⟩⟩;have:l*sz+(n-l)*sz=n*sz:=by rw [<-E0A];congr 1;omega
    omega
  ·cases h
 ·cases h
def B18 {hp:A9} {x:Val} {X:Value} {cs:List Cell} (hrow:∀ id r,rd hp id=A4 r->RowOk μ w id r) (hx:RV μ x X) (h:kY hp x=A4 cs) :
  ∃ len cap a vs,X=.slice a len cap/\All2 (RC μ) cs vs/\(∀ sz,(∀ id off l sz',x=.c (.sl id off l sz')->sz=sz')->vs.length=len*sz)/\(a=A7->vs=[])/\(∀ b,a=A4 b->∀ j v,vs[j]?=A4 v->w.cell? (b.add j)=A4 v):=by
 unfold kY at h;split at h
 ·cases h;cases hx;exact ⟨0,0,A7,[],rfl,trivial,λ_ _=>by simp,λ_=>rfl,λb hb=>(by cases hb)⟩
 ·rename_i id off len sz;simp only [D9t] at h;obtain ⟨r,hr,h⟩:=h;split at h
  ·cases h;rename_i hl;rcases hx with ⟨b,m,cap,hm,hlc,B3A,rfl⟩ | ⟨h0,a,rfl⟩
   ·obtain ⟨vs,h1,h2,h3⟩:=(hrow id r hr).cells hm off (len*sz) hl.1 hl.2;refine ⟨len,cap,_,vs,rfl,h1,λs hs=>(by rw [h2,hs id off len sz rfl]),λh=>(by cases h),λb' hb j v hv=>?_⟩;cases hb;rw [iP];exact h3 j v hv
   ·subst h0;exact ⟨0,0,a,[],rfl,by simp,λ_ _=>by simp,λ_=>rfl,λb hb j v hv=>by simp at hv⟩
  ·cases h
 ·cases h
def D2v {c:Cell} {b:UInt8} {V:Value} (h:C2Z c=A4 b) (hr:RC μ c V):V=.int .u8 b.toNat:=by
 unfold C2Z at h;split at h
 ·split at h
  ·cases h;rename_i n hn;have hV:V=.int .u8 n:=hr;subst hV
   congr 1
   have:(UInt8.ofNat n.toNat).toNat=n.toNat:=by simp [UInt8.toNat_ofNat'];omega
   rw [this];omega
  ·cases h
 ·cases h
def C21:∀ {cs:List Cell} {s:List UInt8} {vs:List Value},bytes? cs=A4 s->All2 (RC μ) cs vs->vs=s.map λb=>Value.int .u8 b.toNat
 | [],s,[],h,_=>by simp [bytes?] at h;subst h;rfl
 | c::r,s,v::vs,h,⟨h1,h2⟩=>by
  simp only [bytes?,D9t,D9J] at h;obtain ⟨b,hb,l,hl,rfl⟩:=h;rw [E0d,D2v hb h1,C21 hl h2]
 | [],_,_::_,_,h=>h.elim
 | _::_,_,[],_,h=>h.elim
def C5L:∀ (s:List UInt8) (acc:ByteArray),(forIn (s.map λb=>Value.int .u8 b.toNat) acc (λc r=>do
   let .int .u8 n := c | stuck "bytesToString: byte expected"
   let r:=r.push (UInt8.ofNat n.toNat)
   pure PUnit.unit
   pure (ForInStep.yield r)):Sem ByteArray).run P w=.ok ⟨acc.data++s.toArray⟩ w
 | [],acc=>by simp
 | b::s,acc=>by
  simp only [E0d,List.forIn_cons,Sem.run_bind];have:=C5L s (acc.push b);simp at this ⊢;rw [this]
def C7S {h:A9} {n0:Nat} {own:Option Nat} {x v:Val} (hp:B6T h n0 own x=A4 v):B1A h x=A4 v:=by
 unfold B6T at hp;split at hp
 ·exact hp
 ·split at hp
  ·split at hp
   ·exact hp
   ·cases hp
  ·cases hp
def D0e {s d e:TypeId} {hp:A9} {x:Val} {X:Value} {cs:List Cell} {l:List UInt8} (hs:sliceB P s=A4 e) (he:B1X P e=A4 .u8) (hd:aP P d=A5)
  (hrow:∀ id r,rd hp id=A4 r->RowOk μ w id r) (hx:RV μ x X) (h1:kY hp x=A4 cs) (h2:bytes? cs=A4 l) (B3C:∀ id off l sz',x=.c (.sl id off l sz')->1=sz') :
  (convert s d X).run P w=.ok (.string ⟨l.toArray⟩) w:=by
 obtain ⟨len,cap,a,vs,rfl,hvs,hlen,C0y,A35⟩:=B18 hrow hx h1;have hl:vs.length=len:=by simpa using hlen 1 B3C
 have hv:=C21 h2 hvs;have hc:(convert s d (.slice a len cap)).run P w=(Conv.bytesToString (.slice a len cap)).run P w:=by
  simp [convert,E6 (M0 hs),E6 (jL hd),E6 (A39 he)]
 rw [hc];cases a with
 | none =>
  have:l=[]:=by have:=C0y rfl;rw [hv] at this;simpa using this
  subst this;rfl
 | some b =>
  have hl2:=run_loadCells_list (P:=P) w b vs (A35 b rfl);rw [hl] at hl2;simp only [Conv.bytesToString,Sem.run_bind,hl2,Result.andThen_ok];rw [hv];have:=C5L (P:=P) (w:=w) l ByteArray.empty;simp at this ⊢;rw [this]
def C7p {s d e:TypeId} {hp:A9} {x v:Val} {X:Value} (hs:sliceB P s=A4 e) (he:B1X P e=A4 .u8) (hd:aP P d=A5)
  (hrow:∀ id r,rd hp id=A4 r->RowOk μ w id r) (hx:RV μ x X) (h:B1A hp x=A4 v):∃ V,(convert s d X).run P w=.ok V w/\RV μ v V:=by
 unfold B1A at h;split at h
 ·split at h
  ·rename_i id off len sz hsz;simp only [D9J,D9t] at h;obtain ⟨l,⟨cs,hcs,hl⟩,rfl⟩:=h;exact ⟨_,D0e hs he hd hrow hx hcs hl (λ_ _ _ _ h=>by cases h;exact hsz.symm),rfl⟩
  ·cases h
 ·cases h;exact ⟨_,D0e (hp:=hp) (cs:=[]) (l:=[]) hs he hd hrow hx rfl rfl (λ_ _ _ _ h=>by cases h),rfl⟩
 ·cases h
end
section
variable {P:Program} {μ:Mu} {w:World}
def tA (μ:Mu) (h:A9) (n0:Nat):Option Nat->Prop
 | none=>True
 | some j=>μ (n0+j)=A7/\n0+j<h.length
def Keeps (μ μ':Mu) (h:A9) (n0:Nat) (slot:Option Nat):Prop:=∀ id,id<h.length->(∀ j,slot=A4 j->id≠n0+j) -> μ' id = μ id
def Keeps.refl (μ:Mu) (h:A9) (n0:Nat) (slot:Option Nat):Keeps μ μ h n0 slot:=λ_ _ _=>rfl
def Keeps.new {μ:Mu} {h:A9} {n0:Nat} {slot:Option Nat} {r:Row} {x:Nat × Nat}:Keeps μ (μ.add (bU h n0 slot r).1 x) h n0 slot:=by
 intro id h1 h2;have:id≠(bU h n0 slot r).1:=by
  cases slot with
  | none=>simp only [bU];omega
  | some j=>exact h2 j rfl
 simp [Mu.add,this]
def oH {h:A9} {n0:Nat} {slot:Option Nat} {r:Row} (hs:tA μ h n0 slot) (hd:∀ id,h.length<=id -> μ id=A7) :
  μ (bU h n0 slot r).1=A7/\(∀ j,j≠(bU h n0 slot r).1->∀ x,rd (bU h n0 slot r).2 j=A4 x->rd h j=A4 x)/\(∀ x,rd (bU h n0 slot r).2 (bU h n0 slot r).1=A4 x->x=r) /\
   h.length<=(bU h n0 slot r).2.length/\(bU h n0 slot r).1<(bU h n0 slot r).2.length/\rd (bU h n0 slot r).2 (bU h n0 slot r).1=A4 r:=by
 cases slot with
 | none =>
  simp only [bU];have e:rd (h++[A4 r]) h.length=A4 r:=by rw [rd_some];simp
  refine ⟨hd _ (D9x _),?_,?_,by simp,by simp,e⟩
  ·intro j hj x hx;rw [rd_some] at hx ⊢;by_cases hl:j<h.length
   ·rwa [D94 hl] at hx
   ·have:j-h.length≠0:=by omega
    rw [D9P (by omega)] at hx;have:([A4 r]:A9)[j-h.length]?=A7:=by apply D9W;simp;omega
    rw [this] at hx;cases hx
  ·intro x hx;rw [e] at hx;cases hx;rfl
 | some j =>
  obtain ⟨h1,h2⟩:=hs;simp only [bU];have e:rd (h.set (n0+j) (A4 r)) (n0+j)=A4 r:=D1 h2;refine ⟨h1,?_,?_,by simp,by simpa using h2,e⟩
  ·intro i hi x hx;rwa [B7 (Ne.symm hi)] at hx
  ·intro x hx;rw [e] at hx;cases hx;rfl
def B12 {Γ:Ctx} {h:A9} {n0:Nat} {slot:Option Nat} {cs:List Cell} {C:List Value} {t:TypeId} (hi:Inv Γ μ h w) (hs:tA μ h n0 slot) (hc:All2 (RC μ) cs (C.take cs.length)) :
  Inv Γ (μ.add (bU h n0 slot ⟨cs,A5⟩).1 (w.heap.size,C.length)) (bU h n0 slot ⟨cs,A5⟩).2 (w.alloc (.cells C.toArray t)):=by
 obtain ⟨h1,h2,h3,h4,h5,h6⟩:=oH (r:=⟨cs,A5⟩) hs hi.dom;refine hi.fresh h1 rfl rfl rfl (λb hb=>?_) h2 h3 h4 h5 ?_
 ·show (w.heap.push _)[b]?=_;rw [Array.getElem?_push,if_neg (by omega)]
 ·unfold RowOk;simp only [Mu.add,if_true];refine .inl ⟨C.toArray,t,(0,0),by show (w.heap.push _)[w.heap.size]?=_;simp,by simp,?_,λ_=>.inl rfl⟩;exact hc.mono λ_ _ h=>.inl (RC.mono (Mu.le_add h1) h)
def A3Z {Γ:Ctx} {h:A9} {n0:Nat} {slot:Option Nat} (hi:Inv Γ μ h w) (hs:tA μ h n0 slot):Inv Γ μ (bU h n0 slot ⟨[],A5⟩).2 w:=by
 obtain ⟨h1,h2,h3,h4,h5,h6⟩:=oH (r:=⟨[],A5⟩) hs hi.dom;generalize bU h n0 slot ⟨[],A5⟩=p at *;refine ⟨λid r hr=>?_,λid bQ r r' x x' hr hr' jN Z5 hx hx'=>?_,λid r x hr jN hx=>?_,λid hid=>hi.dom id (by omega),hi.ctx⟩
 ·by_cases e:id=p.1
  ·subst e;rw [h3 r hr];unfold RowOk;rw [h1]
  ·exact hi.rows id r (h2 id e r hr)
 ·have e:id≠p.1:=by intro e;subst e;rw [h1] at hx;cases hx
  have e':bQ≠p.1:=by intro e;subst e;rw [h1] at hx';cases hx'
  exact hi.sep id bQ r r' x x' (h2 id e r hr) (h2 bQ e' r' hr') jN Z5 hx hx'
 ·have e:id≠p.1:=by intro e;subst e;rw [h1] at hx;cases hx
  exact hi.own id r x (h2 id e r hr) jN hx
def eY (t:TypeId) (C:Array Value):(newRow t C).run P w=.ok ⟨w.heap.size,0,A7⟩ (w.alloc (.cells C t)):=by
 rfl
def R6 (m:Mu) (id:Nat) (x:Nat × Nat):(m.add id x) id=A4 x:=by simp [Mu.add]
def D1D {Γ:Ctx} {h:A9} {n0:Nat} {slot:Option Nat} {t:TypeId} {z:Value} {zero:List Cell} {old:Value} (hi:Inv Γ μ h w) (hs:tA μ h n0 slot) (hz:wG P t=A4 z) (hc:gT z zero=A5) :
  ∃ V w' μ',(Instr.alloc t A5 old).run P w=.ok V w' /\ μ.le μ'/\RV μ' (.c (.p (bU h n0 slot ⟨zero,A5⟩).1 0)) V/\Inv Γ μ' (bU h n0 slot ⟨zero,A5⟩).2 w'/\Keeps μ μ' h n0 slot:=by
 have hcs:=eQ (μ:=μ) hc;have hn:=B12 (t:=t) hi hs (cs:=zero) (C:=z.cells.toList) (by rw [D9M (by rw [hcs.length];exact D9x _)];exact hcs);refine ⟨.pointer (A4 ⟨w.heap.size,0,A7⟩),_,_,?_,Mu.le_add (oH (r:=⟨zero,A5⟩) hs hi.dom).1,⟨_,_,R6 _ _ _,rfl⟩,hn,Keeps.new⟩;cases old<;>simp [Instr.alloc,wD hz,newVar,eY]
def D5D {Γ:Ctx} {h:A9} {n0:Nat} {slot:Option Nat} {t:TypeId} {x:Val} {X:Value} {cs:List Cell} (hi:Inv Γ μ h w) (hs:tA μ h n0 slot) (hx:RV μ x X) (hc:cells? x=A4 cs) :
  ∃ V w' μ',(Instr.box t X).run P w=.ok V w' /\ μ.le μ'/\RV μ' (.c (.p (bU h n0 slot ⟨cs,A5⟩).1 0)) V/\Inv Γ μ' (bU h n0 slot ⟨cs,A5⟩).2 w'/\Keeps μ μ' h n0 slot:=by
 have hcs:=hx.cells hc;have hn:=B12 (t:=t) hi hs (cs:=cs) (C:=X.cells.toList) (by rw [D9M (by rw [hcs.length];exact D9x _)];exact hcs);refine ⟨.pointer (A4 ⟨w.heap.size,0,A7⟩),_,_,?_,Mu.le_add (oH (r:=⟨cs,A5⟩) hs hi.dom).1,⟨_,_,R6 _ _ _,rfl⟩,hn,Keeps.new⟩;simp [Instr.box,newVar,eY]
def foldl_set (vs:List Value):∀ (k off:Nat) (cs:Array Value),off+k+vs.length<=cs.size ->
  ((vs.zipIdx k).foldl (λcs (x:Value × Nat)=>cs.setIfInBounds (off+x.2) x.1) cs).toList=cs.toList.take (off+k)++(vs++cs.toList.drop (off+k+vs.length)):=by
 induction vs with
 | nil=>intro k off cs h;simp
 | cons v r ih =>
  intro k off cs h;simp only [D9G] at h;simp only [List.zipIdx_cons,List.foldl_cons];rw [ih (k+1) off _ (by simp;omega)];have ho:off+k<cs.toList.length:=by simp;omega
  simp only [Array.toList_setIfInBounds];rw [List.drop_set_of_lt (by omega),D9G,show off+(k+1)+r.length=off+k+(r.length+1) by omega];rw [show off+(k+1)=off+k+1 by omega,List.take_set,List.take_add_one,List.set_append];have hm:min (off+k) cs.size=off+k:=E0F (by simp at ho;omega);simp [D9u ho,hm]
def B8U (μ:Mu) (place:Nat->Option (Nat × Nat)):List (Nat × Nat × Val)->List (Nat × Value)->Prop :=
 All2 λp q=>place q.1=A4 (p.1,p.2.1)/\RV μ p.2.2 q.2
def B8J {place:Nat->Option (Nat × Nat)}:∀ {ps:List (Nat × Nat × Val)} {qs:List (Nat × Value)} {zero cs:List Cell} {Z:Array Value},B8U μ place ps qs->All2 (RC μ) zero Z.toList->E7 zero ps=A4 cs ->
  ∃ Z',Instr.fill place Z qs=A4 Z'/\All2 (RC μ) cs Z'.toList
 | [],[],zero,cs,Z,_,hz,h=>by simp [E7] at h;subst h;exact ⟨Z,rfl,hz⟩
 | (off,n,v)::ps,(i,V)::qs,zero,cs,Z,⟨⟨h1,h2⟩,h3⟩,hz,h=>by
  simp only [E7] at h;split at h
  ·rename_i xs hxs;split at h
   ·rename_i hc;have hV:=RV.cells h2 hxs;have hVl:=hV.length;have uS:=hz.length;simp at uS hVl;have A0O:(V.cells.size≠n||off+V.cells.size > Z.size)=A6:=by simp;omega
    have hl2:((V.cells.zipIdx.foldl (λcs (x:Value × Nat)=>cs.setIfInBounds (off+x.2) x.1) Z)).toList=Z.toList.take off++(V.cells.toList++Z.toList.drop (off+V.cells.toList.length)):=by
     have:=foldl_set V.cells.toList 0 off Z (by simp;omega);rw [<-Array.foldl_toList,Array.toList_zipIdx];simpa using this
    have D8M:All2 (RC μ) (lay zero off xs) (V.cells.zipIdx.foldl (λcs (x:Value × Nat)=>cs.setIfInBounds (off+x.2) x.1) Z).toList:=by
     rw [hl2];unfold lay;rw [hV.length];exact (hz.take off).append (hV.append (hz.drop _))
    obtain ⟨Z',h4,h5⟩:=B8J h3 D8M h;refine ⟨Z',?_,h5⟩;rw [Instr.fill,h1];simp only [A0O];exact h4
   ·cases h
  ·cases h
 | [],_::_,_,_,_,h,_,_=>h.elim
 | _::_,[],_,_,_,h,_,_=>h.elim
def B8y {fs:List Field} {ps:List (Nat × Nat)} (h:fs.map (λf=>(O2 P f.type).map λn=>(f.offset,n))=ps.map A4) :
  (fs.mapM λf=>(do pure (f.offset,<-sizeOf f.type):Sem (Nat × Nat))).run P w=.ok ps w:=by
 induction fs generalizing ps with
 | nil=>cases ps<;>simp_all
 | cons f r ih =>
  cases ps with
  | nil=>simp at h
  | cons p ps =>
   simp only [E0d,List.cons.injEq] at h;cases hs:O2 P f.type with
   | none=>simp [hs] at h
   | some n =>
    simp [hs] at h;have:=ih (ps:=ps) (by simpa using h.2);simp at this;simp [List.mapM_cons,M9 hs,this,h.1]
def C85 {s:TypeId} {fs:Array Field} {z:Value} {zero cs:List Cell} {pl:List (Nat × Nat)} {ps:List (Nat × Nat × Val)} {qs:List (Nat × Value)} (hs:A18 P s=A4 fs) (hz:wG P s=A4 z) (hc:gT z zero=A5)
  (hp:fs.toList.map (λf=>(O2 P f.type).map λn=>(f.offset,n))=pl.map A4) (hR:B8U μ (pl[·]?) ps qs) (h:E7 zero ps=A4 cs) :
  ∃ V,(Instr.build s qs.toArray).run P w=.ok V w/\RV μ (.a cs) V:=by
 obtain ⟨Z',h1,h2⟩:=B8J hR (eQ hc) h;refine ⟨.agg Z',?_,Z'.toList,by simp,h2⟩;have hm:=B8y (P:=P) (w:=w) hp;simp [Instr.build,wD hz,E6 (A19 hs),Array.mapM_eq_mapM_toList] at hm ⊢;rw [hm];simp [h1]
def C84 {s e:TypeId} {n sz:Nat} {z:Value} {zero cs:List Cell} {ps:List (Nat × Nat × Val)} {qs:List (Nat × Value)} (hs:nI P s=A4 (n,e)) (hsz:O2 P e=A4 sz) (hz:wG P s=A4 z) (hc:gT z zero=A5)
  (hR:B8U μ (λi=>A4 (i*sz,sz)) ps qs) (h:E7 zero ps=A4 cs) :
  ∃ V,(Instr.build s qs.toArray).run P w=.ok V w/\RV μ (.a cs) V:=by
 obtain ⟨Z',h1,h2⟩:=B8J hR (eQ hc) h;refine ⟨.agg Z',?_,Z'.toList,by simp,h2⟩;simp [Instr.build,wD hz,E6 (nJ hs),M9 hsz,h1]
def C7q {Γ:Ctx} {h:A9} {n0:Nat} {slot:Option Nat} {s e:TypeId} {len sz:Nat} {z:Value} {zero cs:List Cell} {ps:List (Nat × Nat × Val)} {qs:List (Nat × Value)}
  (hi:Inv Γ μ h w) (tL:tA μ h n0 slot) (hs:sliceB P s=A4 e) (hsz:O2 P e=A4 sz) (hz:wG P e=A4 z) (hlen:len*sz<=2 ^ 24)
  (hc:gT (.agg ((Array.range (len*sz)).map (z.cells[· % z.cells.size]!))) zero=A5) (hR:B8U μ (λi=>A4 (i*sz,sz)) ps qs) (hf:E7 zero ps=A4 cs) :
  ∃ V w' μ',(Instr.buildSlice s len qs.toArray).run P w=.ok V w' /\ μ.le μ'/\RV μ' (.c (.sl (bU h n0 slot ⟨cs,A5⟩).1 0 len sz)) V/\Inv Γ μ' (bU h n0 slot ⟨cs,A5⟩).2 w'/\Keeps μ μ' h n0 slot:=by
 obtain ⟨Z',h1,h2⟩:=B8J hR (eQ hc) hf;have hn:=B12 (t:=e) hi tL (cs:=cs) (C:=Z'.toList) (by rw [D9M (by rw [h2.length];exact D9x _)];exact h2);have nQ:cs.length=zero.length:=by
  have:∀ (ps:List (Nat × Nat × Val)) (zero cs:List Cell),E7 zero ps=A4 cs->cs.length=zero.length:=by
   intro ps
   induction ps with
   | nil=>intro zero cs h;simp [E7] at h;rw [h]
   | cons p ps ih =>
    intro zero cs h;obtain ⟨off,n,v⟩:=p;simp only [E7] at h;split at h
    ·split at h
     ·rename_i hc;rw [ih _ _ h];simp [lay];omega
     ·cases h
    ·cases h
  exact this _ _ _ hf
 have uS:zero.length=len*sz:=by
  have:=(eQ (μ:=μ) hc).length;simpa [Value.cells] using this
 refine ⟨.slice (A4 ⟨w.heap.size,0,A7⟩) len len,_,_,?_,Mu.le_add (oH (r:=⟨cs,A5⟩) tL hi.dom).1,.inl ⟨_,_,len,R6 _ _ _,D9x _,?_,rfl⟩,hn,Keeps.new⟩
 ·have aK:¬ len*sz > 2 ^ 24:=by omega
  have h1:Instr.fill (λi=>A4 (i*sz,sz)) ((Array.range (len*sz)).map (z.cells[· % z.cells.size]!)) qs=A4 Z':=h1;by_cases h0:len*sz=0
  ·have e0:((Array.range (len*sz)).map (λi=>z.cells[i%z.cells.size]!)) = #[]:=by simp [h0]
   rw [e0] at h1;have hr0:(Array.range 0).map (λ_=>(default:Value)) = #[]:=by simp
   simp [Instr.buildSlice,E6 (M0 hs),M9 hsz,h0,hr0,h1,eY]
  ·simp only [Instr.buildSlice,Sem.run_bind,E6 (M0 hs),Result.andThen_ok,M9 hsz,if_neg aK,if_neg h0,Sem.run_pure,wD hz,h1,eY,pure_bind]
 ·have:=h2.length;simp at this ⊢;omega
def D0d {Z:Array Value} {zero:List Cell} (hz:All2 (RC μ) zero Z.toList) (n:Nat) (h0:Z.size≠0) :
  All2 (RC μ) (rows zero n) (((Array.range (n*Z.size)).map (Z[· % Z.size]!)).toList):=by
 have e:((Array.range (n*Z.size)).map (Z[· % Z.size]!)).toList=(D9w n Z.toList).flatten:=by
  simp only [Array.toList_map,Array.toList_range]
  induction n with
  | zero=>simp
  | succ n ih =>
   rw [List.replicate_succ',List.flatten_append,<-ih,E0A,Nat.one_mul,List.range_add,E0h,List.map_map]
   congr 1
   simp only [E0l,List.flatten_nil,D9Q];apply List.ext_getElem
   ·simp
   ·intro i h1 h2;simp at h1 h2;simp [Nat.add_mod,E0G h1,h1]
 rw [e];exact hz.flatten_replicate n
def D4b {Γ:Ctx} {h:A9} {n0:Nat} {slot:Option Nat} {s e:TypeId} {n c sz by_:Nat} {z:Value} {zero:List Cell} {x y:Val} {X Y:Value} (hi:Inv Γ μ h w) (tL:tA μ h n0 slot)
  (hs:sliceB P s=A4 e) (hsz:O2 P e=A4 sz) (hz:wG P e=A4 z) (hc:gT z zero=A5) (hzs:zero.length=sz) (B1V:sz≠0) (hby:B9U P e=A4 by_) (hbl:by_<=65536)
  (hx:RV μ x X) (hy:RV μ y Y) (hn:A96 x=A4 n) (B3A:A96 y=A4 c) (hnc:n<=c) :
  ∃ V w' μ',(Instr.makeSlice s X Y).run P w=.ok V w' /\ μ.le μ'/\RV μ' (.c (.sl (bU h n0 slot ⟨rows zero n,A5⟩).1 0 n sz)) V/\Inv Γ μ' (bU h n0 slot ⟨rows zero n,A5⟩).2 w'/\Keeps μ μ' h n0 slot:=by
 have key:∀ {v:Val} {V:Value} {m:Nat},RV μ v V->A96 v=A4 m->V=.int .i64 m/\m<=1073741824:=by
  intro v V m hv hm;unfold A96 at hm;split at hm
  ·split at hm
   ·cases hm;rename_i k hk;have:V=.int .i64 k:=hv;subst this;exact ⟨by congr 1;omega,by omega⟩
   ·cases hm
  ·cases hm
 obtain ⟨rfl,hnb⟩:=key hx hn;obtain ⟨rfl,hcb⟩:=key hy B3A;have hcs:=eQ (μ:=μ) hc;have uS:z.cells.size=sz:=by have:=hcs.length;simp at this;omega
 have hrows:=D0d hcs c (by omega);rw [uS] at hrows;have hrl:∀ m,(rows zero m).length=m*sz:=by intro m;simp [rows,hzs]
 have D6V:rows zero c=rows zero n++rows zero (c-n):=by
  unfold rows;rw [<-List.flatten_append,List.replicate_append_replicate]
  congr 2;omega
 obtain ⟨info,cE,hib⟩:=D1E (P:=P) (w:=w) hby;have hnn:=B12 (t:=e) hi tL (cs:=rows zero n) (C:=((Array.range (c*sz)).map (z.cells[· % sz]!)).toList) (by
  have:=hrows.take (rows zero n).length;rw [D6V,List.take_left] at this;exact this)
 refine ⟨.slice (A4 ⟨w.heap.size,0,A7⟩) n c,_,_,?_,Mu.le_add (oH (r:=⟨rows zero n,A5⟩) tL hi.dom).1,.inl ⟨_,_,c,R6 _ _ _,hnc,?_,rfl⟩,hnn,Keeps.new⟩
 ·have w1:IntKind.i64.wrap (n:Int)=n:=IntWalk.i64_in _ (by omega);have w2:IntKind.i64.wrap (c:Int)=c:=IntWalk.i64_in _ (by omega);have hb:¬ ((by_:Int)*(c:Int) > 281474976710656):=by
   have:(by_:Int)*c<=65536*1073741824:=by
    have h1:by_*c<=65536*1073741824:=Nat.mul_le_mul hbl hcb;have h2:((by_*c:Nat):Int)<=((65536*1073741824:Nat):Int):=Int.ofNat_le.2 h1;rw [Int.natCast_mul] at h2;exact h2
   omega
  by_cases h0:c*sz=0
  ·simp [Instr.makeSlice,E6 (M0 hs),asInt,asIntOf,cE,hib,w1,w2,M9 hsz,h0,eY];have q1:¬ ((c:Int)<0\/281474976710656<(by_:Int)*c):=by omega
   have q2:¬ ((n:Int)<0):=by omega
   have q3:¬ (c<n):=by omega
   simp [q1,q2,q3];rw [show (Array.range 0).map (λ_=>(default:Value)) = #[] by simp]
  ·simp [Instr.makeSlice,E6 (M0 hs),asInt,asIntOf,cE,hib,w1,w2,M9 hsz,h0,wD hz,uS,eY];have q1:¬ ((c:Int)<0\/281474976710656<(by_:Int)*c):=by omega
   have q2:¬ ((n:Int)<0):=by omega
   have q3:¬ (c<n):=by omega
   simp [q1,q2,q3];exact congrArg (λx=>w.alloc (Obj.cells x e)) (by apply Array.ext';simp)
 ·simp
end
section
variable {P:Program} {μ:Mu} {w:World}
def C9I (s:List UInt8):All2 (RC μ) (B4 s) (s.map λb=>Value.int .u8 b.toNat):=by
 induction s with
 | nil=>trivial
 | cons b r ih=>exact ⟨rfl,ih⟩
def B5 (s:List UInt8):(B4 s).length=s.length:=by simp [B4]
def B6U {h:A9} {sz:Nat} {y:Val} {Y:Value} {ys:List Cell} (hrow:∀ id r,rd h id=A4 r->RowOk μ w id r) (hy:RV μ y Y) (hc:Q2 h sz y=A4 ys) :
  ∃ n vs,(Builtin.lenOf Y).run P w=.ok n w/\(Builtin.firstCells sz n Y).run P w=.ok vs w/\All2 (RC μ) ys vs.toList/\vs.size=n*sz:=by
 unfold Q2 at hc;split at hc
 ·split at hc
  ·cases hc;rename_i s hs;subst hs;have hY:Y=.string ⟨s.toArray⟩:=hy;subst hY;refine ⟨s.length,(s.map λb=>Value.int .u8 b.toNat).toArray,?_,?_,C9I s,by simp⟩
   ·simp [Builtin.lenOf];show s.toArray.size=_;simp
   ·have:((ByteArray.mk s.toArray).extract 0 s.length).data=s.toArray:=by
     apply Array.ext';simp
    simp [Builtin.firstCells]
  ·cases hc
 ·split at hc
  ·rename_i id off len sz' hs;subst hs;obtain ⟨len',cap,a,vs,hY,hvs,hlen,C0y,A35⟩:=B18 hrow hy hc;subst hY;have hl:=hlen sz (λ_ _ _ _ h=>by cases h;rfl);refine ⟨len',vs.toArray,rfl,?_,hvs,by simpa using hl⟩;cases a with
   | none=>have:=C0y rfl;subst this;rfl
   | some b =>
    have:=run_loadCells_list (P:=P) w b vs (A35 b rfl);rw [hl] at this;simpa [Builtin.firstCells] using this
  ·cases hc
 ·cases hc;cases hy;exact ⟨0,#[],rfl,rfl,trivial,by simp⟩
 ·cases hc
def Inv.move {Γ:Ctx} {h:A9} {w':World} {id:Nat} {r r':Row} {b n:Nat} (hi:Inv Γ μ h w) (hr:rd h id=A4 r) (jN:r.rw=A5) (D8W:r'.rw=A5) (hm:μ id=A4 (b,n))
  (hos:w'.os=w.os) (htape:w'.tape=w.tape) (hout:w'.output=w.output) (hb:∀ b',b'≠b->w'.heap[b']?=w.heap[b']?)
  (hrow:RowOk (μ.add h.length (b,n)) w' h.length r'):Inv Γ (μ.add h.length (b,n)) (h.set id A7++[A4 r']) w':=by
 replace jN:=Row.own_rw jN
 have D9e:=D7 hr;have rJ:∀ j x,rd (h.set id A7++[A4 r']) j=A4 x->(j=h.length/\x=r')\/(j≠h.length/\j≠id/\rd h j=A4 x):=by
  intro j x hx;by_cases hj:j<h.length
  ·rw [E2 (by simpa using hj)] at hx;by_cases e:id=j
   ·subst e;rw [D1 hj] at hx;cases hx
   ·rw [B7 e] at hx;exact .inr ⟨by omega,Ne.symm e,hx⟩
  ·rw [rd_some,D9P (by simp;omega)] at hx;have h0:=(List.getElem?_eq_some_iff.1 hx).1;simp at h0;have e:j=h.length:=by omega
   subst e;simp at hx;exact .inl ⟨rfl,hx.symm⟩
 have C0y:μ h.length=A7:=hi.dom _ (D9x _);have old:∀ j,j≠h.length->(μ.add h.length (b,n)) j = μ j:=λj hj=>by simp [Mu.add,hj]
 refine ⟨λj x hx=>?_,λj j' x x' y y' hx hx' hxw Z5 hy hy'=>?_,λj x y hx hxw hy=>?_,λj hj=>?_,?_⟩
 ·rcases rJ j x hx with ⟨rfl,rfl⟩ | ⟨h1,h2,h3⟩
  ·exact hrow
  ·exact (hi.rows j x h3).mono (Mu.le_add C0y) (old j h1) λy hy=>hb _ (Ne.symm (hi.sep id j r x (b,n) y hr h3 jN (Ne.symm h2) hm hy))
 ·rcases rJ j x hx with ⟨rfl,rfl⟩ | ⟨h1,h2,h3⟩
  ·rcases rJ j' x' hx' with ⟨h4,_⟩ | ⟨h4,h5,h6⟩
   ·exact absurd h4.symm Z5
   ·rw [R6] at hy;cases hy;rw [old _ h4] at hy';exact hi.sep id j' r x' (b,n) y' hr h6 jN (Ne.symm h5) hm hy'
  ·rw [old _ h1] at hy;rcases rJ j' x' hx' with ⟨h4,_⟩ | ⟨h4,h5,h6⟩
   ·subst h4;rw [R6] at hy';cases hy';exact hi.sep j id x r y (b,n) h3 hr hxw h2 hy hm
   ·rw [old _ h4] at hy';exact hi.sep j j' x x' y y' h3 h6 hxw Z5 hy hy'
 ·rcases rJ j x hx with ⟨rfl,rfl⟩ | ⟨h1,h2,h3⟩
  ·rw [R6] at hy;cases hy;exact hi.own id r (b,n) hr jN hm
  ·rw [old _ h1] at hy;exact hi.own j x y h3 hxw hy
 ·have:j≠h.length:=by simp at hj;omega
  rw [old _ this];exact hi.dom j (by simp at hj;omega)
 ·refine ⟨hos.trans hi.ctx.os,htape.trans hi.ctx.tape,hout.trans hi.ctx.output,λb' o ho=>?_⟩;have Z5:b'≠b:=by
   intro e;subst e;have:=hi.own id r (b',n) hr jN hm;simp at this;rw [ho] at this;cases this
  rw [hb b' Z5];exact hi.ctx.block b' o ho
def Inv.drop {Γ:Ctx} {h:A9} (hi:Inv Γ μ h w) (id:Nat):Inv Γ μ (h.set id A7) w:=by
 have rJ:∀ j x,rd (h.set id A7) j=A4 x->rd h j=A4 x:=by
  intro j x hx;by_cases e:id=j
  ·subst e;by_cases hl:id<h.length
   ·rw [D1 hl] at hx;cases hx
   ·rw [List.set_eq_of_length_le (by omega)] at hx;exact hx
  ·rwa [B7 e] at hx
 exact ⟨λj x hx=>hi.rows j x (rJ j x hx),λj j' x x' y y' hx hx'=>hi.sep j j' x x' y y' (rJ j x hx) (rJ j' x' hx'),λj x y hx=>hi.own j x y (rJ j x hx),λj hj=>hi.dom j (by simpa using hj),hi.ctx⟩
def C0v (n:Nat):∀ (k c:Nat),c<=n->Builtin.growBy n k c<=n+(n+768)/4
 | 0,c,h=>by simp [Builtin.growBy];omega
 | k+1,c,h=>by
  unfold Builtin.growBy;split
  ·omega
  ·rename_i hc;by_cases h2:c+(c+768)/4<=n
   ·exact C0v n k _ h2
   ·have:Builtin.growBy n k (c+(c+768)/4)=c+(c+768)/4:=by
     cases k with
     | zero=>rfl
     | succ k=>unfold Builtin.growBy;rw [if_pos (by omega)]
    rw [this];omega
def C0W (n c:Nat) (h:c<=n):Builtin.nextslicecap n c<=2*n+1000:=by
 unfold Builtin.nextslicecap;split
 ·omega
 ·split
  ·omega
  ·have:=C0v n 4 c h;omega
def A5P {s e yt ty:TypeId} {i:TypeInfo} {n sLen sCap:Nat} {z:Value} {base:Option Addr} {Y:Value} {old new:Array Value} {oc nc:List Cell} {Γ:Ctx} {h:A9}
  (hi:Inv Γ μ h w) (hs:P.underlying s=A4 (.slice e)) (cE:P.info? e=A4 i) (hbl:i.bytes<=65536) (hz:i.zero=A4 z) (uS:z.cells.size=i.size)
  (hyt:P.underlying yt=A4 .string\/∃ e',P.underlying yt=A4 (.slice e')) (hlen:(Builtin.lenOf Y).run P w=.ok n w) (hb0:i.bytes≠0)
  (C2f:(Builtin.firstCells i.size n Y).run P w.drew=.ok new w.drew) (hold:(Builtin.firstCells i.size sLen (.slice base sLen sCap)).run P w.drew=.ok old w.drew)
  (D3f:¬ sLen+n<=sCap) (B3A:sLen<=sCap) (D6G:sLen+n<=1073741824)
  (ho:All2 (RC μ) oc old.toList) (hn:All2 (RC μ) nc new.toList) (hol:old.size=sLen*i.size) (hnl:new.size=n*i.size) :
  ∃ w' c,(Builtin.append_ #[s,yt] ty #[.slice base sLen sCap,Y]).run P w=.ok (.slice (A4 ⟨w.heap.size,0,A7⟩) (sLen+n) c) w'/\sLen+n<=c /\
   Inv Γ (μ.add h.length (w.heap.size,c*i.size)) (h++[A4 ⟨oc++nc,A5⟩]) w':=by
 have hnc:=C0W (sLen+n) sCap (by omega);have gX:¬ (281474976710656<Builtin.nextslicecap (sLen+n) sCap*i.bytes):=by
  have:Builtin.nextslicecap (sLen+n) sCap*i.bytes<=2147484648*65536:=Nat.mul_le_mul (by omega) hbl;omega
 have hc0:sLen+n<=grownCap w (sLen+n) sCap e:=by show sLen+n<=sLen+n+_%_;omega
 have hw:Inv Γ μ h w.drew:=hi.world rfl rfl rfl λ_ _=>rfl
 have C6A:(Builtin.zeroCells z.cells (grownCap w (sLen+n) sCap e-(sLen+n))).size=(grownCap w (sLen+n) sCap e-(sLen+n))*i.size:=by
  simp [Builtin.zeroCells,uS]
 have hC:(old++new++Builtin.zeroCells z.cells (grownCap w (sLen+n) sCap e-(sLen+n))).toList.length=grownCap w (sLen+n) sCap e*i.size:=by
  have:(sLen+n)*i.size+(grownCap w (sLen+n) sCap e-(sLen+n))*i.size=grownCap w (sLen+n) sCap e*i.size:=by
   rw [<-E0A];congr 1;omega
  have h2:(sLen+n)*i.size=sLen*i.size+n*i.size:=E0A ..;rw [Array.length_toList,Array.size_append,Array.size_append,C6A,hol,hnl];omega
 have hrow:=B12 (t:=e) hw (slot:=A7) (n0:=0) trivial (cs:=oc++nc) (C:=(old++new++Builtin.zeroCells z.cells (grownCap w (sLen+n) sCap e-(sLen+n))).toList) (by
  have h1:(old++new++Builtin.zeroCells z.cells (grownCap w (sLen+n) sCap e-(sLen+n))).toList=(old.toList++new.toList)++(Builtin.zeroCells z.cells (grownCap w (sLen+n) sCap e-(sLen+n))).toList:=by simp
  rw [h1,show (oc++nc).length=(old.toList++new.toList).length by rw [(ho.append hn).length],List.take_left];exact ho.append hn)
 refine ⟨w.drew.alloc (.cells (old++new++Builtin.zeroCells z.cells (grownCap w (sLen+n) sCap e-(sLen+n))) e),grownCap w (sLen+n) sCap e,?_,hc0,?_⟩
 ·have h63:¬ (9223372036854775807<((sLen+n:Nat):Int)/\False):=by simp
  have D70:IntKind.i64.max=9223372036854775807:=by decide
  rcases hyt with hyt | ⟨e',hyt⟩ <;>
   simp [Builtin.append_,E6 hs,E6 hyt,sizeOf,typeInfo,zeroValue,cE,hz,hlen,D3f,hb0,gX,Question.forced,C2f,hold,eY,grownCap]
 ·rw [hC] at hrow;exact hrow
def A5Q {s e yt ty:TypeId} {i:TypeInfo} {n sLen sCap:Nat} {base:Option Addr} {Y:Value} {new:Array Value} {w':World}
  (hs:P.underlying s=A4 (.slice e)) (cE:P.info? e=A4 i) (hyt:P.underlying yt=A4 .string\/∃ e',P.underlying yt=A4 (.slice e')) (hlen:(Builtin.lenOf Y).run P w=.ok n w)
  (C2f:(Builtin.firstCells i.size n Y).run P w=.ok new w) (A0S:sLen+n<=sCap)
  (sI:∀ a,base=A4 a->(storeCells (a.add (sLen*i.size)) new.toList).run P w=.ok () w') (aK:base=A7->w'=w) :
  (Builtin.append_ #[s,yt] ty #[.slice base sLen sCap,Y]).run P w=.ok (.slice base (sLen+n) sCap) w':=by
 cases base with
 | none =>
  have:=aK rfl;subst this;rcases hyt with hyt | ⟨e',hyt⟩<;>simp [Builtin.append_,E6 hs,E6 hyt,sizeOf,typeInfo,cE,hlen,A0S,C2f]
 | some a =>
  have:=sI a rfl;rcases hyt with hyt | ⟨e',hyt⟩<;>simp [Builtin.append_,E6 hs,E6 hyt,sizeOf,typeInfo,cE,hlen,A0S,C2f,this]
def A17 {Γ:Ctx} {h:A9} {id b m:Nat} {r:Row} {ys:List Cell} {vs:List Value} (hi:Inv Γ μ h w) (hr:rd h id=A4 r) (jN:r.rw=A5) (hm:μ id=A4 (b,m))
  (hx:All2 (RC μ) ys vs) (hl:r.cells.length+ys.length<=m) :
  (storeCells ⟨b,r.cells.length,A7⟩ vs).run P w=.ok () (w.setCells b r.cells.length vs)/\Inv Γ (μ.add h.length (b,m)) (h.set id A7++[A4 ⟨r.cells++ys,A5⟩]) (w.setCells b r.cells.length vs):=by
 obtain ⟨C,elem,fz,h1,h2,h3,h4⟩:=(hi.rows id r hr).mem hm jN
 replace h3:=RL.all h3 (by rw [jN];rfl)
 have hlen:=h3.length;have hxl:=hx.length;simp at hlen;have A35:∀ j,j<vs.length->(w.cell? ⟨b,r.cells.length+0+j,A7⟩).isSome=A5:=by
  intro j hj;simp only [World.cell?,h1];simp;omega
 have hfz:∀ j,j<vs.length->w.frozen? ⟨b,r.cells.length+0+j,A7⟩=A6:=by
  intro j hj;simp only [World.frozen?,h1];obtain ⟨lo,hi'⟩:=fz;rcases h4 jN with h4 | h4<;>simp at h4 ⊢ <;> omega
 have h1c:∀ v∈vs,v.oneCell'=A5:=by
  intro v hv;obtain ⟨i,T1,rfl⟩:=List.getElem_of_mem hv;have:i<ys.length:=by omega
  obtain ⟨V,hV,hR⟩:=hx.get i ys[i] (by simp [this]);rw [D9u T1] at hV;cases hV;exact hR.one
 refine ⟨by simpa using run_storeCells_cells (P:=P) b r.cells.length vs 0 w A35 hfz h1c,?_⟩;obtain ⟨C',h5,h6⟩:=A3f b vs r.cells.length w C elem fz h1 (by omega);obtain ⟨ho,ht,hou⟩:=A9a b vs r.cells.length w;have gX:=Mu.le_add (x:=(b,m)) (hi.dom h.length (D9x _));refine hi.move hr jN rfl hm ho ht hou (λb' hb=>A03 b vs r.cells.length w b' hb) ?_;unfold RowOk;rw [R6];refine .inl ⟨C',elem,fz,h5,?_,?_,λ_=>h4 jN⟩
 ·have:=congrArg List.length h6;simp at this;omega
 ·rw [h6];have e:(C.toList.take r.cells.length++(vs++C.toList.drop (r.cells.length+vs.length))).take (r.cells++ys).length=C.toList.take r.cells.length++vs:=by
   rw [<-D9C,E0x];simp;omega
  rw [e];exact ((h3.mono λ_ _=>RC.mono gX).append (hx.mono λ_ _=>RC.mono gX)).mono λ_ _=>.inl
def D5B {s e yt ty:TypeId} {i:TypeInfo} {z:Value} {x y v:Val} {X Y:Value} {Γ:Ctx} {h h':A9}
  (hi:Inv Γ μ h w) (hs:P.underlying s=A4 (.slice e)) (cE:P.info? e=A4 i) (hbl:i.bytes<=65536) (hb0:i.bytes≠0) (hz:i.zero=A4 z) (uS:z.cells.size=i.size) (B1V:i.size≠0)
  (hyt:P.underlying yt=A4 .string\/∃ e',P.underlying yt=A4 (.slice e')) (hx:RV μ x X) (hy:RV μ y Y) (hc:qK h i.size x y=A4 (v,h')) :
  ∃ V w' μ',(Builtin.append_ #[s,yt] ty #[X,Y]).run P w=.ok V w' /\ μ.le μ'/\RV μ' v V/\Inv Γ μ' h' w'/\(∀ id,id<h.length -> μ' id = μ id):=by
 unfold qK at hc;simp only [D9t] at hc;obtain ⟨ys,hys,hc⟩:=hc;obtain ⟨n,vs,hlen,B5Z,hvs,hvl⟩:=B6U (P:=P) hi.rows hy hys;obtain ⟨n2,vs2,hlen2,C4A,hvs2,D6X⟩:=B6U (P:=P) (w:=w.drew) (hi.world (w':=w.drew) rfl rfl rfl λ_ _=>rfl).rows hy hys;have hyl:ys.length/i.size=n:=by
  have:=hvs.length;simp at this;rw [this,hvl];exact Nat.mul_div_cancel _ (by omega)
 have hn2:n2=n:=by
  have h1:=hvs.length;have h2:=hvs2.length;simp at h1 h2;exact Nat.eq_of_mul_eq_mul_right (by omega:0<i.size) (by omega)
 rw [hyl] at hc;subst hn2;have C4z:μ h.length=A7:=hi.dom _ (D9x _);have aQ:∀ x id,id<h.length->(μ.add h.length x) id = μ id:=λx id hid=>by
  have:id≠h.length:=by omega
  simp [Mu.add,this]
 split at hc
 ·
  split at hc
  ·cases hc;rename_i hb;cases hx;by_cases h0:n2=0
   ·subst h0;have hy0:ys=[]:=by
     have:=hvs.length;simp [hvl] at this;exact this
    subst hy0;have hr:=A5Q (P:=P) (ty:=ty) (sLen:=0) (sCap:=0) (base:=A7) (w':=w) hs cE hyt hlen B5Z (by omega) (λa h=>by cases h) (λ_=>rfl);exact ⟨_,w,μ,hr,Mu.le_refl _,.inr ⟨rfl,A7,rfl⟩,A3Z (slot:=A7) (n0:=0) hi trivial,λ_ _=>rfl⟩
   ·obtain ⟨w',c,hr,hc1,hI⟩:=A5P (P:=P) (ty:=ty) (sLen:=0) (sCap:=0) (base:=A7) (old:=#[]) (oc:=[]) hi hs cE hbl hz uS hyt hlen hb0 C4A (by simp [Builtin.firstCells]) (by omega) (D9x _) (by omega) trivial hvs2 (by simp) D6X;refine ⟨_,w',_,hr,Mu.le_add C4z,.inl ⟨w.heap.size,c*i.size,c,R6 _ _ _,by omega,by simp,by simp⟩,hI,aQ _⟩
  ·cases hc
 ·rename_i id off len sz';simp only [D9t] at hc;obtain ⟨r,hr,hc⟩:=hc;split at hc
  ·cases hc;rename_i A0O;obtain ⟨jN,rfl,nQ,hsz,hbd⟩:=A0O;subst hsz;rcases hx with ⟨b,m,cap,hm,hlc,B3A,rfl⟩ | ⟨h0,a,rfl⟩
   ·by_cases A0S:len+n2<=cap
    ·have D5c:r.cells.length+ys.length<=m:=by
      have h1:=hvs.length;simp at h1;have h2:(len+n2)*i.size<=cap*i.size:=Nat.mul_le_mul_right _ A0S;rw [E0A] at h2;omega
     have sI:=A17 (P:=P) hi hr jN hm hvs D5c;have hr':=A5Q (P:=P) (ty:=ty) (sLen:=len) (sCap:=cap) (base:=A4 ⟨b,0,A7⟩) (w':=w.setCells b r.cells.length vs.toList) hs cE hyt hlen B5Z A0S
      (λa ha=>by cases ha;rw [iP,nQ,D9T];exact sI.1) (λh=>by cases h)
     exact ⟨_,_,_,hr',Mu.le_add C4z,.inl ⟨b,m,cap,R6 _ _ _,A0S,B3A,rfl⟩,sI.2,aQ _⟩
    ·have hrow:=hi.rows id r hr;obtain ⟨olds,ho1,ho2,ho3⟩:=hrow.cells hm 0 (len*i.size) (by omega) (by rw [jN];rfl);have jB:(r.cells.drop 0).take (len*i.size)=r.cells:=by rw [D9O,nQ,List.take_length]
     rw [jB] at ho1;have hold:=run_loadCells_list (P:=P) w.drew ⟨b,0,A7⟩ olds (λj v hv=>by rw [iP];exact ho3 j v hv);rw [ho2] at hold;obtain ⟨w',c,hr',hc1,hI⟩:=A5P (P:=P) (ty:=ty) (sLen:=len) (sCap:=cap) (base:=A4 ⟨b,0,A7⟩) (old:=olds.toArray) (oc:=r.cells) hi hs cE hbl hz uS hyt hlen hb0 C4A
      (by simpa [Builtin.firstCells] using hold) A0S hlc (by omega) ho1 hvs2 (by simpa using ho2) D6X
     refine ⟨_,w',_,hr',Mu.le_add C4z,.inl ⟨w.heap.size,c*i.size,c,R6 _ _ _,by omega,by simp,by simp⟩,?_,aQ _⟩;have:=hI.drop id
     rwa [List.set_append_left _ _ (D7 hr)] at this
   ·subst h0;have hrc:r.cells=[]:=by
     have:r.cells.length=0:=by omega
     exact List.length_eq_zero_iff.1 this
    by_cases h0:n2=0
    ·subst h0;have hy0:ys=[]:=by
      have:=hvs.length;simp [hvl] at this;exact this
     subst hy0;have D80:vs = #[]:=by simpa using hvl
     subst D80;have hr':=A5Q (P:=P) (ty:=ty) (sLen:=0) (sCap:=0) (base:=a) (w':=w) hs cE hyt hlen B5Z (by omega) (λa h=>by simp [storeCells]) (λ_=>rfl);refine ⟨_,w,μ,hr',Mu.le_refl _,.inr ⟨rfl,a,rfl⟩,?_,λ_ _=>rfl⟩;have:=(A3Z (slot:=A7) (n0:=0) hi trivial).drop id;rw [hrc];simp only [bU] at this
     rwa [List.set_append_left _ _ (D7 hr)] at this
    ·obtain ⟨w',c,hr',hc1,hI⟩:=A5P (P:=P) (ty:=ty) (sLen:=0) (sCap:=0) (base:=a) (old:=#[]) (oc:=[]) hi hs cE hbl hz uS hyt hlen hb0 C4A
      (by cases a<;>simp [Builtin.firstCells,loadCells,loadCellsFrom]) (by omega) (D9x _) (by omega) trivial hvs2 (by simp) D6X
     refine ⟨_,w',_,hr',Mu.le_add C4z,.inl ⟨w.heap.size,c*i.size,c,R6 _ _ _,by omega,by simp,by simp⟩,?_,aQ _⟩;have:=hI.drop id;rw [hrc]
     rwa [List.set_append_left _ _ (D7 hr)] at this
  ·cases hc
 ·cases hc
def A3c {s e yt ty:TypeId} {k:IntKind} {i:TypeInfo} {n sLen sCap:Nat} {z:Value} {base:Option Addr} {old:Array Value} {oc nc:List Cell} {Γ:Ctx} {h:A9}
  (hi:Inv Γ μ h w) (hs:P.underlying s=A4 (.slice e)) (cE:P.info? e=A4 i) (hbl:i.bytes<=65536) (hz:i.zero=A4 z) (uS:z.cells.size=i.size)
  (hyt:P.underlying yt=A4 (.int k)) (hb0:i.bytes≠0) (hp0:i.size≠0)
  (hold:(Builtin.firstCells i.size sLen (.slice base sLen sCap)).run P w.drew=.ok old w.drew)
  (D3f:¬ sLen+n<=sCap) (B3A:sLen<=sCap) (D6G:sLen+n<=1073741824)
  (ho:All2 (RC μ) oc old.toList) (hn:All2 (RC μ) nc (Builtin.zeroCells z.cells n).toList) (hol:old.size=sLen*i.size) :
  ∃ w' c,(Builtin.append_ #[s,yt] ty #[.slice base sLen sCap,.int .i64 n]).run P w=.ok (.slice (A4 ⟨w.heap.size,0,A7⟩) (sLen+n) c) w'/\sLen+n<=c /\
   Inv Γ (μ.add h.length (w.heap.size,c*i.size)) (h++[A4 ⟨oc++nc,A5⟩]) w':=by
 have hnl:(Builtin.zeroCells z.cells n).size=n*i.size:=by simp [Builtin.zeroCells,uS]
 have hnc:=C0W (sLen+n) sCap (by omega);have gX:¬ (281474976710656<Builtin.nextslicecap (sLen+n) sCap*i.bytes):=by
  have:Builtin.nextslicecap (sLen+n) sCap*i.bytes<=2147484648*65536:=Nat.mul_le_mul (by omega) hbl;omega
 have hc0:sLen+n<=grownCap w (sLen+n) sCap e:=by show sLen+n<=sLen+n+_%_;omega
 have hw:Inv Γ μ h w.drew:=hi.world rfl rfl rfl λ_ _=>rfl
 have C6A:(Builtin.zeroCells z.cells (grownCap w (sLen+n) sCap e-(sLen+n))).size=(grownCap w (sLen+n) sCap e-(sLen+n))*i.size:=by
  simp [Builtin.zeroCells,uS]
 have hC:(old++Builtin.zeroCells z.cells n++Builtin.zeroCells z.cells (grownCap w (sLen+n) sCap e-(sLen+n))).toList.length=grownCap w (sLen+n) sCap e*i.size:=by
  have:(sLen+n)*i.size+(grownCap w (sLen+n) sCap e-(sLen+n))*i.size=grownCap w (sLen+n) sCap e*i.size:=by
   rw [<-E0A];congr 1;omega
  have h2:(sLen+n)*i.size=sLen*i.size+n*i.size:=E0A ..;rw [Array.length_toList,Array.size_append,Array.size_append,C6A,hol,hnl];omega
 have hrow:=B12 (t:=e) hw (slot:=A7) (n0:=0) trivial (cs:=oc++nc) (C:=(old++Builtin.zeroCells z.cells n++Builtin.zeroCells z.cells (grownCap w (sLen+n) sCap e-(sLen+n))).toList) (by
  have h1:(old++Builtin.zeroCells z.cells n++Builtin.zeroCells z.cells (grownCap w (sLen+n) sCap e-(sLen+n))).toList=(old.toList++(Builtin.zeroCells z.cells n).toList)++(Builtin.zeroCells z.cells (grownCap w (sLen+n) sCap e-(sLen+n))).toList:=by simp
  rw [h1,show (oc++nc).length=(old.toList++(Builtin.zeroCells z.cells n).toList).length by rw [(ho.append hn).length],List.take_left];exact ho.append hn)
 refine ⟨w.drew.alloc (.cells (old++Builtin.zeroCells z.cells n++Builtin.zeroCells z.cells (grownCap w (sLen+n) sCap e-(sLen+n))) e),grownCap w (sLen+n) sCap e,?_,hc0,?_⟩
 ·have D70:IntKind.i64.max=9223372036854775807:=by decide
  have w1:IntKind.i64.wrap (n:Int)=n:=IntWalk.i64_in _ (by omega);have q1:¬ (n:Int)<0:=by omega
  have q2:¬ ((n:Int)*(i.bytes:Int) > 281474976710656):=by
   have h1:n*i.bytes<=1073741824*65536:=Nat.mul_le_mul (by omega) hbl;have h2:((n*i.bytes:Nat):Int)<=((1073741824*65536:Nat):Int):=Int.ofNat_le.2 h1;rw [Int.natCast_mul] at h2;omega
  have q3:¬ (9223372036854775807<((sLen:Int)+(n:Int))):=by omega
  have q4:¬ (281474976710656<(n:Int)*(i.bytes:Int)):=by omega
  by_cases h0:n=0
  ·omega
  ·have h1:¬ (n*i.size=0):=Nat.mul_ne_zero h0 hp0;simp [Builtin.append_,E6 hs,E6 hyt,sizeOf,typeInfo,zeroValue,cE,hz,asInt,asIntOf,w1,q1,q4,D70,q3,D3f,hb0,gX,Question.forced,hold,eY,grownCap,h1]
 ·rw [hC] at hrow;exact hrow
def A3d {s e yt ty:TypeId} {k:IntKind} {i:TypeInfo} {n sLen sCap:Nat} {z:Value} {base:Option Addr} {w':World}
  (hs:P.underlying s=A4 (.slice e)) (cE:P.info? e=A4 i) (hbl:i.bytes<=65536) (hz:i.zero=A4 z) (uS:z.cells.size=i.size) (hp0:i.size≠0) (hyt:P.underlying yt=A4 (.int k)) (hnb:n<=1073741824) (A0S:sLen+n<=sCap)
  (sI:∀ a,base=A4 a->(storeCells (a.add (sLen*i.size)) (Builtin.zeroCells z.cells n).toList).run P w=.ok () w') (aK:base=A7->w'=w) :
  (Builtin.append_ #[s,yt] ty #[.slice base sLen sCap,.int .i64 n]).run P w=.ok (.slice base (sLen+n) sCap) w':=by
 have w1:IntKind.i64.wrap (n:Int)=n:=IntWalk.i64_in _ (by omega);have q1:¬ (n:Int)<0:=by omega
 have q4:¬ (281474976710656<(n:Int)*(i.bytes:Int)):=by
  have h1:n*i.bytes<=1073741824*65536:=Nat.mul_le_mul hnb hbl;have h2:((n*i.bytes:Nat):Int)<=((1073741824*65536:Nat):Int):=Int.ofNat_le.2 h1;rw [Int.natCast_mul] at h2;omega
 by_cases h0:n=0
 ·subst h0;have hzc:(Builtin.zeroCells z.cells 0) = #[]:=by simp [Builtin.zeroCells]
  have w0:IntKind.i64.wrap 0=0:=IntWalk.i64_in _ (by omega);rw [hzc] at sI;cases base with
  | none =>
   have:=aK rfl;subst this;have hr0:sLen<=sCap:=by omega
   simp [Builtin.append_,E6 hs,E6 hyt,sizeOf,typeInfo,cE,asInt,asIntOf,hr0,w0]
  | some a =>
   have:=sI a rfl;simp [storeCells] at this;subst this;have hr0:sLen<=sCap:=by omega
   simp [Builtin.append_,E6 hs,E6 hyt,sizeOf,typeInfo,cE,asInt,asIntOf,storeCells,hr0,w0]
 ·have h1:¬ (n*i.size=0):=Nat.mul_ne_zero h0 hp0;cases base with
  | none =>
   have:=aK rfl;subst this;simp [Builtin.append_,E6 hs,E6 hyt,sizeOf,typeInfo,zeroValue,cE,hz,asInt,asIntOf,w1,q1,q4,A0S,h1]
  | some a =>
   have:=sI a rfl;simp [Builtin.append_,E6 hs,E6 hyt,sizeOf,typeInfo,zeroValue,cE,hz,asInt,asIntOf,w1,q1,q4,A0S,h1,this]
def D31 {s e yt ty:TypeId} {kk:IntKind} {i:TypeInfo} {z:Value} {zero:List Cell} {x y v:Val} {X Y:Value} {Γ:Ctx} {h h':A9}
  (hi:Inv Γ μ h w) (hs:P.underlying s=A4 (.slice e)) (cE:P.info? e=A4 i) (hbl:i.bytes<=65536) (hb0:i.bytes≠0) (hz:i.zero=A4 z) (uS:z.cells.size=i.size) (B1V:i.size≠0)
  (hyt:P.underlying yt=A4 (.int kk)) (hzc:All2 (RC μ) zero z.cells.toList) (hx:RV μ x X) (hy:RV μ y Y) (hc:B9E h i.size zero x y=A4 (v,h')) :
  ∃ V w' μ',(Builtin.append_ #[s,yt] ty #[X,Y]).run P w=.ok V w' /\ μ.le μ'/\RV μ' v V/\Inv Γ μ' h' w'/\(∀ id,id<h.length -> μ' id = μ id):=by
 unfold B9E at hc;simp only [D9t] at hc;obtain ⟨n2,hn2,hc⟩:=hc;have hY:Y=.int .i64 n2/\n2<=1073741824:=by
  unfold A96 at hn2;split at hn2
  ·split at hn2
   ·cases hn2;rename_i k hk;have:Y=.int .i64 k:=hy;subst this;exact ⟨by congr 1;omega,by omega⟩
   ·cases hn2
  ·cases hn2
 obtain ⟨rfl,hnb⟩:=hY;have hvs:All2 (RC μ) (rows zero n2) (Builtin.zeroCells z.cells n2).toList:=by
  have:=D0d hzc n2 (by omega);simpa [Builtin.zeroCells] using this
 have hvl:(Builtin.zeroCells z.cells n2).size=n2*i.size:=by simp [Builtin.zeroCells,uS]
 have C4z:μ h.length=A7:=hi.dom _ (D9x _);have aQ:∀ x id,id<h.length->(μ.add h.length x) id = μ id:=λx id hid=>by
  have:id≠h.length:=by omega
  simp [Mu.add,this]
 split at hc
 ·
  ·cases hc;cases hx;by_cases h0:n2=0
   ·subst h0;have hr:=A3d (P:=P) (ty:=ty) (sLen:=0) (sCap:=0) (base:=A7) (w':=w) (n:=0) hs cE hbl hz uS B1V hyt (by omega) (by omega) (λa h=>by cases h) (λ_=>rfl);exact ⟨_,w,μ,hr,Mu.le_refl _,.inr ⟨rfl,A7,rfl⟩,A3Z (slot:=A7) (n0:=0) hi trivial,λ_ _=>rfl⟩
   ·obtain ⟨w',c,hr,hc1,hI⟩:=A3c (P:=P) (ty:=ty) (sLen:=0) (sCap:=0) (base:=A7) (old:=#[]) (oc:=[]) (n:=n2) hi hs cE hbl hz uS hyt hb0 B1V (by simp [Builtin.firstCells]) (by omega) (D9x _) (by omega) trivial hvs (by simp);refine ⟨_,w',_,hr,Mu.le_add C4z,.inl ⟨w.heap.size,c*i.size,c,R6 _ _ _,by omega,by simp,by simp⟩,hI,aQ _⟩
 ·rename_i id off len sz';simp only [D9t] at hc;obtain ⟨r,hr,hc⟩:=hc;split at hc
  ·cases hc;rename_i A0O;obtain ⟨jN,rfl,nQ,hsz,hbd⟩:=A0O;subst hsz;rcases hx with ⟨b,m,cap,hm,hlc,B3A,rfl⟩ | ⟨h0,a,rfl⟩
   ·by_cases A0S:len+n2<=cap
    ·have D5c:r.cells.length+(rows zero n2).length<=m:=by
      have h1:=hvs.length;simp at h1;have h2:(len+n2)*i.size<=cap*i.size:=Nat.mul_le_mul_right _ A0S;rw [E0A] at h2;omega
     have sI:=A17 (P:=P) hi hr jN hm hvs D5c;have hr':=A3d (P:=P) (ty:=ty) (sLen:=len) (sCap:=cap) (base:=A4 ⟨b,0,A7⟩) (w':=w.setCells b r.cells.length (Builtin.zeroCells z.cells n2).toList) hs cE hbl hz uS B1V hyt hnb A0S
      (λa ha=>by cases ha;rw [iP,nQ,D9T];exact sI.1) (λh=>by cases h)
     exact ⟨_,_,_,hr',Mu.le_add C4z,.inl ⟨b,m,cap,R6 _ _ _,A0S,B3A,rfl⟩,sI.2,aQ _⟩
    ·have hrow:=hi.rows id r hr;obtain ⟨olds,ho1,ho2,ho3⟩:=hrow.cells hm 0 (len*i.size) (by omega) (by rw [jN];rfl);have jB:(r.cells.drop 0).take (len*i.size)=r.cells:=by rw [D9O,nQ,List.take_length]
     rw [jB] at ho1;have hold:=run_loadCells_list (P:=P) w.drew ⟨b,0,A7⟩ olds (λj v hv=>by rw [iP];exact ho3 j v hv);rw [ho2] at hold;obtain ⟨w',c,hr',hc1,hI⟩:=A3c (P:=P) (ty:=ty) (sLen:=len) (sCap:=cap) (base:=A4 ⟨b,0,A7⟩) (old:=olds.toArray) (oc:=r.cells) (n:=n2) hi hs cE hbl hz uS hyt hb0 B1V
      (by simpa [Builtin.firstCells] using hold) A0S hlc (by omega) ho1 hvs (by simpa using ho2)
     refine ⟨_,w',_,hr',Mu.le_add C4z,.inl ⟨w.heap.size,c*i.size,c,R6 _ _ _,by omega,by simp,by simp⟩,?_,aQ _⟩;have:=hI.drop id
     rwa [List.set_append_left _ _ (D7 hr)] at this
   ·subst h0;have hrc:r.cells=[]:=by
     have:r.cells.length=0:=by omega
     exact List.length_eq_zero_iff.1 this
    by_cases h0:n2=0
    ·subst h0;have hr':=A3d (P:=P) (ty:=ty) (sLen:=0) (sCap:=0) (base:=a) (w':=w) (n:=0) (z:=z) hs cE hbl hz uS B1V hyt (by omega) (by omega) (λa h=>by simp [storeCells,Builtin.zeroCells]) (λ_=>rfl);refine ⟨_,w,μ,hr',Mu.le_refl _,.inr ⟨rfl,a,rfl⟩,?_,λ_ _=>rfl⟩;have:=(A3Z (slot:=A7) (n0:=0) hi trivial).drop id;rw [hrc];simp only [bU] at this
     rwa [List.set_append_left _ _ (D7 hr)] at this
    ·obtain ⟨w',c,hr',hc1,hI⟩:=A3c (P:=P) (ty:=ty) (sLen:=0) (sCap:=0) (base:=a) (old:=#[]) (oc:=[]) (n:=n2) hi hs cE hbl hz uS hyt hb0 B1V
      (by cases a<;>simp [Builtin.firstCells,loadCells,loadCellsFrom]) (by omega) (D9x _) (by omega) trivial hvs (by simp)
     refine ⟨_,w',_,hr',Mu.le_add C4z,.inl ⟨w.heap.size,c*i.size,c,R6 _ _ _,by omega,by simp,by simp⟩,?_,aQ _⟩;have:=hI.drop id;rw [hrc]
     rwa [List.set_append_left _ _ (D7 hr)] at this
  ·cases hc
 ·cases hc
end
section
variable {P:Program} {μ:Mu} {w:World}
def Inv.marked {Γ:Ctx} {h:A9} {id b n:Nat} {r:Row} (hi:Inv Γ μ h w) (hr:rd h id=A4 r) (jN:r.rw=A5) (hm:μ id=A4 (b,n)) :
  ∃ w',(markStringish ⟨b,0,A7⟩).run P w=.ok () w'/\Inv Γ μ h w'/\∀ off,(markStringish ⟨b,off,A7⟩).run P w=.ok () w':=by
 obtain ⟨C,elem,fz,h1,h2,h3,h4⟩:=(hi.rows id r hr).mem hm jN;have hsh:w.shape? b=A4 (elem,n):=by simp [World.shape?,h1,h2]
 have A6N:∀ off,(markStringish ⟨b,off,A7⟩).run P w=.ok () (w.freeze ⟨b,n,A7⟩ 1):=by
  intro off;simp [markStringish,hsh]
 refine ⟨w.freeze ⟨b,n,A7⟩ 1,A6N 0,?_,A6N⟩;have C3f:∀ b',(w.freeze ⟨b,n,A7⟩ 1).heap[b']?=if b=b' then A4 (.cells C elem (if fz.1==fz.2 then (n,n+1) else (min fz.1 n,max fz.2 (n+1)))) else w.heap[b']? := by
  intro b';simp only [World.freeze,if_neg (show ¬ (1:Nat)=0 by omega),Array.getElem?_modify];split
  ·rename_i e;subst e;rw [h1];simp
  ·rfl
 have D6S:∀ b',b'≠b->(w.freeze ⟨b,n,A7⟩ 1).heap[b']?=w.heap[b']? := λb' hb=>by rw [C3f,if_neg (Ne.symm hb)]
 have:=hi.write hr jN hm (w':=w.freeze ⟨b,n,A7⟩ 1) (cs:=r.cells) rfl rfl rfl D6S (by
  unfold RowOk;rw [hm];refine .inl ⟨C,elem,_,by rw [C3f,if_pos rfl],h2,(jN ▸ h3:All2 (RL μ A5) _ _),λ_=>.inr ?_⟩;have h5:=h4 jN;split
  ·exact D9x _
  ·rename_i Z5;rcases h5 with h5 | h5
   ·simp [h5] at Z5
   ·show n<=min fz.1 n;omega)
 have e:h.set id (A4 ⟨r.cells,A5⟩)=h:=by
  apply E0q;intro j;by_cases hj:id=j
  ·subst hj;rw [List.getElem?_set_self (D7 hr)];rw [rd_some] at hr;rw [hr,<-jN]
  ·rw [E0o hj]
 rwa [e] at this
def run_mark {Γ:Ctx} {s e:TypeId} {h:A9} {x v:Val} {X:Value} (hi:Inv Γ μ h w) (hs:sliceB P s=A4 e) (he:B1X P e=A4 .u8) (hx:RV μ x X) (hc:A6d h x=A4 v) :
  ∃ w',(convert s s X).run P w=.ok X w'/\v=x/\Inv Γ μ h w':=by
 unfold A6d at hc;split at hc
 ·rename_i id off len sz;simp only [D9t] at hc;obtain ⟨r,hr,hc⟩:=hc;split at hc
  ·cases hc;rename_i A0O;rcases hx with ⟨b,m,cap,hm,hlc,B3A,rfl⟩ | ⟨h0,a,rfl⟩
   ·obtain ⟨w',h1,h2,h3⟩:=hi.marked (P:=P) hr A0O.1 hm;exact ⟨w',by simp [convert,E6 (M0 hs),E6 (A39 he),h3 off],rfl,h2⟩
   ·omega
  ·cases hc
 ·cases hc
def D5L {Γ:Ctx} {h:A9} {n0:Nat} {slot:Option Nat} {s d e:TypeId} {l:List UInt8} (hi:Inv Γ μ h w) (tL:tA μ h n0 slot) (hs:aP P s=A5) (hd:sliceB P d=A4 e) (he:B1X P e=A4 .u8) (hl:l.length<=1073741824) :
  ∃ V w' μ',(convert s d (.string ⟨l.toArray⟩)).run P w=.ok V w' /\ μ.le μ'/\RV μ' (.c (.sl (bU h n0 slot ⟨B4 l,A5⟩).1 0 l.length 1)) V/\Inv Γ μ' (bU h n0 slot ⟨B4 l,A5⟩).2 w'/\Keeps μ μ' h n0 slot:=by
 have hsz:(ByteArray.mk l.toArray).size=l.length:=by show l.toArray.size=_;simp
 have B3A:l.length<=(Question.appendCap l.length 0 e).cut (w.tape w.drawn (.appendCap l.length 0 e)):=by show l.length<=l.length+_%_;omega
 generalize hk:(Question.appendCap l.length 0 e).cut (w.tape w.drawn (.appendCap l.length 0 e))=cap at B3A;have hC:((l.toArray.map λ(b:UInt8)=>Value.int .u8 b.toNat)++Array.replicate (cap-l.length) (Value.int .u8 0)).toList=(l.map λ(b:UInt8)=>Value.int .u8 b.toNat)++D9w (cap-l.length) (Value.int .u8 0):=by simp
 have hw:Inv Γ μ h w.drew:=hi.world rfl rfl rfl λ_ _=>rfl
 have hn:=B12 (t:=e) hw tL (cs:=B4 l) (C:=(l.map λ(b:UInt8)=>Value.int .u8 b.toNat)++D9w (cap-l.length) (Value.int .u8 0)) (by
  rw [show (B4 l).length=(l.map λ(b:UInt8)=>Value.int .u8 b.toNat).length by simp [B4],List.take_left];exact C9I l)
 have hsp:=oH (r:=⟨B4 l,A5⟩) tL hi.dom;obtain ⟨w',h1,h2,h3⟩:=hn.marked (P:=P) hsp.2.2.2.2.2 rfl (R6 _ _ _);refine ⟨.slice (A4 ⟨w.heap.size,0,A7⟩) l.length cap,w',_,?_,Mu.le_add hsp.1,.inl ⟨_,_,cap,R6 _ _ _,B3A,by simp;omega,rfl⟩,h2,Keeps.new⟩;have h1:(markStringish ⟨w.heap.size,0,A7⟩).run P (w.drew.alloc (.cells ((l.map λ(b:UInt8)=>Value.int .u8 b.toNat)++D9w (cap-l.length) (Value.int .u8 0)).toArray e))=.ok () w':=h1;rw [<-hC,Array.toArray_toList] at h1;have hfo:(Question.appendCap l.length 0 e).forced=A6:=rfl;simp only [convert,Sem.run_bind,E6 (jL hs),Result.andThen_ok,E6 (M0 hd),E6 (A39 he),Conv.stringToBytes,run_choose,hsz,hfo,E0v,if_false,hk,eY];have hdr:({ w with drawn:=w.drawn+1 }:World)=w.drew:=rfl;rw [hdr,h1];rfl
def D33 {Γ:Ctx} {h h':A9} {s e yt ty:TypeId} {sz:Nat} {x y v:Val} {X Y:Value} (hi:Inv Γ μ h w) (hs:sliceB P s=A4 e) (hsz:O2 P e=A4 sz) (B1V:sz≠0) (hx:RV μ x X) (hy:RV μ y Y) (hc:B9G h sz x y=A4 (v,h')) :
  ∃ V w',(Builtin.copy_ #[s,yt] ty #[X,Y]).run P w=.ok V w'/\RV μ v V/\Inv Γ μ h' w':=by
 unfold B9G at hc;split at hc
 ·cases hc
 rename_i D8S;simp only [D9t] at hc;obtain ⟨ys,hys,hc⟩:=hc;split at hc
 ·rename_i id off len sz';simp only [D9t] at hc;obtain ⟨r,hr,hc⟩:=hc;split at hc
  ·cases hc;rename_i A0O;obtain ⟨jN,D5c,rfl⟩:=A0O;have src:∃ n vs,(Builtin.lenOf Y).run P w=.ok n w/\All2 (RC μ) ys vs/\vs.length=n*sz/\∀ m,m<=n->(Builtin.firstCells sz m Y).run P w=.ok (vs.take (m*sz)).toArray w:=by
    cases y with
    | c c =>
     cases c with
     | sl id2 off2 len2 sz2 =>
      simp only [Q2] at hys;split at hys
      ·rename_i hs2;subst hs2;obtain ⟨len',cap,a,vs,rfl,hvs,hlen,C0y,A35⟩:=B18 hi.rows hy hys;have hl:=hlen sz (λ_ _ _ _ h=>by cases h;rfl);refine ⟨len',vs,rfl,hvs,hl,λm hm=>?_⟩;cases a with
       | none=>have:=C0y rfl;subst this;simp [Builtin.firstCells]
       | some b =>
        have hml:(vs.take (m*sz)).length=m*sz:=by
         have:=Nat.mul_le_mul_right sz hm;simp;omega
        have:=run_loadCells_list (P:=P) w b (vs.take (m*sz)) (λj v hv=>A35 b rfl j v (by
         have hj:=(List.getElem?_eq_some_iff.1 hv).1;rw [D97 (by omega)] at hv;exact hv))
        rw [hml] at this;simpa [Builtin.firstCells] using this
      ·cases hys
     | ns =>
      simp only [Q2] at hys;cases hys;cases hy;exact ⟨0,[],rfl,trivial,by simp,λm hm=>by simp [Builtin.firstCells]⟩
     | s l=>exact absurd rfl (D8S l)
     | _=>simp [Q2] at hys
    | _=>simp [Q2] at hys
   obtain ⟨n,vs,hlen,hvs,hvl,B5Z⟩:=src;have hyl:ys.length/sz=n:=by rw [hvs.length,hvl];exact Nat.mul_div_cancel _ (by omega)
   rw [hyl];have hf:=B5Z (E0J n len) (Nat.min_le_left _ _);have hml:(ys.take (E0J n len*sz)).length=E0J n len*sz:=by
    have h1:=hvs.length;have h2:E0J n len*sz<=n*sz:=Nat.mul_le_mul_right sz (Nat.min_le_left n len);rw [D91];omega
   have D7T:off+(ys.take (E0J n len*sz)).length<=r.cells.length:=by
    have h2:E0J n len*sz<=len*sz:=Nat.mul_le_mul_right sz (Nat.min_le_right n len);omega
   rcases hx with ⟨b,m,cap,hm,hlc,B3A,rfl⟩ | ⟨h0,a,rfl⟩
   ·have sI:=C1r (P:=P) hi hr jN hm (off:=off) (hvs.take (E0J n len*sz)) D7T;refine ⟨_,_,?_,rfl,sI.2⟩;simp [Builtin.copy_,E6 (M0 hs),hlen,M9 hsz,hf,sI.1,goInt]
   ·subst h0;refine ⟨_,w,?_,rfl,?_⟩
    ·have hz:(Builtin.firstCells sz 0 Y).run P w=.ok #[] w:=by simpa using B5Z 0 (E0I _)
     cases a<;>simp [Builtin.copy_,E6 (M0 hs),hlen,M9 hsz,hz,goInt,storeCells]
    ·have e0:lay r.cells off (ys.take (E0J n 0*sz))=r.cells:=by simp [lay]
     rw [e0];have e:h.set id (A4 ⟨r.cells,A5⟩)=h:=by
      apply E0q;intro j;by_cases hj:id=j
      ·subst hj;rw [List.getElem?_set_self (D7 hr)];rw [rd_some] at hr;rw [hr,<-jN]
      ·rw [E0o hj]
     rw [e];exact hi
  ·cases hc
 ·cases hc
end
def C0L (leaf:TypeId->Option (List Sh)) (P:Program):Nat->List Field->Option (List Sh)
 | _,[]=>A4 []
 | off,f::fs=>(leaf f.type).bind λl =>
   if f.name ≠ "_" ∧ f.offset = off ∧ O2 P f.type = some l.length then (C0L leaf P (off + l.length) fs).map λr => l ++ r else none
def A8S (P:Program):Nat->TypeId->Option (List Sh)
 | 0,_=>A7
 | d+1,t =>
  match P.underlying t with
  | some .bool=>A4 [.b]
  | some (.int k)=>A4 [.i k]
  | some .string=>A4 [.s]
  | some (.struct fs)=>if P.stoodInHeld t=A6 then C0L (A8S P d) P 0 fs.toList else A7
  | some (.array n e)=>(A8S P d e).bind λl=>if O2 P e=A4 l.length then A4 (D9w n l).flatten else A7
  | _=>A7
section
variable {P:Program} {μ:Mu} {w:World}
def mkv (P:Program) (t:TypeId) (vs:List Value):Value :=
 if iQ P t=A4 A5 then .agg vs.toArray else vs.headD undef
def D0h {c:Cell} {k:IntKind} (h:c.sh=A4 (.i k)):∃ n,c=.i k n:=by
 cases c<;>simp [Cell.sh] at h
 subst h;exact ⟨_,rfl⟩
def D0g {c:Cell} (h:c.sh=A4 .b):∃ x,c=.b x:=by
 cases c<;>simp [Cell.sh] at h
 exact ⟨_,rfl⟩
def D0i {c:Cell} (h:c.sh=A4 .s):∃ x,c=.s x:=by
 cases c<;>simp [Cell.sh] at h
 exact ⟨_,rfl⟩
def B6c {q:Sh} {xs:List Cell} {Xs:List Value} (h:xs.map Cell.sh=[q].map A4) (hX:All2 (RC μ) xs Xs):∃ x X,xs=[x]/\Xs=[X]/\x.sh=A4 q/\RC μ x X:=by
 cases xs with
 | nil=>simp at h
 | cons x r =>
  cases r with
  | cons y r=>simp at h
  | nil =>
   cases Xs with
   | nil=>exact hX.elim
   | cons X R =>
    cases R with
    | nil=>exact ⟨x,X,rfl,rfl,by simpa using h,hX.1⟩
    | cons Y R=>exact hX.2.elim
def C9B {α:Type} [DecidableEq α] (a b:α):(a==b)=decide (a=b):=by rw [Bool.eq_iff_iff];simp
def B3r {a b c d:List Cell} (h:a.length=c.length):decide (a++b=c++d)=(decide (a=c)&&decide (b=d)):=by
 rw [Bool.eq_iff_iff];simp only [D9v,decide_eq_true_eq];exact ⟨λk=>List.append_inj k h,λ⟨h,k⟩=>by rw [h,k]⟩
def D6m (P:Program) (D:Nat) (t:TypeId) (l:List Sh):Prop :=
 ∀ (μ:Mu) (w:World) (xs ys:List Cell) (Xs Ys:List Value),xs.map Cell.sh=l.map A4->ys.map Cell.sh=l.map A4->All2 (RC μ) xs Xs->All2 (RC μ) ys Ys ->
  (Op.equalIn D t (mkv P t Xs) (mkv P t Ys)).run P w=.ok (decide (xs=ys)) w
def B4f {t:TypeId} {l:List Sh} {xs:List Cell} {Xs:List Value} {off:Nat} (hsz:O2 P t=A4 l.length) (mO:iQ P t=A4 A5\/(iQ P t=A4 A6/\l.length=1))
  (hX:All2 (RC μ) xs Xs) (hl:off+l.length<=xs.length):(part t Xs.toArray off).run P w=.ok (mkv P t ((Xs.drop off).take l.length)) w:=by
 have hlen:=hX.length;rcases mO with h | ⟨h,h1⟩
 ·simp [part,A9I h,M9 hsz,mkv,h,List.take_drop]
 ·have T1:off<Xs.length:=by omega
  have:((Xs.drop off).take l.length).headD undef=Xs[off]:=by
   rw [h1,D9E T1];rfl
  unfold mkv;rw [if_neg (by rw [h];simp),this];simp [part,A9I h,T1]
def C7Y {t:TypeId} {d:Nat} {l:List Sh} (h:A8S P d t=A4 l):iQ P t=A4 A5\/(iQ P t=A4 A6/\l.length=1):=by
 cases d with
 | zero=>simp [A8S] at h
 | succ d =>
  unfold A8S at h;unfold iQ;split at h
  ·rename_i hu;cases h;right;simp [hu]
  ·rename_i hu;cases h;right;simp [hu]
  ·rename_i hu;cases h;right;simp [hu]
  ·rename_i hu;left;simp [hu]
  ·rename_i hu;left;simp [hu]
  ·cases h
def C3a {leaf:TypeId->Option (List Sh)} {D:Nat} (hok:∀ t l,leaf t=A4 l->D6m P D t l) (mO:∀ t l,leaf t=A4 l->iQ P t=A4 A5\/(iQ P t=A4 A6/\l.length=1)) :
  ∀ (fs:List Field) (off:Nat) (l:List Sh) (μ:Mu) (w:World) (xs ys:List Cell) (Xs Ys:List Value),C0L leaf P off fs=A4 l->xs.length=off+l.length->ys.length=off+l.length ->
   (xs.drop off).map Cell.sh=l.map A4->(ys.drop off).map Cell.sh=l.map A4->All2 (RC μ) xs Xs->All2 (RC μ) ys Ys ->
   (Op.eqFields D Xs.toArray Ys.toArray fs).run P w=.ok (decide (xs.drop off=ys.drop off)) w
 | [],off,l,μ,w,xs,ys,Xs,Ys,hl,h1,h2,hs1,hs2,hX,hY=>by
  simp [C0L] at hl;subst hl;simp at h1 h2;rw [D9K (by omega),D9K (by omega)];simp [Op.eqFields]
 | f::fs,off,l,μ,w,xs,ys,Xs,Ys,hl,h1,h2,hs1,hs2,hX,hY=>by
  simp only [C0L,D9t] at hl;obtain ⟨lf,hlf,hl⟩:=hl;split at hl
  ·rename_i hc;obtain ⟨C6y,D6Q,hsz⟩:=hc;simp only [D9J] at hl;obtain ⟨r,hr,rfl⟩:=hl;simp only [D9A] at h1 h2;have e:∀ zs:List Cell,(zs.drop off).map Cell.sh=(lf++r).map A4->zs.length=off+(lf.length+r.length)->((zs.drop off).take lf.length).map Cell.sh=lf.map A4/\(zs.drop (off+lf.length)).map Cell.sh=r.map A4:=by
    intro zs hz uS;constructor
    ·rw [List.map_take,hz,E0h,E0x (by simp)]
    ·rw [<-E0t,List.map_drop,hz,E0h,E0s (by simp)]
   obtain ⟨a1,a2⟩:=e xs hs1 h1;obtain ⟨b1,b2⟩:=e ys hs2 h2;have hp1:=B4f (P:=P) (w:=w) (off:=off) hsz (mO _ _ hlf) hX (by omega);have hp2:=B4f (P:=P) (w:=w) (off:=off) hsz (mO _ _ hlf) hY (by omega);have uR:=hok _ _ hlf μ w _ _ _ _ a1 b1 ((hX.drop off).take lf.length) ((hY.drop off).take lf.length);have ih:=C3a hok mO fs (off+lf.length) r μ w xs ys Xs Ys hr (by omega) (by omega) a2 b2 hX hY;have split:∀ zs:List Cell,zs.drop off=(zs.drop off).take lf.length++zs.drop (off+lf.length):=by
    intro zs;rw [<-E0t];exact (List.take_append_drop _ _).symm
   have hd:decide (xs.drop off=ys.drop off)=(decide ((xs.drop off).take lf.length=(ys.drop off).take lf.length)&&decide (xs.drop (off+lf.length)=ys.drop (off+lf.length))):=by
    have hlen:((xs.drop off).take lf.length).length=((ys.drop off).take lf.length).length:=by simp;omega
    conv=>lhs;rw [split xs,split ys]
    exact B3r hlen
   subst D6Q;simp only [Op.eqFields,C6y,ne_eq,not_false_eq_true,if_true,Sem.run_bind,hp1,Result.andThen_ok,hp2,uR];rw [hd];cases decide ((xs.drop f.offset).take lf.length=(ys.drop f.offset).take lf.length) with
   | true=>simpa using ih
   | false=>simp
  ·cases hl
def A5y (D:Nat) (e:TypeId) (n:Nat) (xs ys:Array Value):List Nat->Sem Bool
 | []=>pure A5
 | i::r=>do
  let a <-part e xs (i*n)
  let b <-part e ys (i*n)
  let q <-Op.equalIn D e a b
  if (!q)=A5 then pure A6 else A5y D e n xs ys r
def run_equalIn_array {D:Nat} {t e:TypeId} {n sz:Nat} {xs ys:Array Value} (ha:nI P t=A4 (n,e)) (hsz:O2 P e=A4 sz) :
  (Op.equalIn (D+1) t (.agg xs) (.agg ys)).run P w=(A5y D e sz xs ys (D90 n)).run P w:=by
 simp only [Op.equalIn,Sem.run_bind,E6 (nJ ha),Result.andThen_ok,M9 hsz];rw [Std.Legacy.Range.forIn_eq_forIn_range'];have hr:E0g (Std.Legacy.Range.start [0:n]) (Std.Legacy.Range.size [0:n]) (Std.Legacy.Range.step [0:n])=D90 n:=by
  simp [List.range_eq_range',Std.Legacy.Range.size]
 rw [hr];generalize D90 n=is
 induction is generalizing w with
 | nil=>simp [A5y]
 | cons i is ih =>
  simp only [List.forIn_cons,A5y,Sem.run_bind];generalize (part e xs (i*sz)).run P w=r1;cases r1 with
  | ok a w1 =>
   simp only [Result.andThen_ok];generalize (part e ys (i*sz)).run P w1=r2;cases r2 with
   | ok b w2 =>
    simp only [Result.andThen_ok];generalize (Op.equalIn D e a b).run P w2=r3;cases r3 with
    | ok r w3 =>
     cases r
     ·simp
     ·simpa using ih
    | halt x w3=>simp [Result.andThen]
   | halt x w2=>simp [Result.andThen]
  | halt x w1=>simp [Result.andThen]
def C6e {D:Nat} {e:TypeId} {l:List Sh} (hok:D6m P D e l) (mO:iQ P e=A4 A5\/(iQ P e=A4 A6/\l.length=1)) (hsz:O2 P e=A4 l.length) :
  ∀ (k i:Nat) (μ:Mu) (w:World) (xs ys:List Cell) (Xs Ys:List Value),xs.length=i*l.length+k*l.length->ys.length=i*l.length+k*l.length ->
   (xs.drop (i*l.length)).map Cell.sh=(D9w k l).flatten.map A4->(ys.drop (i*l.length)).map Cell.sh=(D9w k l).flatten.map A4->All2 (RC μ) xs Xs->All2 (RC μ) ys Ys ->
   (A5y D e l.length Xs.toArray Ys.toArray (E0g i k)).run P w=.ok (decide (xs.drop (i*l.length)=ys.drop (i*l.length))) w
 | 0,i,μ,w,xs,ys,Xs,Ys,h1,h2,hs1,hs2,hX,hY=>by
  rw [D9K (by omega),D9K (by omega)];simp [A5y]
 | k+1,i,μ,w,xs,ys,Xs,Ys,h1,h2,hs1,hs2,hX,hY=>by
  have hk:(k+1)*l.length=l.length+k*l.length:=by rw [E0A];omega
  have hi:(i+1)*l.length=i*l.length+l.length:=by rw [E0A];omega
  rw [hk] at h1 h2;have e:∀ zs:List Cell,(zs.drop (i*l.length)).map Cell.sh=(D9w (k+1) l).flatten.map A4->zs.length=i*l.length+(l.length+k*l.length) ->
    ((zs.drop (i*l.length)).take l.length).map Cell.sh=l.map A4/\(zs.drop ((i+1)*l.length)).map Cell.sh=(D9w k l).flatten.map A4:=by
   intro zs hz uS;rw [D92,E0l] at hz;constructor
   ·rw [List.map_take,hz,E0h,E0x (by simp)]
   ·rw [hi,<-E0t,List.map_drop,hz,E0h,E0s (by simp)]
  obtain ⟨a1,a2⟩:=e xs hs1 h1;obtain ⟨b1,b2⟩:=e ys hs2 h2;have hp1:=B4f (P:=P) (w:=w) (off:=i*l.length) hsz mO hX (by omega);have hp2:=B4f (P:=P) (w:=w) (off:=i*l.length) hsz mO hY (by omega);have uR:=hok μ w _ _ _ _ a1 b1 ((hX.drop (i*l.length)).take l.length) ((hY.drop (i*l.length)).take l.length);have ih:=C6e hok mO hsz k (i+1) μ w xs ys Xs Ys (by omega) (by omega) a2 b2 hX hY;have split:∀ zs:List Cell,zs.drop (i*l.length)=(zs.drop (i*l.length)).take l.length++zs.drop ((i+1)*l.length):=by
   intro zs;rw [hi,<-E0t];exact (List.take_append_drop _ _).symm
  have hd:decide (xs.drop (i*l.length)=ys.drop (i*l.length))=(decide ((xs.drop (i*l.length)).take l.length=(ys.drop (i*l.length)).take l.length)&&decide (xs.drop ((i+1)*l.length)=ys.drop ((i+1)*l.length))):=by
   have hlen:((xs.drop (i*l.length)).take l.length).length=((ys.drop (i*l.length)).take l.length).length:=by simp;omega
   conv=>lhs;rw [split xs,split ys]
   exact B3r hlen
  rw [List.range'_succ];simp only [A5y,Sem.run_bind,hp1,Result.andThen_ok,hp2,uR];rw [hd];cases decide ((xs.drop (i*l.length)).take l.length=(ys.drop (i*l.length)).take l.length) with
  | true=>simpa using ih
  | false=>simp
def C9Z:∀ (d D:Nat) (t:TypeId) (l:List Sh),d<=D->A8S P d t=A4 l->D6m P D t l
 | 0,_,_,_,_,h=>by simp [A8S] at h
 | d+1,0,_,_,hD,_=>by omega
 | d+1,D+1,t,l,hD,h=>by
  have ih:=λt' l'=>C9Z d D t' l' (by omega)
  have mO:=C7Y h;intro μ w xs ys Xs Ys hx hy hX hY;unfold A8S at h;split at h
  ·rename_i hu;cases h;obtain ⟨x,X,rfl,rfl,h1,h2⟩:=B6c hx hX;obtain ⟨y,Y,rfl,rfl,h3,h4⟩:=B6c hy hY;obtain ⟨a,rfl⟩:=D0g h1;obtain ⟨b,rfl⟩:=D0g h3;cases h2;cases h4;have hm:∀ v:Value,mkv P t [v]=v:=λv=>by simp [mkv,iQ,hu]
   rw [hm,hm,run_equalIn_bool' w D t a b hu,C9B];simp
  ·rename_i k hu;cases h;obtain ⟨x,X,rfl,rfl,h1,h2⟩:=B6c hx hX;obtain ⟨y,Y,rfl,rfl,h3,h4⟩:=B6c hy hY;obtain ⟨a,rfl⟩:=D0h h1;obtain ⟨b,rfl⟩:=D0h h3;cases h2;cases h4;have hm:∀ v:Value,mkv P t [v]=v:=λv=>by simp [mkv,iQ,hu]
   rw [hm,hm,run_equalIn_int w D t k k a b hu,C9B];simp
  ·rename_i hu;cases h;obtain ⟨x,X,rfl,rfl,h1,h2⟩:=B6c hx hX;obtain ⟨y,Y,rfl,rfl,h3,h4⟩:=B6c hy hY;obtain ⟨a,rfl⟩:=D0i h1;obtain ⟨b,rfl⟩:=D0i h3;cases h2;cases h4;have hm:∀ v:Value,mkv P t [v]=v:=λv=>by simp [mkv,iQ,hu]
   rw [hm,hm,run_equalIn_string w D t _ _ hu,ByteArray.toList_mk,ByteArray.toList_mk,show (a==b)=decide (a=b) by rw [Bool.eq_iff_iff];simp];simp
  ·rename_i fs hu;split at h
   ·rename_i sI;have hm:∀ vs:List Value,mkv P t vs=.agg vs.toArray:=λvs=>by simp [mkv,iQ,hu]
    have hfo:P.fieldsOf t=fs:=by simp [Program.fieldsOf,hu]
    rw [hm,hm,run_equalIn_struct w D t _ _ (by rw [hfo];exact hu) sI,hfo];have hxl:xs.length=l.length:=by have:=congrArg List.length hx;simpa using this
    have hyl:ys.length=l.length:=by have:=congrArg List.length hy;simpa using this
    have:=C3a (P:=P) (leaf:=A8S P d) (D:=D) (λt' l' h'=>ih t' l' h') (λt' l' h'=>C7Y h') fs.toList 0 l μ w xs ys Xs Ys h (by omega) (by omega) (by simpa using hx) (by simpa using hy) hX hY;simpa using this
   ·cases h
  ·rename_i n e hu;simp only [D9t] at h;obtain ⟨le,gX,h⟩:=h;split at h
   ·cases h;rename_i hsz;have hm:∀ vs:List Value,mkv P t vs=.agg vs.toArray:=λvs=>by simp [mkv,iQ,hu]
    have D8A:nI P t=A4 (n,e):=by simp [nI,hu]
    rw [hm,hm,run_equalIn_array D8A hsz];have hxl:xs.length=n*le.length:=by have:=congrArg List.length hx;simpa using this
    have hyl:ys.length=n*le.length:=by have:=congrArg List.length hy;simpa using this
    have:=C6e (ih e le gX) (C7Y gX) hsz n 0 μ w xs ys Xs Ys (by omega) (by omega) (by simpa using hx) (by simpa using hy) hX hY;rw [<-List.range_eq_range'] at this;simpa using this
   ·cases h
  ·cases h
def D5E {neg:Bool} {t:TypeId} {l:List Sh} {x y v:Val} {X Y:Value} (mO:iQ P t=A4 A5) (hl:A8S P 100 t=A4 l) (hx:RV μ x X) (hy:RV μ y Y) (h:aeq neg l x y=A4 v) :
  ∃ V,(binOp (bif neg then .neq else .eql) t X Y).run P w=.ok V w/\RV μ v V:=by
 unfold aeq at h;split at h
 ·obtain ⟨Xs,rfl,hX⟩:=hx;obtain ⟨Ys,rfl,hY⟩:=hy;split at h
  ·rename_i hc;cases h;have:=C9Z (P:=P) 100 10000 t l (by omega) hl μ w _ _ Xs Ys hc.1 hc.2 hX hY;have hm:∀ vs:List Value,mkv P t vs=.agg vs.toArray:=λvs=>by simp [mkv,mO]
   rw [hm,hm] at this;cases neg
   ·exact ⟨_,by rw [cond_false,run_eql_struct,this];rfl,rfl⟩
   ·exact ⟨_,by rw [cond_true,run_neq_struct,this];rfl,rfl⟩
  ·cases h
 ·cases h
end
section
variable {P:Program} {μ:Mu} {w:World}
def C4N (P:Program) (t:TypeId):Option (TypeId × TypeId):=match P.underlying t with | some (.map k e)=>A4 (k,e) | _=>A7
def A0X {t k e:TypeId} (h:C4N P t=A4 (k,e)):P.underlying t=A4 (.map k e):=by
 unfold C4N at h;cases hu:P.underlying t with
 | none=>rw [hu] at h;cases h
 | some d=>rw [hu] at h;cases d<;>simp_all
def A6q (P:Program) (k:TypeId) (kk:Option IntKind):Bool :=
 match P.underlying k,kk with
 | some (.int i),A4 j=>decide (i=j)
 | some .string,none=>A5
 | _,_=>A6
def A5r (v:Value):Part->Bool
 | .c x=>v.oneCell'&&gT v [x]
 | .a l=>(match v with | .agg _=>A5 | _=>A6)&&gT v l
def B1M {v:Value} {p:Part} (h:A5r v p=A5):RP μ p v:=by
 cases p with
 | c x =>
  simp only [A5r,D9v] at h;have h2:=eQ (μ:=μ) h.2;have h3:v.cells = #[v]:=by
   have:=h.1;cases v<;>simp_all [Value.oneCell',Value.cells]
  rw [h3] at h2;exact h2.1
 | a l =>
  simp only [A5r,D9v] at h;have h2:=eQ (μ:=μ) h.2;cases v with
  | agg vs=>exact ⟨vs.toList,by simp,by simpa [Value.cells] using h2⟩
  | _=>cases h.1
def C0H {k:TypeId} {kk:Option IntKind} {d:TypeDesc} {c:Cell} {V:Value} (hd:P.underlying k=A4 d) (hk:A6q P k kk=A5) (hs:oO kk c=A5) (hc:RC μ c V):MapKept.IsKey d V:=by
 unfold A6q at hk;rw [hd] at hk;cases d<;>cases kk<;>simp at hk
 all_goals
  cases c<;>simp [oO] at hs
 ·subst hk;subst hs;cases hc;rfl
 ·cases hc;trivial
def D65 {kk:Option IntKind} {c c':Cell} {V V':Value} (h1:oO kk c=A5) (h2:oO kk c'=A5) (hc:RC μ c V) (hc':RC μ c' V'):V=V'↔c=c':=by
 cases kk with
 | none =>
  cases c<;>simp [oO] at h1
  cases c'<;>simp [oO] at h2
  cases hc;cases hc';simp
 | some k =>
  cases c<;>simp [oO] at h1
  cases c'<;>simp [oO] at h2
  cases hc;cases hc';subst h1;subst h2;simp
def C4R {d:TypeDesc} {kk:Option IntKind} {k:Cell} {K:Value} (hkd:∀ c V,oO kk c=A5->RC μ c V->MapKept.IsKey d V) (hk:oO kk k=A5) (hK:RC μ k K) :
  ∀ (es:Q7) (E:List MapEntry) (i:Nat),All2 (RE μ) es E->(es.all λe=>oO kk e.1)=A5 ->
   match mgo k es i with
   | none=>Instr.findNow d K E i=A4 A7
   | some (j,p)=>∃ V,Instr.findNow d K E i=A4 (A4 (j,V))/\RP μ p V/\i<=j/\∃ e E',es[j-i]?=A4 e/\e=(k,p)/\E[j-i]?=A4 E'/\E'.val=V/\E'.key=K
 | [],[],i,_,_=>rfl
 | e::es,E0::E,i,⟨⟨h1,h2⟩,h3⟩,hs=>by
  simp only [E0j,D9v] at hs;obtain ⟨r,hr,D7W⟩:=MapKept.sameNow_of_keys (hkd k K hk hK) (hkd e.1 E0.key hs.1 h1);have hke:=D65 hk hs.1 hK h1;unfold mgo;by_cases he:e.1=k
  ·rw [if_pos he];have:r=A5:=D7W.2 (hke.2 he.symm);subst this;refine ⟨E0.val,by simp [Instr.findNow,hr],h2,D9x _,e,E0,by simp,by rw [<-he],by simp,rfl,(hke.2 he.symm).symm⟩
  ·rw [if_neg he];have hrf:r=A6:=by
    cases r with
    | false=>rfl
    | true=>exact absurd (hke.1 (D7W.1 rfl)).symm he
   subst hrf;have ih:=C4R hkd hk hK es E (i+1) h3 hs.2;cases hm:mgo k es (i+1) with
   | none=>rw [hm] at ih;simp only at ih ⊢;simp [Instr.findNow,hr,ih]
   | some jp =>
    obtain ⟨j,p⟩:=jp;rw [hm] at ih;obtain ⟨V,g1,g2,g3,e',E',g4,g5,g6,g7,g8⟩:=ih;refine ⟨V,by simp [Instr.findNow,hr,g1],g2,by omega,e',E',?_,g5,?_,g7,g8⟩
    ·rw [show j-i=(j-(i+1))+1 by omega];simpa using g4
    ·rw [show j-i=(j-(i+1))+1 by omega];simpa using g6
 | [],_::_,_,h,_=>h.elim
 | _::_,[],_,h,_=>h.elim
def RP.val {p:Part} {V:Value} (h:RP μ p V):RV μ (oV A6 p A5) V:=by
 cases p<;>exact h
def C8X {p:Part} {b:Bool}:oV A6 p b=oV A6 p A5:=by cases p<;>rfl
def C44 {ok b:Bool} {p:Part} {V:Value} (h:RP μ p V):RV μ (oV ok p b) (if ok then .tuple #[V,.bool b] else V):=by
 cases ok with
 | true=>exact ⟨[V,.bool b],rfl,h,rfl,trivial⟩
 | false =>
  rw [C8X];exact RP.val h
def C4J {v:Val} {c:Cell} {V:Value} (h:B3S v=A4 c) (hv:RV μ v V):RC μ c V:=by
 cases v<;>simp [B3S] at h
 subst h;exact hv
def C7e {v:Val} {p:Part} {V:Value} (h:B7y v=A4 p) (hv:RV μ v V):RP μ p V:=by
 cases v<;>simp [B7y] at h
 ·subst h;exact hv
 ·subst h;exact hv
def D5p {hp:A9} {m:Val} {M:Value} {es:Q7} (hrow:∀ id r,rd hp id=A4 r->RowOk μ w id r) (hm:RV μ m M) (h:C4O hp m=A4 es) :
  (M=.map A7/\es=[])\/∃ b E,M=.map (A4 b)/\w.heap[b]?=A4 (.map E E.size)/\All2 (RE μ) es E.toList/\∀ (i:Nat) (e:MapEntry),E[i]?=A4 e->e.born=i:=by
 unfold C4O at h;split at h
 ·cases h;exact .inl ⟨hm,rfl⟩
 ·rename_i id;obtain ⟨b,n,h1,rfl⟩:=hm;simp only [D9t] at h;obtain ⟨r,hr,h⟩:=h;have:=A9B h;subst this;obtain ⟨E,h2,h3,h4⟩:=(hrow id _ hr).map h1;exact .inr ⟨b,E,rfl,h2,h3,h4⟩
 ·cases h
def D39 {t kt et:TypeId} {kk:Option IntKind} {z:Value} {zero:Part} {ok:Bool} {hp:A9} {m x v:Val} {M X:Value} (ht:C4N P t=A4 (kt,et)) (hkk:A6q P kt kk=A5) (hz:wG P et=A4 z) (hc:A5r z zero=A5)
  (hrow:∀ id r,rd hp id=A4 r->RowOk μ w id r) (hm:RV μ m M) (hx:RV μ x X) (h:qN hp kk zero ok m x=A4 v) :
  ∃ V,(Instr.lookup t M X ok).run P w=.ok V w/\RV μ v V:=by
 simp only [qN,D9t] at h;obtain ⟨k,hk,es,hes,h⟩:=h;split at h
 ·cases h;rename_i A1U;simp only [wV,D9v] at A1U;have hK:=C4J hk hx;cases hd:P.underlying kt with
  | none=>unfold A6q at hkk;rw [hd] at hkk;cases hkk
  | some d =>
   have hkd:∀ c V,oO kk c=A5->RC μ c V->MapKept.IsKey d V:=λc V=>C0H hd hkk
   have hX:=hkd k X A1U.1 hK;rcases D5p hrow hm hes with ⟨rfl,rfl⟩ | ⟨b,E,rfl,h1,h2,_⟩
   ·refine ⟨_,?_,C44 (B1M hc)⟩;simp [Instr.lookup,E6 (A0X ht),MapKept.run_checkKey hd hX,MapKept.run_findKey (l:=[]) hd (show Instr.findNow d X [] 0=A4 A7 from rfl),wD hz]
   ·have hg:=C4R hkd A1U.1 hK es E.toList 0 h2 A1U.2;unfold A4b;cases hmg:mgo k es 0 with
    | none =>
     rw [hmg] at hg;refine ⟨_,?_,C44 (B1M hc)⟩;simp [Instr.lookup,E6 (A0X ht),MapKept.run_getObj_map h1,MapKept.run_checkKey hd hX,MapKept.run_findKey hd hg,wD hz]
    | some jp =>
     obtain ⟨j,p⟩:=jp;rw [hmg] at hg;obtain ⟨V,g1,g2,_⟩:=hg;refine ⟨_,?_,C44 g2⟩;simp [Instr.lookup,E6 (A0X ht),MapKept.run_getObj_map h1,MapKept.run_checkKey hd hX,MapKept.run_findKey hd g1]
 ·cases h
def A8W {Γ:Ctx} {h:A9} {id b n:Nat} {es es':Q7} {E E':Array MapEntry} (hi:Inv Γ μ h w) (hr:rd h id=A4 (K8 es)) (hm:μ id=A4 (b,n)) (hb:w.heap[b]?=A4 (.map E E.size))
  (h1:All2 (RE μ) es' E'.toList) (h2:∀ (i:Nat) (e:MapEntry),E'[i]?=A4 e->e.born=i):Inv Γ μ (h.set id (A4 (K8 es'))) { w with heap:=w.heap.setIfInBounds b (.map E' E'.size) }:=by
 obtain ⟨g1,g2⟩:=MapKept.heap_set (o':=.map E' E'.size) hb;refine hi.turn hr (Row.own_mrow _) (Row.own_mrow _) hm rfl rfl rfl g2 ?_;unfold RowOk;rw [hm];exact .inr (.inl ⟨es',E',rfl,g1,h1,h2⟩)
def All2.modify {es:Q7} {E:List MapEntry} {i:Nat} {e:Cell × Part} {f:MapEntry->MapEntry} (h:All2 (RE μ) es E) (hf:∀ x,E[i]?=A4 x->RE μ e (f x)):All2 (RE μ) (es.set i e) (E.modify i f):=by
 refine All2.of_get (by simp [h.length]) λj a b ha hb=>?_
 rw [List.getElem?_modify] at hb;by_cases hj:i=j
 ·subst hj;obtain ⟨x,hx,rfl⟩:∃ x,E[i]?=A4 x/\f x=b:=by
   cases hE:E[i]? with
   | none=>rw [hE] at hb;simp at hb
   | some y=>rw [hE] at hb;simp at hb;exact ⟨y,rfl,hb⟩
  have T1:i<es.length:=by
   have:=(List.getElem?_eq_some_iff.1 hx).1;rw [h.length];exact this
  rw [List.getElem?_set_self T1] at ha;cases ha;exact hf x hx
 ·rw [E0o hj] at ha;have hb':E[j]?=A4 b:=by
   cases hE:E[j]? with
   | none=>rw [hE] at hb;simp at hb
   | some y=>rw [hE] at hb;simp [hj] at hb;rw [hb]
  obtain ⟨y,hy,hR⟩:=h.get j a ha;rw [hb'] at hy;cases hy;exact hR
def C7r {Γ:Ctx} {t kt et:TypeId} {kk:Option IntKind} {h h':A9} {m k x:Val} {M K X:Value} (ht:C4N P t=A4 (kt,et)) (hkk:A6q P kt kk=A5)
  (hi:Inv Γ μ h w) (hm:RV μ m M) (hk:RV μ k K) (hx:RV μ x X) (hh:xK h kk m k x=A4 h') :
  ∃ w',(Instr.mapUpdate t M K X).run P w=.ok () w'/\Inv Γ μ h' w':=by
 unfold xK at hh;split at hh
 ·rename_i id;obtain ⟨b,n,hmu,rfl⟩:=hm;simp only [D9t] at hh;obtain ⟨kc,hkc,p,hp,r,hr,es,hes,hh⟩:=hh;split at hh
  ·cases hh;rename_i A1U;simp only [wV,D9v] at A1U;have:=A9B hes;subst this;have hK:=C4J hkc hk;have hX:=C7e hp hx;obtain ⟨E,h1,h2,h3⟩:=(hi.rows id _ hr).map hmu;cases hd:P.underlying kt with
   | none=>unfold A6q at hkk;rw [hd] at hkk;cases hkk
   | some d =>
    have hkd:∀ c V,oO kk c=A5->RC μ c V->MapKept.IsKey d V:=λc V=>C0H hd hkk
    have C8w:=hkd kc K A1U.1 hK;have hg:=C4R hkd A1U.1 hK es E.toList 0 h2 A1U.2;unfold A4c A4b;cases hmg:mgo kc es 0 with
    | none =>
     rw [hmg] at hg;refine ⟨_,?_,A8W (E':=E.push { key:=K,val:=X,born:=E.size }) hi hr hmu h1 (by rw [Array.toList_push];exact h2.append ⟨⟨hK,hX⟩,trivial⟩) ?_⟩
     ·simp [Instr.mapUpdate,E6 (A0X ht),MapKept.run_getObj_map h1,MapKept.run_checkKey hd C8w,MapKept.run_findKey hd hg,MapKept.run_setObj_map _ h1]
     ·intro i e he;rw [Array.getElem?_push] at he;split at he
      ·cases he;rename_i hh;exact hh.symm
      ·exact h3 i e he
    | some jp =>
     obtain ⟨j,q⟩:=jp;rw [hmg] at hg;obtain ⟨V,g1,g2,_,e0,E0,g4,g5,g6,g7,g8⟩:=hg;simp only [Nat.sub_zero] at g4 g6;have g6':E[j]?=A4 E0:=by simpa using g6
     refine ⟨_,?_,A8W (E':=E.modify j λe=>{ e with key:=K,val:=X }) hi hr hmu h1 ?_ ?_⟩
     ·simp [Instr.mapUpdate,E6 (A0X ht),MapKept.run_getObj_map h1,MapKept.run_checkKey hd C8w,MapKept.run_findKey hd g1,g6',g8,MapKept.run_keyThatStays C8w,MapKept.run_setObj_map _ h1]
     ·rw [Array.toList_modify];exact All2.modify h2 λx hx=>⟨hK,hX⟩
     ·intro i e he;rw [Array.getElem?_modify] at he;split at he
      ·rw [D9J] at he;obtain ⟨e',he',rfl⟩:=he;exact h3 i e' he'
      ·exact h3 i e he
  ·cases hh
 ·cases hh
def D4a {Γ:Ctx} {t kt et:TypeId} {kk:Option IntKind} {z:Value} {zero:Part} {h h':A9} {m k v:Val} {M K:Value} (ht:C4N P t=A4 (kt,et)) (hkk:A6q P kt kk=A5) (hz:wG P et=A4 z) (hc:A5r z zero=A5)
  (hi:Inv Γ μ h w) (hm:RV μ m M) (hk:RV μ k K) (hh:C5C h kk zero m k=A4 (v,h')) :
  ∃ V w',(Instr.mapEntry t M K).run P w=.ok V w'/\RV μ v V/\Inv Γ μ h' w':=by
 unfold C5C at hh;split at hh
 ·rename_i id;obtain ⟨b,n,hmu,rfl⟩:=hm;simp only [D9t] at hh;obtain ⟨kc,hkc,r,hr,es,hes,hh⟩:=hh;split at hh
  ·rename_i A1U;simp only [wV,D9v] at A1U;have:=A9B hes;subst this;have hK:=C4J hkc hk;have hZ:RP μ zero z:=B1M hc;obtain ⟨E,h1,h2,h3⟩:=(hi.rows id _ hr).map hmu;cases hd:P.underlying kt with
   | none=>unfold A6q at hkk;rw [hd] at hkk;cases hkk
   | some d =>
    have hkd:∀ c V,oO kk c=A5->RC μ c V->MapKept.IsKey d V:=λc V=>C0H hd hkk
    have C8w:=hkd kc K A1U.1 hK;have hg:=C4R hkd A1U.1 hK es E.toList 0 h2 A1U.2;unfold A4b at hh;cases hmg:mgo kc es 0 with
    | none =>
     rw [hmg] at hg hh;cases hh;have hlen:es.length=E.size:=by have:=h2.length;simpa using this
     refine ⟨.tuple #[z,goInt E.size],_,?_,⟨[z,goInt E.size],rfl,hZ,by rw [hlen];rfl,trivial⟩,A8W (E':=E.push { key:=K,val:=z,born:=E.size }) hi hr hmu h1 (by rw [Array.toList_push];exact h2.append ⟨⟨hK,hZ⟩,trivial⟩) ?_⟩
     ·simp [Instr.mapEntry,E6 (A0X ht),MapKept.run_getObj_map h1,MapKept.run_checkKey hd C8w,MapKept.run_findKey hd hg,wD hz,MapKept.run_setObj_map _ h1]
     ·intro i e he;rw [Array.getElem?_push] at he;split at he
      ·cases he;rename_i hh;exact hh.symm
      ·exact h3 i e he
    | some jp =>
     obtain ⟨j,q⟩:=jp;rw [hmg] at hg hh;cases hh;obtain ⟨V,g1,g2,_,e0,E0,g4,g5,g6,g7,g8⟩:=hg;simp only [Nat.sub_zero] at g4 g6;have g6':E[j]?=A4 E0:=by simpa using g6
     have D7M:=h3 j E0 g6';have D8Y:es.set j (kc,q)=es:=by
      apply E0q;intro i;by_cases hij:j=i
      ·subst hij;rw [List.getElem?_set_self (List.getElem?_eq_some_iff.1 g4).1,g4,g5]
      ·rw [E0o hij]
     have hI:=A8W (es':=es.set j (kc,q)) (E':=E.modify j λe=>{ e with key:=K }) hi hr hmu h1 (by
      rw [Array.toList_modify];refine All2.modify h2 λx hx=>⟨hK,?_⟩
      rw [g6] at hx;cases hx;show RP μ q E0.val;rw [g7];exact g2) (by
      intro i e he;rw [Array.getElem?_modify] at he;split at he
      ·rw [D9J] at he;obtain ⟨e',he',rfl⟩:=he;exact h3 i e' he'
      ·exact h3 i e he)
     rw [D8Y] at hI;have hsame:h.set id (A4 (K8 es))=h:=by
      apply E0q;intro i;by_cases hij:id=i
      ·subst hij;rw [List.getElem?_set_self (D7 hr)];rw [rd_some] at hr;rw [hr]
      ·rw [E0o hij]
     rw [hsame] at hI;refine ⟨.tuple #[V,goInt j],_,?_,⟨[V,goInt j],rfl,g2,rfl,trivial⟩,hI⟩;simp [Instr.mapEntry,E6 (A0X ht),MapKept.run_getObj_map h1,MapKept.run_checkKey hd C8w,MapKept.run_findKey hd g1,g6',g8,D7M,MapKept.run_keyThatStays C8w,MapKept.run_setObj_map _ h1]
  ·cases hh
 ·cases hh
def D4c {Γ:Ctx} {t:TypeId} {h h':A9} {m s x:Val} {M S X:Value}
  (hi:Inv Γ μ h w) (hm:RV μ m M) (hs:RV μ s S) (hx:RV μ x X) (hh:C5D h m s x=A4 h') :
  ∃ w',(Instr.entryStore t M S X).run P w=.ok () w'/\Inv Γ μ h' w':=by
 unfold C5D at hh;split at hh
 ·rename_i id n;obtain ⟨b,nn,hmu,rfl⟩:=hm;cases hs;simp only [D9t] at hh;obtain ⟨p,hp,r,hr,es,hes,hh⟩:=hh;split at hh
  ·rename_i hn;simp only [D9t,D9y] at hh;obtain ⟨e,he,rfl⟩:=hh;have:=A9B hes;subst this;have hX:=C7e hp hx;obtain ⟨E,h1,h2,h3⟩:=(hi.rows id _ hr).map hmu;obtain ⟨E0,hE0,hR⟩:=h2.get _ _ he;have D8x:E[n.toNat]?=A4 E0:=by simpa using hE0
   have D7S:E.findIdx? (λe=>(e.born:Int)==n)=A4 n.toNat:=by
    rw [Array.findIdx?_eq_some_iff_getElem];have T1:=(Array.getElem?_eq_some_iff.1 D8x).1;refine ⟨T1,?_,λj hj=>?_⟩
    ·have:=h3 n.toNat E[n.toNat] (by simp [T1]);simp [this];omega
    ·have:=h3 j E[j] (by simp);simp [this];omega
   refine ⟨_,?_,A8W (E':=E.modify n.toNat λe=>{ e with val:=X }) hi hr hmu h1 ?_ ?_⟩
   ·simp [Instr.entryStore,MapKept.run_getObj_map h1,asInt,asIntOf,D7S,MapKept.run_setObj_map _ h1]
   ·rw [Array.toList_modify];refine All2.modify h2 λx hx=>⟨?_,hX⟩
    rw [hE0] at hx;cases hx;exact hR.1
   ·intro i e' he';rw [Array.getElem?_modify] at he';split at he'
    ·rw [D9J] at he';obtain ⟨e'',D8F,rfl⟩:=he';exact h3 i e'' D8F
    ·exact h3 i e' he'
  ·cases hh
 ·cases hh
def D1J {Γ:Ctx} {t:TypeId} {h:A9} {n0:Nat} {slot:Option Nat} (hi:Inv Γ μ h w) (hs:tA μ h n0 slot) :
  ∃ V w' μ',(Instr.makeMap t A7).run P w=.ok V w' /\ μ.le μ'/\RV μ' (.c (.m (bU h n0 slot (K8 [])).1)) V/\Inv Γ μ' (bU h n0 slot (K8 [])).2 w'/\Keeps μ μ' h n0 slot:=by
 obtain ⟨h1,h2,h3,h4,h5,h6⟩:=oH (r:=K8 []) hs hi.dom;refine ⟨.map (A4 w.heap.size),w.alloc (.map #[] 0),_,rfl,Mu.le_add h1,⟨_,0,R6 _ _ _,rfl⟩,?_,Keeps.new⟩;refine hi.fresh h1 rfl rfl rfl (λb hb=>?_) h2 h3 h4 h5 ?_
 ·show (w.heap.push _)[b]?=_;rw [Array.getElem?_push,if_neg (by omega)]
 ·unfold RowOk;simp only [Mu.add,if_true];refine .inr (.inl ⟨[],#[],rfl,by show (w.heap.push _)[w.heap.size]?=_;simp,trivial,λi e he=>by simp at he⟩)
end
def A5E:Value->Bool
 | .slice A7 0 0=>A5
 | _=>A6
def vD (place:Nat->Option (Nat × Nat)):List (Nat × Operand)->List (Nat × Nat × Opd)->Bool
 | [],[]=>A5
 | q::qs,p::ps=>decide (place q.1=A4 (p.1,p.2.1))&&D6 q.2 p.2.2&&vD place qs ps
 | _,_=>A6
def places (P:Program) (fs:Array Field):List (Option (Nat × Nat)):=fs.toList.map λf=>(O2 P f.type).map λn=>(f.offset,n)
def A9k {α:Type}:List (Option α)->Option (List α)
 | []=>A4 []
 | some a::r=>(A9k r).map λl=>a::l
 | none::_=>A7
def A3O (P:Program) (s:TypeId) (j:Nat):Option Field:=(A18 P s).bind λfs=>fs[j]?
def A8f (P:Program) (e:TypeId):Bool :=
 match P.info? e with
 | some i=>decide (i.bytes<=65536)&&decide (i.bytes≠0)&&decide (i.size≠0)&&(match i.zero with | some z=>decide (z.cells.size=i.size) | none=>A6)
 | none=>A6
def D6y (P:Program) (t:TypeId):Bool :=
 match P.underlying t with
 | some .string=>A5
 | some (.slice _)=>A5
 | _=>A6
def D4R (P:Program) (o:Op):AOp->Bool
 | .mv y=>(match o with | .move x=>D6 x y | .assign x=>D6 x y | _=>A6)
 | .nilrow _=>(match o with | .move (.const v)=>A5E v | .assign (.const v)=>A5E v | _=>A6)
 | .pick c a b=>(match o with | .pick c' a' b'=>D6 c' c&&D6 a' a&&D6 b' b | _=>A6)
 | .alloc z=>(match o with | .alloc t=>(match wG P t with | some v=>gT v z | none=>A6) | _=>A6)
 | .box y=>(match o with | .box _ x=>D6 x y | _=>A6)
 | .build z ps=>(match o with
   | .build t qs=>(match wG P t with | some v=>gT v z | none=>A6) &&
     (match A18 P t with
      | some fs=>(match A9k (places P fs) with | some pl=>vD (pl[·]?) qs.toList ps | none=>A6)
      | none=>(match nI P t with | some (_,e)=>(match O2 P e with | some sz=>vD (λi=>A4 (i*sz,sz)) qs.toList ps | none=>A6) | none=>A6))
   | _=>A6)
 | .buildSl sz len z ps=>(match o with
   | .buildSlice t len' qs=>decide (len=len')&&(match sliceB P t with
     | some e=>decide (O2 P e=A4 sz)&&decide (len*sz<=2 ^ 24)&&(match wG P e with
       | some v=>gT (.agg ((Array.range (len*sz)).map (v.cells[· % v.cells.size]!))) z
       | none=>A6)&&vD (λi=>A4 (i*sz,sz)) qs.toList ps
     | none=>A6)
   | _=>A6)
 | .load1 y=>(match o with | .load t x=>decide (iQ P t=A4 A6)&&D6 x y | _=>A6)
 | .loadN n y=>(match o with | .load t x=>decide (iQ P t=A4 A5)&&decide (O2 P t=A4 n)&&D6 x y | _=>A6)
 | .store1 y z=>(match o with | .store t x v=>decide (O2 P t=A4 1)&&D6 x y&&D6 v z | _=>A6)
 | .storeN n y z=>(match o with | .store t x v=>decide (O2 P t=A4 n)&&D6 x y&&D6 v z | _=>A6)
 | .bin op y z=>(match o with | .binOp op' _ x v _=>decide (op=op')&&D6 x y&&D6 v z | _=>A6)
 | .eqA neg sh y z=>(match o with | .binOp op' t x v _=>decide ((bif neg then BinOp.neq else .eql)=op')&&decide (iQ P t=A4 A5)&&decide (A8S P 100 t=A4 sh) && !P.eqGuardType P.depth t&&D6 x y&&D6 v z | _=>A6)
 | .eqB neg y z=>(match o with | .binOp op' t x v _=>decide ((bif neg then BinOp.neq else .eql)=op')&&(match P.underlying t with | some .bool=>A5 | _=>A6)&&D6 x y&&D6 v z | _=>A6)
 | .eqN fn neg y=>(match o with | .binOp op' t x (.const c) _=>decide ((bif neg then BinOp.neq else .eql)=op')&&C4H P fn t c&&D6 x y | _=>A6)
 | .nilc y=>(match o with | .nilCheck x=>D6 x y | _=>A6)
 | .un op y=>(match o with | .unOp op' _ x=>decide (op=op')&&D6 x y | _=>A6)
 | .conv k y=>(match o with | .convert s d x=>(B1X P s).isSome&&decide (B1X P d=A4 k)&&D6 x y | _=>A6)
 | .convS y=>(match o with | .convert s d x=>aP P s&&aP P d&&D6 x y | _=>A6)
 | .s2b y=>(match o with | .convert s d x=>aP P s&&(match sliceB P d with | some e=>decide (B1X P e=A4 .u8) | none=>A6)&&D6 x y | _=>A6)
 | .b2s y=>(match o with | .convert s d x=>aP P d&&(match sliceB P s with | some e=>decide (B1X P e=A4 .u8) | none=>A6)&&D6 x y | _=>A6)
 | .b2sN _ y=>(match o with | .convert s d x=>aP P d&&(match sliceB P s with | some e=>decide (B1X P e=A4 .u8) | none=>A6)&&D6 x y | _=>A6)
 | .mark y=>(match o with | .convert s d x=>decide (s=d)&&(match sliceB P s with | some e=>decide (B1X P e=A4 .u8) | none=>A6)&&D6 x y | _=>A6)
 | .mkf f caps=>(match o with | .makeFunc (.func g) first cs=>decide (f=g)&&first.isEmpty&&A1P cs.toList caps | _=>A6)
 | .mkSl sz z y y2=>(match o with
   | .makeSlice t x x2=>D6 x y&&D6 x2 y2&&(match sliceB P t with
     | some e=>A8f P e&&decide (O2 P e=A4 sz)&&decide (z.length=sz)&&(match wG P e with | some v=>gT v z | none=>A6)
     | none=>A6)
   | _=>A6)
 | .slS y lo hi=>(match o with | .slice t x l h none=>aP P t&&D6 x y&&A8e l lo&&A8e h hi | _=>A6)
 | .slL sz y lo hi=>(match o with | .slice t x l h none=>(match sliceB P t with | some e=>decide (O2 P e=A4 sz) | none=>A6)&&D6 x y&&A8e l lo&&A8e h hi | _=>A6)
 | .slA n sz y lo hi=>(match o with | .slice t x l h none=>(match nI P t with | some (m,e)=>decide (m=n)&&decide (O2 P e=A4 sz) | none=>A6)&&D6 x y&&A8e l lo&&A8e h hi | _=>A6)
 | .fAddr y off=>(match o with | .fieldAddr s x j=>(match A3O P s j with | some f=>decide (f.offset=off)&&(match O2 P f.type with | some n=>decide (n≠0) | none=>A6) | none=>A6)&&D6 x y | _=>A6)
 | .iAddrA n sz y z=>(match o with | .indexAddr t x i=>(match nI P t with | some (m,e)=>decide (m=n)&&decide (O2 P e=A4 sz) | none=>A6)&&D6 x y&&D6 i z | _=>A6)
 | .iAddrL sz y z=>(match o with | .indexAddr t x i=>(match sliceB P t with | some e=>decide (O2 P e=A4 sz) | none=>A6)&&D6 x y&&D6 i z | _=>A6)
 | .fld1 y off=>(match o with | .field s x j=>(match A3O P s j with | some f=>decide (f.offset=off)&&decide (iQ P f.type=A4 A6) | none=>A6)&&D6 x y | _=>A6)
 | .fldN y off n=>(match o with | .field s x j=>(match A3O P s j with | some f=>decide (f.offset=off)&&decide (iQ P f.type=A4 A5)&&decide (O2 P f.type=A4 n) | none=>A6)&&D6 x y | _=>A6)
 | .idxA1 n y z=>(match o with | .index t x i=>(match nI P t with | some (m,e)=>decide (m=n)&&decide (iQ P e=A4 A6)&&decide (O2 P e=A4 1) | none=>A6)&&D6 x y&&D6 i z | _=>A6)
 | .idxAN n sz y z=>(match o with | .index t x i=>(match nI P t with | some (m,e)=>decide (m=n)&&decide (iQ P e=A4 A5)&&decide (O2 P e=A4 sz) | none=>A6)&&D6 x y&&D6 i z | _=>A6)
 | .idxS y z=>(match o with | .index t x i=>aP P t&&D6 x y&&D6 i z | _=>A6)
 | .ext y k=>(match o with | .extract x k'=>decide (k=k')&&D6 x y | _=>A6)
 | .call _ _=>A6
 | .callV _ _=>A6
 | .len y=>(match o with | .call c=>(match c.callee,c.args.toList,c.argTypes.toList with | .builtin .len,[x],[t]=>(sliceB P t).isSome&&D6 x y | _,_,_=>A6) | _=>A6)
 | .lenS y=>(match o with | .call c=>(match c.callee,c.args.toList,c.argTypes.toList with | .builtin .len,[x],[t]=>aP P t&&D6 x y | _,_,_=>A6) | _=>A6)
 | .app sz y z=>(match o with
   | .call c=>(match c.callee,c.args.toList,c.argTypes.toList with
     | .builtin .append,[x,v],[s,yt]=>(match sliceB P s with | some e=>A8f P e&&decide (O2 P e=A4 sz) | none=>A6)&&D6y P yt&&D6 x y&&D6 v z
     | _,_,_=>A6)
   | _=>A6)
 | .appZ sz zero y z=>(match o with
   | .call c=>(match c.callee,c.args.toList,c.argTypes.toList with
     | .builtin .append,[x,v],[s,yt]=>(match sliceB P s with | some e=>A8f P e&&decide (O2 P e=A4 sz)&&(match wG P e with | some v=>gT v zero | none=>A6) | none=>A6)&&(B1X P yt).isSome&&D6 x y&&D6 v z
     | _,_,_=>A6)
   | _=>A6)
 | .max y z=>(match o with | .call c=>(match c.callee,c.args.toList with | .builtin .max,[x,v]=>D6 x y&&D6 v z | _,_=>A6) | _=>A6)
 | .min y z=>(match o with | .call c=>(match c.callee,c.args.toList with | .builtin .min,[x,v]=>D6 x y&&D6 v z | _,_=>A6) | _=>A6)
 | .copy sz y z=>(match o with
   | .call c=>(match c.callee,c.args.toList,c.argTypes.toList with
     | .builtin .copy,[x,v],[s,yt]=>(match sliceB P s with | some e=>decide (O2 P e=A4 sz)&&decide (sz≠0) | none=>A6)&&D6 x y&&D6 v z
     | _,_,_=>A6)
   | _=>A6)
 | .mkMap=>(match o with | .makeMap _ none=>A5 | _=>A6)
 | .look kk zero ok y z=>(match o with
   | .lookup t m k ok'=>(match C4N P t with
     | some (kt,et)=>A6q P kt kk&&(match wG P et with | some v=>A5r v zero | none=>A6)
     | none=>A6)&&decide (ok=ok')&&D6 m y&&D6 k z
   | _=>A6)
 | .mput kk y z z2=>(match o with
   | .mapUpdate t m k x=>(match C4N P t with
     | some (kt,et)=>A6q P kt kk
     | none=>A6)&&D6 m y&&D6 k z&&D6 x z2
   | .insert t m k x=>(match C4N P t with
     | some (kt,et)=>A6q P kt kk
     | none=>A6)&&D6 m y&&D6 k z&&D6 x z2
   | _=>A6)
 | .ment kk zero y z=>(match o with
   | .mapEntry t m k=>(match C4N P t with
     | some (kt,et)=>A6q P kt kk&&(match wG P et with | some v=>A5r v zero | none=>A6)
     | none=>A6)&&D6 m y&&D6 k z
   | _=>A6)
 | .mset y z z2=>(match o with
   | .entryStore _ m s x=>D6 m y&&D6 s z&&D6 x z2
   | _=>A6)
def Res (P:Program) (o:Oper) (a:Act) (w:World) (V:Value) (w':World):Prop :=
 (execOp a.eval o).run P w=.ok (.value V) w'\/((execOp a.eval o).run P w=.ok .skip w'/\V=undef)
section
variable {P:Program} {μ:Mu} {w:World}
def zQ {e:Env} {a:Act} {x:Option Operand} {y:Option Opd} (h:A8e x y=A5) (hs:SEnv μ e a):C30 μ (y.map e.ev) (x.map a.eval):=by
 cases x<;>cases y<;>simp [A8e] at h
 ·trivial
 ·exact C5 h hs
def A1Q {e:Env} {a:Act} (hs:SEnv μ e a) {place:Nat->Option (Nat × Nat)}:∀ {qs:List (Nat × Operand)} {ps:List (Nat × Nat × Opd)},vD place qs ps=A5 ->
  B8U μ place (ps.map λp=>(p.1,p.2.1,e.ev p.2.2)) (qs.map λ(i,x)=>(i,a.eval x))
 | [],[],_=>trivial
 | q::qs,p::ps,h=>by
  simp [vD] at h;exact ⟨⟨h.1.1,C5 h.1.2 hs⟩,A1Q hs h.2⟩
 | [],_::_,h=>by simp [vD] at h
 | _::_,[],h=>by simp [vD] at h
def B9N {α:Type}:∀ {l:List (Option α)} {m:List α},A9k l=A4 m->l=m.map A4
 | [],m,h=>by simp [A9k] at h;subst h;rfl
 | some a::r,m,h=>by
  simp only [A9k,D9J] at h;obtain ⟨l,hl,rfl⟩:=h;simp [B9N hl]
 | none::_,m,h=>by simp [A9k] at h
def A8g {e:TypeId} (h:A8f P e=A5):∃ i z,P.info? e=A4 i/\i.bytes<=65536/\i.bytes≠0/\i.size≠0/\i.zero=A4 z/\z.cells.size=i.size:=by
 unfold A8f at h;split at h
 ·rename_i i hi;simp only [D9v,decide_eq_true_eq] at h;obtain ⟨⟨⟨h1,h2⟩,h3⟩,h4⟩:=h;split at h4
  ·rename_i z hz;exact ⟨i,z,hi,h1,h2,h3,hz,by simpa using h4⟩
  ·cases h4
 ·cases h
def D4S {t:TypeId} (h:D6y P t=A5):P.underlying t=A4 .string\/∃ e',P.underlying t=A4 (.slice e'):=by
 unfold D6y at h;split at h
 ·exact .inl ‹_›
 ·exact .inr ⟨_,‹_›⟩
 ·cases h
def C22:∀ {l:List Val} {cs:List (Nat × Nat)} {Vs:List Value},B9V l=A4 cs->All2 (RV μ) l Vs->All2 (RPtr μ) cs Vs
 | [],cs,[],h,_=>by simp [B9V] at h;subst h;trivial
 | v::r,cs,V::Vs,h,⟨h1,h2⟩=>by
  unfold B9V at h;split at h
  ·rename_i uR;cases uR
  ·rename_i id off r' uR;cases uR;simp only [D9J] at h;obtain ⟨l,hl,rfl⟩:=h;exact ⟨h1,C22 hl h2⟩
  ·cases h
 | [],_,_::_,_,h=>h.elim
 | _::_,_,[],_,h=>h.elim
end
section
variable {P:Program} {μ:Mu} {w:World}
def D4y (P:Program) (Γ:Ctx) (μ:Mu) (o:Oper) (a:Act) (w:World) (h:A9) (n0:Nat) (slot:Option Nat) (v:Val) (h':A9):Prop :=
 ∃ V w' μ',Res P o a w V w' /\ μ.le μ'/\RV μ' v V/\Inv Γ μ' h' w'/\Keeps μ μ' h n0 slot
def J1 {Γ:Ctx} {o:Oper} {a:Act} {v:Val} {h:A9} {n0:Nat} {slot:Option Nat} {s:Sem Value} (hi:Inv Γ μ h w) (he:execOp a.eval o=(do pure (Next.value (<-s)))) (hr:∃ V,s.run P w=.ok V w/\RV μ v V):D4y P Γ μ o a w h n0 slot v h:=by
 obtain ⟨V,h1,h2⟩:=hr;exact ⟨V,w,μ,.inl (by rw [he];simp [h1]),Mu.le_refl _,h2,hi,Keeps.refl _ _ _ _⟩
def jI {Γ:Ctx} {o:Oper} {a:Act} {v:Val} {h h':A9} {n0:Nat} {slot:Option Nat} {s:Sem Value} (he:execOp a.eval o=(do pure (Next.value (<-s)))) (hr:∃ V w' μ',s.run P w=.ok V w' /\ μ.le μ'/\RV μ' v V/\Inv Γ μ' h' w'/\Keeps μ μ' h n0 slot):D4y P Γ μ o a w h n0 slot v h':=by
 obtain ⟨V,w',μ',h1,h2,h3,h4⟩:=hr;exact ⟨V,w',μ',.inl (by rw [he];simp [h1]),h2,h3,h4⟩
def A4g {Γ:Ctx} {o:Oper} {a:Act} {h h':A9} {n0:Nat} {slot:Option Nat} {s:Sem Unit} (he:execOp a.eval o=(do s;pure Next.skip)) (hr:∃ w',s.run P w=.ok () w'/\Inv Γ μ h' w'):D4y P Γ μ o a w h n0 slot .un h':=by
 obtain ⟨w',h1,h2⟩:=hr;exact ⟨undef,w',μ,.inr ⟨by rw [he];simp [h1],rfl⟩,Mu.le_refl _,trivial,h2,Keeps.refl _ _ _ _⟩
def C0w {op:BinOp} {t:TypeId} {x y:Operand} {X Y:Value} (hX:∀ c,X≠.agg c) (hX2:X≠.nilIface):(eqGuard op t x y X Y).run P w=.ok () w:=by
 unfold eqGuard;cases X<;>cases Y<;>simp_all<;>split<;>rfl
def C7T {op:BinOp} {x y v:Val} {X:Value} (h:K6 op x y=A4 v) (hx:RV μ x X):(∀ c,X≠.agg c)/\X≠.nilIface:=by
 unfold K6 at h;split at h
 ·cases hx;simp
 ·cases hx;simp
 ·cases h
def D7o {Γ:Ctx} {E:J9} {q:Bool} {hr:A9} {n0:Nat} {slot:Option Nat} {o:Oper} {ao:AOp} {e:Env} {h:A9} {a:Act} {v:Val} {h':A9}
  (hc:D4R P o.op ao=A5) (hs:SEnv μ e a) (hi:Inv Γ μ h w) (hrd:∀ id r,rd hr id=A4 r->rd h id=A4 r) (tL:tA μ h n0 slot)
  (C7:aop E q hr n0 slot ao e h (λv h=>A4 (v,h))=A4 (v,h')):D4y P Γ μ o a w h n0 slot v h':=by
 have hrow:∀ id r,rd hr id=A4 r->RowOk μ w id r:=λid r h1=>hi.rows id r (hrd id r h1)
 obtain ⟨dst,op,type,pos,after,guard⟩:=o;simp only at hc;cases ao<;>simp only [D4R] at hc<;>simp only [aop] at C7
 case mv y =>
  cases C7;split at hc
  ·exact ⟨_,w,μ,.inl rfl,Mu.le_refl _,C5 hc hs,hi,Keeps.refl _ _ _ _⟩
  ·exact ⟨_,w,μ,.inl rfl,Mu.le_refl _,C5 hc hs,hi,Keeps.refl _ _ _ _⟩
  ·cases hc
 case nilrow sz =>
  cases C7;have key:∀ x:Value,A5E x=A5->x=.slice A7 0 0:=by
   intro x hx;unfold A5E at hx;split at hx<;>first | rfl | cases hx
  split at hc
  ·exact ⟨_,w,μ,.inl rfl,Mu.le_refl _,.inr ⟨rfl,A7,key _ hc⟩,A3Z hi tL,Keeps.refl _ _ _ _⟩
  ·exact ⟨_,w,μ,.inl rfl,Mu.le_refl _,.inr ⟨rfl,A7,key _ hc⟩,A3Z hi tL,Keeps.refl _ _ _ _⟩
  ·cases hc
 case pick c x y =>
  simp only [D9t,D9y,D9D] at C7;obtain ⟨_,hp,rfl,rfl⟩:=C7;split at hc
  ·simp only [D9v] at hc;rename_i c' x' y';have h1:RV μ _ _:=C5 hc.1.1 hs;have h2:=C5 hc.1.2 hs;have h3:=C5 hc.2 hs;unfold C5H at hp;split at hp
   ·rename_i b uR;cases hp;rw [uR] at h1;have h1:a.eval c'=.bool b:=h1;cases b
    ·exact ⟨_,w,μ,.inl (by simp [execOp,h1,asBool]),Mu.le_refl _,h3,hi,Keeps.refl _ _ _ _⟩
    ·exact ⟨_,w,μ,.inl (by simp [execOp,h1,asBool]),Mu.le_refl _,h2,hi,Keeps.refl _ _ _ _⟩
   ·cases hp
  ·cases hc
 case alloc z =>
  cases C7;split at hc
  ·split at hc
   ·exact jI rfl (D1D hi tL ‹_› hc)
   ·cases hc
  ·cases hc
 case box y =>
  simp only [D9t,D9y,D9D] at C7;obtain ⟨cs,hp,rfl,rfl⟩:=C7;split at hc
  ·exact jI rfl (D5D hi tL (C5 hc hs) hp)
  ·cases hc
 case build z ps =>
  simp only [D9t,D9y,D9D] at C7;obtain ⟨cs,hp,rfl,rfl⟩:=C7;split at hc
  ·rename_i t qs;simp only [D9v] at hc;obtain ⟨hz,hc⟩:=hc;split at hz
   ·rename_i zv hzv;have uR:∀ qs:Array (Nat × Operand),(qs.map λ(i,x)=>(i,a.eval x))=(qs.toList.map λ(i,x)=>(i,a.eval x)).toArray:=by intro qs;apply Array.ext';simp
    split at hc
    ·rename_i fs hfs;split at hc
     ·rename_i pl hpl;refine J1 hi rfl ?_;rw [uR];exact C85 hfs hzv hz (B9N hpl) (A1Q hs hc) hp
     ·cases hc
    ·split at hc
     ·rename_i n e Z5;split at hc
      ·rename_i sz hsz;refine J1 hi rfl ?_;rw [uR];exact C84 Z5 hsz hzv hz (A1Q hs hc) hp
      ·cases hc
     ·cases hc
   ·cases hz
  ·cases hc
 case buildSl sz len z ps =>
  simp only [D9t,D9y,D9D] at C7;obtain ⟨cs,hp,rfl,rfl⟩:=C7;split at hc
  ·rename_i t len' qs;simp only [D9v,decide_eq_true_eq] at hc;obtain ⟨rfl,hc⟩:=hc;split at hc
   ·rename_i e he;simp only [D9v,decide_eq_true_eq] at hc;obtain ⟨⟨⟨h1,h2⟩,h3⟩,h4⟩:=hc;split at h3
    ·rename_i zv hzv;refine jI rfl ?_;have uR:(qs.map λ(i,x)=>(i,a.eval x))=(qs.toList.map λ(i,x)=>(i,a.eval x)).toArray:=by apply Array.ext';simp
     rw [uR];exact C7q hi tL he h1 hzv h2 h3 (A1Q hs h4) hp
    ·cases h3
   ·cases hc
  ·cases hc
 case load1 y =>
  simp only [D9t,D9y,D9D] at C7;obtain ⟨_,hp,rfl,rfl⟩:=C7;split at hc
  ·simp only [D9v,decide_eq_true_eq] at hc;exact J1 hi rfl (C3F hc.1 hrow (C5 hc.2 hs) hp)
  ·cases hc
 case loadN n y =>
  simp only [D9t,D9y,D9D] at C7;obtain ⟨_,hp,rfl,rfl⟩:=C7;split at hc
  ·simp only [D9v,decide_eq_true_eq] at hc;exact J1 hi rfl (C3G hc.1.1 hc.1.2 hrow (C5 hc.2 hs) hp)
  ·cases hc
 case store1 y z =>
  simp only [D9t,D9y,D9D] at C7;obtain ⟨_,hp,rfl,rfl⟩:=C7;split at hc
  ·simp only [D9v,decide_eq_true_eq] at hc;exact A4g rfl (C88 hc.1.1 hi (C5 hc.1.2 hs) (C5 hc.2 hs) hp)
  ·cases hc
 case storeN n y z =>
  simp only [D9t,D9y,D9D] at C7;obtain ⟨_,hp,rfl,rfl⟩:=C7;split at hc
  ·simp only [D9v,decide_eq_true_eq] at hc;exact A4g rfl (C89 hc.1.1 hi (C5 hc.1.2 hs) (C5 hc.2 hs) hp)
  ·cases hc
 case bin op' y z =>
  simp only [D9t,D9y,D9D] at C7;obtain ⟨_,hp,rfl,rfl⟩:=C7;split at hc
  ·rename_i op2 xt x y2 yt;simp only [D9v,decide_eq_true_eq] at hc;obtain ⟨⟨rfl,h1⟩,h2⟩:=hc;have hx:RV μ _ _:=C5 h1 hs;have hy:RV μ _ _:=C5 h2 hs;refine J1 (s:=do eqGuard op' xt x y2 (a.eval x) (a.eval y2);binOp op' xt (a.eval x) (a.eval y2)) hi rfl ?_;obtain ⟨V,h3,h4⟩:=D5C (P:=P) (w:=w) (xt:=xt) hx hy hp;have h5:=C7T hp hx;exact ⟨V,by rw [Sem.run_bind,C0w h5.1 h5.2];exact h3,h4⟩
  ·cases hc
 case eqA neg sh y z =>
  simp only [D9t,D9y,D9D] at C7;obtain ⟨_,hp,rfl,rfl⟩:=C7;split at hc
  ·rename_i op2 xt x y2 yt;simp only [D9v,decide_eq_true_eq,E0e] at hc;obtain ⟨⟨⟨⟨⟨rfl,h1⟩,h2⟩,h3⟩,h4⟩,h5⟩:=hc;have hx:RV μ _ _:=C5 h4 hs;have hy:RV μ _ _:=C5 h5 hs;refine J1 (s:=do eqGuard (bif neg then .neq else .eql) xt x y2 (a.eval x) (a.eval y2);binOp (bif neg then .neq else .eql) xt (a.eval x) (a.eval y2)) hi rfl ?_;obtain ⟨V,h6,h7⟩:=D5E (P:=P) (w:=w) h1 h2 hx hy hp;have hag:(eqGuard (bif neg then BinOp.neq else .eql) xt x y2 (a.eval x) (a.eval y2)).run P w=.ok () w:=by
    unfold aeq at hp;split at hp
    ·rename_i e1 e2;rw [e1] at hx;rw [e2] at hy;obtain ⟨xs,e3,_⟩:=hx;obtain ⟨ys,e4,_⟩:=hy;rw [e3,e4];exact run_eqGuard_agg w _ xt x y2 _ _ h3
    ·cases hp
   exact ⟨V,by rw [Sem.run_bind,hag];exact h6,h7⟩
  ·cases hc
 case eqB neg y z =>
  simp only [D9t,D9y,D9D] at C7;obtain ⟨_,hp,rfl,rfl⟩:=C7;split at hc
  ·rename_i op2 xt x y2 yt;simp only [D9v,decide_eq_true_eq] at hc;obtain ⟨⟨⟨rfl,h1⟩,h4⟩,h5⟩:=hc;split at h1
   ·rename_i hu;have hx:RV μ _ _:=C5 h4 hs;have hy:RV μ _ _:=C5 h5 hs;refine J1 (s:=do eqGuard (bif neg then .neq else .eql) xt x y2 (a.eval x) (a.eval y2);binOp (bif neg then .neq else .eql) xt (a.eval x) (a.eval y2)) hi rfl ?_;obtain ⟨V,h6,h7⟩:=D5F (P:=P) (w:=w) hu hx hy hp;have hag:(eqGuard (bif neg then BinOp.neq else .eql) xt x y2 (a.eval x) (a.eval y2)).run P w=.ok () w:=by
     unfold C7U at hp;split at hp
     ·rename_i e1 e2;rw [e1] at hx;have hx:a.eval x=.bool _:=hx;rw [hx];exact C0w (by simp) (by simp)
     ·cases hp
    exact ⟨V,by rw [Sem.run_bind,hag];exact h6,h7⟩
   ·cases h1
  ·cases hc
 case eqN fn neg y =>
  simp only [D9t,D9y,D9D] at C7;obtain ⟨_,hp,rfl,rfl⟩:=C7;split at hc
  ·rename_i op2 xt x c yt;simp only [D9v,decide_eq_true_eq] at hc;obtain ⟨⟨rfl,h1⟩,h4⟩:=hc;have hx:RV μ _ _:=C5 h4 hs;refine J1 (s:=do eqGuard (bif neg then .neq else .eql) xt x (.const c) (a.eval x) (a.eval (.const c));binOp (bif neg then .neq else .eql) xt (a.eval x) (a.eval (.const c))) hi rfl ?_;obtain ⟨V,h6,h7⟩:=D5G (P:=P) (w:=w) h1 hx hp;have aK:(∀ c,a.eval x≠.agg c)/\a.eval x≠.nilIface:=by
    unfold C4f at hp;split at hp
    ·rename_i e1;rw [e1] at hx;have hx:a.eval x=.nilFunc:=hx;rw [hx];simp
    ·rename_i e1;rw [e1] at hx;obtain ⟨cs,hx,_⟩:=hx;rw [hx];simp
    ·rename_i e1;rw [e1] at hx;have hx:a.eval x=.pointer A7:=hx;rw [hx];simp
    ·rename_i e1;rw [e1] at hx;obtain ⟨b,n,_,hx⟩:=hx;rw [hx];simp
    ·cases hp
   exact ⟨V,by rw [Sem.run_bind,C0w aK.1 aK.2];exact h6,h7⟩
  ·cases hc
 case nilc y =>
  simp only [D9t,D9y,D9D] at C7;obtain ⟨_,hp,rfl,rfl⟩:=C7;split at hc
  ·rename_i x;have hx:RV μ _ _:=C5 hc hs;unfold A3H at hp;split at hp
   ·rename_i e1;cases hp;rw [e1] at hx;have hx':=hx;obtain ⟨b,n,_,hx⟩:=hx;exact ⟨_,w,μ,.inl (by simp only [execOp,hx];rfl),Mu.le_refl _,hx ▸ hx',hi,Keeps.refl _ _ _ _⟩
   ·rename_i e1;cases hp;rw [e1] at hx;have hx':=hx;obtain ⟨cs,hx,_⟩:=hx;exact ⟨_,w,μ,.inl (by simp only [execOp,hx];rfl),Mu.le_refl _,hx ▸ hx',hi,Keeps.refl _ _ _ _⟩
   ·cases hp
  ·cases hc
 case un op' y =>
  simp only [D9t,D9y,D9D] at C7;obtain ⟨_,hp,rfl,rfl⟩:=C7;split at hc
  ·simp only [D9v,decide_eq_true_eq] at hc;obtain ⟨rfl,h1⟩:=hc;exact J1 hi rfl (D7p (C5 h1 hs) hp)
  ·cases hc
 case conv k y =>
  simp only [D9t,D9y,D9D] at C7;obtain ⟨_,hp,rfl,rfl⟩:=C7;split at hc
  ·simp only [D9v,decide_eq_true_eq] at hc;obtain ⟨ks,hks⟩:=Option.isSome_iff_exists.1 hc.1.1;exact J1 hi rfl (D32 hks hc.1.2 (C5 hc.2 hs) hp)
  ·cases hc
 case convS y =>
  simp only [D9t,D9y,D9D] at C7;obtain ⟨_,hp,rfl,rfl⟩:=C7;split at hc
  ·simp only [D9v] at hc;exact J1 hi rfl (D1F hc.1.1 hc.1.2 (C5 hc.2 hs) hp)
  ·cases hc
 case s2b y =>
  simp only [D9t,D9y,D9D] at C7;obtain ⟨l,hp,rfl,rfl⟩:=C7;split at hc
  ·simp only [D9v] at hc;obtain ⟨⟨h1,h2⟩,h3⟩:=hc;split at h2
   ·rename_i e he;have hx:RV μ _ _:=C5 h3 hs;unfold D6w at hp;split at hp
    ·rename_i uR;split at hp
     ·cases hp;rename_i hl;rw [uR] at hx;have hx:a.eval _=.string ⟨l.toArray⟩:=hx;refine jI rfl ?_;rw [hx];exact D5L hi tL h1 he (by simpa using h2) hl
     ·cases hp
    ·cases hp
   ·cases h2
  ·cases hc
 case b2s y =>
  simp only [D9t,D9y,D9D] at C7;obtain ⟨_,hp,rfl,rfl⟩:=C7;split at hc
  ·simp only [D9v] at hc;obtain ⟨⟨h1,h2⟩,h3⟩:=hc;split at h2
   ·exact J1 hi rfl (C7p ‹_› (by simpa using h2) h1 hrow (C5 h3 hs) hp)
   ·cases h2
  ·cases hc
 case b2sN own y =>
  simp only [D9t,D9y,D9D] at C7;obtain ⟨_,hp,rfl,rfl⟩:=C7;have hp:=C7S hp;split at hc
  ·simp only [D9v] at hc;obtain ⟨⟨h1,h2⟩,h3⟩:=hc;split at h2
   ·exact J1 hi rfl (C7p ‹_› (by simpa using h2) h1 hi.rows (C5 h3 hs) hp)
   ·cases h2
  ·cases hc
 case mark y =>
  simp only [D9t,D9y,D9D] at C7;obtain ⟨_,hp,rfl,rfl⟩:=C7;split at hc
  ·simp only [D9v,decide_eq_true_eq] at hc;obtain ⟨⟨rfl,h2⟩,h3⟩:=hc;split at h2
   ·have hx:=C5 (μ:=μ) h3 hs;obtain ⟨w',h4,h5,h6⟩:=run_mark (P:=P) hi ‹_› (by simpa using h2) hx hp;exact jI rfl ⟨_,w',μ,h4,Mu.le_refl _,h5 ▸ hx,h6,Keeps.refl _ _ _ _⟩
   ·cases h2
  ·cases hc
 case mkf f caps =>
  simp only [D9t,D9y,D9D] at C7;obtain ⟨_,hp,rfl,rfl⟩:=C7;split at hc
  ·rename_i g first cs
   simp only [D9v,decide_eq_true_eq] at hc;obtain ⟨⟨rfl,h1⟩,h2⟩:=hc;unfold A70 at hp;simp only [D9J] at hp;obtain ⟨l,hl,rfl⟩:=hp;have h3:=C22 hl (A5q hs h2);refine ⟨_,w,μ,.inl rfl,Mu.le_refl _,⟨cs.toList.map a.eval,?_,h3⟩,hi,Keeps.refl _ _ _ _⟩;have:first = #[]:=by simpa using h1
   subst this;show Value.func _ _ _=Value.func _ _ _
   congr 1<;>(apply Array.ext';simp)
  ·cases hc
 case mkSl sz z y y2 =>
  simp only [D9t,D9y,D9D] at C7;obtain ⟨n',hp,rfl,rfl⟩:=C7;unfold B8l at hp;simp only [D9t] at hp;obtain ⟨n,hn,c,hcc,hp⟩:=hp;split at hp
  ·cases hp;rename_i hnc;split at hc
   ·simp only [D9v] at hc;obtain ⟨⟨h1,h2⟩,h3⟩:=hc;split at h3
    ·rename_i e he;simp only [D9v,decide_eq_true_eq] at h3;obtain ⟨⟨⟨h4,h5⟩,h6⟩,h7⟩:=h3;split at h7
     ·rename_i zv hzv;obtain ⟨i,z',hi1,hi2,hi3,hi4,hi5,hi6⟩:=A8g h4;have hsz:i.size=sz:=by simpa [O2,hi1] using h5
      refine jI rfl (D4b hi tL he h5 hzv h7 h6 (by omega) (show B9U P e=A4 i.bytes by simp [B9U,hi1]) hi2 (C5 h1 hs) (C5 h2 hs) hn hcc hnc)
     ·cases h7
    ·cases h3
   ·cases hc
  ·cases hp
 case slS y lo hi' =>
  simp only [D9t,D9y,D9D] at C7;obtain ⟨_,hp,rfl,rfl⟩:=C7;split at hc
  ·simp only [D9v] at hc;obtain ⟨⟨⟨h1,h2⟩,h3⟩,h4⟩:=hc;exact J1 hi rfl (D5O h1 (C5 h2 hs) (zQ h3 hs) (zQ h4 hs) hp)
  ·cases hc
 case slL sz y lo hi' =>
  simp only [D9t,D9y,D9D] at C7;obtain ⟨_,hp,rfl,rfl⟩:=C7;split at hc
  ·simp only [D9v] at hc;obtain ⟨⟨⟨h1,h2⟩,h3⟩,h4⟩:=hc;split at h1
   ·exact J1 hi rfl (D5N ‹_› (by simpa using h1) (C5 h2 hs) (zQ h3 hs) (zQ h4 hs) hp)
   ·cases h1
  ·cases hc
 case slA n sz y lo hi' =>
  simp only [D9t,D9y,D9D] at C7;obtain ⟨_,hp,rfl,rfl⟩:=C7;split at hc
  ·simp only [D9v] at hc;obtain ⟨⟨⟨h1,h2⟩,h3⟩,h4⟩:=hc;split at h1
   ·simp only [D9v,decide_eq_true_eq] at h1;obtain ⟨rfl,h1⟩:=h1;exact J1 hi rfl (D5M ‹_› h1 hrow (C5 h2 hs) (zQ h3 hs) (zQ h4 hs) hp)
   ·cases h1
  ·cases hc
 case fAddr y off =>
  simp only [D9t,D9y,D9D] at C7;obtain ⟨_,hp,rfl,rfl⟩:=C7;split at hc
  ·simp only [D9v] at hc;obtain ⟨h1,h2⟩:=hc;split at h1
   ·rename_i f hf;simp only [D9v,decide_eq_true_eq] at h1;obtain ⟨h3,h4⟩:=h1;split at h4
    ·simp only [A3O,D9t] at hf;obtain ⟨fs,hfs,hf⟩:=hf;exact J1 hi rfl (D1G hfs hf ‹_› (by simpa using h4) h3 (C5 h2 hs) hp)
    ·cases h4
   ·cases h1
  ·cases hc
 case iAddrA n sz y z =>
  simp only [D9t,D9y,D9D] at C7;obtain ⟨_,hp,rfl,rfl⟩:=C7;split at hc
  ·simp only [D9v] at hc;obtain ⟨⟨h1,h2⟩,h3⟩:=hc;split at h1
   ·simp only [D9v,decide_eq_true_eq] at h1;obtain ⟨rfl,h1⟩:=h1;exact J1 hi rfl (C86 ‹_› h1 (C5 h2 hs) (C5 h3 hs) hp)
   ·cases h1
  ·cases hc
 case iAddrL sz y z =>
  simp only [D9t,D9y,D9D] at C7;obtain ⟨_,hp,rfl,rfl⟩:=C7;split at hc
  ·simp only [D9v] at hc;obtain ⟨⟨h1,h2⟩,h3⟩:=hc;split at h1
   ·exact J1 hi rfl (C87 ‹_› (by simpa using h1) (C5 h2 hs) (C5 h3 hs) hp)
   ·cases h1
  ·cases hc
 case fld1 y off =>
  simp only [D9t,D9y,D9D] at C7;obtain ⟨_,hp,rfl,rfl⟩:=C7;split at hc
  ·simp only [D9v] at hc;obtain ⟨h1,h2⟩:=hc;split at h1
   ·rename_i f hf;simp only [D9v,decide_eq_true_eq] at h1;obtain ⟨rfl,h4⟩:=h1;simp only [A3O,D9t] at hf;obtain ⟨fs,hfs,hf⟩:=hf;exact J1 hi rfl (D34 hfs hf h4 (C5 h2 hs) hp)
   ·cases h1
  ·cases hc
 case fldN y off n =>
  simp only [D9t,D9y,D9D] at C7;obtain ⟨_,hp,rfl,rfl⟩:=C7;split at hc
  ·simp only [D9v] at hc;obtain ⟨h1,h2⟩:=hc;split at h1
   ·rename_i f hf;simp only [D9v,decide_eq_true_eq] at h1;obtain ⟨⟨rfl,h4⟩,h5⟩:=h1;simp only [A3O,D9t] at hf;obtain ⟨fs,hfs,hf⟩:=hf;exact J1 hi rfl (D35 hfs hf h4 h5 (C5 h2 hs) hp)
   ·cases h1
  ·cases hc
 case idxA1 n y z =>
  simp only [D9t,D9y,D9D] at C7;obtain ⟨_,hp,rfl,rfl⟩:=C7;split at hc
  ·simp only [D9v] at hc;obtain ⟨⟨h1,h2⟩,h3⟩:=hc;split at h1
   ·simp only [D9v,decide_eq_true_eq] at h1;obtain ⟨⟨rfl,h4⟩,h5⟩:=h1;exact J1 hi rfl (D1H ‹_› h4 h5 (C5 h2 hs) (C5 h3 hs) hp)
   ·cases h1
  ·cases hc
 case idxAN n sz y z =>
  simp only [D9t,D9y,D9D] at C7;obtain ⟨_,hp,rfl,rfl⟩:=C7;split at hc
  ·simp only [D9v] at hc;obtain ⟨⟨h1,h2⟩,h3⟩:=hc;split at h1
   ·simp only [D9v,decide_eq_true_eq] at h1;obtain ⟨⟨rfl,h4⟩,h5⟩:=h1;exact J1 hi rfl (D1I ‹_› h4 h5 (C5 h2 hs) (C5 h3 hs) hp)
   ·cases h1
  ·cases hc
 case idxS y z =>
  simp only [D9t,D9y,D9D] at C7;obtain ⟨_,hp,rfl,rfl⟩:=C7;split at hc
  ·simp only [D9v] at hc;obtain ⟨⟨h1,h2⟩,h3⟩:=hc;exact J1 hi rfl (D36 h1 (C5 h2 hs) (C5 h3 hs) hp)
  ·cases hc
 case ext y k =>
  simp only [D9t,D9y,D9D] at C7;obtain ⟨_,hp,rfl,rfl⟩:=C7;split at hc
  ·simp only [D9v,decide_eq_true_eq] at hc;obtain ⟨rfl,h1⟩:=hc;exact J1 hi rfl (D5H (C5 h1 hs) hp)
  ·cases hc
 case call=>cases hc
 case callV=>cases hc
 case len y =>
  simp only [D9t,D9y,D9D] at C7;obtain ⟨_,hp,rfl,rfl⟩:=C7;split at hc
  ·rename_i c;split at hc
   ·rename_i x t hca hargs hty;simp only [D9v] at hc;obtain ⟨e,he⟩:=Option.isSome_iff_exists.1 hc.1;have h1:c.args = #[x]:=by cases hcc:c.args;simp_all
    have h2:c.argTypes = #[t]:=by cases hcc:c.argTypes;simp_all
    refine J1 (s:=Builtin.len_ #[t] type #[a.eval x]) hi ?_ (D5I he (C5 hc.2 hs) hp);simp [execOp,resolve,hca,h1,h2,invoke,builtin]
   ·cases hc
  ·cases hc
 case lenS y =>
  simp only [D9t,D9y,D9D] at C7;obtain ⟨_,hp,rfl,rfl⟩:=C7;split at hc
  ·rename_i c;split at hc
   ·rename_i x t hca hargs hty;simp only [D9v] at hc;have h1:c.args = #[x]:=by cases hcc:c.args;simp_all
    have h2:c.argTypes = #[t]:=by cases hcc:c.argTypes;simp_all
    refine J1 (s:=Builtin.len_ #[t] type #[a.eval x]) hi ?_ (D38 hc.1 (C5 hc.2 hs) hp);simp [execOp,resolve,hca,h1,h2,invoke,builtin]
   ·cases hc
  ·cases hc
 case app sz y z =>
  simp only [D9t,D9y] at C7;obtain ⟨p,hp,vO⟩:=C7;simp only [D9D] at vO;obtain ⟨rfl,rfl⟩:=vO;split at hc
  ·rename_i c;split at hc
   ·rename_i x x2 s yt hca hargs hty;simp only [D9v] at hc;obtain ⟨⟨⟨h1,h2⟩,h3⟩,h4⟩:=hc;split at h1
    ·rename_i e he;simp only [D9v,decide_eq_true_eq] at h1;obtain ⟨i,z',hi1,hi2,hi3,hi4,hi5,hi6⟩:=A8g h1.1;have hsz:i.size=sz:=by simpa [O2,hi1] using h1.2
     subst hsz;have e1:c.args = #[x,x2]:=by cases hcc:c.args;simp_all
     have e2:c.argTypes = #[s,yt]:=by cases hcc:c.argTypes;simp_all
     obtain ⟨V,w',μ',g1,g2,g3,g4,g5⟩:=D5B (P:=P) (ty:=type) hi (M0 he) hi1 hi2 hi3 hi5 hi6 hi4 (D4S h2) (C5 h3 hs) (C5 h4 hs) hp;refine jI (s:=Builtin.append_ #[s,yt] type #[a.eval x,a.eval x2]) ?_ ⟨V,w',μ',g1,g2,g3,g4,λid hid _=>g5 id hid⟩;simp [execOp,resolve,hca,e1,e2,invoke,builtin]
    ·cases h1
   ·cases hc
  ·cases hc
 case appZ sz zero y z =>
  simp only [D9t,D9y] at C7;obtain ⟨p,hp,vO⟩:=C7;simp only [D9D] at vO;obtain ⟨rfl,rfl⟩:=vO;split at hc
  ·rename_i c;split at hc
   ·rename_i x x2 s yt hca hargs hty;simp only [D9v] at hc;obtain ⟨⟨⟨h1,h2⟩,h3⟩,h4⟩:=hc;split at h1
    ·rename_i e he;simp only [D9v,decide_eq_true_eq] at h1;obtain ⟨⟨h1,h1s⟩,h1z⟩:=h1;obtain ⟨i,z',hi1,hi2,hi3,hi4,hi5,hi6⟩:=A8g h1;have hsz:i.size=sz:=by simpa [O2,hi1] using h1s
     subst hsz;have e1:c.args = #[x,x2]:=by cases hcc:c.args;simp_all
     have e2:c.argTypes = #[s,yt]:=by cases hcc:c.argTypes;simp_all
     split at h1z
     ·rename_i zv hzv;have hzz:zv=z':=by
       have:=hzv;simp [wG,hi1,hi5] at this;exact this.symm
      subst hzz;obtain ⟨kk,hkk⟩:=Option.isSome_iff_exists.1 h2;obtain ⟨V,w',μ',g1,g2,g3,g4,g5⟩:=D31 (P:=P) (ty:=type) hi (M0 he) hi1 hi2 hi3 hi5 hi6 hi4 (A39 hkk) (eQ h1z) (C5 h3 hs) (C5 h4 hs) hp;refine jI (s:=Builtin.append_ #[s,yt] type #[a.eval x,a.eval x2]) ?_ ⟨V,w',μ',g1,g2,g3,g4,λid hid _=>g5 id hid⟩;simp [execOp,resolve,hca,e1,e2,invoke,builtin]
     ·cases h1z
    ·cases h1
   ·cases hc
  ·cases hc
 case max y z =>
  simp only [D9t,D9y,D9D] at C7;obtain ⟨_,hp,rfl,rfl⟩:=C7;split at hc
  ·rename_i c;split at hc
   ·rename_i x x2 hca hargs;simp only [D9v] at hc;have e1:c.args = #[x,x2]:=by cases hcc:c.args;simp_all
    refine J1 (s:=Builtin.max_ c.argTypes type #[a.eval x,a.eval x2]) hi ?_ (D5J (C5 hc.1 hs) (C5 hc.2 hs) hp);simp [execOp,resolve,hca,e1,invoke,builtin]
   ·cases hc
  ·cases hc
 case min y z =>
  simp only [D9t,D9y,D9D] at C7;obtain ⟨_,hp,rfl,rfl⟩:=C7;split at hc
  ·rename_i c;split at hc
   ·rename_i x x2 hca hargs;simp only [D9v] at hc;have e1:c.args = #[x,x2]:=by cases hcc:c.args;simp_all
    refine J1 (s:=Builtin.min_ c.argTypes type #[a.eval x,a.eval x2]) hi ?_ (D5K (C5 hc.1 hs) (C5 hc.2 hs) hp);simp [execOp,resolve,hca,e1,invoke,builtin]
   ·cases hc
  ·cases hc
 case mkMap =>
  cases C7;split at hc
  ·exact jI rfl (D1J hi tL)
  ·cases hc
 case look kk zero ok y z =>
  simp only [D9t,D9y,D9D] at C7;obtain ⟨_,hp,rfl,rfl⟩:=C7;split at hc
  ·simp only [D9v,decide_eq_true_eq] at hc;obtain ⟨⟨⟨h1,h2⟩,h3⟩,h4⟩:=hc;subst h2;split at h1
   ·simp only [D9v] at h1;obtain ⟨h1,h5⟩:=h1;split at h5
    ·exact J1 hi rfl (D39 ‹_› h1 ‹_› h5 hrow (C5 h3 hs) (C5 h4 hs) hp)
    ·cases h5
   ·cases h1
  ·cases hc
 case mput kk y z z2 =>
  simp only [D9t,D9y,D9D] at C7;obtain ⟨_,hp,rfl,rfl⟩:=C7;split at hc
  ·simp only [D9v] at hc;obtain ⟨⟨⟨h1,h2⟩,h3⟩,h4⟩:=hc;split at h1
   ·exact A4g rfl (C7r ‹_› h1 hi (C5 h2 hs) (C5 h3 hs) (C5 h4 hs) hp)
   ·cases h1
  ·simp only [D9v] at hc;obtain ⟨⟨⟨h1,h2⟩,h3⟩,h4⟩:=hc;split at h1
   ·exact A4g rfl (C7r ‹_› h1 hi (C5 h2 hs) (C5 h3 hs) (C5 h4 hs) hp)
   ·cases h1
  ·cases hc
 case ment kk zero y z =>
  simp only [D9t,D9y] at C7;obtain ⟨p,hp,vO⟩:=C7;simp only [D9D] at vO;obtain ⟨rfl,rfl⟩:=vO;split at hc
  ·simp only [D9v] at hc;obtain ⟨⟨h1,h3⟩,h4⟩:=hc;split at h1
   ·simp only [D9v] at h1;obtain ⟨h1,h5⟩:=h1;split at h5
    ·obtain ⟨V,w',h6,h7,h8⟩:=D4a ‹_› h1 ‹_› h5 hi (C5 h3 hs) (C5 h4 hs) hp;exact jI rfl ⟨V,w',μ,h6,Mu.le_refl _,h7,h8,Keeps.refl _ _ _ _⟩
    ·cases h5
   ·cases h1
  ·cases hc
 case mset y z z2 =>
  simp only [D9t,D9y,D9D] at C7;obtain ⟨_,hp,rfl,rfl⟩:=C7;split at hc
  ·simp only [D9v] at hc;obtain ⟨⟨h2,h3⟩,h4⟩:=hc;exact A4g rfl (D4c hi (C5 h2 hs) (C5 h3 hs) (C5 h4 hs) hp)
  ·cases hc
 case copy sz y z =>
  simp only [D9t,D9y] at C7;obtain ⟨p,hp,vO⟩:=C7;simp only [D9D] at vO;obtain ⟨rfl,rfl⟩:=vO;split at hc
  ·rename_i c;split at hc
   ·rename_i x x2 s yt hca hargs hty;simp only [D9v] at hc;obtain ⟨⟨h1,h3⟩,h4⟩:=hc;split at h1
    ·rename_i e he;simp only [D9v,decide_eq_true_eq] at h1;have e1:c.args = #[x,x2]:=by cases hcc:c.args;simp_all
     have e2:c.argTypes = #[s,yt]:=by cases hcc:c.argTypes;simp_all
     obtain ⟨V,w',h5,h6,h7⟩:=D33 (P:=P) (yt:=yt) (ty:=type) hi he h1.1 h1.2 (C5 h3 hs) (C5 h4 hs) hp;refine jI (s:=Builtin.copy_ #[s,yt] type #[a.eval x,a.eval x2]) ?_ ⟨V,w',μ,h5,Mu.le_refl _,h6,h7,Keeps.refl _ _ _ _⟩;simp [execOp,resolve,hca,e1,e2,invoke,builtin]
    ·cases h1
   ·cases hc
  ·cases hc
end
def iD (P : Program) (f : FuncId) : Prop := ∃ fn : Func, P.funcs[f]? = some fn ∧ (fn.name == "runtime.NumGoroutine") = false ∧ fn.body.isNone = false
def CallOk (P:Program) (f:FuncId) (args:List Val) (h:A9) (v:Val) (h':A9):Prop :=
 ∀ (Γ:Ctx) (μ:Mu) (w:World) (V:List Value),Inv Γ μ h w->All2 (RV μ) args V ->
  Calls P f V.toArray w λe w'=>∃ V' μ',e=.returned V' /\ μ.le μ'/\RV μ' v V'/\Inv Γ μ' h' w'/\∀ id,id<h.length -> μ' id = μ id
def dR (P:Program) (E:J9):Prop:=∀ f args h v h',E f args h=A4 (v,h')->iD P f/\CallOk P f args h v h'/\h.length<=h'.length
def C4o (o:Op):AOp->Bool
 | .call f args=>(match o with
   | .call c=>(match c.callee with | .value (.func g)=>decide (f=g)&&A1P c.args.toList args | _=>A6)
   | _=>A6)
 | .callV x args=>(match o with
   | .call c=>(match c.callee with | .value y=>D6 y x&&A1P c.args.toList args | _=>A6)
   | _=>A6)
 | _=>A6
def C5Y (ops:Array Oper):Option (Nat × Bool)->Option (Nat × Bool)->Bool
 | none,none=>A5
 | some q,A4 p=>decide (q.2=p.2)&&decide ((ops[q.1]?).bind (·.dst)=A4 p.1)
 | _,_=>A6
def wS (N:Nat) (d:Option Nat):Bool:=match d with | some d=>decide (d<N) | none=>A5
def W9 (P:Program) (N:Nat) (ops:Array Oper) (o:Oper) (ao:AOper):Bool :=
 decide (o.dst=ao.dst)&&wS N o.dst&&C5Y ops o.guard ao.guard&&(D4R P o.op ao.op||C4o o.op ao.op)
section
variable {P:Program} {R:Type}
def C5E (E:J9) (q:Bool) (hr:A9) (n0:Nat) (slot:Option Nat) (o:AOp) (e:Env) (h:A9) (k:Val->A9->Option R) :
  aop E q hr n0 slot o e h k=(aop E q hr n0 slot o e h λv h=>A4 (v,h)).bind λp=>k p.1 p.2:=by
 cases o<;>simp only [aop,D9H,Option.bind_assoc]
def B3o {f:FuncId} (hf:iD P f) (args:Array Value) (w:World):(callFunc f args).run P w=.ok (.enter f args) w:=by
 obtain ⟨fn,h1,h2,h3⟩:=hf;unfold callFunc;simp only [Sem.run_bind,run_program,Result.andThen_ok,h1,h2,h3,E0v,if_false];rfl
def B1L {μ:Mu}:∀ {l:List (Nat × Nat)} {cs:List Value},All2 (RPtr μ) l cs->All2 (RV μ) (B8G l) cs
 | [],[],_=>trivial
 | q::l,c::cs,⟨h1,h2⟩=>⟨h1,B1L h2⟩
 | [],_::_,h=>h.elim
 | _::_,[],h=>h.elim
def C9D {Γ:Ctx} {μ:Mu} {o:Oper} {a:Act} {w:World} {g:FuncId} {args:List Val} {h h':A9} {v:Val} {c:Call} {y:Operand} {cs:List Value}
  (ho:o.op=.call c) (C8z:c.callee=.value y) (hy:a.eval y=.func (.func g) #[] cs.toArray) (hg:iD P g) (hk:CallOk P g args h v h')
  (hargs:All2 (RV μ) args (c.args.toList.map a.eval++cs)) (hi:Inv Γ μ h w) {next:Act->World->Prop} {Q:Exit->Act->World->Prop}
  {n0:Nat} {slot:Option Nat} (hn:∀ V w' μ',μ.le μ'->RV μ' v V->Inv Γ μ' h' w'->Keeps μ μ' h n0 slot->next (a.put o.dst V) w'):o.wp P a w next Q:=by
 have A6N:(execOp a.eval o).run P w=.ok (.enter g (c.args.toList.map a.eval++cs).toArray) w:=by
  have e:(#[]++c.args.map a.eval++cs.toArray:Array Value)=(c.args.toList.map a.eval++cs).toArray:=by apply Array.ext';simp
  simp only [execOp,ho,resolve,C8z,hy,Deferred.ofValue,pure_bind,invoke];rw [e];exact B3o hg _ _
 unfold Oper.wp;rw [A6N,Oper.upon_enter];refine (hk Γ μ w _ hi hargs).mono ?_;rintro e w' ⟨V,μ',rfl,h1,h2,h3,h4⟩;exact hn V w' μ' h1 h2 h3 λid hid _=>h4 id hid
def D2m {N:Nat} {ops:Array Oper} {E:J9} (hE:dR P E) {q:Bool} {o:Oper} {ao:AOp} {e:Env} {h hr:A9} {v:Val} {h':A9} {n0:Nat} {slot:Option Nat} {Γ:Ctx} {μ:Mu} {a:Act} {w:World}
  (hc:(D4R P o.op ao||C4o o.op ao)=A5) (hs:SEnv μ e a) (hi:Inv Γ μ h w) (hrd:∀ id r,rd hr id=A4 r->rd h id=A4 r) (tL:tA μ h n0 slot)
  (C7:aop E q hr n0 slot ao e h (λv h=>A4 (v,h))=A4 (v,h')) {next:Act->World->Prop} {Q:Exit->Act->World->Prop}
  (hn:∀ V w' μ',μ.le μ'->RV μ' v V->Inv Γ μ' h' w'->Keeps μ μ' h n0 slot->next (a.put o.dst V) w'):o.wp P a w next Q:=by
 rw [E0y] at hc;rcases hc with hc | hc
 ·obtain ⟨V,w',μ',h1,h2,h3,h4,h5⟩:=D7o hc hs hi hrd tL C7;unfold Oper.wp;rcases h1 with h1 | ⟨h1,rfl⟩
  ·rw [h1];exact hn V w' μ' h2 h3 h4 h5
  ·rw [h1];exact hn undef w' μ' h2 h3 h4 h5
 ·cases ao<;>simp only [C4o] at hc
  case call f args =>
   simp only [aop,D9t,D9y] at C7;obtain ⟨p,hp,vO⟩:=C7;simp only [D9D] at vO;obtain ⟨rfl,rfl⟩:=vO;have hE1:E f (args.map e.ev) h=A4 (p.1,p.2):=by
    cases q with
    | false=>simpa using hp
    | true =>
     simp only [cond_true,quiet,D9t] at hp;obtain ⟨p',h1,h2⟩:=hp;split at h2
     ·cases h2;exact h1
     ·cases h2
   obtain ⟨hg,hk,_⟩:=hE _ _ _ _ _ hE1;split at hc
   ·rename_i c ho;split at hc
    ·rename_i g C8z;simp only [D9v,decide_eq_true_eq] at hc;obtain ⟨rfl,hargs⟩:=hc;exact C9D ho C8z (cs:=[]) rfl hg hk (by rw [D9Q];exact A5q hs hargs) hi hn
    ·cases hc
   ·cases hc
  case callV x args =>
   simp only [aop,D9t,D9y] at C7;obtain ⟨p,hp,vO⟩:=C7;simp only [D9D] at vO;obtain ⟨rfl,rfl⟩:=vO;have hE0:qT E (e.ev x) (args.map e.ev) h=A4 (p.1,p.2):=by
    cases q with
    | false=>simpa using hp
    | true =>
     simp only [cond_true,quiet,D9t] at hp;obtain ⟨p',h1,h2⟩:=hp;split at h2
     ·cases h2;exact h1
     ·cases h2
   unfold qT at hE0;split at hE0
   ·rename_i g caps uR;obtain ⟨hg,hk,_⟩:=hE _ _ _ _ _ hE0;split at hc
    ·rename_i c ho;split at hc
     ·rename_i y C8z;simp only [D9v] at hc;have hy:RV μ _ _:=C5 hc.1 hs;rw [uR] at hy;obtain ⟨cs,h1,h2⟩:=hy;exact C9D ho C8z h1 hg hk ((A5q hs hc.2).append (B1L h2)) hi hn
     ·cases hc
    ·cases hc
   ·cases hE0
  all_goals cases hc
def C9q {ops:Array Oper} {j g:Nat} {a:Act} {e:Env} {μ:Mu} {x:Bool} (hj:(ops[j]?).bind (·.dst)=A4 g) (hs:SEnv μ e a) (he:e.get g=.c (.b x)):yielded ops a.tmps j=A4 x:=by
 have h1:a.tmps.getD g undef=.bool x:=by have:=hs g;rw [he] at this;exact this
 unfold yielded;rw [hj];simp only [D9H];have:a.tmps[g]?=A4 (.bool x):=by
  simp only [Array.getD_eq_getD_getElem?] at h1;cases hh:a.tmps[g]? with
  | none=>rw [hh] at h1;simp [undef] at h1
  | some y=>rw [hh] at h1;simpa using h1
 rw [this]
def C9p {ops:Array Oper} {j g:Nat} {a:Act} {e:Env} {μ:Mu} (hj:(ops[j]?).bind (·.dst)=A4 g) (hs:SEnv μ e a) (he:e.get g=.no):yielded ops a.tmps j=A7:=by
 have h1:a.tmps.getD g undef=undef:=by have:=hs g;rw [he] at this;exact this
 unfold yielded;rw [hj];simp only [D9H];simp only [Array.getD_eq_getD_getElem?] at h1;cases hh:a.tmps[g]? with
 | none=>rfl
 | some y=>rw [hh] at h1;simp [undef] at h1;subst h1;rfl
def D2n {N:Nat} {ops:Array Oper} {E:J9} (hE:dR P E) {q:Bool} {o:Oper} {ao:AOper} {e:Env} {h hr:A9} {n0:Nat} {k:Val->A9->Option R} {r:R}
  (hc:W9 P N ops o ao=A5) (C7:U0 E q hr n0 ao e h k=A4 r) :
  ∃ v h',k v h'=A4 r/\U0 E q hr n0 ao e h (λv h=>A4 (v,h))=A4 (v,h'):=by
 unfold U0 at C7 ⊢;cases hg:ao.guard with
 | none =>
  simp only [hg] at C7 ⊢;rw [C5E] at C7;simp only [D9t] at C7;obtain ⟨p,hp,hk⟩:=C7;exact ⟨p.1,p.2,hk,hp⟩
 | some g =>
  simp only [hg] at C7 ⊢;simp only [D9t] at C7;obtain ⟨p,hp,hk⟩:=C7;exact ⟨p.1,p.2,hk,by rw [hp];rfl⟩
def A3I {N:Nat} {ops:Array Oper} {E:J9} (hE:dR P E) {q:Bool} {o:Oper} {ao:AOper} {e:Env} {h hr:A9} {n0:Nat} {v:Val} {h':A9} {Γ:Ctx} {μ:Mu} {a:Act} {w:World}
  (hc:W9 P N ops o ao=A5) (C7:U0 E q hr n0 ao e h (λv h=>A4 (v,h))=A4 (v,h')) (hs:SEnv μ e a) (hi:Inv Γ μ h w) (hrd:∀ id r,rd hr id=A4 r->rd h id=A4 r) (tL:tA μ h n0 ao.slot)
  {next:Act->World->Prop} {Q:Exit->Act->World->Prop} (hn:∀ V w' μ',μ.le μ'->RV μ' v V->Inv Γ μ' h' w'->Keeps μ μ' h n0 ao.slot->next (a.put o.dst V) w') :
  if Region.wanted o (yielded ops a.tmps) then o.wp P a w next Q\/(o.asks P a w/\LetsOut Q) else next (a.put o.dst undef) w:=by
 simp only [W9,D9v] at hc;obtain ⟨⟨⟨_,_⟩,hg⟩,hop⟩:=hc;unfold U0 at C7;unfold C5Y at hg;cases hag:ao.guard with
 | none =>
  simp only [hag] at C7 hg;cases hog:o.guard with
  | some _=>simp [hog] at hg
  | none =>
   have hw:Region.wanted o (yielded ops a.tmps)=A5:=by simp [Region.wanted,hog]
   rw [if_pos hw];exact .inl (D2m (N:=N) (ops:=ops) hE hop hs hi hrd tL C7 hn)
 | some g =>
  simp only [hag] at C7 hg;cases hog:o.guard with
  | none=>simp [hog] at hg
  | some q2 =>
   simp only [hog,D9v,decide_eq_true_eq] at hg;simp only [D9t] at C7;obtain ⟨p,hp,vO⟩:=C7;simp only [D9y,D9D] at vO;obtain ⟨rfl,rfl⟩:=vO;unfold gd at hp;split at hp
   ·rename_i x uR;have hy:=C9q hg.2 hs uR;have hw:Region.wanted o (yielded ops a.tmps)=(x==g.2):=by
     simp [Region.wanted,hog,hy,hg.1]
    rw [hw];cases hx:(x==g.2) with
    | true =>
     rw [hx] at hp;rw [if_pos rfl];exact .inl (D2m (N:=N) (ops:=ops) hE hop hs hi hrd tL hp hn)
    | false =>
     rw [hx] at hp;simp only [cond_false,D9y] at hp;rw [if_neg (by simp)];cases hp;exact hn undef w μ (Mu.le_refl _) rfl hi (Keeps.refl _ _ _ _)
   ·rename_i uR;have hy:=C9p hg.2 hs uR;have hw:Region.wanted o (yielded ops a.tmps)=A6:=by
     simp [Region.wanted,hog,hy,hg.1]
    rw [hw,if_neg (by simp)];cases hp;exact hn undef w μ (Mu.le_refl _) rfl hi (Keeps.refl _ _ _ _)
   ·cases hp
end
def AExit.conv:AExit->Exit
 | .normal=>.normal
 | .exit id=>.exit id
 | .ret=>.ret
def A9j (P:Program) (N L:Nat) (W:(Exit->Act->World->Prop)->Act->World->Prop) (e:Env) (h:A9) (x:AExit) (e':Env) (h':A9):Prop :=
 ∀ (Γ:Ctx) (μ:Mu) (a:Act) (w:World),SEnv μ e a->Inv Γ μ h w->N<=a.tmps.size->a.defers = Γ.ds->∀ Q:Exit->Act->World->Prop,
  (∀ μ' a' w',μ.le μ'->(∀ id,id<L -> μ' id = μ id)->SEnv μ' e' a'->Inv Γ μ' h' w'->N<=a'.tmps.size->a'.defers = Γ.ds->Q x.conv a' w')->W Q a w
def T6:AOp->Bool
 | .alloc _ | .box _ | .nilrow _ | .buildSl .. | .s2b _ | .mkSl .. | .mkMap=>A5
 | _=>A6
def U6:AOp->Bool
 | .call .. | .callV ..=>A5
 | _=>A6
def A5L:AOp->Bool
 | .store1 .. | .storeN .. | .app .. | .appZ .. | .copy .. | .mput .. | .ment .. | .mset ..=>A6
 | _=>A5
def A0V:AOp->Bool
 | .mark _=>A5
 | .b2sN A7 _=>A5
 | _=>A6
def B4e:AOp->Option Nat
 | .b2sN own _=>own
 | _=>A7
def AOp.opds:AOp->List Opd
 | .mv x | .box x | .load1 x | .loadN _ x | .eqN _ _ x | .nilc x | .un _ x | .conv _ x | .convS x | .s2b x | .b2s x | .b2sN _ x | .mark x | .fAddr x _ | .fld1 x _ | .fldN x _ _ | .ext x _ | .len x | .lenS x=>[x]
 | .nilrow _ | .alloc _ | .mkMap=>[]
 | .pick c a b=>[c,a,b]
 | .look _ _ _ a x | .ment _ _ a x=>[a,x]
 | .mput _ a x y | .mset a x y=>[a,x,y]
 | .build _ ps | .buildSl _ _ _ ps=>ps.map (·.2.2)
 | .store1 a x | .storeN _ a x | .bin _ a x | .eqA _ _ a x | .eqB _ a x | .mkSl _ _ a x | .iAddrA _ _ a x | .iAddrL _ a x | .idxA1 _ a x | .idxAN _ _ a x | .idxS a x | .app _ a x | .appZ _ _ a x | .max a x | .min a x | .copy _ a x=>[a,x]
 | .mkf _ cs=>cs
 | .slS x lo hi | .slL _ x lo hi | .slA _ _ x lo hi=>x::(lo.toList++hi.toList)
 | .call _ args=>args
 | .callV f args=>f::args
def D85:Opd->Option Nat
 | .t n=>A4 n
 | _=>A7
def AOper.reads (o:AOper):List Nat:=o.op.opds.filterMap D85++(o.guard.toList.map (·.1))
def V4 (o:Oper):List Nat:=(o.after.toList.filter (Region.binds .any)).map (·.on)
def C4P (acc:List Nat) (o:Oper):Nat:=(V4 o).foldl (λs p=>s ||| (2 ^ p) ||| acc.getD p 0) 0
def closure:List Oper->List Nat->List Nat
 | [],acc=>acc
 | o::r,acc=>closure r (acc++[C4P acc o])
def N7 (ops:Array Oper):List Nat:=closure ops.toList []
def C3d (g:Nat->Nat) (b:Nat):∀ (ds:List Nat) (s:Nat),(ds.foldl (λs p=>s ||| (2 ^ p) ||| g p) s).testBit b=A5->s.testBit b=A5\/∃ p∈ds,b=p\/(g p).testBit b=A5
 | [],s,h=>.inl h
 | d::ds,s,h=>by
  rcases C3d g b ds _ h with h | ⟨p,hp,h⟩
  ·rw [Nat.testBit_or,Nat.testBit_or,Nat.testBit_two_pow] at h;simp only [E0y,decide_eq_true_eq] at h;rcases h with (h | h) | h
   ·exact .inl h
   ·exact .inr ⟨d,by simp,.inl h.symm⟩
   ·exact .inr ⟨d,by simp,.inr h⟩
  ·exact .inr ⟨p,by simp [hp],h⟩
def A5t:∀ (os:List Oper) (acc:List Nat) (i:Nat),i<acc.length->(closure os acc).getD i 0=acc.getD i 0
 | [],acc,i,h=>rfl
 | o::r,acc,i,h=>by
  rw [closure,A5t r _ i (by simp;omega)];simp [List.getD,D94 h]
def B96:∀ (os:List Oper) (acc:List Nat) (k:Nat) (o:Oper),os[k]?=A4 o->∃ acc',acc'.length=acc.length+k/\(closure os acc).getD (acc.length+k) 0=C4P acc' o/\∀ i,i<acc'.length->(closure os acc).getD i 0=acc'.getD i 0
 | [],acc,k,o,h=>by simp at h
 | x::r,acc,0,o,h=>by
  simp at h;subst h;refine ⟨acc,rfl,?_,λi hi=>?_⟩
  ·rw [closure,A5t r _ _ (by simp)];simp [List.getD]
  ·rw [closure,A5t r _ i (by simp;omega)];simp [List.getD,D94 hi]
 | x::r,acc,k+1,o,h=>by
  simp at h;obtain ⟨acc',h1,h2,h3⟩:=B96 r (acc++[C4P acc x]) k o h;refine ⟨acc',by simp at h1;omega,?_,λi hi=>by rw [closure];exact h3 i hi⟩;rw [closure,<-h2]
  congr 1;simp;omega
def tC {ops:Array Oper} {done:Nat->Bool} (T1:∀ i o,ops[i]?=A4 o->∀ p∈V4 o,p<i)
  (bN:∀ i o,ops[i]?=A4 o->done i=A5->∀ p∈V4 o,done p=A5):∀ (i:Nat) (o:Oper),ops[i]?=A4 o->(∀ p∈V4 o,done p=A5)->∀ b,((N7 ops).getD i 0).testBit b=A5->done b=A5:=by
 intro i
 induction i using Nat.strongRecOn with
 | _ i ih =>
  intro o ho hd b hb;obtain ⟨acc,h1,h2,h3⟩:=B96 ops.toList [] i o (by simpa using ho);simp only [D95,D9T] at h1 h2;rw [N7,h2] at hb;unfold C4P at hb;rcases C3d _ b _ _ hb with hb | ⟨p,hp,rfl | hb⟩
  ·simp at hb
  ·exact hd _ hp
  ·have hpi:=T1 i o ho p hp;have hps:p<ops.size:=by have:=(Array.getElem?_eq_some_iff.1 ho).1;omega
   have hop:ops[p]?=A4 ops[p]:=by simp [hps]
   refine ih p hpi ops[p] hop (bN p _ hop (hd p hp)) b ?_;rw [N7,h3 p (by omega)];exact hb
section
variable {R:Type}
def C9w {E:J9} {q:Bool} {hr:A9} {n0:Nat} {slot:Option Nat} {o:AOp} {e e':Env} {h:A9} {k:Val->A9->Option R} (he:∀ x∈o.opds,e.ev x=e'.ev x):aop E q hr n0 slot o e h k=aop E q hr n0 slot o e' h k:=by
 have parts:∀ ps:List (Nat × Nat × Opd),(∀ x∈ps.map (·.2.2),e.ev x=e'.ev x)->(ps.map λp=>(p.1,p.2.1,e.ev p.2.2))=ps.map λp=>(p.1,p.2.1,e'.ev p.2.2):=λps hp =>
  List.map_congr_left λp hm=>by rw [hp p.2.2 (List.mem_map.2 ⟨p,hm,rfl⟩)]
 have all:∀ l:List Opd,(∀ x∈l,e.ev x=e'.ev x)->l.map e.ev=l.map e'.ev:=λl hl=>List.map_congr_left hl
 have opt:∀ l:Option Opd,(∀ x∈l.toList,e.ev x=e'.ev x)->l.map e.ev=l.map e'.ev:=λl hl=>by cases l with
  | none=>rfl
  | some x=>simp [hl x (by simp)]
 cases o<;>simp only [AOp.opds] at he<;>simp only [aop]
 case build z ps=>rw [parts ps he]
 case buildSl a b z ps=>rw [parts ps he]
 case mkf f cs=>rw [all cs he]
 case call f args=>rw [all args he]
 case callV f args=>rw [he f (by simp),all args λx hx=>he x (by simp [hx])]
 case slS x lo hi=>rw [he x (by simp),opt lo λy hy=>he y (by simp [hy]),opt hi λy hy=>he y (by simp [hy])]
 case slL sz x lo hi=>rw [he x (by simp),opt lo λy hy=>he y (by simp [hy]),opt hi λy hy=>he y (by simp [hy])]
 case slA n sz x lo hi=>rw [he x (by simp),opt lo λy hy=>he y (by simp [hy]),opt hi λy hy=>he y (by simp [hy])]
 all_goals (repeat (rw [he _ (by simp)]))
def B5E {E:J9} {q:Bool} {hr:A9} {n0:Nat} {o:AOper} {e e':Env} {h:A9} {k:Val->A9->Option R} (he:∀ t∈o.reads,e.get t=e'.get t):U0 E q hr n0 o e h k=U0 E q hr n0 o e' h k:=by
 have h1:∀ x∈o.op.opds,e.ev x=e'.ev x:=by
  intro x hx;cases x with
  | v x=>rfl
  | t n=>exact he n (List.mem_append_left _ (List.mem_filterMap.2 ⟨.t n,hx,rfl⟩))
 unfold U0;cases hg:o.guard with
 | none=>exact C9w h1
 | some g =>
  have h2:e.get g.1=e'.get g.1:=he g.1 (List.mem_append_right _ (by simp [hg]));simp only;rw [h2,C9w h1]
def B9O (E:J9) (q:Bool) (hr:A9) (n0:Nat) (o:AOper) (e:Env) (h:A9) (k:Val->A9->Option R):U0 E q hr n0 o e h k=(U0 E q hr n0 o e h λv h=>A4 (v,h)).bind λp=>k p.1 p.2:=by
 unfold U0;cases o.guard with
 | none=>exact C5E ..
 | some g=>simp only [Option.bind_assoc,D9H]
def C2Q {E:J9} {q:Bool} {hr:A9} {n0:Nat} {slot:Option Nat} {o:AOp} {e:Env} {h h':A9} {v:Val} (hq:A5L o=A5) (hm:A0V o=A6) (how:B4e o=A7) (hc:U6 o=A6) (hs:T6 o=A6)
  (C7:aop E q hr n0 slot o e h (λv h=>A4 (v,h))=A4 (v,h')):h'=h/\∀ h2,aop E q hr n0 slot o e h2 (λv h=>A4 (v,h))=A4 (v,h2):=by
 have hnb:∀ own x,o≠.b2sN own x:=by
  intro own x he;subst he;simp only [B4e] at how;subst how;simp [A0V] at hm
 cases o<;>simp [A5L,A0V,U6,T6] at hq hm hc hs<;>simp only [aop] at C7 ⊢
 case b2sN own x=>exact absurd rfl (hnb own x)
 case mv=>cases C7;exact ⟨rfl,λ_=>rfl⟩
 all_goals
  simp only [D9t,D9y,D9D] at C7;obtain ⟨_,h1,rfl,rfl⟩:=C7;exact ⟨rfl,λh2=>by rw [h1];rfl⟩
def C5v {h h2:A9} {x v:Val} (h1:B1A h x=A4 v) (A1c:∀ id off len sz r,x=.c (.sl id off len sz)->rd h id=A4 r->rd h2 id=A4 r):B1A h2 x=A4 v:=by
 unfold B1A at h1 ⊢;split at h1
 ·rename_i id off len sz;split at h1
  ·rename_i hsz;rw [if_pos hsz];rw [D9J] at h1 ⊢;obtain ⟨s,h3,h4⟩:=h1;rw [D9t] at h3;obtain ⟨cs,h5,h6⟩:=h3;refine ⟨s,?_,h4⟩;rw [D9t];refine ⟨cs,?_,h6⟩;unfold kY at h5 ⊢;simp only [D9t] at h5 ⊢;obtain ⟨r,h7,h8⟩:=h5;exact ⟨r,A1c _ _ _ _ r rfl h7,h8⟩
  ·cases h1
 ·exact h1
 ·cases h1
def C9y {E:J9} {q:Bool} {hr:A9} {n0 j:Nat} {slot:Option Nat} {o:AOp} {e:Env} {h h':A9} {v:Val} (ho:B4e o=A4 j)
  (C7:aop E q hr n0 slot o e h (λv h=>A4 (v,h))=A4 (v,h')):h'=h/\∀ h2:A9,(∀ x,rd h (n0+j)=A4 x->rd h2 (n0+j)=A4 x)->aop E q hr n0 slot o e h2 (λv h=>A4 (v,h))=A4 (v,h2):=by
 obtain ⟨x,rfl⟩:∃ x,o=.b2sN (A4 j) x:=by
  unfold B4e at ho;split at ho
  ·subst ho;exact ⟨_,rfl⟩
  ·cases ho
 simp only [aop,D9t,D9y,D9D] at C7;obtain ⟨v',h1,rfl,rfl⟩:=C7;refine ⟨rfl,λh2 A1c=>?_⟩;have:B6T h2 n0 (A4 j) (e.ev x)=A4 v':=by
  unfold B6T at h1 ⊢;simp only at h1 ⊢;split at h1
  ·rename_i id off len sz uR;split at h1
   ·rename_i hid;rw [if_pos hid];refine C5v h1 λbQ _ _ _ r hx hr=>?_
    cases hx;rw [hid] at hr ⊢;exact A1c r hr
   ·cases h1
  ·cases h1
 simp only [aop,this];rfl
def C5F {E:J9} {q:Bool} {hr:A9} {n0:Nat} {slot:Option Nat} {o:AOp} {e:Env} {h h':A9} {v:Val} (hm:A0V o=A5)
  (C7:aop E q hr n0 slot o e h (λv h=>A4 (v,h))=A4 (v,h')):h'=h/\∀ h2:A9,(∀ id x,rd h id=A4 x->rd h2 id=A4 x)->aop E q hr n0 slot o e h2 (λv h=>A4 (v,h))=A4 (v,h2):=by
 have tL:∀ (h2:A9) (x:Val) (v:Val),(∀ id x,rd h id=A4 x->rd h2 id=A4 x)->B1A h x=A4 v->B1A h2 x=A4 v:=λh2 x v A1c h1=>C5v h1 λid _ _ _ r _ hr=>A1c id r hr
 by_cases hb:∃ x,o=.b2sN A7 x
 ·obtain ⟨x,rfl⟩:=hb;simp only [aop,B6T,D9t,D9y,D9D] at C7;obtain ⟨v',h1,rfl,rfl⟩:=C7;exact ⟨rfl,λh2 A1c=>by simp only [aop,B6T,tL h2 _ _ A1c h1];rfl⟩
 obtain ⟨x,rfl⟩:∃ x,o=.mark x:=by
  unfold A0V at hm;split at hm
  ·exact ⟨_,rfl⟩
  ·exact absurd ⟨_,rfl⟩ hb
  ·cases hm
 simp only [aop,D9t,D9y,D9D] at C7;obtain ⟨v',h1,rfl,rfl⟩:=C7;refine ⟨rfl,λh2 A1c=>?_⟩;have:A6d h2 (e.ev x)=A4 v':=by
  unfold A6d at h1 ⊢;split at h1
  ·simp only [D9t] at h1 ⊢;obtain ⟨r,hr,h3⟩:=h1;exact ⟨r,A1c _ _ hr,h3⟩
  ·cases h1
 simp only [aop,this];rfl
def C5G {E:J9} {q:Bool} {hr:A9} {n0 j:Nat} {o:AOp} {e:Env} {h h':A9} {v:Val} (hs:T6 o=A5)
  (C7:aop E q hr n0 (A4 j) o e h (λv h=>A4 (v,h))=A4 (v,h')):∃ r:Row,h'=h.set (n0+j) (A4 r)/\∀ h2:A9,aop E q hr n0 (A4 j) o e h2 (λv h=>A4 (v,h))=A4 (v,h2.set (n0+j) (A4 r)):=by
 cases o<;>simp [T6] at hs<;>simp only [aop,bU] at C7 ⊢
 case alloc z=>cases C7;exact ⟨_,rfl,λ_=>rfl⟩
 case nilrow z=>cases C7;exact ⟨_,rfl,λ_=>rfl⟩
 case mkMap=>cases C7;exact ⟨_,rfl,λ_=>rfl⟩
 all_goals
  simp only [D9t,D9y,D9D] at C7;obtain ⟨_,h1,rfl,rfl⟩:=C7;exact ⟨_,rfl,λh2=>by rw [h1];rfl⟩
def Grows (h h':A9):Prop:=h <+: h'/\∀ id x,h.length<=id->rd h' id=A4 x->x.own=A5
def Grows.refl (h:A9):Grows h h:=⟨E0a _,λid x hid hx=>by have:=D7 hx;omega⟩
def B17 {h:A9} {r:Option (Val × A9)} {p:Val × A9} (hq:quiet h r=A4 p):r=A4 p/\Grows h p.2:=by
 simp only [quiet,D9t] at hq;obtain ⟨p',h1,h2⟩:=hq;split at h2
 ·cases h2;exact ⟨h1,‹_›⟩
 ·cases h2
def quiet_of {h:A9} {p:Val × A9} (hg:Grows h p.2):quiet h (A4 p)=A4 p:=by
 unfold quiet;simp only [D9H];exact if_pos hg
end
def A9H {h h':A9} (hp:h <+: h') {id:Nat} (hl:id<h.length):rd h' id=rd h id:=by
 obtain ⟨t,rfl⟩:=hp;exact E2 hl
def A87 {hD h h':A9} (hl:hD.length=h.length) (id:Nat):rd (hD++h'.drop h.length) id=if id<h.length then rd hD id else rd h' id:=by
 split
 ·rw [E2 (by omega)]
 ·unfold rd;rw [D9P (by omega),E0u,hl]
  congr 2;omega
open Classical in
def CallOk.frame {P:Program} {f:FuncId} {args:List Val} {h h' hD:A9} {v:Val} (hk:CallOk P f args h v h') (hg:Grows h h') (hl:hD.length=h.length) (A1c:∀ id x,rd h id=A4 x->rd hD id=A4 x) :
  CallOk P f args hD v (hD++h'.drop h.length):=by
 intro Γ μ w V hi hargs
 let Γ':Ctx:={ Γ with F:=λb=>match Γ.F b with | some o=>A4 o | none=>if (∃ id x n,rd h id=A7/\rd hD id=A4 x /\ μ id=A4 (b,n)) then w.heap[b]? else A7 }
 have hpl:h.length<=h'.length:=hg.1.length_le;have hΓ:∀ b,Γ'.F b=A7 -> Γ.F b=A7:=by
  intro b hb;cases hF:Γ.F b with
  | none=>rfl
  | some o=>simp only [Γ',hF] at hb;cases hb
 have hex:∀ id x b n,rd h id=A7->rd hD id=A4 x -> μ id=A4 (b,n)->∃ o,Γ'.F b=A4 o/\w.heap[b]?=A4 o:=by
  intro id x b n h1 h2 h3;obtain ⟨ob,h4⟩:=(hi.rows id x h2).there h3;cases hF:Γ.F b with
  | some o=>exact ⟨o,by simp only [Γ',hF],hi.ctx.block b o hF⟩
  | none=>exact ⟨_,by simp only [Γ',hF];rw [if_pos ⟨id,x,n,h1,h2,h3⟩];exact h4,h4⟩
 have hinv:Inv Γ' μ h w:=by
  refine ⟨λid r hr=>hi.rows id r (A1c id r hr),λid bQ r r' x x' hr hr'=>hi.sep id bQ r r' x x' (A1c _ _ hr) (A1c _ _ hr'),λid r x hr jN hx=>?_,λid hid=>hi.dom id (by omega),⟨hi.ctx.os,hi.ctx.tape,hi.ctx.output,λb o ho=>?_⟩⟩
  ·have h0:=hi.own id r x (A1c _ _ hr) jN hx;simp only [Γ',h0];rw [if_neg];rintro ⟨bQ,x',n,h1,h2,h3⟩;have Z5:id≠bQ:=by intro e;subst e;rw [hr] at h1;cases h1
   exact hi.sep id bQ r x' x (x.1,n) (A1c _ _ hr) h2 jN Z5 hx h3 rfl
  ·cases hF:Γ.F b with
   | some o'=>simp only [Γ',hF] at ho;cases ho;exact hi.ctx.block b _ hF
   | none =>
    simp only [Γ',hF] at ho;split at ho
    ·exact ho
    ·cases ho
 refine (hk Γ' μ w V hinv hargs).mono ?_;rintro e w' ⟨V',μ',rfl,gX,hv,hi',aQ⟩;refine ⟨V',μ',rfl,gX,hv,?_,λid hid=>aQ id (by omega)⟩;have rJ:∀ id x,rd (hD++h'.drop h.length) id=A4 x->rd h' id=A4 x\/(id<h.length/\rd h id=A7/\rd hD id=A4 x):=by
  intro id x hx;rw [A87 hl] at hx;split at hx
  ·rename_i T1;cases hh:rd h id with
   | none=>exact .inr ⟨T1,rfl,hx⟩
   | some y =>
    have:=A1c id y hh;rw [hx] at this;cases this;exact .inl (by rw [A9H hg.1 T1];exact hh)
  ·exact .inl hx
 have hold:∀ id,id<h.length -> μ' id = μ id:=aQ;have D6M:∀ id x y,id<h.length->rd h id=A7->rd hD id=A4 x -> μ' id=A4 y->∃ o,Γ'.F y.1=A4 o/\w.heap[y.1]?=A4 o:=by
  intro id x y h1 h2 h3 h4;rw [hold id h1] at h4;exact hex id x y.1 y.2 h2 h3 h4
 refine ⟨λid r hr=>?_,λid bQ r r' x x' hr hr' jN Z5 hx hx'=>?_,λid r x hr jN hx=>?_,λid hid=>?_,⟨hi'.ctx.os,hi'.ctx.tape,hi'.ctx.output,λb o ho=>hi'.ctx.block b o (by simp only [Γ',ho])⟩⟩
 ·rcases rJ id r hr with h1 | ⟨h1,h2,h3⟩
  ·exact hi'.rows id r h1
  ·refine (hi.rows id r h3).mono gX (hold id h1) λy hy=>?_
   obtain ⟨o,h4,h5⟩:=D6M id r y h1 h2 h3 (by rw [hold id h1];exact hy);rw [h5];exact hi'.ctx.block _ o h4
 ·rcases rJ id r hr with h1 | ⟨h1,h2,h3⟩
  ·rcases rJ bQ r' hr' with h4 | ⟨h4,h5,h6⟩
   ·exact hi'.sep id bQ r r' x x' h1 h4 jN Z5 hx hx'
   ·have h7:=hi'.own id r x h1 jN hx;obtain ⟨o,h8,_⟩:=D6M bQ r' x' h4 h5 h6 hx';intro e;rw [e,h8] at h7;cases h7
  ·rcases rJ bQ r' hr' with h4 | ⟨h4,h5,h6⟩
   ·obtain ⟨o,h8,_⟩:=D6M id r x h1 h2 h3 hx;by_cases T1:bQ<h.length
    ·rw [A9H hg.1 T1] at h4;rw [hold id h1] at hx;rw [hold bQ T1] at hx';exact hi.sep id bQ r r' x x' h3 (A1c _ _ h4) jN Z5 hx hx'
    ·have h9:=hi'.own bQ r' x' h4 (hg.2 bQ r' (by omega) h4) hx';intro e;rw [<-e,h8] at h9;cases h9
   ·rw [hold id h1] at hx;rw [hold bQ h4] at hx';exact hi.sep id bQ r r' x x' h3 h6 jN Z5 hx hx'
 ·rcases rJ id r hr with h1 | ⟨h1,h2,h3⟩
  ·exact hΓ _ (hi'.own id r x h1 jN hx)
  ·rw [hold id h1] at hx;exact hi.own id r x h3 jN hx
 ·refine hi'.dom id ?_;simp at hid;omega
def yW (P:Program) (N:Nat) (ops:Array Oper) (m:Nat) (l r:List AOper):Bool :=
 let all:=l++r
 let cl:=N7 ops
 let ahead (i j:Nat):Bool:=(cl.getD i 0).testBit j
 P.follows .mixedOrders &&
 decide (ops.size=l.length+r.length) &&
 (ops.toList.zip all).all (λp=>W9 P N ops p.1 p.2) &&
 (ops.toList.zipIdx).all (λp=>(V4 p.1).all (λq=>decide (q<p.2))) &&
 l.all (λo=>A5L o.op&&decide (T6 o.op=o.slot.isSome)&&(match o.slot with | some j=>decide (j<m) | none=>A5)) &&
 r.all (λo=>decide (o.slot=A7)) &&
 l.zipIdx.all (λp=>l.zipIdx.all λq=>decide (p.2=q.2)||(decide (p.1.dst≠q.1.dst\/p.1.dst=A7)&&decide (p.1.slot≠q.1.slot\/p.1.slot=A7))) &&
 l.zipIdx.all (λp=>l.zipIdx.all λq=>(match q.1.dst with | some d=>!(p.1.reads.contains d)||(ahead p.2 q.2&&decide (q.2<p.2))||(ahead q.2 p.2&&decide (p.2<q.2)) | none=>A5)) &&
 l.zipIdx.all (λp=>l.zipIdx.all λq=>!((U6 p.1.op||A0V p.1.op)&&decide (q.2<p.2)&&(U6 q.1.op||T6 q.1.op))||ahead p.2 q.2) &&
 l.zipIdx.all (λp=>match B4e p.1.op with | none=>A5 | some j=>l.zipIdx.any λq=>decide (q.1.slot=A4 j)&&ahead p.2 q.2)
def B3p (ops:Array Oper) (a n:Nat):Bool :=
 let cl:=N7 ops
 (E0g a n).all (λi=>(D90 i).all λj=>(cl.getD i 0).testBit j)
structure DrawOk (P:Program) (N:Nat) (ops:Array Oper) (m:Nat) (l r:List AOper):Prop where
 follows:P.follows .mixedOrders=A5
 size:ops.size=l.length+r.length
 oper:∀ (i:Nat) (o:Oper) (ao:AOper),ops[i]?=A4 o->(l++r)[i]?=A4 ao->W9 P N ops o ao=A5
 dir:∀ (i:Nat) (o:Oper),ops[i]?=A4 o->∀ p∈V4 o,p<i
 quiet:∀ (i:Nat) (ao:AOper),l[i]?=A4 ao->A5L ao.op=A5/\T6 ao.op=ao.slot.isSome/\∀ j,ao.slot=A4 j->j<m
 rslot:∀ ao∈r,ao.slot=A7
 apart:∀ (i j:Nat) ai aj,l[i]?=A4 ai->l[j]?=A4 aj->i≠j->(∀ d,ai.dst=A4 d->aj.dst≠A4 d)/\(∀ s,ai.slot=A4 s->aj.slot≠A4 s)
 reads:∀ (i j:Nat) ai aj d,l[i]?=A4 ai->l[j]?=A4 aj->aj.dst=A4 d->d∈ai.reads->(((N7 ops).getD i 0).testBit j=A5/\j<i)\/(((N7 ops).getD j 0).testBit i=A5/\i<j)
 calls:∀ (i j:Nat) ai aj,l[i]?=A4 ai->l[j]?=A4 aj->(U6 ai.op=A5\/A0V ai.op=A5)->j<i->(U6 aj.op=A5\/T6 aj.op=A5)->((N7 ops).getD i 0).testBit j=A5
 own:∀ (i:Nat) ai j,l[i]?=A4 ai->B4e ai.op=A4 j->∃ (k:Nat) (ak:AOper),l[k]?=A4 ak/\ak.slot=A4 j/\((N7 ops).getD i 0).testBit k=A5
def mem_zipIdx {α:Type} {l:List α} {i:Nat} {a:α} (h:l[i]?=A4 a):(a,i)∈l.zipIdx:=by
 rw [List.mem_zipIdx_iff_getElem?];simpa using h
def A5p {P:Program} {N:Nat} {ops:Array Oper} {m:Nat} {l r:List AOper} (hc:yW P N ops m l r=A5):DrawOk P N ops m l r:=by
 simp only [yW,D9v,decide_eq_true_eq] at hc;obtain ⟨⟨⟨⟨⟨⟨⟨⟨⟨h1,h2⟩,h3⟩,h4⟩,h5⟩,h6⟩,h7⟩,h8⟩,h9⟩,h10⟩:=hc;simp only [E0k] at h3 h4 h5 h6 h7 h8 h9 h10;refine ⟨h1,h2,?_,?_,?_,?_,?_,?_,?_,?_⟩
 ·intro i o ao ho ha;refine h3 (o,ao) ?_;have:(ops.toList.zip (l++r))[i]?=A4 (o,ao):=by
   rw [List.getElem?_zip_eq_some];exact ⟨by simpa using ho,ha⟩
  exact D9S this
 ·intro i o ho p hp;have:=h4 (o,i) (mem_zipIdx (by simpa using ho));simpa using this p hp
 ·intro i ao ha;have:=h5 ao (D9S ha);simp only [D9v,decide_eq_true_eq] at this;refine ⟨this.1.1,this.1.2,λj hj=>?_⟩;have h:=this.2;rw [hj] at h;simpa using h
 ·intro ao ha;simpa using h6 ao ha
 ·intro i j ai aj hi hj Z5;have:=h7 _ (mem_zipIdx hi) _ (mem_zipIdx hj);simp only [E0y,D9v,decide_eq_true_eq] at this;rcases this with this | ⟨ha,hb⟩
  ·exact absurd this Z5
  ·refine ⟨λd hd he=>?_,λs hs he=>?_⟩
   ·rcases ha with ha | ha
    ·exact ha (by rw [hd,he])
    ·rw [hd] at ha;cases ha
   ·rcases hb with hb | hb
    ·exact hb (by rw [hs,he])
    ·rw [hs] at hb;cases hb
 ·intro i j ai aj d hi hj hd hr;have:=h8 _ (mem_zipIdx hi) _ (mem_zipIdx hj);simp only [hd,E0y,E0e,D9v,decide_eq_true_eq] at this;rcases this with (this | this) | this
  ·have hc:ai.reads.contains d=A5:=by simpa using hr
   rw [hc] at this;cases this
  ·exact .inl this
  ·exact .inr this
 ·intro i j ai aj hi hj hc T1 hor;have:=h9 _ (mem_zipIdx hi) _ (mem_zipIdx hj);simp only [E0y,E0e] at this;rcases this with this | this
  ·have:((U6 ai.op||A0V ai.op)&&decide (j<i)&&(U6 aj.op||T6 aj.op))=A5:=by
    simp only [D9v,decide_eq_true_eq,E0y];exact ⟨⟨hc,T1⟩,hor⟩
   simp_all
  ·exact this
 ·intro i ai j hi ho;have:=h10 _ (mem_zipIdx hi);simp only [ho,List.any_eq_true,D9v,decide_eq_true_eq] at this;obtain ⟨⟨ak,k⟩,hk,hs,ht⟩:=this;rw [List.mem_zipIdx_iff_getElem?] at hk;exact ⟨k,ak,hk,hs,ht⟩
def B92 {ops:Array Oper} {a n:Nat} (hc:B3p ops a n=A5) (hs:ops.size=a+n):∀ i,a<=i->i<ops.size->∀ j,j<i->((N7 ops).getD i 0).testBit j=A5:=by
 intro i hi T1 j hj;simp only [B3p,E0k] at hc;exact hc i (by rw [List.mem_range'_1];omega) j (by simpa using hj)
structure Trace (E:J9) (hr:A9) (n0:Nat) (l:List AOper) (es:Nat->Env) (hs:Nat->A9) (vs:Nat->Val):Prop where
 step:∀ (i:Nat) o,l[i]?=A4 o->U0 E A5 hr n0 o (es i) (hs i) (λv h=>A4 (v,h))=A4 (vs i,hs (i+1))
 env:∀ (i:Nat) o,l[i]?=A4 o->es (i+1)=(es i).put o.dst (vs i)
def C1B {E:J9} {hr:A9} {n0:Nat} {R:Type} {k:Env->A9->Option R} {res:R}:∀ (l:List AOper) (e:Env) (h:A9),B0s E hr n0 l e h k=A4 res ->
  ∃ es hs vs,es 0=e/\hs 0=h/\Trace E hr n0 l es hs vs/\k (es l.length) (hs l.length)=A4 res
 | [],e,h,C7=>⟨λ_=>e,λ_=>h,λ_=>.un,rfl,rfl,⟨λi o ho=>by simp at ho,λi o ho=>by simp at ho⟩,C7⟩
 | o::l,e,h,C7=>by
  rw [B9H,B9O] at C7;simp only [D9t] at C7;obtain ⟨p,hp,C7⟩:=C7;obtain ⟨es,hs,vs,h1,h2,h3,h4⟩:=C1B l _ _ C7;refine ⟨λi=>match i with | 0=>e | i+1=>es i,λi=>match i with | 0=>h | i+1=>hs i,λi=>match i with | 0=>p.1 | i+1=>vs i,rfl,rfl,⟨λi o' ho=>?_,λi o' ho=>?_⟩,h4⟩
  ·cases i with
   | zero=>simp at ho;subst ho;simp only;rw [h2];exact hp
   | succ i=>simp at ho;exact h3.step i o' ho
  ·cases i with
   | zero=>simp at ho;subst ho;exact h1
   | succ i=>simp at ho;exact h3.env i o' ho
def A1a (l:List AOper) (n0:Nat) (i id:Nat):Prop:=∃ ao j,l[i]?=A4 ao/\ao.slot=A4 j/\id=n0+j
section
variable {P:Program} {N m:Nat} {ops:Array Oper} {l r:List AOper} {E:J9} {hr:A9} {es:Nat->Env} {hs:Nat->A9} {vs:Nat->Val}
def A4k (hq:∀ (i:Nat) (ao:AOper),l[i]?=A4 ao->A5L ao.op=A5/\T6 ao.op=ao.slot.isSome/\∀ j,ao.slot=A4 j->j<m) (ht:Trace E hr hr.length l es hs vs) {i:Nat} {ao:AOper} (ha:l[i]?=A4 ao) :
  (U6 ao.op=A5/\ao.slot=A7/\Grows (hs i) (hs (i+1)))\/(U6 ao.op=A6/\(hs (i+1)=hs i\/∃ j row,ao.slot=A4 j/\hs (i+1)=(hs i).set (hr.length+j) (A4 row))):=by
 have h1:=ht.step i ao ha;obtain ⟨q1,q2,q3⟩:=hq i ao ha;have key:hs (i+1)=hs i\/∃ v,aop E A5 hr hr.length ao.slot ao.op (es i) (hs i) (λv h=>A4 (v,h))=A4 (v,hs (i+1)):=by
  unfold U0 at h1;cases hgu:ao.guard with
  | none=>rw [hgu] at h1;exact .inr ⟨_,h1⟩
  | some g =>
   rw [hgu] at h1;simp only [D9t,D9y] at h1;obtain ⟨⟨v',h2⟩,hp,vO⟩:=h1;cases vO;unfold gd at hp;split at hp
   ·rename_i x _;cases hx:(x==g.2) with
    | true=>rw [hx] at hp;exact .inr ⟨_,hp⟩
    | false=>rw [hx] at hp;simp only [cond_false,D9y,D9D] at hp;exact .inl hp.2.symm
   ·simp only [D9y,D9D] at hp;exact .inl hp.2.symm
   ·cases hp
 cases hc:U6 ao.op with
 | true =>
  left
  have hns:T6 ao.op=A6:=by cases hop:ao.op<;>simp_all [U6,T6]
  have hsn:ao.slot=A7:=by
   rw [hns] at q2;cases tL:ao.slot with
   | none=>rfl
   | some j=>rw [tL] at q2;cases q2
  refine ⟨rfl,hsn,?_⟩;rcases key with h | ⟨v,h⟩
  ·rw [h];exact Grows.refl _
  ·cases hop:ao.op<;>rw [hop] at hc h<;>simp [U6] at hc
   case call f args =>
    simp only [aop,cond_true,D9t,D9y] at h;obtain ⟨⟨v',h2⟩,hp,vO⟩:=h;cases vO;exact (B17 hp).2
   case callV f args =>
    simp only [aop,cond_true,D9t,D9y] at h;obtain ⟨⟨v',h2⟩,hp,vO⟩:=h;cases vO;exact (B17 hp).2
 | false =>
  right
  refine ⟨rfl,?_⟩;rcases key with h | ⟨v,h⟩
  ·exact .inl h
  ·cases tL:T6 ao.op with
   | false =>
    cases hmk:A0V ao.op with
    | false =>
     cases A0R:B4e ao.op with
     | none=>exact .inl (C2Q q1 hmk A0R hc tL h).1
     | some j=>exact .inl (C9y A0R h).1
    | true=>exact .inl (C5F hmk h).1
   | true =>
    rw [tL] at q2;obtain ⟨j,hj⟩:=Option.isSome_iff_exists.1 q2.symm;rw [hj] at h;obtain ⟨row,h2,_⟩:=C5G tL h;exact .inr ⟨j,row,hj,h2⟩
def C7E (hq:∀ (i:Nat) (ao:AOper),l[i]?=A4 ao->A5L ao.op=A5/\T6 ao.op=ao.slot.isSome/\∀ j,ao.slot=A4 j->j<m) (ht:Trace E hr hr.length l es hs vs) {i:Nat} (hi:i<l.length) :
  (hs i).length<=(hs (i+1)).length:=by
 rcases A4k hq ht (D9u hi) with ⟨_,_,h⟩ | ⟨_,h | ⟨j,row,_,h⟩⟩
 ·exact h.1.length_le
 ·rw [h];exact D9x _
 ·rw [h];simp
def A8T (hq:∀ (i:Nat) (ao:AOper),l[i]?=A4 ao->A5L ao.op=A5/\T6 ao.op=ao.slot.isSome/\∀ j,ao.slot=A4 j->j<m) (ht:Trace E hr hr.length l es hs vs):∀ (t i:Nat),i+t<=l.length->(hs i).length<=(hs (i+t)).length
 | 0,i,_=>D9x _
 | t+1,i,h=>D93 (A8T hq ht t i (by omega)) (C7E hq ht (i:=i+t) (by omega))
def A4h (D:DrawOk P N ops m l r) (ht:Trace E hr hr.length l es hs vs) (h0:hs 0=hr++D9w m A7) {i id:Nat} (ho:A1a l hr.length i id):∀ k,k<=i->rd (hs k) id=A7:=by
 obtain ⟨ao,j,ha,hj,rfl⟩:=ho;have hjm:=(D.quiet i ao ha).2.2 j hj;have L8:i<l.length:=(List.getElem?_eq_some_iff.1 ha).1;intro k
 induction k with
 | zero =>
  intro _;rw [h0];unfold rd;rw [D9P (by omega)];simp only [List.getElem?_replicate];split<;>rfl
 | succ k ih =>
  intro hk;have ih:=ih (by omega);have hkl:k<l.length:=by omega
  have hin:hr.length+j<(hs k).length:=by
   have:=A8T D.quiet ht k 0 (by omega);rw [h0] at this;simp at this;omega
  rcases A4k D.quiet ht (D9u hkl) with ⟨_,_,h⟩ | ⟨_,h | ⟨j',row,hj',h⟩⟩
  ·rw [A9H h.1 hin];exact ih
  ·rw [h];exact ih
  ·rw [h];have Z5:j≠j':=by
    intro e;subst e;exact (D.apart i k ao l[k] ha (D9u hkl) (by omega)).2 j hj hj'
   rw [B7 (by omega)];exact ih
def mS (D:DrawOk P N ops m l r) (ht:Trace E hr hr.length l es hs vs) {k id:Nat} (hid:id<(hs k).length) (aK:∀ i,k<=i->¬ A1a l hr.length i id):∀ t,k+t<=l.length->rd (hs (k+t)) id=rd (hs k) id
 | 0,_=>rfl
 | t+1,hl=>by
  have ih:=mS D ht hid aK t (by omega);have T1:k+t<l.length:=by omega
  have hin:id<(hs (k+t)).length:=Nat.lt_of_lt_of_le hid (A8T D.quiet ht t k (by omega));rw [<-ih];rcases A4k D.quiet ht (D9u T1) with ⟨_,_,h⟩ | ⟨_,h | ⟨j',row,hj',h⟩⟩
  ·exact A9H h.1 hin
  ·show rd (hs (k+t+1)) id=_;rw [h]
  ·show rd (hs (k+t+1)) id=_;rw [h];have Z5:hr.length+j'≠id:=λe=>aK (k+t) (by omega) ⟨l[k+t],j',D9u T1,hj',e.symm⟩
   rw [B7 Z5]
def und (l:List AOper) (n0:Nat) (done:Nat->Bool) (id:Nat):Bool:=(D90 l.length).any λi=>!done i&&decide (((l[i]?).bind (·.slot)).map (n0 + ·)=A4 id)
def V6 {n0:Nat} {done:Nat->Bool} {id:Nat}:und l n0 done id=A5↔∃ i,done i=A6/\A1a l n0 i id:=by
 unfold und A1a;simp only [List.any_eq_true,List.mem_range,D9v,E0e,decide_eq_true_eq,D9J,D9t];constructor
 ·rintro ⟨i,hi,hd,j,⟨ao,ha,hj⟩,rfl⟩;exact ⟨i,hd,ao,j,ha,hj,rfl⟩
 ·rintro ⟨i,hd,ao,j,ha,hj,rfl⟩;exact ⟨i,(List.getElem?_eq_some_iff.1 ha).1,hd,j,⟨ao,ha,hj⟩,rfl⟩
def HD (F:A9) (u:Nat->Bool) (L:Nat):A9:=(D90 L).map λid=>if u id=A5 then A7 else rd F id
def H4 (F:A9) (u:Nat->Bool) (L:Nat):(HD F u L).length=L:=by simp [HD]
def sJ (F:A9) (u:Nat->Bool) (L id:Nat):rd (HD F u L) id=if id<L/\u id=A6 then rd F id else A7:=by
 unfold HD
 conv=>lhs;unfold rd
 rw [E0C];by_cases h:id<L
 ·rw [List.getElem?_range h];cases hu:u id
  ·simp [h,hu];rfl
  ·simp [h,hu]
 ·rw [D9W (by simp;omega)];simp [h]
def vM {h h':A9} (hl:h.length=h'.length) (hr:∀ id,id<h.length->rd h id=rd h' id):h=h':=by
 apply List.ext_getElem hl;intro i h1 h2;have:=hr i h1;unfold rd at this;rw [D9u h1,D9u h2] at this;simpa using this
structure Sim (Γ:Ctx) (l:List AOper) (n0 N:Nat) (e:Env) (es:Nat->Env) (hs:Nat->A9) (vs:Nat->Val) (μ0:Mu) (done:Nat->Bool) (q:Nat) (μ:Mu) (a:Act) (w:World):Prop where
 qle:q<=l.length
 calls:∀ (i:Nat) ao,l[i]?=A4 ao->U6 ao.op=A5->(done i=A5↔i<q)
 envD:∀ (i:Nat) ao d,l[i]?=A4 ao->done i=A5->ao.dst=A4 d->RV μ (vs i) (a.tmps.getD d undef)
 envO:∀ t,(∀ (i:Nat) ao,l[i]?=A4 ao->done i=A5->ao.dst≠A4 t)->RV μ (e.get t) (a.tmps.getD t undef)
 inv:Inv Γ μ (HD (hs l.length) (und l n0 done) (hs q).length) w
 free:∀ id,und l n0 done id=A5 -> μ id=A7
 le:μ0.le μ
 keep:∀ id,id<n0 -> μ id = μ0 id
 size:N<=a.tmps.size
 defers:a.defers = Γ.ds
end
def Env.get_keep_mem (e:Env) (l:List Nat) (t:Nat):(e.keep l).get t=if t∈l then e.get t else .un:=by
 induction l with
 | nil=>rfl
 | cons x r ih =>
  simp only [Env.keep,Env.get];by_cases h:x=t
  ·subst h;simp
  ·have:Nat.beq x t=A6:=by cases hb:Nat.beq x t with
    | false=>rfl
    | true=>exact absurd (Nat.eq_of_beq_eq_true hb) h
   rw [this,cond_false,ih];have h':t≠x:=Ne.symm h;simp [h']
section
variable {P:Program} {N m:Nat} {ops:Array Oper} {l r:List AOper} {E:J9} {hr:A9} {e:Env} {es:Nat->Env} {hs:Nat->A9} {vs:Nat->Val} {Γ:Ctx} {μ0:Mu}
def oL (D:DrawOk P N ops m l r) (ht:Trace E hr hr.length l es hs vs) {j t:Nat} {aj:AOper} (lZ:l[j]?=A4 aj) (hd:aj.dst=A4 t):∀ k,j<k->k<=l.length->(es k).get t=vs j:=by
 intro k
 induction k with
 | zero=>intro h;omega
 | succ k ih =>
  intro hjk hk;rw [ht.env k l[k] (D9u (by omega))];by_cases e:j=k
  ·subst e;have:l[j]=aj:=by have h2:=D9u (l:=l) (i:=j) (by omega);rw [lZ] at h2;cases h2;rfl
   rw [this,hd];exact Env.get_put_same _ _ _
  ·have Z5:=(D.apart j k aj l[k] lZ (D9u (by omega)) e).1 t hd;cases hdk:l[k].dst with
   | none=>exact ih (by omega) (by omega)
   | some d =>
    rw [hdk] at Z5;rw [Env.get_put_other _ _ _ _ (by intro h;subst h;exact Z5 rfl)];exact ih (by omega) (by omega)
def vJ (ht:Trace E hr hr.length l es hs vs) (he:es 0=e) {t:Nat}:∀ k,k<=l.length->(∀ (j:Nat) aj,j<k->l[j]?=A4 aj->aj.dst≠A4 t)->(es k).get t=e.get t:=by
 intro k
 induction k with
 | zero=>intro _ _;rw [he]
 | succ k ih =>
  intro hk aK;rw [ht.env k l[k] (D9u (by omega))];have Z5:=aK k l[k] (by omega) (D9u (by omega));cases hdk:l[k].dst with
  | none=>exact ih (by omega) λj aj hj=>aK j aj (by omega)
  | some d =>
   rw [hdk] at Z5;rw [Env.get_put_other _ _ _ _ (by intro h;subst h;exact Z5 rfl)];exact ih (by omega) λj aj hj=>aK j aj (by omega)
def mE (done:Nat->Bool) (i:Nat):Nat->Bool:=λk=>decide (k=i)||done k
def tD (done:Nat->Bool) (i:Nat):mE done i i=A5:=by simp [mE]
def V1 (done:Nat->Bool) (i:Nat) {k:Nat} (h:k≠i):mE done i k=done k:=by simp [mE,h]
def D5Q (D:DrawOk P N ops m l r) (ht:Trace E hr hr.length l es hs vs) (he:es 0=e) {done:Nat->Bool} {q:Nat} {μ:Mu} {a:Act} {w:World}
  (S:Sim Γ l hr.length N e es hs vs μ0 done q μ a w) {i:Nat} {ao:AOper} (ha:l[i]?=A4 ao) (hnd:done i=A6) (hah:∀ b,((N7 ops).getD i 0).testBit b=A5->done b=A5) (nQ:∀ j,done j=A5->∀ b,((N7 ops).getD j 0).testBit b=A5->done b=A5):SEnv μ ((es i).keep ao.reads) a:=by
 intro t;rw [Env.get_keep_mem];split
 ·rename_i lQ;have L8:i<l.length:=(List.getElem?_eq_some_iff.1 ha).1;by_cases hw:∃ (j:Nat) (aj:AOper),l[j]?=A4 aj/\aj.dst=A4 t
  ·obtain ⟨j,aj,lZ,hd⟩:=hw;rcases D.reads i j ao aj t ha lZ hd lQ with ⟨h1,h2⟩ | ⟨h1,h2⟩
   ·rw [oL D ht lZ hd i h2 (by omega)];exact S.envD j aj t lZ (hah j h1) hd
   ·have hnj:done j=A6:=by
     cases hdj:done j with
     | false=>rfl
     | true=>rw [nQ j hdj i h1] at hnd;cases hnd
    have D6d:∀ (k:Nat) (ak:AOper),l[k]?=A4 ak->ak.dst=A4 t->k=j:=λk ak nP hk=>by
     by_cases e:k=j
     ·exact e
     ·exact absurd hd ((D.apart k j ak aj nP lZ e).1 t hk)
    rw [vJ ht he i (by omega) λk ak hk nP hkd=>by have:=D6d k ak nP hkd;omega];exact S.envO t λk ak nP hk hkd=>by rw [D6d k ak nP hkd,hnj] at hk;cases hk
  ·have aK:∀ (j:Nat) (aj:AOper),l[j]?=A4 aj->aj.dst≠A4 t:=λj aj lZ hd=>hw ⟨j,aj,lZ,hd⟩
   rw [vJ ht he i (by omega) λj aj _ lZ=>aK j aj lZ];exact S.envO t λj aj lZ _=>aK j aj lZ
 ·trivial
def C3s {n0 i id:Nat} (h:id<n0):¬ A1a l n0 i id:=by
 rintro ⟨ao,j,_,_,rfl⟩;omega
def iR (D:DrawOk P N ops m l r) (ht:Trace E hr hr.length l es hs vs) (h0:hs 0=hr++D9w m A7) {k:Nat} (hk:k<=l.length):hr.length+m<=(hs k).length:=by
 have:=A8T D.quiet ht k 0 (by omega);rw [h0] at this;simp at this;omega
def C43 (D:DrawOk P N ops m l r) {n0 i id:Nat} (h:A1a l n0 i id):id<n0+m:=by
 obtain ⟨ao,j,ha,hj,rfl⟩:=h;have:=(D.quiet i ao ha).2.2 j hj;omega
def C06 (D:DrawOk P N ops m l r) {n0 i k id:Nat} (h:A1a l n0 i id) (h2:A1a l n0 k id):i=k:=by
 obtain ⟨ao,j,ha,hj,rfl⟩:=h;obtain ⟨ao',j',ha',hj',he⟩:=h2;by_cases e:i=k
 ·exact e
 ·have:j=j':=by omega
  subst this;exact absurd hj' ((D.apart i k ao ao' ha ha' e).2 j hj)
def C7w (D:DrawOk P N ops m l r) (ht:Trace E hr hr.length l es hs vs) (h0:hs 0=hr++D9w m A7) {done:Nat->Bool} {q:Nat} {μ:Mu} {a:Act} {w:World}
  (S:Sim Γ l hr.length N e es hs vs μ0 done q μ a w) {i:Nat} {ao:AOper} (ha:l[i]?=A4 ao) (hnd:done i=A6) {V:Value} {w':World} {μ':Mu} {q':Nat} {dst:Option Nat} (zC:dst=ao.dst) (D6L:wS N dst=A5)
  (gX:μ.le μ') (hv:RV μ' (vs i) V) (hinv:Inv Γ μ' (HD (hs l.length) (und l hr.length (mE done i)) (hs q').length) w') (aQ:Keeps μ μ' (HD (hs l.length) (und l hr.length done) (hs q).length) hr.length ao.slot)
  (hq':q'<=l.length) (D6H:∀ (k:Nat) ak,l[k]?=A4 ak->U6 ak.op=A5->(mE done i k=A5↔k<q')):Sim Γ l hr.length N e es hs vs μ0 (mE done i) q' μ' (a.put dst V) w':=by
 have rJ:∀ t,dst≠A4 t->(a.put dst V).tmps.getD t undef=a.tmps.getD t undef:=by
  intro t h;cases hd:dst with
  | none=>rfl
  | some d =>
   rw [hd] at h;simp [Act.put,Array.getElem?_setIfInBounds_ne (show d≠t from λe=>h (by rw [e]))]
 refine ⟨hq',D6H,?_,?_,hinv,?_,Mu.le_trans S.le gX,?_,by rw [Act.size_put];exact S.size,?_⟩
 ·intro k ak d nP hdk hd;by_cases e:k=i
  ·subst e;rw [ha] at nP;cases nP;rw [zC,hd];have T1:d<a.tmps.size:=by
    rw [zC,hd] at D6L;simp [wS] at D6L;exact Nat.lt_of_lt_of_le D6L S.size
   have:(a.put (A4 d) V).tmps.getD d undef=V:=by simp [Act.put,Array.getD,T1]
   rw [this];exact hv
  ·rw [V1 _ _ e] at hdk;rw [rJ d (by rw [zC];exact λh=>(D.apart i k ao ak ha nP (Ne.symm e)).1 d h hd)];exact (S.envD k ak d nP hdk hd).mono gX
 ·intro t aK;have h1:=aK i ao ha (tD _ _);rw [rJ t (by rw [zC];exact h1)];refine (S.envO t λk ak nP hdk=>?_).mono gX;by_cases e:k=i
  ·subst e;rw [hnd] at hdk;cases hdk
  ·exact aK k ak nP (by rw [V1 _ _ e];exact hdk)
 ·intro id hid;obtain ⟨k,hk,ho⟩:=V6.1 hid;have e:k≠i:=by intro e;subst e;rw [tD] at hk;cases hk
  rw [V1 _ _ e] at hk;have h1:=S.free id (V6.2 ⟨k,hk,ho⟩);rw [<-h1];refine aQ id (by rw [H4];have:=iR D ht h0 S.qle;have:=C43 D ho;omega) λj hj he=>e ?_
  exact C06 D ho ⟨ao,j,ha,hj,he⟩
 ·intro id hid;rw [<-S.keep id hid];exact aQ id (by rw [H4];have:=iR D ht h0 S.qle;omega) λj hj he=>by omega
 ·have:∀ d:Option Nat,(a.put d V).defers=a.defers:=λd=>by cases d<;>rfl
  rw [this];exact S.defers
def B4B (D:DrawOk P N ops m l r) {n0 i id:Nat} {done:Nat->Bool} (h:¬ A1a l n0 i id):und l n0 (mE done i) id=und l n0 done id:=by
 rw [Bool.eq_iff_iff,V6,V6];constructor
 ·rintro ⟨k,hk,ho⟩;have e:k≠i:=by intro e;subst e;exact h ho
  exact ⟨k,by rw [V1 _ _ e] at hk;exact hk,ho⟩
 ·rintro ⟨k,hk,ho⟩;have e:k≠i:=by intro e;subst e;exact h ho
  exact ⟨k,by rw [V1 _ _ e];exact hk,ho⟩
def D0r (D:DrawOk P N ops m l r) {n0 i id:Nat} {done:Nat->Bool} (h:A1a l n0 i id):und l n0 (mE done i) id=A6:=by
 cases hu:und l n0 (mE done i) id with
 | false=>rfl
 | true =>
  obtain ⟨k,hk,ho⟩:=V6.1 hu;have e:=C06 D ho h;subst e;rw [tD] at hk;cases hk
def D7q (D:DrawOk P N ops m l r) (ht:Trace E hr hr.length l es hs vs) (h0:hs 0=hr++D9w m A7) {done:Nat->Bool} {q:Nat} (hq:q<=l.length) (id:Nat) (x:Row) (hx:rd hr id=A4 x) :
  rd (HD (hs l.length) (und l hr.length done) (hs q).length) id=A4 x:=by
 have T1:=D7 hx;have hu:und l hr.length done id=A6:=by
  cases hu:und l hr.length done id with
  | false=>rfl
  | true=>obtain ⟨k,_,ho⟩:=V6.1 hu;exact absurd ho (C3s T1)
 rw [sJ,if_pos ⟨by have:=iR D ht h0 hq;omega,hu⟩];have:=mS D ht (k:=0) (id:=id) (by rw [h0];simp;omega) (λi _=>C3s T1) l.length (by omega);rw [D9T] at this;rw [this,h0,E2 T1];exact hx
def D4h (D:DrawOk P N ops m l r) (ht:Trace E hr hr.length l es hs vs) (h0:hs 0=hr++D9w m A7) {done:Nat->Bool} {q:Nat} {μ:Mu} {a:Act} {w:World}
  (S:Sim Γ l hr.length N e es hs vs μ0 done q μ a w) {i:Nat} {ao:AOper} (ha:l[i]?=A4 ao) (hnd:done i=A6):tA μ (HD (hs l.length) (und l hr.length done) (hs q).length) hr.length ao.slot:=by
 cases tL:ao.slot with
 | none=>trivial
 | some j =>
  refine ⟨S.free _ (V6.2 ⟨i,hnd,ao,j,ha,tL,rfl⟩),?_⟩;rw [H4];have:=iR D ht h0 S.qle;have:=(D.quiet i ao ha).2.2 j tL;omega
def vU (D:DrawOk P N ops m l r) (ht:Trace E hr hr.length l es hs vs) {q:Nat}:∀ t,q+t<=l.length->(∀ (k:Nat) ak,q<=k->k<q+t->l[k]?=A4 ak->U6 ak.op=A6)->(hs (q+t)).length=(hs q).length
 | 0,_,_=>rfl
 | t+1,hl,aK=>by
  have ih:=vU D ht (q:=q) t (by omega) λk ak h1 h2=>aK k ak h1 (by omega)
  rw [<-ih];have hk:q+t<l.length:=by omega
  rcases A4k D.quiet ht (D9u hk) with ⟨h,_,_⟩ | ⟨_,h | ⟨j,row,_,h⟩⟩
  ·have:=aK (q+t) l[q+t] (by omega) (by omega) (D9u hk);rw [h] at this;cases this
  ·show (hs (q+t+1)).length=_;rw [h]
  ·show (hs (q+t+1)).length=_;rw [h];simp
def D5S (D:DrawOk P N ops m l r) (ht:Trace E hr hr.length l es hs vs) (h0:hs 0=hr++D9w m A7) {done:Nat->Bool} {q:Nat} {μ:Mu} {a:Act} {w:World}
  (S:Sim Γ l hr.length N e es hs vs μ0 done q μ a w) {i:Nat} {ao:AOper} (ha:l[i]?=A4 ao) (hah:∀ b,((N7 ops).getD i 0).testBit b=A5->done b=A5) (hl:U6 ao.op=A5\/A0V ao.op=A5) :
  ∀ id x,rd (hs i) id=A4 x->rd (HD (hs l.length) (und l hr.length done) (hs q).length) id=A4 x:=by
 have L8:i<l.length:=(List.getElem?_eq_some_iff.1 ha).1;have hql:=S.qle;have hlen:(hs i).length<=(hs q).length:=by
  by_cases hiq:i<=q
  ·have:=A8T D.quiet ht (q-i) i (by omega)
   rwa [show i+(q-i)=q by omega] at this
  ·have:=vU D ht (q:=q) (i-q) (by omega) λk ak h1 h2 nP=>by
    cases hck:U6 ak.op with
    | false=>rfl
    | true =>
     have h3:=hah k (D.calls i k ao ak ha nP hl (by omega) (.inl hck));have:=(S.calls k ak nP hck).1 h3;omega
   rw [show q+(i-q)=i by omega] at this;omega
 intro id x hx;have A0Q:∀ k,i<=k->¬ A1a l hr.length k id:=λk hk ho'=>by
  have:=A4h D ht h0 ho' i hk;rw [this] at hx;cases hx
 have hu:und l hr.length done id=A6:=by
  cases hu:und l hr.length done id with
  | false=>rfl
  | true =>
   obtain ⟨k,hk,ho'⟩:=V6.1 hu;by_cases e1:i<=k
   ·exact absurd ho' (A0Q k e1)
   ·obtain ⟨ak,j,nP,hj,_⟩:=ho';have hsk:T6 ak.op=A5:=by have:=(D.quiet k ak nP).2.1;rw [hj] at this;exact this
    have:=hah k (D.calls i k ao ak ha nP hl (by omega) (.inr hsk));rw [hk] at this;cases this
 rw [sJ,if_pos ⟨by have:=D7 hx;omega,hu⟩];have:=mS D ht (D7 hx) A0Q (l.length-i) (by omega);rw [show i+(l.length-i)=l.length by omega] at this;rw [this];exact hx
def D5R (D:DrawOk P N ops m l r) (ht:Trace E hr hr.length l es hs vs) (h0:hs 0=hr++D9w m A7) {done:Nat->Bool} {q:Nat} {μ:Mu} {a:Act} {w:World}
  (S:Sim Γ l hr.length N e es hs vs μ0 done q μ a w) {i j:Nat} {ao:AOper} (ha:l[i]?=A4 ao) (hah:∀ b,((N7 ops).getD i 0).testBit b=A5->done b=A5) (A0R:B4e ao.op=A4 j) :
  ∀ x,rd (hs i) (hr.length+j)=A4 x->rd (HD (hs l.length) (und l hr.length done) (hs q).length) (hr.length+j)=A4 x:=by
 have L8:i<l.length:=(List.getElem?_eq_some_iff.1 ha).1;have hql:=S.qle;intro x hx;obtain ⟨k,ak,nP,hsk,D8D⟩:=D.own i ao j ha A0R;have hO:A1a l hr.length k (hr.length+j):=⟨ak,j,nP,hsk,rfl⟩;have hdk:=hah k D8D;have A0Q:∀ k',i<=k'->¬ A1a l hr.length k' (hr.length+j):=λk' hk' ho'=>by
  have:=A4h D ht h0 ho' i hk';rw [this] at hx;cases hx
 have hu:und l hr.length done (hr.length+j)=A6:=by
  cases hu:und l hr.length done (hr.length+j) with
  | false=>rfl
  | true =>
   obtain ⟨k',hk',ho'⟩:=V6.1 hu;have:=C06 D ho' hO;subst this;rw [hk'] at hdk;cases hdk
 rw [sJ,if_pos ⟨by have:=iR D ht h0 S.qle;have:=C43 D hO;omega,hu⟩];have:=mS D ht (D7 hx) A0Q (l.length-i) (by omega);rw [show i+(l.length-i)=l.length by omega] at this;rw [this];exact hx
open Classical in
def C7x (D:DrawOk P N ops m l r) (hE:dR P E) (ht:Trace E hr hr.length l es hs vs) (h0:hs 0=hr++D9w m A7) (he:es 0=e) {done:Nat->Bool} {q:Nat} {μ:Mu} {a:Act} {w:World}
  (S:Sim Γ l hr.length N e es hs vs μ0 done q μ a w) {i:Nat} {ao:AOper} {o:Oper} (ha:l[i]?=A4 ao) (ho:ops[i]?=A4 o) (hnd:done i=A6)
  (hah:∀ b,((N7 ops).getD i 0).testBit b=A5->done b=A5) (nQ:∀ j,done j=A5->∀ b,((N7 ops).getD j 0).testBit b=A5->done b=A5)
  {next:Act->World->Prop} {Q:Exit->Act->World->Prop} (hn:∀ V w' μ' q',Sim Γ l hr.length N e es hs vs μ0 (mE done i) q' μ' (a.put o.dst V) w'->next (a.put o.dst V) w') :
  if Region.wanted o (yielded ops a.tmps) then o.wp P a w next Q\/(o.asks P a w/\LetsOut Q) else next (a.put o.dst undef) w:=by
 have L8:i<l.length:=(List.getElem?_eq_some_iff.1 ha).1;have hco:W9 P N ops o ao=A5:=D.oper i o ao ho (by rw [D94 L8];exact ha);have zC:o.dst=ao.dst/\wS N o.dst=A5:=by
  simp only [W9,D9v,decide_eq_true_eq] at hco;exact ⟨hco.1.1.1,hco.1.1.2⟩
 have C2e:=D5Q D ht he S ha hnd hah nQ;have hrd:=D7q D ht h0 (done:=done) S.qle;have C6C:=D4h D ht h0 S ha hnd;have jC:=ht.step i ao ha;have D57:∀ (E:J9) (h:A9),U0 E A5 hr hr.length ao (es i) h (λv h=>A4 (v,h))=U0 E A5 hr hr.length ao ((es i).keep ao.reads) h λv h=>A4 (v,h) :=
  λE h=>B5E λt ht'=>by rw [Env.get_keep_mem,if_pos ht']
 have hqi:=D.quiet i ao ha;have D9c:=iR D ht h0 S.qle;cases hc:U6 ao.op with
 | false =>
  have key:∃ h2,U0 E A5 hr hr.length ao (es i) (HD (hs l.length) (und l hr.length done) (hs q).length) (λv h=>A4 (v,h))=A4 (vs i,h2)/\h2=HD (hs l.length) (und l hr.length (mE done i)) (hs q).length:=by
   have B7n:hs (i+1)=hs i->HD (hs l.length) (und l hr.length done) (hs q).length=HD (hs l.length) (und l hr.length (mE done i)) (hs q).length:=by
    intro hsame;refine vM (by rw [H4,H4]) λid hid=>?_
    rw [H4] at hid;rw [sJ,sJ];by_cases A0R:A1a l hr.length i id
    ·rw [D0r D A0R,V6.2 ⟨i,hnd,A0R⟩];have h1:=A4h D ht h0 A0R i (D9x _);have h2:=mS D ht (k:=i+1) (id:=id) (by rw [hsame];have:=iR D ht h0 (k:=i) (by omega);have:=C43 D A0R;omega)
      (λk hk ho'=>by have:=C06 D ho' A0R;omega) (l.length-(i+1)) (by omega)
     rw [show i+1+(l.length-(i+1))=l.length by omega,hsame,h1] at h2;simp [h2]
    ·rw [B4B D A0R]
   have A6N:∀ v h3,aop E A5 hr hr.length ao.slot ao.op (es i) (hs i) (λv h=>A4 (v,h))=A4 (v,h3)->h3=hs (i+1) ->
     ∃ h2,aop E A5 hr hr.length ao.slot ao.op (es i) (HD (hs l.length) (und l hr.length done) (hs q).length) (λv h=>A4 (v,h))=A4 (v,h2)/\h2=HD (hs l.length) (und l hr.length (mE done i)) (hs q).length:=by
    intro v h3 A6N he3;subst he3;cases tL:T6 ao.op with
    | false =>
     cases hmk:A0V ao.op with
     | false =>
      cases A0R:B4e ao.op with
      | none =>
       obtain ⟨h4,h5⟩:=C2Q hqi.1 hmk A0R hc tL A6N;exact ⟨_,h5 _,B7n h4⟩
      | some j =>
       obtain ⟨h4,h5⟩:=C9y A0R A6N;exact ⟨_,h5 _ (D5R D ht h0 S ha hah A0R),B7n h4⟩
     | true =>
      obtain ⟨h4,h5⟩:=C5F hmk A6N;exact ⟨_,h5 _ (D5S D ht h0 S ha hah (.inr hmk)),B7n h4⟩
    | true =>
     have h6:=hqi.2.1;rw [tL] at h6;obtain ⟨j,hj⟩:=Option.isSome_iff_exists.1 h6.symm;rw [hj] at A6N ⊢;obtain ⟨row,h7,h8⟩:=C5G tL A6N;refine ⟨_,h8 _,?_⟩;have A0R:A1a l hr.length i (hr.length+j):=⟨ao,j,ha,hj,rfl⟩;have hjm:=hqi.2.2 j hj;have hbi:=iR D ht h0 (k:=i) (by omega);refine vM (by rw [E0c,H4,H4]) λid hid=>?_
     rw [E0c,H4] at hid;by_cases e1:hr.length+j=id
     ·subst e1;rw [D1 (by rw [H4];omega),sJ,if_pos ⟨by omega,D0r D A0R⟩];have h9:=mS D ht (k:=i+1) (id:=hr.length+j) (by rw [h7];simp;omega) (λk hk ho'=>by have:=C06 D ho' A0R;omega) (l.length-(i+1)) (by omega);rw [show i+1+(l.length-(i+1))=l.length by omega,h7,D1 (by omega)] at h9;exact h9.symm
     ·rw [B7 e1,sJ,sJ,B4B D];rintro ⟨ao',j',h10,h11,h12⟩;rw [ha] at h10;cases h10;rw [hj] at h11;cases h11;exact e1 h12.symm
   unfold U0 at jC ⊢;cases hgu:ao.guard with
   | none=>rw [hgu] at jC;exact A6N _ _ jC rfl
   | some g =>
    rw [hgu] at jC;simp only [D9t,D9y] at jC;obtain ⟨⟨v',h3⟩,hp,vO⟩:=jC;simp only [D9D] at vO;obtain ⟨hv',hh3⟩:=vO;unfold gd at hp ⊢;split at hp
    ·rename_i x uR;simp only [uR];cases hx:(x==g.2) with
     | true =>
      rw [hx] at hp;obtain ⟨h2,h4,h5⟩:=A6N _ _ hp hh3;exact ⟨h2,by rw [cond_true,h4];simp [hv'],h5⟩
     | false =>
      rw [hx] at hp;simp only [cond_false,D9y,D9D] at hp;refine ⟨_,by rw [cond_false];simp [<-hv',<-hp.1],B7n ?_⟩;rw [<-hh3];exact hp.2.symm
    ·rename_i uR;simp only [uR];simp only [D9y,D9D] at hp;refine ⟨_,by simp [<-hv',<-hp.1],B7n ?_⟩;rw [<-hh3];exact hp.2.symm
    ·cases hp
  obtain ⟨h2,hk1,hk2⟩:=key;rw [D57] at hk1;refine A3I hE hco hk1 C2e S.inv hrd C6C ?_;intro V w' μ' gX hv hinv aQ;subst hk2;refine hn V w' μ' q (C7w D ht h0 S ha hnd zC.1 zC.2 gX hv hinv aQ S.qle ?_);intro k ak nP hck;have e1:k≠i:=by intro e1;subst e1;rw [ha] at nP;cases nP;rw [hc] at hck;cases hck
  rw [V1 _ _ e1];exact S.calls k ak nP hck
 | true =>
  have hsn:ao.slot=A7:=by
   rcases A4k D.quiet ht ha with ⟨_,h,_⟩ | ⟨h,_⟩
   ·exact h
   ·rw [hc] at h;cases h
  have D9s:q<=i:=by
   have:=S.calls i ao ha hc;rw [hnd] at this;have:¬ i<q:=λh=>by have:=this.2 h;cases this
   omega
  have hlen:(hs i).length=(hs q).length:=by
   have:=vU D ht (q:=q) (i-q) (by omega) λk ak h1 h2 nP=>by
    cases hck:U6 ak.op with
    | false=>rfl
    | true =>
     have h3:=hah k (D.calls i k ao ak ha nP (.inl hc) (by omega) (.inl hck));have:=(S.calls k ak nP hck).1 h3;omega
   rwa [show q+(i-q)=i by omega] at this
  have D3j:∀ id,¬ A1a l hr.length i id:=by
   rintro id ⟨ao',j,h1,h2,_⟩;rw [ha] at h1;cases h1;rw [hsn] at h2;cases h2
  have D5b:∀ (k:Nat) ak,l[k]?=A4 ak->U6 ak.op=A5->(mE done i k=A5↔k<i+1):=by
   intro k ak nP hck;by_cases e1:k=i
   ·subst e1;simp [tD]
   ·rw [V1 _ _ e1];constructor
    ·intro hk;have:¬ i<k:=λh=>by
      have h2:=nQ k hk i (D.calls k i ak ao nP ha (.inl hck) h (.inl hc));rw [hnd] at h2;cases h2
     omega
    ·intro hk;exact hah k (D.calls i k ao ak ha nP (.inl hc) (by omega) (.inl hck))
  have D9h:=C7E D.quiet ht L8;have B7n:hs (i+1)=hs i->HD (hs l.length) (und l hr.length done) (hs q).length=HD (hs l.length) (und l hr.length (mE done i)) (hs (i+1)).length:=by
   intro hsame;rw [hsame,hlen];refine vM (by rw [H4,H4]) λid hid=>?_
   rw [sJ,sJ,B4B D (D3j id)]
  have A6N:∀ (g:Nat) (args:List Val),quiet (hs i) (E g args (hs i))=A4 (vs i,hs (i+1)) ->
    ∃ E':J9,dR P E'/\quiet (HD (hs l.length) (und l hr.length done) (hs q).length) (E' g args (HD (hs l.length) (und l hr.length done) (hs q).length))=A4 (vs i,HD (hs l.length) (und l hr.length (mE done i)) (hs (i+1)).length):=by
   intro g args D3c;obtain ⟨h1,h2⟩:=B17 D3c;obtain ⟨hg,hk,_⟩:=hE _ _ _ _ _ h1;have A1c:∀ id x,rd (hs i) id=A4 x->rd (HD (hs l.length) (und l hr.length done) (hs q).length) id=A4 x:=by
    intro id x hx;have A0Q:∀ k,i<=k->¬ A1a l hr.length k id:=λk hk ho'=>by
     have:=A4h D ht h0 ho' i hk;rw [this] at hx;cases hx
    have hu:und l hr.length done id=A6:=by
     cases hu:und l hr.length done id with
     | false=>rfl
     | true =>
      obtain ⟨k,hk,ho'⟩:=V6.1 hu;by_cases e1:i<=k
      ·exact absurd ho' (A0Q k e1)
      ·obtain ⟨ak,j,nP,hj,_⟩:=ho';have hsk:T6 ak.op=A5:=by have:=(D.quiet k ak nP).2.1;rw [hj] at this;exact this
       have:=hah k (D.calls i k ao ak ha nP (.inl hc) (by omega) (.inr hsk));rw [hk] at this;cases this
    rw [sJ,if_pos ⟨by have:=D7 hx;omega,hu⟩];have:=mS D ht (D7 hx) A0Q (l.length-i) (by omega);rw [show i+(l.length-i)=l.length by omega] at this;rw [this];exact hx
   have hfr:=hk.frame h2 (hD:=HD (hs l.length) (und l hr.length done) (hs q).length) (by rw [H4,hlen]) A1c;have uR:HD (hs l.length) (und l hr.length done) (hs q).length++(hs (i+1)).drop (hs i).length=HD (hs l.length) (und l hr.length (mE done i)) (hs (i+1)).length:=by
    refine vM (by rw [D9A,H4,H4,E0f];omega) λid hid=>?_
    rw [A87 (by rw [H4,hlen])];split
    ·rw [sJ,sJ,B4B D (D3j id)];have:id<(hs q).length:=by omega
     have:id<(hs (i+1)).length:=by omega
     simp [*]
    ·rename_i hge;have hbi:=iR D ht h0 (k:=i) (by omega);have aK:∀ k,¬ A1a l hr.length k id:=λk ho'=>by have:=C43 D ho';omega
     have hu:und l hr.length (mE done i) id=A6:=by
      cases hu:und l hr.length (mE done i) id with
      | false=>rfl
      | true=>obtain ⟨k,_,ho'⟩:=V6.1 hu;exact absurd ho' (aK k)
     have T1:id<(hs (i+1)).length:=by
      rw [D9A,H4,E0f] at hid;omega
     rw [sJ,if_pos ⟨T1,hu⟩];have:=mS D ht T1 (λk _=>aK k) (l.length-(i+1)) (by omega);rw [show i+1+(l.length-(i+1))=l.length by omega] at this;exact this.symm
   rw [uR] at hfr;have hgr:Grows (HD (hs l.length) (und l hr.length done) (hs q).length) (HD (hs l.length) (und l hr.length (mE done i)) (hs (i+1)).length):=by
    rw [<-uR];refine ⟨List.prefix_append _ _,λid x hid hx=>?_⟩;rw [H4] at hid;rw [A87 (by rw [H4,hlen]),if_neg (by omega)] at hx;exact h2.2 id x (by omega) hx
   refine ⟨λf' a' h'=>if f'=g/\a'=args/\h'=HD (hs l.length) (und l hr.length done) (hs q).length then A4 (vs i,HD (hs l.length) (und l hr.length (mE done i)) (hs (i+1)).length) else A7,?_,?_⟩
   ·intro f' a' h' v' h'' hv';simp only at hv';split at hv'
    ·rename_i A0O;obtain ⟨rfl,rfl,rfl⟩:=A0O;cases hv';exact ⟨hg,hfr,by rw [H4,H4];omega⟩
    ·cases hv'
   ·exact (congrArg (quiet _) (if_pos ⟨rfl,rfl,rfl⟩)).trans (quiet_of hgr)
  have key:∃ E':J9,dR P E'/\U0 E' A5 hr hr.length ao (es i) (HD (hs l.length) (und l hr.length done) (hs q).length) (λv h=>A4 (v,h))=A4 (vs i,HD (hs l.length) (und l hr.length (mE done i)) (hs (i+1)).length):=by
   have hop:∀ v h3,aop E A5 hr hr.length ao.slot ao.op (es i) (hs i) (λv h=>A4 (v,h))=A4 (v,h3)->v=vs i->h3=hs (i+1) ->
     ∃ E':J9,dR P E'/\aop E' A5 hr hr.length ao.slot ao.op (es i) (HD (hs l.length) (und l hr.length done) (hs q).length) (λv h=>A4 (v,h))=A4 (vs i,HD (hs l.length) (und l hr.length (mE done i)) (hs (i+1)).length):=by
    intro v h3 hr1 hv1 he3;subst hv1 he3;cases D8T:ao.op<;>rw [D8T] at hc hr1<;>simp [U6] at hc
    case call f args =>
     simp only [aop,cond_true,D9t,D9y] at hr1;obtain ⟨⟨v',h4⟩,hp,vO⟩:=hr1;cases vO;obtain ⟨E',h5,h6⟩:=A6N f _ hp;exact ⟨E',h5,by simp only [aop,cond_true];rw [h6];rfl⟩
    case callV f args =>
     simp only [aop,cond_true,D9t,D9y] at hr1;obtain ⟨⟨v',h4⟩,hp,vO⟩:=hr1;cases vO;unfold qT at hp;split at hp
     ·rename_i g caps uR;obtain ⟨E',h5,h6⟩:=A6N g _ hp;refine ⟨E',h5,?_⟩;simp only [aop,cond_true];unfold qT;rw [uR];simp only;rw [h6];rfl
     ·simp [quiet] at hp
   unfold U0 at jC ⊢;cases hgu:ao.guard with
   | none=>rw [hgu] at jC;exact hop _ _ jC rfl rfl
   | some g =>
    rw [hgu] at jC;simp only [D9t,D9y] at jC;obtain ⟨⟨v',h3⟩,hp,vO⟩:=jC;simp only [D9D] at vO;obtain ⟨hv',hh3⟩:=vO;unfold gd at hp ⊢;split at hp
    ·rename_i x uR;simp only [uR];cases hx:(x==g.2) with
     | true =>
      rw [hx] at hp;obtain ⟨E',h2,h4⟩:=hop _ _ hp hv' hh3;exact ⟨E',h2,by rw [cond_true,h4];rfl⟩
     | false =>
      rw [hx] at hp;simp only [cond_false,D9y,D9D] at hp;refine ⟨E,hE,?_⟩;rw [cond_false,<-B7n (by rw [<-hh3];exact hp.2.symm)];simp [<-hv',<-hp.1]
    ·rename_i uR;simp only [uR];simp only [D9y,D9D] at hp;refine ⟨E,hE,?_⟩;rw [<-B7n (by rw [<-hh3];exact hp.2.symm)];simp [<-hv',<-hp.1]
    ·cases hp
  obtain ⟨E',hE',hk1⟩:=key;rw [D57] at hk1;refine A3I hE' hco hk1 C2e S.inv hrd C6C ?_;intro V w' μ' gX hv hinv aQ;exact hn V w' μ' (i+1) (C7w D ht h0 S ha hnd zC.1 zC.2 gX hv hinv aQ (by omega) D5b)
end
end Go.Esc
