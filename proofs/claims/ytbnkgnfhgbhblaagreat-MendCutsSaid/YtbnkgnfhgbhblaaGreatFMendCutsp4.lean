/- What the proof of this claim leans on, part 4. -/
import Derived.Test.YtbnkgnfhgbhblaaGreatFMendCutsp3
set_option linter.all false
set_option maxRecDepth 100000
open Go Go.Esc
noncomputable section
open Bool renaming and_eq_true→D9v,false_and→D9L,not_eq_true'→E0e,not_false→E0E,or_eq_true→E0y,true_and→D9R,false→A6,true→A5
open Int renaming eq_ofNat_of_zero_le→E0i,toNat_natCast→D9N
open IntKind renaming wrap→D9B
open List renaming all_cons→E0j,all_eq_true→E0k,append_assoc→D9C,append_nil→D9Q,cons_append→D99,drop_drop→E0t,drop_eq_getElem_cons→D9E,drop_left'→E0s,drop_of_length_le→D9K,drop_zero→D9O,ext_getElem?→E0q,filter_cons→E0H,flatten_cons→E0l,getD_eq_getElem?_getD→D9z,getElem?_append_left→D94,getElem?_append_right→D9P,getElem?_cons_succ→D9Z,getElem?_drop→E0u,getElem?_eq_getElem→D9u,getElem?_eq_none→D9W,getElem?_map→E0C,getElem?_set_ne→E0o,getElem?_take_of_lt→D97,getElem_mem→D9Y,length_append→D9A,length_cons→D9G,length_drop→E0f,length_filter_le→E0m,length_nil→D95,length_replicate→D9X,length_set→E0c,length_take→D91,map_append→E0h,map_cons→E0d,mem_cons→E0B,mem_cons_of_mem→D9F,mem_cons_self→D9I,mem_of_getElem?→D9S,nil_append→D9U,prefix_refl→E0a,range→D90,range'→E0g,replicate→D9w,replicate_succ→D92,set_append_right→D96,set_cons_zero→E0w,take_left'→E0x,take_succ_eq_append_getElem→D9V,take_zero→E0z
open Nat renaming add_mul→E0A,add_zero→E0D,le_refl→D9x,le_trans→D93,min→E0J,min_eq_left→E0F,mod_eq_of_lt→E0G,sub_self→E0p,zero_add→D9T
open Option renaming bind_some→D9H,isSome_none→E0n,isSome_some→D98,map_eq_some_iff→D9J,map_some→E0b,none→A7,some→A4
open Option.some renaming injEq→D9y
open Prod.mk renaming injEq→D9D
open Go.Proofs.Tryz renaming prog→A8
namespace Go.Proofs.YtbnkgnfhgbhblaaGreat
def wA (D:Dev) (n i:Int):List UInt8:=jJ (blk D (W1 D.length n i)) (gF D.length n i).toNat
def C0D (D:Dev) (n i:Int):List Cell:=bif P9 D.length n i then lO (wA D n i) else D4 0 0 0 0 (zI 7)
def kdV (D:Dev) (n i:Int):Int:=bif P9 D.length n i then (bif gA (wA D n i) then A6M (wA D n i) else 0) else 0
def D07 (D:Dev) (n i:Int):∃ l s p d,C0D D n i=D4 (kdV D n i) l s p d/\d.length=7:=by
 unfold C0D kdV;cases P9 D.length n i with
 | false=>exact ⟨0,0,0,zI 7,rfl,K4⟩
 | true =>
  unfold lO;cases gA (wA D n i) with
  | false=>exact ⟨0,0,0,zI 7,rfl,K4⟩
  | true=>exact ⟨_,_,_,_,rfl,I9⟩
def C8p (D:Dev) (n i:Int):K1 (C0D D n i)=A5:=by
 obtain ⟨l,s,p,d,e,hd⟩:=D07 D n i;rw [e];exact C8o (l:=_::_::_::_::d)
def C2x {b n m i:Int} {f:Cell} {h:A9} (hi:P9 b n i=A6):K9 [.a (vwC b n m f),iV i] h=A4 (.a (D4 0 0 0 0 (zI 7)),h):=by
 have key:∀ g,∃ g',gN 0 [.a (vwC b n m f),iV i] g=A4 (.a (D4 0 0 0 0 (zI 7)),g'):=by
  intro g;have l3:=B4C (b:=b) (n:=n) (m:=m) (f:=f);have hW:=λh=>A21 (b:=b) (n:=n) (m:=m) (i:=i) (h:=h)
  simp only [hi] at hW;have hf:=B9I;have hl:=A8J;rw [vA,C4E];generalize vwC b n m f=V at *;generalize D4 0 0 0 0 (zI 7)=z at *;exact ⟨_,by simp only [esc,esh,l3,hW,hf,hl]<;>rfl⟩
 obtain ⟨g',e⟩:=key (ro h);exact qG e rfl
def Z0 {n m i:Int} {f:Cell} {D:Dev} {h:A9} (hD:okD D) (hv:IsView h f D):K9 [.a (vwC D.length n m f),iV i] h=A4 (.a (C0D D n i),h):=by
 cases hi:P9 D.length n i with
 | false =>
  rw [C2x hi];unfold C0D;rw [hi];rfl
 | true =>
  have key:∀ g,IsView g f D->∃ g',gN 0 [.a (vwC D.length n m f),iV i] g=A4 (.a (C0D D n i),g'):=by
   intro g hv;have l3:=B4C (b:=D.length) (n:=n) (m:=m) (f:=f);have l4:=B4D (b:=D.length) (n:=n) (m:=m) (f:=f);have hW:=λh=>A21 (b:=D.length) (n:=n) (m:=m) (i:=i) (h:=h)
   simp only [hi] at hW;have hf:=B9I;have hl:=A8J;have hK:∃ j:Nat,gF D.length n i=j/\j<8:=by
    refine ⟨(gF D.length n i).toNat,?_,?_⟩<;>unfold gF<;>rw [hi,cond_true]<;>omega
   obtain ⟨j,hj,hj8⟩:=hK;have hB:=N1 (n:=n) (m:=m) (no:=W1 D.length n i) (h:=g++[rT (vwC D.length n m f),rT (D4 0 0 0 0 (zI 7))]) hD (hv.more _);have hG:=λh=>C5c (b:=blk D (W1 D.length n i)) (j:=j) (h:=h) (J3 hD) hj8
   have er:jJ (blk D (W1 D.length n i)) j=wA D n i:=by unfold wA;rw [hj,D9N]
   simp only [er] at hG;simp only [hj] at hW;have nQ:=B0z (b:=wA D n i);have ei:C0D D n i=lO (wA D n i):=by unfold C0D;rw [hi];rfl
   rw [vA,C4E,ei];generalize vwC D.length n m f=V at *;generalize D4 0 0 0 0 (zI 7)=z at *;generalize lO (wA D n i)=y at *;exact ⟨_,by simp only [esc,esh,Nat.reduceAdd,l3,l4,hW,hB,hG,hf,hl,nQ]<;>rfl⟩
  obtain ⟨g',e⟩:=key (ro h) hv.ro;exact qG e (C8p D n i)
def C8y (b:List UInt8) (i:Int):Bool:=decide (0<=i)&&decide (i<2048)&&decide ((b.getD (i/8).toNat 0).toNat/2 ^ (i%8).toNat%2=1)
def xR (i:Nat):Nat:=2 ^ (i%8)
def B3X (i:Nat):xR i<256:=by
 have h:i%8<8:=by omega
 unfold xR;generalize i%8=j at *;have:j=0\/j=1\/j=2\/j=3\/j=4\/j=5\/j=6\/j=7:=by omega
 rcases this with rfl | rfl | rfl | rfl | rfl | rfl | rfl | rfl<;>decide
def A8b {i:Nat} {h:A9} (hi:i<2048):mB [iV (i:Int)] h=A4 (.t [.c (.i .i64 ((i/8:Nat):Int)),.c (.i .u8 (xR i:Int)),.c (.b A5)],h):=by
 refine A0p (n:=0) (h2:=ro h) ?_ rfl;have c1:¬ (i:Int)<0:=by omega
 have c2:¬ (2048:Int)<=i:=by omega
 have q1:K6 .quo (iV (i:Int)) (iV 8)=A4 (iV ((i/8:Nat):Int)):=by
  rw [A5M (by omega) (by omega) (by omega)];congr 3
 have r1:K6 .rem (iV (i:Int)) (iV 8)=A4 (iV ((i%8:Nat):Int)):=by
  rw [C3B (by omega) (by omega)];congr 3
 have w1:D9B .u64 ((i%8:Nat):Int)=((i%8:Nat):Int):=wrap_u64 (by omega) (by omega);have s1:K6 .shl (.c (.i .u8 1)) (.c (.i .u64 ((i%8:Nat):Int)))=A4 (.c (.i .u8 (xR i:Int))):=by
  have hm:=B3X i;rw [B3f (by omega),D9N];have e1:E0J (i%8) IntKind.u8.bits=i%8:=by
   have:IntKind.u8.bits=8:=rfl;rw [this];exact E0F (by omega)
  have e2:(1:Int)*2 ^ (i%8)=(xR i:Int):=by unfold xR;rw [Int.natCast_pow];simp
  rw [e1,e2,wrap_u8 (by omega) (by omega)]
 rw [A3p];simp only [esc,c1,c2,q1,r1,w1,s1]
def B8n {i:Int} {h:A9} (hi:i<0\/2048<=i):mB [iV i] h=A4 (.t [.c o0,.c (.i .u8 0),.c (.b A6)],h):=by
 refine A0p (n:=0) (h2:=ro h) ?_ rfl;rw [A3p];by_cases c1:i<0
 ·simp only [esc,c1]
 ·have c2:2048<=i:=by omega
  simp only [esc,c1,c2]
def D6t {a b:Nat} (ha:a<256) (hb:b<256):K6 .and (.c (.i .u8 a)) (.c (.i .u8 b))=A4 (.c (.i .u8 ((a &&& b:Nat):Int))):=by
 have h1:a &&& b<2 ^ 8:=Nat.and_lt_two_pow _ hb;rw [C5w];have e:(BitVec.ofInt IntKind.u8.bits (a:Int) &&& BitVec.ofInt IntKind.u8.bits (b:Int)).toNat=a &&& b:=by
  have h8:IntKind.u8.bits=8:=rfl;rw [BitVec.toNat_and,BitVec.toNat_ofInt,BitVec.toNat_ofInt,h8];have e1:((a:Int)%(2 ^ 8:Nat)).toNat=a:=by omega
  have e2:((b:Int)%(2 ^ 8:Nat)).toNat=b:=by omega
  rw [e1,e2]
 rw [e,wrap_u8 (by omega) (by omega)]
def D79 {a b:Nat} (ha:a<256) (hb:b<256):K6 .or (.c (.i .u8 a)) (.c (.i .u8 b))=A4 (.c (.i .u8 ((a ||| b:Nat):Int))):=by
 have h1:a ||| b<2 ^ 8:=Nat.or_lt_two_pow ha hb
 rw [C4d];have e:(BitVec.ofInt IntKind.u8.bits (a:Int) ||| BitVec.ofInt IntKind.u8.bits (b:Int)).toNat=a ||| b:=by
  have h8:IntKind.u8.bits=8:=rfl;rw [BitVec.toNat_or,BitVec.toNat_ofInt,BitVec.toNat_ofInt,h8];have e1:((a:Int)%(2 ^ 8:Nat)).toNat=a:=by omega
  have e2:((b:Int)%(2 ^ 8:Nat)).toNat=b:=by omega
  rw [e1,e2]
 rw [e,wrap_u8 (by omega) (by omega)]
def D4G {a j:Nat}:(a &&& 2 ^ j=0)↔¬ a/2 ^ j%2=1:=by
 have h:=Nat.testBit_eq_decide_div_mod_eq (x:=a) (i:=j);constructor
 ·intro h0 h1;rw [decide_eq_true h1] at h;have h2:(a &&& 2 ^ j).testBit j=A5:=by rw [Nat.testBit_and,h,Nat.testBit_two_pow,decide_eq_true rfl];rfl
  rw [h0,Nat.zero_testBit] at h2;cases h2
 ·intro h1;rw [decide_eq_false h1] at h;refine Nat.eq_of_testBit_eq λi=>?_
  rw [Nat.testBit_and,Nat.testBit_two_pow,Nat.zero_testBit];by_cases c:j=i
  ·subst c;rw [h];rfl
  ·rw [decide_eq_false c,Bool.and_false]
def C4n {b:List UInt8} {i:Int} {h:A9} (hb:b.length=256):A7A [.a (B4 b),iV i] h=A4 (bV (C8y b i),h):=by
 have key:∀ g,∃ g',A66 0 [.a (B4 b),iV i] g=A4 (bV (C8y b i),g'):=by
  intro g;rw [B8W];by_cases c:0<=i/\i<2048
  ·obtain ⟨k,rfl⟩:∃ k:Nat,i=k:=⟨i.toNat,by omega⟩;have hk:k<2048:=by omega
   have hW:=λh=>A8b (h:=h) hk
   have T1:k/8<b.length:=by omega
   have ad:=K3 (k:=.i64) (id:=g.length) (off:=0) (sz:=1) (j:=k/8) (n:=256) (by omega);rw [Nat.mul_one,D9T] at ad;have l1:(B4 b)[k/8]?=A4 (.i .u8 b[k/8].toNat):=by rw [qX,D9u T1];rfl
   have a1:=D6t (a:=b[k/8].toNat) (b:=xR k) b[k/8].toNat_lt (B3X k);have e:C8y b k=decide (¬ (((b[k/8].toNat &&& xR k:Nat):Int)=0)):=by
    have h1:(k:Int)/8=((k/8:Nat):Int):=rfl;have h2:(k:Int)%8=((k%8:Nat):Int):=rfl;unfold C8y;rw [decide_eq_true c.1,decide_eq_true c.2,D9R,D9R,h1,h2,D9N,D9N,D9z,D9u T1,Option.getD_some];have:=D4G (a:=b[k/8].toNat) (j:=k%8);unfold xR;by_cases c:b[k/8].toNat/2 ^ (k%8)%2=1
    ·rw [decide_eq_true c,decide_eq_true];intro h;exact this.1 (by omega) c
    ·rw [decide_eq_false c,decide_eq_false];intro h;exact h (by have:=this.2 c;omega)
   rw [e];generalize B4 b=y at *;exact ⟨_,by simp only [esc,esh,hW,ad,l1,a1]<;>rfl⟩
  ·have hW:=λh=>B8n (i:=i) (h:=h) (by omega)
   have e:C8y b i=A6:=by
    unfold C8y;rw [Bool.and_eq_false_iff,Bool.and_eq_false_iff,decide_eq_false_iff_not,decide_eq_false_iff_not];omega
   rw [e];generalize B4 b=y at *;exact ⟨_,by simp only [esc,esh,hW]<;>rfl⟩
 obtain ⟨g',e⟩:=key (ro h);exact B49 e rfl
def C3X (D:Dev) (n i:Int):Bool:=P5 D.length n&&decide (0<=i)&&decide (i<D.length)&&C8y (blk D 1) i
def C5j {n m i:Int} {f:Cell} {D:Dev} {h:A9} (hD:okD D) (hv:IsView h f D):sZ [.a (vwC D.length n m f),iV i] h=A4 (bV (C3X D n i),h):=by
 have key:∀ g,IsView g f D->∃ g',sU 0 [.a (vwC D.length n m f),iV i] g=A4 (bV (C3X D n i),g'):=by
  intro g hv;have l3:=B4C (b:=D.length) (n:=n) (m:=m) (f:=f);have l4:=B4D (b:=D.length) (n:=n) (m:=m) (f:=f);have l0:(vwC D.length n m f)[0]?=A4 (.i .i64 (D.length:Int)):=rfl;have hC:=λh=>aH (b:=D.length) (n:=n) (m:=m) (h:=h)
  have n10:¬ (1:Int)=0:=by decide
  rw [A9Q];unfold C3X;cases c1:P5 D.length n with
  | false =>
   simp only [c1] at hC;generalize vwC D.length n m f=V at *;exact ⟨_,by simp only [esc,esh,l3,hC,n10,D9L]<;>rfl⟩
  | true =>
   simp only [c1] at hC;by_cases c2:0<=i
   ·by_cases c3:i<D.length
    ·have hB:=N1 (n:=n) (m:=m) (no:=1) (h:=g++[rT (vwC D.length n m f)]) hD (hv.more _);have hH:=λh=>C4n (i:=i) (h:=h) (J3 hD (i:=1))
     generalize vwC D.length n m f=V at *;exact ⟨_,by simp only [esc,esh,l3,l4,l0,hC,eq_self,c2,c3,oM,hB,hH,D9R]<;>rfl⟩
    ·generalize vwC D.length n m f=V at *;exact ⟨_,by simp only [esc,esh,l3,l4,l0,hC,eq_self,c2,c3,D9R,D9L]<;>rfl⟩
   ·generalize vwC D.length n m f=V at *;exact ⟨_,by simp only [esc,esh,l3,l4,hC,eq_self,c2,D9R,D9L]<;>rfl⟩
 obtain ⟨g',e⟩:=key (ro h) hv.ro;exact A6H e rfl
def D2i {N:Nat} (hN:N<=1073741823):B8l (iV (N:Int)) (iV (N:Int))=A4 N:=by
 have:A96 (iV (N:Int))=A4 N:=by simp only [A96];rw [if_pos (by omega)];simp
 simp [B8l,this]
def D4g {D:Dev} {i:Nat} {z:List UInt8} (hi:i<D.length):(D.take i++D9w (D.length-i) z).set i D[i]=D.take (i+1)++D9w (D.length-(i+1)) z:=by
 have hl:(D.take i).length=i:=by rw [D91];omega
 rw [D96 _ _ (by omega),hl,E0p,show D.length-i=D.length-(i+1)+1 by omega,D92,E0w,D9V hi,D9C];rfl
def D3M {D:Dev} (hD:okD D) (i:Nat):okD (D.take i++D9w (D.length-i) (zeros 256)):=λb hb=>by
 rcases List.mem_append.1 hb with hb | hb
 ·exact hD.take i b hb
 ·exact B6b _ b hb
def C0z {n m:Int} {f:Cell} {D:Dev} {g:A9} {p q id:Nat} (hD:okD D) (h60:D.length<=1073741823) (h1:rd g p=rT (vwC D.length n m f)) (hv:IsView g f D) (hid:g.length<=id):∀ (e i M:Nat) (h:A9),i+e=D.length->e<M->Low g.length g h ->
  rd h id=rT (C8 (D.take i++D9w (D.length-i) (zeros 256))) ->
  ∃ h',A08 q M (pV p 0) (sV id 0 D.length 256) (iV (D.length:Int)) (iV (i:Int)) h=A4 (sV id 0 D.length 256,h')/\rd h' id=rT (C8 D)
 | e,i,0,h,_,hm,_,_=>by omega
 | 0,i,M+1,h,hi,hm,hlow,hr=>by
  have e0:i=D.length:=by omega
  have c0:¬ (i:Int)<(D.length:Nat):=by omega
  rw [e0,List.take_length,E0p,List.replicate_zero,D9Q] at hr;rw [sK];exact ⟨h,by simp only [esc,c0],hr⟩
 | e+1,i,M+1,h,hi,hm,hlow,hr=>by
  have L8:i<D.length:=by omega
  have c0:(i:Int)<(D.length:Nat):=by omega
  have hV:=C9 (h:=h) (id:=p) (hlow.rd h1) (n:=4) rfl;have hB:=N1 (n:=n) (m:=m) (no:=(i:Int)) hD (hv.since hlow);rw [A76 L8] at hB;have ad:E5 256 (sV id 0 D.length 256) (iV (i:Int))=A4 (pV id (i*256)):=by rw [D8 L8,D9T]
  have hl:(D.take i).length=i:=by rw [D91];omega
  have hs:=zX (i:=i) (b:=D[i]) hr (D3M hD i) (hD.at L8) (by rw [D9A,hl,D9X];omega);rw [D4g L8] at hs;have T1:=D7 hr;obtain ⟨h',g1,g2⟩:=C0z (q:=q) hD h60 h1 hv hid e (i+1) M (h.set id (rT (C8 (D.take (i+1)++D9w (D.length-(i+1)) (zeros 256))))) (by omega) (by omega) (hlow.set hid _) (D1 T1);refine ⟨h',?_,g2⟩;rw [sK];generalize vwC D.length n m f=V at *;generalize B4 D[i]=y at *;simp only [E4,H7,c0,decide_true,fD,hV,hB,ad,hs,P6,D9 (show i+1<9223372036854775808 by omega)];exact g1
def C2w {n m:Int} {f:Cell} {D:Dev} {h:A9} (hD:okD D) (hv:IsView h f D) (hm:P5 D.length n=A5):qF [.a (vwC D.length n m f)] h=A4 (sV h.length 0 D.length 256,h++[rT (C8 D)]):=by
 have key:∀ g,IsView g f D->∃ v g',pN (D.length+1) [.a (vwC D.length n m f)] g=A4 (v,g')/\Out g.length g' v 256 D.length (C8 D):=by
  intro g hv;have h60:D.length<=512:=by
   unfold P5 at hm;simp only [D9v,decide_eq_true_eq] at hm;omega
  have l3:=B4C (b:=D.length) (n:=n) (m:=m) (f:=f);have l0:(vwC D.length n m f)[0]?=A4 (.i .i64 (D.length:Int)):=rfl;have hC:=λh=>aH (b:=D.length) (n:=n) (m:=m) (h:=h)
  simp only [hm] at hC;have mk:=D2i (N:=D.length) (by omega);obtain ⟨h',g1,g2⟩:=C0z (n:=n) (m:=m) (p:=g.length) (q:=D.length+1) (id:=g.length+2) (g:=g++[rT (vwC D.length n m f),rT []]) hD (by omega) (by simp) (hv.more _) (by simp) D.length 0 (D.length+1) (g++[rT (vwC D.length n m f),rT [],rT (C8 (D9w D.length (zeros 256)))]) (by omega) (by omega)
   (by
    have:=(Low.refl (h:=g++[rT (vwC D.length n m f),rT []]) (D9x _)).new [rT (C8 (D9w D.length (zeros 256)))];simpa using this) (by simp)
  rw [A7w];simp only [C7o];refine ⟨_,h',?_,F0 hD,g.length+2,rfl,by omega,g2⟩;generalize vwC D.length n m f=V at *;simp only [esc,esh,Nat.reduceAdd,l3,hC,eq_self,l0,mk];exact g1
 obtain ⟨v,g',e,ho⟩:=key (ro h) hv.ro;exact A6G e (by simpa [G5] using ho) bL
def A3e (b:List UInt8) (i:Nat):List UInt8:=b.set (i/8) (UInt8.ofNat ((b.getD (i/8) 0).toNat ||| xR i))
def B7C {b:List UInt8} {i:Nat}:(A3e b i).length=b.length:=by simp [A3e]
def C12 {b:List UInt8} {i:Nat} {h:A9} (hb:b.length=256) (hi:i<2048):A42 [.a (B4 b),iV (i:Int),bV A5] h=A4 (.a (B4 (A3e b i)),h):=by
 have key:∀ g,∃ g',A4I 0 [.a (B4 b),iV (i:Int),bV A5] g=A4 (.a (B4 (A3e b i)),g'):=by
  intro g;have hW:=λh=>A8b (h:=h) hi
  have T1:i/8<b.length:=by omega
  have ad:=K3 (k:=.i64) (id:=g.length) (off:=0) (sz:=1) (j:=i/8) (n:=256) (by omega);rw [Nat.mul_one,D9T] at ad;have l1:(B4 b)[i/8]?=A4 (.i .u8 b[i/8].toNat):=by rw [qX,D9u T1];rfl
  have a1:=D79 (a:=b[i/8].toNat) (b:=xR i) b[i/8].toNat_lt (B3X i);have hor:b[i/8].toNat ||| xR i<2 ^ 8:=Nat.or_lt_two_pow b[i/8].toNat_lt (B3X i)
  have es:(B4 b).set (i/8) (.i .u8 ((b[i/8].toNat ||| xR i:Nat):Int))=B4 (A3e b i):=by
   have ew:(b[i/8].toNat ||| xR i)=(UInt8.ofNat (b[i/8].toNat ||| xR i)).toNat:=by rw [UInt8.toNat_ofNat',E0G hor]
   unfold A3e;rw [D9z,D9u T1,Option.getD_some,<-iY,<-ew]
  have hB:(B4 b).length=256:=by rw [B5,hb]
  have hC:(B4 (A3e b i)).length=256:=by rw [B5,B7C,hb]
  have s1:=D0m (cs:=B4 b) (off:=i/8) (x:=.i .u8 ((b[i/8].toNat ||| xR i:Nat):Int)) (by omega);rw [es] at s1;have hz:(D9w 256 (Cell.i .u8 0)).length=256:=D9X;rw [B7M];generalize D9w 256 (Cell.i .u8 0)=z at *;generalize B4 b=y at *;generalize B4 (A3e b i)=y2 at *;exact ⟨_,by simp only [esc,O9,G6,Z4,J2,O3,F8,nK,A73,L9,zF,cK,hW,ad,l1,a1,s1,B5N,hC,hz]<;>rfl⟩
 obtain ⟨g',e⟩:=key (ro h);exact B2N e (by simp [Val.flat])
def jG (l:List Nat):List UInt8:=l.foldl A3e (zeros 256)
def eX {l:List Nat}:∀ {b:List UInt8},(l.foldl A3e b).length=b.length:=by
 induction l with
 | nil=>intro b;rfl
 | cons x l ih=>intro b;rw [List.foldl_cons,ih,B7C]
def B98 {g:A9} {l:List Nat} {q p:Nat} {v:Val} {nv:Nat} (hl:∀ x∈l,x<2048) (h60:l.length<=2048) (hv:Has g v 1 nv (encI (l.map λx:Nat=>(x:Int)))) (hp:p=g.length):∀ (e i m:Nat),i+e=l.length->e<m ->
  B0x q m (pV p 0) (pV (p+1) 0) v (iV (l.length:Int)) (iV (i:Int)) (g++[rT (B4 (zeros 256)),rT (B4 ((l.take i).foldl A3e (zeros 256)))]) =
   A4 (.a (B4 (jG l)),g++[rT (B4 (jG l)),rT (B4 (jG l))])
 | e,i,0,_,hm=>by omega
 | 0,i,m+1,hi,hm=>by
  have e0:i=l.length:=by omega
  subst e0 hp;have c0:¬ (l.length:Int)<(l.length:Nat):=by omega
  have hB:(B4 (jG l)).length=256:=by rw [B5];unfold jG;rw [eX];exact zeros_length
  have hz:(B4 (zeros 256)).length=256:=by rw [B5];exact zeros_length
  rw [A3N,List.take_length];have em:l.foldl A3e (zeros 256)=jG l:=rfl;rw [em];generalize B4 (zeros 256)=z at *;generalize B4 (jG l)=y at *;simp only [esc,esh,c0,hB,hz]
 | e+1,i,m+1,hi,hm=>by
  have L8:i<l.length:=by omega
  have ih:=B98 (q:=q) hl h60 hv hp e (i+1) m (by omega) (by omega);subst hp;have c0:(i:Int)<(l.length:Nat):=by omega
  have hnv:l.length=nv:=by
   have:=hv.length;rw [C1,List.length_map] at this;omega
  obtain ⟨id,off,rfl,hid,h1,_⟩:=(hv.more [rT (B4 (zeros 256)),rT (B4 ((l.take i).foldl A3e (zeros 256)))]).sl (by omega);have hx:=h1 i (.i .i64 (l[i]:Int)) (by rw [H0,E0C,D9u L8];rfl);have ea:E5 1 (sV id off nv 1) (iV (i:Int))=A4 (pV id (off+i)):=by rw [D8 (by omega)];simp
  have hfl:((l.take i).foldl A3e (zeros 256)).length=256:=by rw [eX];exact zeros_length
  have hW:=λh=>C12 (h:=h) hfl (hl _ (D9Y L8))
  have et:A3e ((l.take i).foldl A3e (zeros 256)) l[i]=(l.take (i+1)).foldl A3e (zeros 256):=by
   rw [D9V L8,List.foldl_append];rfl
  rw [et] at hW;have hB:(B4 ((l.take i).foldl A3e (zeros 256))).length=256:=by rw [B5,hfl]
  have hB2:(B4 ((l.take (i+1)).foldl A3e (zeros 256))).length=256:=by rw [B5,eX];exact zeros_length
  rw [A3N];generalize B4 (zeros 256)=z at *;generalize B4 ((l.take i).foldl A3e (zeros 256))=y at *;generalize B4 ((l.take (i+1)).foldl A3e (zeros 256))=y2 at *;simp only [esc,esh,c0,ea,hx,hW,hB,hB2,D9 (show i+1<9223372036854775808 by omega)];exact ih
def B0w {v:Val} {nv:Nat} {l:List Nat} {h:A9} (hl:∀ x∈l,x<2048) (h60:l.length<=2048) (hv:Has h v 1 nv (encI (l.map λx:Nat=>(x:Int)))):yL [v] h=A4 (.a (B4 (jG l)),h):=by
 have key:∀ g,Has g v 1 nv (encI (l.map λx:Nat=>(x:Int)))->∃ g',A4H (l.length+1) [v] g=A4 (.a (B4 (jG l)),g'):=by
  intro g hv;have hnv:l.length=nv:=by
   have:=hv.length;rw [C1,List.length_map] at this;omega
  have hL:=B98 (q:=l.length+1) hl h60 hv rfl l.length 0 (l.length+1) (by omega) (by omega);have hlen:=hv.len;rw [<-hnv] at hlen;rw [B7L,F7];rw [E0z,List.foldl_nil] at hL;generalize B4 (zeros 256)=z at *;exact ⟨_,by simp only [esc,hlen];exact hL⟩
 obtain ⟨g',e⟩:=key (ro h) hv.ro;exact B2M e (by simp [Val.flat])
def C0J {l xs:List UInt8} {a c n:Nat} (h:a+xs.length<=l.length) (hd:c+n<=a\/a+xs.length<=c):((G0 l a xs).drop c).take n=(l.drop c).take n:=by
 apply E0q;intro j;by_cases hj:j<n
 ·rw [D97 hj,D97 hj,E0u,E0u,C0K h,if_neg (by omega)]
 ·rw [D9W (by simp;omega),D9W (by simp;omega)]
def D4v {b:List UInt8} {n:Nat} {v:Int} (hn:n<128):fF b ((2*n:Nat):Int) 2 v=G0 b (2*n) (C6 2 v):=by
 unfold fF;rw [if_pos ⟨by omega,S7.2 (by omega)⟩,D9N];rfl
def D5x {b:List UInt8} {n i:Nat} {v:Int} (hb:b.length=256) (hn:n<128) (hi:i<128):ptP (G0 b (2*n) (C6 2 v)) i=if i=n then v%65536 else ptP b i:=by
 unfold ptP fieldN;by_cases c:i=n
 ·subst c;rw [if_pos rfl];have:=C6H (l:=b) (xs:=C6 2 v) (a:=2*i) (by simp;omega);rw [N0] at this;rw [this,A9z];rfl
 ·rw [if_neg c,C0J (by simp;omega) (by simp;omega)]
def B7H {a:Int}:D9B .u8 a=a%256:=by
 simp only [D9B,IntKind.bits,IntKind.signed,D9L];rfl
def B1H {t:List Int}:∀ k,(J0 t k).Nodup
 | 0=>by simp [J0]
 | k+1=>by
  rw [A9o];by_cases c:qP t k=A5
  ·rw [if_pos c];have hc:=c;unfold qP at hc;rw [D9v] at hc;have h0:toX t k≠0:=by simpa using hc.1
   have hn:toX t k ∉ J0 t k:=by
    have:=D5e h0;rw [hc.2] at this;simpa using this
   rw [List.nodup_append];refine ⟨B1H k,by simp,?_⟩;intro a ha b hb e;simp at hb;subst hb;subst e;exact hn ha
  ·rw [if_neg c,D9Q];exact B1H k
def C79 {D:Dev} {n k:Int} {d:List Int}:(vC D n k d).Nodup:=by
 unfold vC;cases A1W D n k d with
 | false=>simp
 | true=>exact (B1H _).filter _
def A8V {b:List UInt8}:∀ e k,(N8 b e k).Pairwise λx y=>x.1<y.1
 | 0,k=>by simp [N8]
 | e+1,k=>by
  cases hr:M4 b k with
  | none=>rw [Y0 hr];exact A8V e (k+1)
  | some x =>
   rw [Y4 hr];refine List.pairwise_cons.2 ⟨λy hy=>?_,A8V e (k+1)⟩;have:=zG hy;show k<y.1;omega
def C8i {D:Dev} {n k:Int} {d:List Int}:(A30 D n k d).Pairwise λx y=>(x.1.1,x.1.2.1)≠(y.1.1,y.1.2.1):=by
 unfold A30 C4h;rw [List.pairwise_flatMap];refine ⟨λb _=>?_,(C79 (D:=D) (n:=n) (k:=k) (d:=d)).imp λ{a b} hab=>?_⟩
 ·unfold B7G;rw [List.pairwise_map];refine (A8V 7 0).imp λ{x y} hxy=>?_
  intro e;have:=congrArg Prod.snd e;dsimp only at this;omega
 ·intro x hx y hy e;unfold B7G at hx hy;rw [List.mem_map] at hx hy;obtain ⟨x',_,rfl⟩:=hx;obtain ⟨y',_,rfl⟩:=hy;exact hab (congrArg Prod.fst e)
def C6T {D:Dev} {n k:Int} {d:List Int}:(R1 D n k d (A30 D n k d)).Nodup:=by
 unfold R1;rw [List.Nodup,List.pairwise_map];refine ((C8i (D:=D) (n:=n) (k:=k) (d:=d)).filter _).imp_of_mem λ{x y} hx hy hxy e=>?_
 have h1:=of_decide_eq_true (List.mem_filter.1 hx).2;have h2:=of_decide_eq_true (List.mem_filter.1 hy).2;rw [e,h2] at h1;have:=Option.some.inj h1;exact hxy (by rw [this])
def C7C (l:mC):(bO l).Nodup:=(B4s l).imp λ{a b} h e=>by
 subst e;rw [A3J] at h;cases h
def D1P {l:mC} (hl:l.Nodup):(bO l).length=l.length:=by
 have:=(List.perm_ext_iff_of_nodup (C7C l) hl).2 (kZ l);exact this.length_eq
def D1v {D:Dev} {n k:Int} {d:List Int} (l:List Tld):(R1 D n k d l).length+(C9i D n k d l).length=l.length:=by
 unfold R1 C9i;rw [List.length_map,List.length_map]
 induction l with
 | nil=>rfl
 | cons t l ih =>
  by_cases c:isL D n k d t=A5
  ·rw [List.filter_cons_of_pos c,List.filter_cons_of_neg (by simp [c])];simp;omega
  ·rw [List.filter_cons_of_neg c,List.filter_cons_of_pos (by simp [c])];simp;omega
def D1f {D:Dev} {n k:Int} {d:List Int}:(xQ D n k d).length+(C9i D n k d (A30 D n k d)).length=(A30 D n k d).length:=by
 rw [<-D1v (D:=D) (n:=n) (k:=k) (d:=d) (A30 D n k d)];unfold xQ;rw [List.length_map,D1P C6T]
abbrev Spn:=Nat × Nat × Nat
def spn:Nat->Nat->Nat->List Spn
 | 0,_,_=>[]
 | e+1,off,n=>if n=0 then [] else (off/256,off%256,min n (256-off%256))::spn e (off+min n (256-off%256)) (n-min n (256-off%256))
def A04 {off:Nat}:∀ e,spn e off 0=[]
 | 0=>rfl
 | e+1=>by rw [spn,if_pos rfl]
def B4t {e off n:Nat} (hn:0<n):spn (e+1) off n=(off/256,off%256,min n (256-off%256))::spn e (off+min n (256-off%256)) (n-min n (256-off%256)):=by
 rw [spn,if_neg (by omega)]
def C1o:∀ (e off n:Nat),(spn e off n).length<=n
 | 0,off,n=>by simp [spn]
 | e+1,off,n=>by
  by_cases hn:n=0
  ·subst hn;rw [A04];simp
  ·rw [B4t (by omega),D9G];have:=C1o e (off+min n (256-off%256)) (n-min n (256-off%256));omega
def D0l:∀ (e off n:Nat),∀ s∈spn e off n,s.2.1<256/\1<=s.2.2/\s.2.1+s.2.2<=256/\s.1<=(off+n)/256/\(0<n->s.1*256+s.2.1+s.2.2<=off+n)
 | 0,off,n,s,h=>by simp [spn] at h
 | e+1,off,n,s,h=>by
  by_cases hn:n=0
  ·subst hn;rw [A04] at h;simp at h
  ·rw [B4t (by omega)] at h;rcases List.mem_cons.1 h with rfl | h
   ·refine ⟨by dsimp only;omega,by dsimp only;omega,by dsimp only;omega,by dsimp only;omega,λ_=>by dsimp only;omega⟩
   ·have ih:=D0l e _ _ s h;have e1:off+min n (256-off%256)+(n-min n (256-off%256))=off+n:=by omega
    rw [e1] at ih;refine ⟨ih.1,ih.2.1,ih.2.2.1,ih.2.2.2.1,λ_=>?_⟩;by_cases h0:0<n-min n (256-off%256)
    ·exact ih.2.2.2.2 h0
    ·have:n-min n (256-off%256)=0:=by omega
     rw [this,A04] at h;simp at h
def C3M (f:Nat->UInt8):∀ (e off n:Nat),n<=e->((spn e off n).map λs=>(E0g (s.1*256+s.2.1) s.2.2).map f).flatten=(E0g off n).map f
 | 0,off,n,h=>by
  have:n=0:=by omega
  subst this;rfl
 | e+1,off,n,h=>by
  by_cases hn:n=0
  ·subst hn;rw [A04];rfl
  ·rw [B4t (by omega),E0d,E0l,C3M f e _ _ (by omega),<-E0h];dsimp only;have e1:off/256*256+off%256=off:=by omega
   have e2:n=min n (256-off%256)+(n-min n (256-off%256)):=by omega
   rw [e1]
   conv=>rhs;rw [e2]
   rw [<-List.range'_append (step:=1),Nat.one_mul]
def spC (l:List Spn):List Cell:=(l.map λs=>[Cell.i .i64 (s.1:Int),.i .i64 (s.2.1:Int),.i .i64 (s.2.2:Int)]).flatten
def A5U {l:List Spn}:(spC l).length=l.length*3:=by
 induction l with
 | nil=>rfl
 | cons x l ih=>simp only [spC,E0d,E0l,D9A,D9G,D95] at ih ⊢;omega
def C9g {l m:List Spn}:spC (l++m)=spC l++spC m:=by simp [spC]
def C7D {s:Spn} {l:List Spn}:spC (s::l)=[Cell.i .i64 (s.1:Int),.i .i64 (s.2.1:Int),.i .i64 (s.2.2:Int)]++spC l:=rfl
def D4m {l:List Spn}:K1 (spC l)=A5:=by
 induction l with
 | nil=>rfl
 | cons x l ih=>rw [C7D,kJ,ih];rfl
def D4l:∀ (l:List Spn) (i:Nat) (s:Spn),l[i]?=A4 s->((spC l).drop (i*3)).take 3=[Cell.i .i64 (s.1:Int),.i .i64 (s.2.1:Int),.i .i64 (s.2.2:Int)]
 | [],i,s,h=>by simp at h
 | x::l,0,s,h=>by
  simp at h;subst h;rfl
 | x::l,i+1,s,h=>by
  rw [C7D,show (i+1)*3=3+i*3 by omega,<-E0t];exact D4l l i s (by simpa using h)
section
variable (n m m2:Nat) (a0 a1 a2 a3 x0 x1 x4 x5 x9 x32 x33 x34:Val) (h:A9)
def yB:FD A8:=⟨px 0X119f201380380421a62b502011201600622450320404531b42031103a2342,[],[.min (.t 7) (.v (.c (.i .i64 34304))),.max (.v (.c o0)) (.t 8)],[.tmp 2],[]⟩
def A4P:=yB.R
def B7T:=mR A4P yB (tT []) n [a0] h
def A4x:=yB.K Tryz.func129
def yO:=yB.S
def B2R:G3 A4P yO:=A4x.flat
def fI:FD A8:=⟨px 0X14ff405f4f021900001724ef1004727c11f4c04184bf0004026e1749040248f5001e33903012b133e01241161032b3b5c15c1288901a271583901931238f703380288972481582d051f422cf602889018271338352150702410524829024d4203311806050023354811b4228f10238049c88972711382e1c0661019201344811e0000722449c88904271a022f420319f0003871803023448130182,[],[.max (.v (.c o0)) (.t 8),.max (.v (.c o0)) (.t 12),.min (.t 13) (.t 15),.min (.t 21) (.t 23)],[.tmp 4],[]⟩
def A2o:=fI.R
def A8u:AtH:=fI.lj 0 n [m] [x0,x1,x5]
def B0o:=tT [⟨2,3,A8u⟩]
def B4O:=mR A2o fI B0o n [a0,a1] h
def qZ:=mL fI B0o 0 n [m] [x0,x1,x5] h
def B0a:=fI.K Tryz.func152
def A2H:=fI.S
def B2S:A4D A2o A2H:=B0a.out
def bD:FD A8:=⟨px 0X17cf1801ce7c026c0000000006727bf4a056a07b492187af19013804191ba132d1bc6f05186ef19002a1392061a34304191a8132d04519c132d0423318e14f4181981190192410327e5b021b9425af1c006183230417a132d5f1b184f44e1c639424df2362b1b1b031841831d4684215011a070246134012118f42006051102901e21303804726e101035c1b185e15e3901a18d18b189181a2c2000013314a12b6187502d20111848148000002722401b6195015a1a4e5a70101b1a190643e1a0103e2f381b3e3c3c3e70110122e1d01c69420311848183a742e31b1975282,[],[.min (.t 26) (.t 30),.appZ 1 ([.i .u8 0]) (.t 55) (.t 57)],[.tmp 8],[E1 yO A4x,E1 A2H B0a,cal C39,E1 E3 E8,E1 A3B A9g]⟩
def A4O:=bD.R
def B0D:AtH:=bD.lj 0 n [m] [x4,x5,x9,x32,x33,x34]
def C2d:AtH:=bD.lj 1 n [m] [x4,x5,x9,x32,x33,x34]
def A5i:=tT [⟨2,6,B0D⟩,⟨2,6,C2d⟩]
def B7S:=mR A4O bD A5i n [a0,a1,a2,a3] h
def A33:=mL bD A5i 0 n [m] [x4,x5,x9,x32,x33,x34] h
def A32:=mJ bD A5i 1 n [m] [x4,x5,x9,x32,x33,x34] h
def B2o:=bD.K Tryz.func82
def A5b:=bD.S
def B5d:A4D A4O A5b:=B2o.out
def A1g:FD A8:=⟨px 0X17f4049c88910440361b18641840006214a43a422e375182,[],[],[.tmp 4],[E1 A5b B2o]⟩
def A7c:=A1g.R
def B8Y:=mR A7c A1g (tT []) n [a0,a1] h
def B6v:=A1g.K Tryz.func37
def A7I:=A1g.S
def B8c:A4D A7c A7I:=B6v.out
end
def C7Z {k:IntKind} {a b:Int}:B8k (.c (.i k a)) (.c (.i k b))=A4 (.c (.i k (if a<b then b else a))):=rfl
def C4i {k:IntKind} {a b:Int}:A90 (.c (.i k a)) (.c (.i k b))=A4 (.c (.i k (if b<a then b else a))):=rfl
def B6a (off:Int):Int:=if 0<off then off else 0
def B7q (off n:Int):Nat:=if B6a off<34304 then (if 34304-B6a off<(if 0<n then n else 0) then 34304-B6a off else (if 0<n then n else 0)).toNat else 0
def B19 (off n:Int):List Spn:=spn (B7q off n) (B6a off).toNat (B7q off n)
def B7j {g:A9} {q:Nat}:∀ (e off n m id:Nat) (h:A9) (l:List Spn),n<=e->e<m->off+n<=34304->l.length+n<=40000->Low g.length g h->g.length<=id->rd h id=rT (spC l) ->
  ∃ v' h',A8u q m (iV (off:Int)) (iV (n:Int)) (sV id 0 l.length 3) h=A4 (v',h')/\Out g.length h' v' 3 (l++spn e off n).length (spC (l++spn e off n))
 | e,off,n,0,id,h,l,_,hm,_,_,_,_,_=>by omega
 | 0,off,n,m+1,id,h,l,hn,hm,ho,hl,hlow,hb,hr=>by
  have e0:n=0:=by omega
  subst e0;have c0:¬ (0:Int)<((0:Nat):Int):=by omega
  rw [qZ,A04,D9Q];exact ⟨_,_,by simp only [esc,c0]<;>rfl,A5U,id,rfl,hb,hr⟩
 | e+1,off,n,m+1,id,h,l,hn,hm,ho,hl,hlow,hb,hr=>by
  by_cases h0:n=0
  ·subst h0;have c0:¬ (0:Int)<((0:Nat):Int):=by omega
   rw [qZ,A04,D9Q];exact ⟨_,_,by simp only [esc,c0]<;>rfl,A5U,id,rfl,hb,hr⟩
  ·have c0:(0:Int)<(n:Int):=by omega
   rw [B4t (by omega)];generalize hK:min n (256-off%256)=K;have r1:K6 .rem (iV (off:Int)) (iV 256)=A4 (iV ((off%256:Nat):Int)):=by
    rw [C3B (by omega) (by omega)];congr 3
   have w1:D9B .i64 (256-((off%256:Nat):Int))=((256-off%256:Nat):Int):=by rw [wrap_i64 (by omega) (by omega)];omega
   have m1:A90 (iV (n:Int)) (iV ((256-off%256:Nat):Int))=A4 (iV (K:Int)):=by
    rw [C4i]
    congr 3
    split<;>omega
   have q1:K6 .quo (iV (off:Int)) (iV 256)=A4 (iV ((off/256:Nat):Int)):=by
    rw [A5M (by omega) (by omega) (by omega)];congr 3
   have ef1:E7 [o0,o0,o0] [(0,1,iV ((off/256:Nat):Int)),(1,1,iV ((off%256:Nat):Int)),(2,1,iV (K:Int))]=A4 (spC [(off/256,off%256,K)]):=rfl;have ef2:E7 [o0,o0,o0] [(0,3,.a (spC [(off/256,off%256,K)]))]=A4 (spC [(off/256,off%256,K)]):=rfl;obtain ⟨h',a1,a2,a3,a4,a5⟩:=push (ys:=spC [(off/256,off%256,K)]) hlow hr A5U hb rfl (by omega) (by omega);rw [<-C9g] at a2 a5;have w2:D9B .i64 ((off:Int)+(K:Int))=((off+K:Nat):Int):=A09 (by omega);have w3:D9B .i64 ((n:Int)-(K:Int))=((n-K:Nat):Int):=by rw [wrap_i64 (by omega) (by omega)];omega
   have el:(l++[(off/256,off%256,K)]).length=l.length+1:=by simp
   obtain ⟨v',h'',f1,f2⟩:=B7j (q:=q) e (off+K) (n-K) m (h.length+1) h' (l++[(off/256,off%256,K)]) (by omega) (by omega) (by omega) (by simp;omega) a3 a4 a2;rw [D9C,List.singleton_append] at f2;rw [el] at f1;refine ⟨v',h'',?_,f2⟩;rw [qZ];simp only [esc,c0,r1,w1,m1,q1,ef1,ef2,a1,w2,w3];exact f1
def C0s {off n:Int} {h:A9} (h1:off<9223372036854775808):A2H [iV off,iV n] h=A4 (sV h.length 0 (B19 off n).length 3,h++[rT (spC (B19 off n))]):=by
 have key:∀ g,∃ v g',A2o (B7q off n+1) [iV off,iV n] g=A4 (v,g')/\Out g.length g' v 3 (B19 off n).length (spC (B19 off n)):=by
  intro g;have x1:=C7Z (k:=.i64) (a:=0) (b:=off);have x2:=C7Z (k:=.i64) (a:=0) (b:=n);rw [B4O];unfold B19;have ho:(if 0<off then off else 0)=B6a off:=rfl;rw [ho] at x1;have hN:B7q off n=if B6a off<34304 then (if 34304-B6a off<(if 0<n then n else 0) then 34304-B6a off else (if 0<n then n else 0)).toNat else 0:=rfl
  have p1:0<=B6a off:=by unfold B6a;split<;>omega
  have p2:0<=(if 0<n then n else 0):=by split<;>omega
  generalize (if 0<n then n else 0)=n1 at *;generalize B6a off=o1 at *;by_cases c1:34304<=o1
  ·rw [if_neg (by omega)] at hN;rw [hN,A04];exact ⟨_,_,by simp only [esc,x1,c1]<;>rfl,rfl,g.length+1,by simp,by omega,by simp [spC]⟩
  ·rw [if_pos (by omega)] at hN;have w1:D9B .i64 (34304-o1)=34304-o1:=wrap_i64 (by omega) (by omega);have x3:=C4i (k:=.i64) (a:=n1) (b:=34304-o1);have e1:(if 34304-o1<n1 then 34304-o1 else n1)=((B7q off n:Nat):Int):=by rw [hN];split<;>omega
   rw [e1] at x3;generalize B7q off n=N at *;obtain ⟨o2,rfl⟩:∃ o2:Nat,o1=o2:=⟨o1.toNat,by omega⟩;obtain ⟨v',h',f1,f2⟩:=B7j (g:=g) (q:=N+1) N o2 N (N+1) (g.length+1) (g++[rT [],rT []]) [] (by omega) (by omega) (by split at e1<;>omega) (by simp;split at e1<;>omega) ((Low.refl (D9x _)).new _) (by omega) (by simp [spC]);rw [D9U] at f2;rw [D95] at f1;refine ⟨v',h',?_,f2⟩;simp only [esc,x1,x2,c1,w1,x3];exact f1
 obtain ⟨v,g',e,ho⟩:=key (ro h);exact B2S e (by simpa [G5] using ho) D4m
def aR (k s:Int):Int:=if k=1 then (if 0<(if 34304<s then 34304 else s) then (if 34304<s then 34304 else s) else 0) else 0
def C7y {k s:Int}:0<=aR k s/\aR k s<=34304:=by
 unfold aR;split
 ·split<;>split<;>omega
 ·omega
def C9c {k s:Int} (h:0<aR k s):k=1:=by
 unfold aR at h;split at h
 ·assumption
 ·omega
def B0E {k l s p:Int} {d:List Int} {h:A9}:yO [.a (D4 k l s p d)] h=A4 (iV (aR k s),h):=by
 have key:∀ g,∃ g',A4P 0 [.a (D4 k l s p d)] g=A4 (iV (aR k s),g'):=by
  intro g;have i0:(D4 k l s p d)[0]?=A4 (.i .i64 k):=rfl;have i2:(D4 k l s p d)[2]?=A4 (.i .i64 s):=rfl;have x1:=C4i (k:=.i64) (a:=s) (b:=34304);rw [B7T];generalize D4 k l s p d=I at *;unfold aR;by_cases c1:k=1
  ·rw [if_pos c1];generalize (if 34304<s then 34304 else s)=y at *;have x2:=C7Z (k:=.i64) (a:=0) (b:=y);exact ⟨_,by simp only [esc,esh,Nat.reduceAdd,Nat.reduceMul,Nat.reduceLT,eq_self,i0,i2,c1,x1,x2]<;>rfl⟩
  ·rw [if_neg c1];exact ⟨_,by simp only [esc,esh,Nat.reduceAdd,Nat.reduceMul,Nat.reduceLT,eq_self,i0,i2,c1]<;>rfl⟩
 obtain ⟨g',e⟩:=key (ro h);exact B2R e rfl
def C5S (D:Dev) (n:Int) (d:List Int) (p:Nat):UInt8:=if vH D n d (p/256)=0 then 0 else (blk D (vH D n d (p/256))).getD (p%256) 0
def B15 (D:Dev) (n:Int) (d:List Int) (s:Spn):List UInt8:=(E0g (s.1*256+s.2.1) s.2.2).map (C5S D n d)
def C69 {D:Dev} {n:Int} {d:List Int} {a b c:Nat} (hc:b+c<=256) (h0:vH D n d a=0):B15 D n d (a,b,c)=zeros c:=by
 unfold B15 zeros;refine List.ext_getElem (by simp) λi h1 h2=>?_
 simp only [D9X] at h2;rw [List.getElem_map,List.getElem_range',List.getElem_replicate];unfold C5S;have e:(a*256+b+1*i)/256=a:=by omega
 rw [e,if_pos h0]
def C7a {D:Dev} {n:Int} {d:List Int} {a b c:Nat} (hD:okD D) (hc:b+c<=256) (h0:vH D n d a≠0):B15 D n d (a,b,c)=((blk D (vH D n d a)).drop b).take c:=by
 have hl:=J3 hD (i:=vH D n d a);unfold B15;refine List.ext_getElem (by simp [hl];omega) λi h1 h2=>?_
 have hi:i<c:=by simpa using h1
 rw [List.getElem_map,List.getElem_range',List.getElem_take,List.getElem_drop];unfold C5S;have e:(a*256+b+1*i)/256=a:=by omega
 have e2:(a*256+b+1*i)%256=b+i:=by omega
 rw [e,e2,if_neg h0,D9z,D9u (by omega)];rfl
def D8b {h:A9} {id n m sz:Nat} {cs ys:List Cell} (hr:rd h id=rT cs) (hl:cs.length=n*sz) (hy:ys.length=m*sz) (hsz:0<sz) (hn:n+m<=1073741824) :
  ∃ h',qK (h++[rT ys]) sz (sV id 0 n sz) (sV h.length 0 m sz)=A4 (sV (h.length+1) 0 (n+m) sz,h')/\rd h' (h.length+1)=rT (cs++ys)/\(∀ i r,i≠id->rd h i=A4 r->rd h' i=A4 r)/\(∀ b,b<=id->b<=h.length->Low b h h'):=by
 have T1:=D7 hr;refine ⟨(h++[rT ys]).set id A7++[rT (cs++ys)],?_,?_,λi r hi hir=>?_,λb hb hb2=>(((Low.refl hb2).new _).set hb A7).new _⟩
 ·rw [A72 (h:=h++[rT ys]) (B6 hr) hl O8 hy rfl hsz hn];simp
 ·have:=O8 (h:=(h++[rT ys]).set id A7) (r:=Row.mk (cs++ys) A5);rw [E0c] at this;simpa using this
 ·refine B6 ?_;rw [B7 (Ne.symm hi)];exact B6 hir
def D7k {h:A9} {id n m:Nat} {cs:List Cell} (hr:rd h id=rT cs) (hl:cs.length=n) (hn:n+m<=1073741824) :
  ∃ h',B9E h 1 [.i .u8 0] (sV id 0 n 1) (iV (m:Int))=A4 (sV h.length 0 (n+m) 1,h')/\rd h' h.length=rT (cs++B4 (zeros m))/\(∀ i r,i≠id->rd h i=A4 r->rd h' i=A4 r)/\(∀ b,b<=id->b<=h.length->Low b h h'):=by
 have hm:A96 (iV (m:Int))=A4 m:=by simp only [A96];rw [if_pos (by omega)];simp
 refine ⟨h.set id A7++[rT (cs++B4 (zeros m))],?_,?_,λi r hi hir=>?_,λb hb hb2=>((Low.refl hb2).set hb A7).new _⟩
 ·simp only [B9E,hm,D9H,hr,B6l];rw [if_pos ⟨trivial,trivial,by omega,trivial,hn⟩]
 ·have:=O8 (h:=h.set id A7) (r:=Row.mk (cs++B4 (zeros m)) A5);rw [E0c] at this;exact this
 ·refine B6 ?_;rw [B7 (Ne.symm hi)];exact hir
def D3v {g h h':A9} (h1:Low g.length g h) (h2:Low g.length h h'):Low g.length g h':=h1.trans h2
def B6j {D:Dev} {n m k l s p:Int} {d:List Int} {f:Cell} {g:A9} {pv q sid:Nat} {L:List Spn} (hD:okD D) (hd:d.length=7) (hv:IsView g f D) (hk:k=1)
  (h1:rd g pv=rT (vwC D.length n m f)) (h2:rd g (pv+1)=rT (D4 k l s p d)) (hL:∀ s∈L,s.2.1<256/\s.2.1+s.2.2<=256/\s.1<134) (hLl:L.length<=40000) :
  ∀ (e i M id:Nat) (h:A9) (bs:List UInt8),i+e=L.length->e<M->bs.length<=i*256->Low g.length g h->g.length<=id->id≠sid->rd h sid=rT (spC L)->rd h id=rT (B4 bs) ->
  ∃ v' h',B0D q M (pV pv 0) (pV (pv+1) 0) (sV id 0 bs.length 1) (sV sid 0 L.length 3) (iV (L.length:Int)) (iV (i:Int)) h=A4 (v',h') /\
   Out g.length h' v' 1 (bs++((L.drop i).map (B15 D n d)).flatten).length (B4 (bs++((L.drop i).map (B15 D n d)).flatten))
 | e,i,0,id,h,bs,_,hM,_,_,_,_,_,_=>by omega
 | 0,i,M+1,id,h,bs,hi,hM,hb,hlow,hid,Z5,hs,hr=>by
  have e0:i=L.length:=by omega
  subst e0;have c0:¬ ((L.length:Nat):Int)<(L.length:Nat):=by omega
  have e1:(L.drop L.length)=[]:=D9K (D9x _);rw [A33,e1,List.map_nil,List.flatten_nil,D9Q];exact ⟨_,_,by simp only [esc,c0]<;>rfl,by rw [B5,Nat.mul_one],id,rfl,hid,hr⟩
 | e+1,i,M+1,id,h,bs,hi,hM,hb,hlow,hid,Z5,hs,hr=>by
  have L8:i<L.length:=by omega
  have c0:(i:Int)<(L.length:Nat):=by omega
  obtain ⟨a,b,c⟩:∃ x,x=L[i]:=⟨_,rfl⟩;obtain ⟨sp,hsp⟩:∃ x,x=L[i]:=⟨_,rfl⟩;obtain ⟨a,b,c⟩:=sp;have hm:=hL L[i] (D9Y L8);rw [<-hsp] at hm;dsimp only at hm;have g1:=hlow.rd h1;have hgl:=hlow.2.1;have g2:=hlow.rd h2;have hvh:=hv.since hlow;have ad:E5 3 (sV sid 0 L.length 3) (iV (i:Int))=A4 (pV sid (i*3)):=by rw [D8 L8,D9T]
  have t1:D3 h 3 (pV sid (i*3))=A4 (.a [Cell.i .i64 (a:Int),.i .i64 (b:Int),.i .i64 (c:Int)]):=by
   rw [T2 hs (by rw [A5U];omega) (by simp),D4l L i (a,b,c) (by rw [D9u L8,hsp])]
  obtain ⟨H,hH⟩:∃ H,H=h++[rT [Cell.i .i64 (a:Int),.i .i64 (b:Int),.i .i64 (c:Int)]]:=⟨_,rfl⟩;have lH:H.length=h.length+1:=by rw [hH];simp
  have k1:rd H pv=rT (vwC D.length n m f):=by rw [hH];exact B6 g1
  have k2:rd H (pv+1)=rT (D4 k l s p d):=by rw [hH];exact B6 g2
  have k3:rd H h.length=rT [Cell.i .i64 (a:Int),.i .i64 (b:Int),.i .i64 (c:Int)]:=by rw [hH];exact O8
  have lowH:Low g.length g H:=by rw [hH];exact hlow.new _
  have hs2:rd H sid=rT (spC L):=by rw [hH];exact B6 hs
  have hr2:rd H id=rT (B4 bs):=by rw [hH];exact B6 hr
  have hvH:=hv.since lowH;have st:E9 (h++[rT [o0,o0,o0]]) 3 (pV h.length 0) (.a [Cell.i .i64 (a:Int),.i .i64 (b:Int),.i .i64 (c:Int)])=A4 H:=by
   rw [hH,F8];rfl
  have q1:=C9 (h:=H) (id:=pv) k1 (n:=4) rfl;have q2:=C9 (h:=H) (id:=pv+1) k2 (n:=11) (by show (D4 k l s p d).length=11;simp [D4,C1,hd]);have q3:B8 H (pV h.length 0)=A4 (iV (a:Int)):=B9 k3 rfl rfl;have q4:B8 H (pV h.length 1)=A4 (iV (b:Int)):=B9 k3 rfl rfl;have q5:B8 H (pV h.length 2)=A4 (iV (c:Int)):=B9 k3 rfl rfl;have ad0:I5 3 1 (pV h.length 0) (iV 0)=A4 (pV h.length 0):=rfl;have ad1:I5 3 1 (pV h.length 0) (iV 1)=A4 (pV h.length 1):=rfl;have ad2:I5 3 1 (pV h.length 0) (iV 2)=A4 (pV h.length 2):=rfl;have hA:=C8q (n:=n) (m:=m) (k:=k) (l:=l) (s:=s) (p:=p) (j:=(a:Int)) hD hd hvH;have hat:atF D n k d (a:Int)=vH D n d a:=by unfold atF;rw [if_pos (by omega),D9N]
  rw [hat] at hA;have D7R:L.drop i=(a,b,c)::L.drop (i+1):=by rw [D9E L8,<-hsp]
  have w1:=D9 (show i+1<9223372036854775808 by omega);rw [D7R,E0d,E0l,A33];obtain ⟨V,hV0⟩:∃ V,vwC D.length n m f=V:=⟨_,rfl⟩;rw [hV0] at q1 hA;obtain ⟨I,hI0⟩:∃ I,D4 k l s p d=I:=⟨_,rfl⟩;rw [hI0] at q2 hA;by_cases cz:vH D n d a=0
  ·rw [C69 (by omega) cz];rw [cz] at hA;obtain ⟨h',a1,a2,a3,a4⟩:=D7k (m:=c) hr2 (by rw [B5]) (by omega);rw [<-A1S] at a2;have el:(bs++zeros c).length=bs.length+c:=by simp
   obtain ⟨v',h'',f1,f2⟩:=B6j hD hd hv hk h1 h2 hL hLl e (i+1) M H.length h' (bs++zeros c) (by omega) (by omega) (by rw [el];omega) (D3v lowH (a4 _ hid (by omega))) (by omega) (by have:=D7 hs;omega) (a3 _ _ (Ne.symm Z5) hs2) a2;rw [D9C] at f2;rw [el] at f1;refine ⟨v',h'',?_,f2⟩;simp only [esc,c0,ad,t1,st,q1,q2,q5,ad0,q3,ad2,hA,eq_self,a1,A32,w1];exact f1
  ·rw [C7a hD (by omega) cz];have hB:=N1 (n:=n) (m:=m) (no:=vH D n d a) hD hvH;rw [hV0] at hB;have hC:=A5H (h:=H) (J3 hD (i:=vH D n d a)) (a:=(b:Int)) (n:=(c:Int));have ecut:A6K (blk D (vH D n d a)) (b:Int) (c:Int)=((blk D (vH D n d a)).drop b).take c:=by
    unfold A6K;rw [if_pos (by omega),D9N,D9N]
   rw [ecut] at hC;have nQ:(((blk D (vH D n d a)).drop b).take c).length=c:=by
    rw [D91,E0f,J3 hD];omega
   generalize ((blk D (vH D n d a)).drop b).take c=cc at *;rw [nQ] at hC;have hQ:=Y7 (h:=H) (v:=sV H.length 0 c 1) (Grows.rfl'.new (B4 cc));obtain ⟨h',a1,a2,a3,a4⟩:=D8b (n:=bs.length) (m:=c) (sz:=1) (ys:=B4 cc) hr2 (by rw [B5];omega) (by rw [B5];omega) (by omega) (by omega);rw [<-A1S] at a2;have el:(bs++cc).length=bs.length+c:=by simp [nQ]
   obtain ⟨v',h'',f1,f2⟩:=B6j hD hd hv hk h1 h2 hL hLl e (i+1) M (H.length+1) h' (bs++cc) (by omega) (by omega) (by rw [el];omega) (D3v lowH (a4 _ hid (by omega))) (by omega) (by have:=D7 hs;omega) (a3 _ _ (Ne.symm Z5) hs2) a2;rw [D9C] at f2;rw [el] at f1;refine ⟨v',h'',?_,f2⟩;simp only [esc,c0,cz,ad,t1,st,q1,q2,q4,q5,ad0,ad1,q3,ad2,hA,hB,hC,hQ,eq_self,a1,A32,w1];exact f1
def dA (k s off cnt:Int):Nat:=if 0<=off/\off<aR k s/\1<=cnt then (min cnt (aR k s-off)).toNat else 0
def wC (D:Dev) (n k s:Int) (d:List Int) (off cnt:Int):List UInt8:=(E0g off.toNat (dA k s off cnt)).map (C5S D n d)
def C46 {D:Dev} {n k s off cnt:Int} {d:List Int}:(wC D n k s d off cnt).length=dA k s off cnt:=by simp [wC]
def C2c {D:Dev} {n m k l s p off cnt:Int} {d:List Int} {f:Cell} {h:A9} (hD:okD D) (hd:d.length=7) (hv:IsView h f D) :
  A5b [.a (vwC D.length n m f),.a (D4 k l s p d),iV off,iV cnt] h=A4 (sV h.length 0 (wC D n k s d off cnt).length 1,h++[rT (B4 (wC D n k s d off cnt))]):=by
 have key:∀ g,IsView g f D->∃ v g',A4O 40001 [.a (vwC D.length n m f),.a (D4 k l s p d),iV off,iV cnt] g=A4 (v,g')/\Out g.length g' v 1 (wC D n k s d off cnt).length (B4 (wC D n k s d off cnt)):=by
  intro g hv;have hIl:(D4 k l s p d).length=11:=by simp [D4,C1,hd]
  have hS:=λh=>B0E (k:=k) (l:=l) (s:=s) (p:=p) (d:=d) (h:=h)
  have hsz:=C7y (k:=k) (s:=s);rw [B7S];by_cases c:0<=off/\off<aR k s/\1<=cnt
  ·have hk:k=1:=C9c (s:=s) (by omega);have c1:¬ off<0:=by omega
   have c2:¬ aR k s<=off:=by omega
   have c3:¬ cnt<1:=by omega
   have w1:D9B .i64 (aR k s-off)=aR k s-off:=wrap_i64 (by omega) (by omega);have m1:=C4i (k:=.i64) (a:=cnt) (b:=aR k s-off);have hN:(if aR k s-off<cnt then aR k s-off else cnt)=((dA k s off cnt:Nat):Int):=by
    unfold dA;rw [if_pos c];split<;>omega
   rw [hN] at m1;have hNo:off.toNat+dA k s off cnt<=34304:=by
    have:(dA k s off cnt:Int)<=aR k s-off:=by rw [<-hN];split<;>omega
    omega
   have e1:B19 off (dA k s off cnt:Int)=spn (dA k s off cnt) off.toNat (dA k s off cnt):=by
    have eo:B6a off=off:=by unfold B6a;split<;>omega
    have em:B7q off (dA k s off cnt:Int)=dA k s off cnt:=by
     unfold B7q;rw [eo,if_pos (by omega)];generalize dA k s off cnt=N at *;have e2:(if (0:Int)<(N:Int) then (N:Int) else 0)=N:=by split<;>omega
     rw [e2,if_neg (by omega),D9N]
    unfold B19;rw [em,eo]
   have eb:=C3M (C5S D n d) (dA k s off cnt) off.toNat (dA k s off cnt) (D9x _);have lQ:=D0l (dA k s off cnt) off.toNat (dA k s off cnt);have hlen:=C1o (dA k s off cnt) off.toNat (dA k s off cnt);have hSp:=λh=>C0s (off:=off) (n:=(dA k s off cnt:Int)) (h:=h) (by omega)
   rw [e1] at hSp;have B1V:0<dA k s off cnt:=by
    have:(0:Int)<(dA k s off cnt:Int):=by rw [<-hN];split<;>omega
    omega
   have er:wC D n k s d off cnt=((spn (dA k s off cnt) off.toNat (dA k s off cnt)).map (B15 D n d)).flatten:=by
    unfold wC;rw [<-eb];rfl
   rw [er];generalize spn (dA k s off cnt) off.toNat (dA k s off cnt)=L at *;have hLd:L.drop 0=L:=rfl;obtain ⟨v',h',f1,f2⟩:=B6j (l:=l) (n:=n) (m:=m) (s:=s) (p:=p) (g:=g++[rT (vwC D.length n m f),rT (D4 k l s p d),rT []]) (pv:=g.length) (q:=40001) (sid:=g.length+4) (L:=L) hD hd (hv.more _) hk (by simp) (by simp)
    (λx hx=>by
     have h1:=lQ x hx;have h2:=h1.2.2.2.2 B1V;exact ⟨h1.1,h1.2.2.1,by omega⟩) (by omega) L.length 0 40001 (g.length+3) (g++[rT (vwC D.length n m f),rT (D4 k l s p d),rT [],rT [],rT (spC L)]) [] (by omega) (by omega) (by simp)
    (by
     have:=(Low.refl (h:=g++[rT (vwC D.length n m f),rT (D4 k l s p d),rT []]) (D9x _)).new [rT [],rT (spC L)];simpa using this) (by simp) (by omega) (by simp) (by simp [B4])
   rw [hLd,D9U] at f2;rw [D95] at f1;refine ⟨v',h',?_,f2.1,?_⟩
   ·have l11:ldN (rT (D4 k l s p d)) 0 11=A4 (.a (D4 k l s p d)):=L9 hIl;generalize vwC D.length n m f=V at *;generalize D4 k l s p d=I at *;simp only [esc,esh,Nat.reduceAdd,Nat.reduceMul,Nat.reduceLT,c1,c2,c3,hS,w1,m1,hSp,l11];exact f1
   ·obtain ⟨id,e,hb,hr⟩:=f2.2;exact ⟨id,e,by simp at hb;omega,hr⟩
  ·have er:wC D n k s d off cnt=[]:=by
    unfold wC dA;rw [if_neg c];rfl
   rw [er];have l11:ldN (rT (D4 k l s p d)) 0 11=A4 (.a (D4 k l s p d)):=L9 hIl;have fin:∀ h:A9,Out g.length (g++[rT (vwC D.length n m f),rT (D4 k l s p d),rT [],rT []]) (sV (g.length+3) 0 0 1) 1 ([]:List UInt8).length (B4 []):=λh=>⟨rfl,g.length+3,rfl,by omega,by simp [B4]⟩
   refine ⟨sV (g.length+3) 0 0 1,_,?_,fin g⟩;generalize vwC D.length n m f=V at *;generalize D4 k l s p d=I at *;by_cases c1:off<0
   ·simp only [esc,esh,Nat.reduceAdd,Nat.reduceMul,Nat.reduceLT,c1]
   ·by_cases c2:aR k s<=off
    ·simp only [esc,esh,Nat.reduceAdd,Nat.reduceMul,Nat.reduceLT,c1,c2,hS,l11]
    ·have c3:cnt<1:=by omega
     simp only [esc,esh,Nat.reduceAdd,Nat.reduceMul,Nat.reduceLT,c1,c2,c3,hS,l11]
 obtain ⟨v,g',e,ho⟩:=key (ro h) hv.ro;exact B5d e (by simpa [G5] using ho) (by simp)
def C4v {D:Dev} {n m k l s p:Int} {d:List Int} {f:Cell} {h:A9} (hD:okD D) (hd:d.length=7) (hv:IsView h f D) :
  A7I [.a (vwC D.length n m f),.a (D4 k l s p d)] h=A4 (sV h.length 0 (wC D n k s d 0 34304).length 1,h++[rT (B4 (wC D n k s d 0 34304))]):=by
 have key:∀ g,IsView g f D->∃ v g',A7c 0 [.a (vwC D.length n m f),.a (D4 k l s p d)] g=A4 (v,g')/\Out g.length g' v 1 (wC D n k s d 0 34304).length (B4 (wC D n k s d 0 34304)):=by
  intro g hv;have hIl:(D4 k l s p d).length=11:=by simp [D4,C1,hd]
  have l11:ldN (rT (D4 k l s p d)) 0 11=A4 (.a (D4 k l s p d)):=L9 hIl;have l4:=B4D (b:=D.length) (n:=n) (m:=m) (f:=f);have hR:=C2c (n:=n) (m:=m) (k:=k) (l:=l) (s:=s) (p:=p) (off:=0) (cnt:=34304) (h:=g++[rT (vwC D.length n m f),rT (D4 k l s p d),rT []]) hD hd (hv.more _);simp only [esc] at hR;rw [B8Y];generalize wC D n k s d 0 34304=bs at *;generalize vwC D.length n m f=V at *;generalize D4 k l s p d=I at *;exact ⟨_,_,by simp only [esc,esh,Nat.reduceAdd,Nat.reduceMul,Nat.reduceLT,l4,l11,hR]<;>rfl,by rw [B5,Nat.mul_one],g.length+3,rfl,by omega,by simp⟩
 obtain ⟨v,g',e,ho⟩:=key (ro h) hv.ro;exact B8c e (by simpa [G5] using ho) (by simp)
def A93 (D:Dev) (n i:Int):Bool:=P9 D.length n i&&gA (wA D n i)
def lnV (D:Dev) (n i:Int):Int:=bif A93 D n i then A8z (wA D n i) else 0
def szV (D:Dev) (n i:Int):Int:=bif A93 D n i then A8B (wA D n i) else 0
def paV (D:Dev) (n i:Int):Int:=bif A93 D n i then A8A (wA D n i) else 0
def drV (D:Dev) (n i:Int):List Int:=bif A93 D n i then W6 (wA D n i) else zI 7
def eW {D:Dev} {n i:Int}:(drV D n i).length=7:=by
 unfold drV;cases A93 D n i with
 | false=>exact K4
 | true=>exact I9
def C4I {D:Dev} {n i:Int}:kdV D n i=bif A93 D n i then A6M (wA D n i) else 0:=by
 unfold kdV A93;cases P9 D.length n i<;>rfl
def A11 (D:Dev) (n i:Int):C0D D n i=D4 (kdV D n i) (lnV D n i) (szV D n i) (paV D n i) (drV D n i):=by
 rw [C4I];unfold C0D lnV szV paV drV A93;cases P9 D.length n i with
 | false=>rfl
 | true =>
  rw [D9R,cond_true];unfold lO;cases gA (wA D n i)<;>rfl
def D3o {D:Dev} {n i:Int} (h:kdV D n i≠0):P5 D.length n=A5/\1<=i/\i<=n:=by
 rw [<-U7];unfold kdV at h;cases hi:P9 D.length n i with
 | false=>rw [hi] at h;exact absurd rfl h
 | true=>rfl
structure Nd where
 ino:Int
 kind:Int
 links:Int
 parent:Int
 size:Int
 data:List UInt8
 names:List Ent
 deriving DecidableEq
def C6G (D:Dev) (n:Int) (e:Ent):Bool:=decide (kdV D n e.2=1)||decide (kdV D n e.2=2)
def A4f (D:Dev) (n i:Int):List Ent:=(xQ D n (kdV D n i) (drV D n i)).filter (C6G D n)
def wU (D:Dev) (n i:Int):List UInt8:=wC D n (kdV D n i) (szV D n i) (drV D n i) 0 34304
def xS (D:Dev) (n i:Int):Nd:=⟨i,kdV D n i,lnV D n i,paV D n i,aR (kdV D n i) (szV D n i),wU D n i,A4f D n i⟩
def C3q {D:Dev} {n k:Int} {d:List Int}:(xQ D n k d).length<=224:=by
 have hbl:=B64 (D:=D) (n:=n) (k:=k) (d:=d);have:∀ L:List Int,(C4h D L).length<=7*L.length:=by
  intro L
  induction L with
  | nil=>simp [C4h]
  | cons b L ih =>
   have:=fP (blk D b);rw [C2N,D9A,D9G];simp [B7G];omega
 have h1:=this (vC D n k d);have h2:=D1f (D:=D) (n:=n) (k:=k) (d:=d);unfold A30 at h2;omega
def C6V {D:Dev} {n i:Int}:(A4f D n i).length<=224:=by
 have h1:=C3q (D:=D) (n:=n) (k:=kdV D n i) (d:=drV D n i);have h2:=E0m (C6G D n) (xQ D n (kdV D n i) (drV D n i));unfold A4f;omega
def B6m (r:List Int) (i:Int):List Int:=if i∈r then r else r++[i]
def C1j (r:List Int) (es:List Ent):List Int:=es.foldl (λr e=>B6m r e.2) r
def A9b (N:Int->List Ent):Nat->Nat->List Int->List Int
 | 0,_,R=>R
 | e+1,i,R=>if h:i<(1::R).length then A9b N e (i+1) (C1j R (N ((1::R)[i]))) else R
def C7t {r:List Int} {i a:Int}:a∈B6m r i↔a∈r\/a=i:=by
 unfold B6m;split
 ·constructor
  ·exact .inl
  ·rintro (h | rfl)<;>assumption
 ·simp
def D4e (r:List Int) (i:Int):r <+: B6m r i:=by
 unfold B6m;split
 ·exact E0a _
 ·exact List.prefix_append _ _
def C9b {r:List Int} {i:Int} (h:r.Nodup):(B6m r i).Nodup:=by
 unfold B6m;split
 ·exact h
 ·rename_i hn;rw [List.nodup_append];exact ⟨h,by simp,λa ha b hb e=>by simp at hb;subst hb;subst e;exact hn ha⟩
def A9J {r:List Int} {e:Ent} {es:List Ent}:C1j r (e::es)=C1j (B6m r e.2) es:=rfl
def B4p {a:Int}:∀ {es:List Ent} {r:List Int},a∈C1j r es↔a∈r\/∃ e∈es,e.2=a
 | [],r=>by simp [C1j]
 | e::es,r=>by
  rw [A9J,B4p,C7t];constructor
  ·rintro ((h | rfl) | ⟨x,hx,rfl⟩)
   ·exact .inl h
   ·exact .inr ⟨e,by simp,rfl⟩
   ·exact .inr ⟨x,by simp [hx],rfl⟩
  ·rintro (h | ⟨x,hx,rfl⟩)
   ·exact .inl (.inl h)
   ·rw [E0B] at hx;rcases hx with rfl | hx
    ·exact .inl (.inr rfl)
    ·exact .inr ⟨x,hx,rfl⟩
def C1l:∀ (es:List Ent) (r:List Int),r <+: C1j r es
 | [],r=>E0a _
 | e::es,r=>by rw [A9J];exact (D4e r e.2).trans (C1l es _)
def C1k:∀ {es:List Ent} {r:List Int},r.Nodup->(C1j r es).Nodup
 | [],r,h=>h
 | e::es,r,h=>by rw [A9J];exact C1k (C9b h)
structure RowI (N:Int->List Ent) (i:Nat) (R:List Int):Prop where
 nd:R.Nodup
 hd:1∈R
 rg:∀ a∈R,1<=a/\a<=128
 dn:∀ (j:Nat) (a:Int),j<i->(1::R)[j]?=A4 a->∀ e∈N a,e.2∈R
 by_:∀ a∈R,a≠1->∃ b∈R,∃ e∈N b,e.2=a
def RowI.one {N:Int->List Ent}:RowI N 0 [1] :=
 ⟨by simp,by simp,λa ha=>by simp at ha;omega,λj a hj=>by omega,λa ha hn=>by simp at ha;exact absurd ha hn⟩
def RowI.step {N:Int->List Ent} (hN:∀ a,∀ e∈N a,1<=e.2/\e.2<=128) {i:Nat} {R:List Int} (h:RowI N i R) (hi:i<(1::R).length):RowI N (i+1) (C1j R (N ((1::R)[i]))):=by
 have hm:(1::R)[i]∈R:=by
  have:=D9Y hi;rw [E0B] at this;rcases this with e | e
  ·rw [e];exact h.hd
  ·exact e
 have hp:=C1l (N ((1::R)[i])) R;refine ⟨C1k h.nd,hp.subset h.hd,λa ha=>?_,λj a hj hja e he=>?_,λa ha hn=>?_⟩
 ·rcases B4p.1 ha with ha | ⟨e,he,rfl⟩
  ·exact h.rg a ha
  ·exact hN _ e he
 ·by_cases hji:j=i
  ·subst hji;have:a=(1::R)[j]:=by
    have hpre:(1::R) <+: (1::C1j R (N ((1::R)[j]))):=List.cons_prefix_cons.2 ⟨rfl,hp⟩;have h2:=List.prefix_iff_getElem?.1 hpre j hi;rw [h2] at hja;exact (Option.some.inj hja).symm
   subst this;exact B4p.2 (.inr ⟨e,he,rfl⟩)
  ·have D8K:(1::R)[j]?=A4 a:=by
    have hpre:(1::R) <+: (1::C1j R (N ((1::R)[i]))):=List.cons_prefix_cons.2 ⟨rfl,hp⟩;have h2:=List.prefix_iff_getElem?.1 hpre j (by omega);rw [D9u (by omega),<-hja,h2]
   exact hp.subset (h.dn j a (by omega) D8K e he)
 ·rcases B4p.1 ha with ha | ⟨e,he,rfl⟩
  ·obtain ⟨b,hb,e,he,h3⟩:=h.by_ a ha hn;exact ⟨b,hp.subset hb,e,he,h3⟩
  ·exact ⟨_,hp.subset hm,e,he,rfl⟩
def A5O {R:List Int} (hn:R.Nodup) (hr:∀ a∈R,1<=a/\a<=128):R.length<=128:=by
 have:(R.map Int.toNat).Nodup:=by
  rw [List.Nodup,List.pairwise_map];refine hn.imp_of_mem λ{a b} ha hb hab e=>?_
  have:=hr a ha;have:=hr b hb;omega
 have hs:∀ x∈R.map Int.toNat,x∈E0g 1 128:=by
  intro x hx;rw [List.mem_map] at hx;obtain ⟨a,ha,rfl⟩:=hx;have:=hr a ha;rw [List.mem_range'_1];omega
 have:=List.Nodup.length_le_of_subset this hs;simpa using this
def C7O {N:Int->List Ent} (hN:∀ a,∀ e∈N a,1<=e.2/\e.2<=128):∀ (e i:Nat) (R:List Int),130<=e+i->RowI N i R->(∃ j,(1::A9b N e i R).length<=j/\RowI N j (A9b N e i R))/\R <+: A9b N e i R
 | 0,i,R,h,hi=>by
  have:=A5O hi.nd hi.rg;exact ⟨⟨i,by simp [A9b];omega,hi⟩,E0a _⟩
 | e+1,i,R,h,hi=>by
  unfold A9b;by_cases hl:i<(1::R).length
  ·rw [dif_pos hl];obtain ⟨h1,h2⟩:=C7O hN e (i+1) _ (by omega) (hi.step hN hl);exact ⟨h1,(C1l _ _).trans h2⟩
  ·rw [dif_neg hl];exact ⟨⟨i,by omega,hi⟩,E0a _⟩
def C7m (D:Dev) (n:Int):List Int:=A9b (A4f D n) 130 0 [1]
def A4l (D:Dev) (n:Int):List Nd:=if kdV D n 1=2 then ((D90 129).filter λ(i:Nat)=>decide ((i:Int)∈C7m D n)).map λ(i:Nat)=>xS D n (i:Int) else []
def D3x {b n:Int} (h:P5 b n=A5):n<=128:=by
 simp only [P5,D9v,decide_eq_true_eq] at h;omega
def C95 {D:Dev} {n a:Int}:∀ e∈A4f D n a,kdV D n e.2=1\/kdV D n e.2=2:=by
 intro e he;have:=(List.mem_filter.1 he).2;unfold C6G at this;simpa using this
def C4Y {D:Dev} {n a:Int}:∀ e∈A4f D n a,1<=e.2/\e.2<=128:=by
 intro e he;have h:=D3o (D:=D) (n:=n) (i:=e.2) (by rcases C95 e he with h | h<;>omega);have:=D3x h.1;omega
def C1h {D:Dev} {n:Int}:∃ j,(1::C7m D n).length<=j/\RowI (A4f D n) j (C7m D n):=(C7O (λa=>C4Y) 130 0 [1] (by omega) RowI.one).1
def C3W {D:Dev} {n:Int} {x:Nd}:x∈A4l D n↔kdV D n 1=2/\x.ino∈C7m D n/\x=xS D n x.ino:=by
 obtain ⟨j,hj,hi⟩:=C1h (D:=D) (n:=n);unfold A4l;by_cases h:kdV D n 1=2
 ·rw [if_pos h,List.mem_map];constructor
  ·rintro ⟨i,hi,rfl⟩;exact ⟨h,of_decide_eq_true (List.mem_filter.1 hi).2,rfl⟩
  ·rintro ⟨_,h1,h2⟩;have:=hi.rg _ h1;refine ⟨x.ino.toNat,List.mem_filter.2 ⟨by rw [List.mem_range];omega,?_⟩,?_⟩
   ·rw [show ((x.ino.toNat:Nat):Int)=x.ino by omega];simpa using h1
   ·rw [show ((x.ino.toNat:Nat):Int)=x.ino by omega];exact h2.symm
 ·rw [if_neg h];simp [h]
def small (t:List Nd):Prop:=t.length<=1000000/\∀ x∈t,x.data.length<=1000000/\x.names.length<=1000000
def C8n {b:List UInt8} {k:Nat} {x:Ent} (hx:M4 b k=A4 x):U4 x.1=A5:=by
 unfold M4 at hx;cases hu:eZ (nameB b k) with
 | none=>rw [hu] at hx;cases hx
 | some s' =>
  rw [hu,D9H] at hx;split at hx
  ·cases hx;exact A5X hu
  ·cases hx
def C8H {D:Dev} {n k:Int} {d:List Int} {e:Ent} (h:e∈xQ D n k d):U4 e.1=A5:=by
 unfold xQ at h;rw [List.mem_map] at h;obtain ⟨s,hs,rfl⟩:=h;rw [kZ] at hs;unfold R1 at hs;rw [List.mem_map] at hs;obtain ⟨t,ht,rfl⟩:=hs;have h1:=(List.mem_filter.1 ht).1;unfold A30 C4h at h1;rw [List.mem_flatMap] at h1;obtain ⟨b,_,h2⟩:=h1;unfold B7G at h2;rw [List.mem_map] at h2;obtain ⟨x,hx,rfl⟩:=h2;have h3:=C8n (A9A hx).1;exact h3
section
variable (n m m2:Nat) (a0 a1 a2 a3 x0 x1 x2 x3 x4 x5 x6 x9 x11 x12 x13 x28 x29 x30 x34 x35 x36 x45 x46 x47:Val) (h:A9)
def dQ:FD A8:=⟨px 0X124f766f76c1c211111104326bf3e055a022180022a66f506239020129123e19e2180466f57182401b61919021aa1a18a1aa70150227c4f061b94524ef1900079062030416e52f44a1c62b4249f22629181b021841821d45e4215011a07024613401217f420060511029042335c1b186843a1c57d7b795282102339f27613c065a01518141c1328122c11381063c3b042234c1b185841801133e1b180433a50412e50402a5381d01e1191d0531cf21b63b51b042032c12841a1c51b423c41b422e219531c2,[],[],[.cellN 4 7],[E1 K9 Q1,E1 yO A4x,E1 A7I B6v,E1 A49 B2m]⟩
def A7u:=dQ.R
def B4A:AtH:=dQ.lj 0 n [m] [x2,x4,x6,x28,x29,x30]
def C5h:AtH:=dQ.lj 1 n [m] [x2,x4,x6,x28,x29,x30]
def A7Z:=tT [⟨2,6,B4A⟩,⟨2,6,C5h⟩]
def B9k:=mR A7u dQ A7Z n [a0,a1] h
def A6A:=mL dQ A7Z 0 n [m] [x2,x4,x6,x28,x29,x30] h
def wZ:=mJ dQ A7Z 1 n [m] [x2,x4,x6,x28,x29,x30] h
def B6E:=dQ.K Tryz.func66
def A1J:=dQ.S
def A3E:C5u A7u A1J:=B6E.tidy
def A1n:FD A8:=⟨px 0X2582a0613901011113e714a451816f104203713e418713c450192110332403f1e1d023d4521cf11bf2763c51b11a280181b2c1af70038711e1859191d75302c2,[],[.look (A4 .i64) (.a ([o0,o0,o0,o0,o0,.ns,.ns])) A5 (.t 8) (.t 9),.mput (A4 .i64) (.t 15) (.t 16) (.t 19)],[],[E1 A1J B6E]⟩
def B6K:=A1n.R
def A7t:=mR B6K A1n (tT []) n [a0,a1,a2,a3] h
def B6C:=A1n.K Tryz.func65
def oF:=A1n.Q
def A7R:OfT B6K oF:=B6C.of
def J5:FD A8:=⟨px 0X17cf201ce7c025000002727bf5d053c07b4921807af1900673907013c173e1ba7181bc1518241ac6e011dd3526df16cf2763c1b1b11a280186c2c6bf6802381a813f695919392f21925ff1a04122d4255031a47024313188d01211bd420264515d011bb71820137194812b11111114723bf605002583a03185cf4c0528022180165f04118a55f5804184ff22629181b021841821d47a423503270247134012119b42016250110296079138040411d6816a46a3c591901919918f18d1c3154130702406120294e4482e046b42030060516013e484a1c211235105f3e2c02022bf503e4c4831892b18921b0522af22a241b51011112a5d3194229f22a531b0297d372019201724815006224190320079502033841d1c449420374a03a2342,[],[.mkMap,.look (A4 .i64) (.a ([o0,o0,o0,o0,o0,.ns,.ns])) A6 (.t 28) (.t 32),.look (A4 .i64) (.a ([o0,o0,o0,o0,o0,.ns,.ns])) A5 (.t 49) (.t 50)],[.tmp 2],[E1 K9 Q1,lM oF B6C]⟩
def A59:=J5.R
def mT:J9:=J5.E
def tR:AtH:=J5.lj 0 n [m] [x3,x4,x5,x6]
def A4m:AtH:=J5.lj 1 n [m,m2] [x3,x4,x5,x6,x34,x35,x36]
def tS:AtH:=J5.lj 2 n [m] [x3,x9,x45]
def B6q:AtH:=J5.lj 3 n [m] [x3,x9,x45]
def fB:TT:=⟨mT,[⟨2,4,tR⟩,⟨3,7,A4m⟩,⟨2,3,tS⟩,⟨2,3,B6q⟩]⟩
def A0l:=mR A59 J5 fB n [a0] h
def xU:=mL J5 fB 0 n [m] [x3,x4,x5,x6] h
def xV:=mL J5 fB 1 n [m,m2] [x3,x4,x5,x6,x34,x35,x36] h
def lY:=mL J5 fB 2 n [m] [x3,x9,x45] h
def xT:=mJ J5 fB 3 n [m] [x3,x9,x45] h
def A55:=J5.K Tryz.func31
def aY:=J5.Q
def A0y:OfT A59 aY:=A55.of
def jY:FD A8:=⟨px 0X11b401027bf5f053807b49218013401190000027224238102180421d5f10463f56f26c1c60191ed11636bf6f2669f502961b021861a21d4161d1b182150307024413401211c94200605110290462f5c2b41bf1bd1bb2282013013401190000722401b2819018318e1a018e4b018e1e63f18e1f018e4b018e1e62f18e1f0101b281901836c1a16c4e06c1e56e6c1f06c4e06c1e56a6c1f0101b1c190634e1a04e1e44e4e1f04e1e44c4e1f0101b1c19063381a0381e138381f0381e12e381f0106320401c50401a72b4d1af42033143a422e375182,[],[.b2s (.t 28),.b2s (.t 31),.eqA A5 ([.s,.i .i64]) (.t 52) (.t 57)],[.tmp 4],[]⟩
def A4Z:=jY.R
def B0Z:AtH:=jY.lj 0 n [m] [x3,x45,x46,x47]
def B3d:=tT [⟨2,4,B0Z⟩]
def B75:=mR A4Z jY B3d n [a0,a1] h
def A4n:=mL jY B3d 0 n [m] [x3,x45,x46,x47] h
def B2u:=jY.K Tryz.func128
def A5f:=jY.S
def B25:G3 A4Z A5f:=B2u.flat
def oA:FD A8:=⟨px 0X11b401023af1d053a03a492180134015a000002722403f01a203207180471d4814e107180471d3817280180196b2531ff504122a42150307024413401213d42006051102971b033b39612820130134011c0000722406320291e102976052d4203340130182,[],[],[.tmp 4],[E1 A5f B2u]⟩
def B6J:=oA.R
def B4y:AtH:=oA.lj 0 n [m] [x0,x1,x12,x13]
def B6R:=tT [⟨2,4,B4y⟩]
def B9i:=mR B6J oA B6R n [a0,a1] h
def A6y:=mL oA B6R 0 n [m] [x0,x1,x12,x13] h
def B6B:=oA.K Tryz.func64
def A7Q:=oA.S
def B5z:G3 B6J A7Q:=B6B.flat
def oB:FD A8:=⟨px 0X11b401024ff1c056e04f4921801340119000002722401b381901c36c1a206c1e306c1f0476c4f786c77e6c706c1e306c1f0476c4f5e6c776c70101c32042050471d4814e1042050471d2e171f02e01919d2531ef504122842150307024413401213b42006051102971a03392f612820130134011a0000722403f042031c176042b4203340130182,[],[],[.tmp 4],[E1 A7Q B6B]⟩
def B6L:=oB.R
def B4z:AtH:=oB.lj 0 n [m] [x0,x1,x11,x12]
def B6S:=tT [⟨2,4,B4z⟩]
def B9j:=mR B6L oB B6S n [a0,a1] h
def A6z:=mL oB B6S 0 n [m] [x0,x1,x11,x12] h
def B6D:=oB.K Tryz.func30
def A7S:=oB.S
def B5A:G3 B6L A7S:=B6D.flat
end
def C8j {l:List Ent} {x:Ent}:I7 (l++[x])=I7 l++R0 (A4 x):=by simp [I7]
def kI {l:List Ent}:(I7 l).length=l.length*2:=by
 induction l with
 | nil=>rfl
 | cons x l ih=>simp only [I7,E0d,E0l,D9A,D9G,R0,D95] at ih ⊢;omega
def B1R {l:List Ent}:K1 (I7 l)=A5:=by
 induction l with
 | nil=>rfl
 | cons x l ih =>
  have:I7 (x::l)=R0 (A4 x)++I7 l:=rfl;rw [this,kJ,ih];rfl
def B5U {l:List Ent}:noX (I7 l)=A5:=by
 induction l with
 | nil=>rfl
 | cons x l ih =>
  have:I7 (x::l)=[.s x.1,.i .i64 x.2]++I7 l:=rfl;rw [this];simp [noX,Cell.isX] at ih ⊢;exact ih
def C63 {F:List UInt8->Int} {B:A9} {b q mid sid:Nat} {S:mC} {es:Q7} (hm:MapN es F S) (hb:b+5<B.length) (hs:rd B sid=rT (encS S)) (h5:rd B (b+5)=rT [.m mid]) (h4:rd B mid=A4 (K8 es)) (h62:S.length<1000000) :
  ∀ (e i M id:Nat) (h:A9),i+e=S.length->e<M->Low b B h->id≠b+5->id≠sid->id≠mid->b<=id->(∀ j r,j=b+5\/j=sid\/j=mid->rd B j=A4 r->rd h j=A4 r)->rd h id=rT (I7 ((S.take i).map λs=>(s,F s)))->B.length<=h.length ->
   ∃ v' h',B0A q M (.c (.p (b+5) 0)) (.c (.sl id 0 i 2)) (.c (.sl sid 0 S.length 1)) (.c (.i .i64 (S.length:Int))) (.c (.i .i64 (i:Int))) h=A4 (v',h')/\Out b h' v' 2 S.length (I7 (S.map λs=>(s,F s)))
 | e,i,0,id,h,_,hm,_,_,_,_,_,_,_,_=>by omega
 | 0,i,M+1,id,h,hi,hm0,hlow,n5,ns,n4,hbi,hk,hr,hl=>by
  have c0:¬ (i:Int)<(S.length:Nat):=by omega
  have ei:i=S.length:=by omega
  subst ei;rw [A3Y];rw [List.take_length] at hr;refine ⟨.c (.sl id 0 S.length 2),h,by simp only [E4,H7,c0,decide_false,dT],by rw [kI];simp,id,rfl,hbi,hr⟩
 | e+1,i,M+1,id,h,hi,hm0,hlow,n5,ns,n4,hbi,hk,hr,hl=>by
  have L8:i<S.length:=by omega
  have c0:(i:Int)<(S.length:Nat):=by omega
  have ad:E5 1 (.c (.sl sid 0 S.length 1)) (.c (.i .i64 (i:Int)))=A4 (.c (.p sid i)):=by rw [D8 L8];simp
  have l1:B8 h (.c (.p sid i))=A4 (.c (.s S[i])):=B9 (hk sid _ (.inr (.inl rfl)) hs) (by rw [A8p,D9u L8];rfl) rfl;have l5:B8 h (.c (.p (b+5) 0))=A4 (.c (.m mid)):=B9 (hk _ _ (.inl rfl) h5) rfl rfl;have lk:=C6N (s:=S[i]) (hk _ _ (.inr (.inr rfl)) h4) hm (D9Y L8);have ef:E7 [Cell.s [],o0] [(0,1,.c (.s S[i])),(1,1,.c (.i .i64 (F S[i])))]=A4 (R0 (A4 (S[i],F S[i]))):=rfl;have ef2:E7 [Cell.s [],o0] [(0,2,.a (R0 (A4 (S[i],F S[i]))))]=A4 (R0 (A4 (S[i],F S[i]))):=rfl;have el:((S.take i).map λs=>(s,F s)).length=i:=by simp;omega
  obtain ⟨h2,a1,a2,a3,a4⟩:=B6f (n:=i) (sz:=2) (ys:=R0 (A4 (S[i],F S[i]))) hr (by rw [kI,el]) rfl (by omega) (by omega);have et:I7 ((S.take i).map λs=>(s,F s))++R0 (A4 (S[i],F S[i]))=I7 ((S.take (i+1)).map λs=>(s,F s)):=by
   rw [List.take_add_one,D9u L8,E0h,I7];simp [I7]
  rw [et] at a2;have w1:=D9 (show i+1<9223372036854775808 by omega);have D8P:=D7 a2;obtain ⟨v',h',f1,f2⟩:=C63 (q:=q) hm hb hs h5 h4 h62 e (i+1) M (h.length+1) h2 (by omega) (by omega) (hlow.trans (a4 _ hbi (by have:=hlow.1;omega))) (by omega)
   (λe1=>by have:=D7 hs;omega) (λe1=>by have:=D7 h4;omega) (by omega) (λj r hj hjr=>a3 _ _ (by rcases hj with rfl | rfl | rfl<;>omega) (hk j r hj hjr)) a2 (by omega)
  rw [A3Y];refine ⟨v',h',?_,f2⟩;simp only [E4,H7,c0,decide_true,fD,ad,l1,l5,lk,ef,ef2,a1,P6,w1];exact f1
def C17 {D:Dev} {n m k l s p:Int} {d:List Int} {f:Cell} {h:A9} (hD:okD D) (hd:d.length=7) (hv:IsView h f D) :
  A49 [.a (vwC D.length n m f),.a (D4 k l s p d)] h=A4 (.c (.sl h.length 0 (xQ D n k d).length 2),h++[rT (I7 (xQ D n k d))]):=by
 have key:∀ g,IsView g f D->∃ v g',A4L 300 [.a (vwC D.length n m f),.a (D4 k l s p d)] g=A4 (v,g')/\Out g.length g' v 2 (xQ D n k d).length (I7 (xQ D n k d)):=by
  intro g hv;have hIl:(D4 k l s p d).length=11:=by simp [D4,C1,hd]
  have hbl:=B64 (D:=D) (n:=n) (k:=k) (d:=d);obtain ⟨V,hV⟩:∃ V,V=vwC D.length n m f:=⟨_,rfl⟩;obtain ⟨I,hI⟩:∃ I,I=D4 k l s p d:=⟨_,rfl⟩;have hVl:V.length=4:=by rw [hV];rfl
  have D7J:I.length=11:=by rw [hI];exact hIl
  obtain ⟨G,hG⟩:∃ G,G=g++[rT V,rT I,rT [],rT [.ns],A4 (K8 []),rT [.m (g.length+4)]]:=⟨_,rfl⟩;obtain ⟨G2,hG2⟩:∃ G2,G2=G++[rT V,rT I,rT (encI (vC D n k d))]:=⟨_,rfl⟩;have lG:G.length=g.length+6:=by rw [hG];simp
  have lG2:G2.length=g.length+9:=by rw [hG2];simp [lG]
  have hB:=B8q (n:=n) (m:=m) (k:=k) (l:=l) (s:=s) (p:=p) (h:=G++[rT V,rT I]) hD hd (by rw [hG];exact (hv.more _).more _);rw [<-hV,<-hI] at hB;have hB2:(G++[rT V,rT I])++[rT (encI (vC D n k d))]=G2:=by rw [hG2];simp
  rw [hB2] at hB;have lB:(G++[rT V,rT I]).length=g.length+8:=by simp [lG]
  rw [lB] at hB;have emk:A70 193 [.c (.p g.length 0),.c (.p (g.length+1) 0),.c (.p (g.length+3) 0),.c (.p (g.length+5) 0)]=A4 (.c (.f 193 [(g.length,0),(g.length+1,0),(g.length+3,0),(g.length+5,0)])):=rfl;have hcv:∀ (x y:Val) (h:A9),qT iE (.c (.f 193 [(g.length,0),(g.length+1,0),(g.length+3,0),(g.length+5,0)])) [x,y] h=pT [x,y,.c (.p g.length 0),.c (.p (g.length+1) 0),.c (.p (g.length+3) 0),.c (.p (g.length+5) 0)] h:=λ_ _ _=>Eq.trans rfl rfl
  have P0:ListP D n k d V I (vC D n k d) g [] 0 [] G2:=by
   refine ⟨VarC.nil ?_,D9x _,?_,?_,?_,?_,?_,?_,⟨[],?_,MapN.nil _⟩,λj hj=>by simp at hj⟩
   ·rw [hG2,hG];simp
   ·rw [hG2,hG];exact ((Low.refl (D9x _)).new _).new _
   ·rw [hG2,hG];simp
   ·rw [hG2,hG];simp
   ·rw [hG2,<-lG];simp
   ·rw [hG2,show g.length+8=G.length+2 by omega];simp
   ·rw [hG2,hG];simp
   ·rw [hG2,hG];simp
  obtain ⟨h',f1,f2⟩:=B63 (σ:=List Tld) (L0:=λM x h=>sG 300 M (.c (.f 193 [(g.length,0),(g.length+1,0),(g.length+3,0),(g.length+5,0)])) (.c (.p (g.length+6) 0)) (.c (.sl (g.length+8) 0 (vC D n k d).length 1)) (.c (.i .i64 ((vC D n k d).length:Nat))) x h)
   (L1:=λM m2 x7 x14 x21 x22 x23 h=>sH 300 M m2 (.c (.f 193 [(g.length,0),(g.length+1,0),(g.length+3,0),(g.length+5,0)])) (.c (.p (g.length+6) 0)) x7 (.c (.sl (g.length+8) 0 (vC D n k d).length 1)) (.c (.i .i64 ((vC D n k d).length:Nat))) x14 x21 x22 x23 h)
   (C:=λx y h=>qT iE (.c (.f 193 [(g.length,0),(g.length+1,0),(g.length+3,0),(g.length+5,0)])) [x,y] h)
   (N:=300) (x3:=.c (.p (g.length+6) 0)) (n:=n) (m:=m) (f:=f) (sid:=g.length+8) (L:=vC D n k d) hD (λrs c s h=>ListP D n k d V I (vC D n k d) g rs c s h) (λs t=>s++[t]) (by omega)
   (λM x h=>by rw [A2Y])
   (λM v9 x v w M2 y h=>by rw [A2Z])
   (λrs c s h P=>⟨by rw [<-hV];exact C9 P.r6 hVl,hv.since P.low,P.r8⟩)
   (λrs c s h t P=>P.more t) (λrs c s h r P=>P.one r) (λi rs c s h P=>P.less) (λrs c c' s h P hc=>P.wide hc)
   (λrs c st h1 no x P hc aK hx=>by
    obtain ⟨h2,e1,e2,e3⟩:=D68 (t:=((no,x.1,x.2.2),x.2.1)) (n:=n) (m:=m) (k:=k) (l:=l) (s0:=s) (p:=p) (c:=c) hD hd hv (by omega) (by have:=B6h (A9A hx).1;exact this) (by rw [<-hV,<-hI];exact P);rw [<-hV,<-hI] at e2;exact ⟨h2,by rw [hcv];exact e1,e2,e3⟩)
   (by omega) (vC D n k d).length 0 300 [] [] G2 (by omega) (by omega) P0
  rw [D9O] at f2;have efold:∀ (L:List Tld) (s0:List Tld),L.foldl (λs t=>s++[t]) s0=s0++L:=by
   intro L
   induction L with
   | nil=>intro s0;simp
   | cons t L ih=>intro s0;rw [List.foldl_cons,ih];simp
  rw [efold,D9U] at f2;change ListP D n k d V I (vC D n k d) g [] (7*(vC D n k d).length) (A30 D n k d) h' at f2;have hS:iM [.a V,.a I,.c (.f 193 [(g.length,0),(g.length+1,0),(g.length+3,0),(g.length+5,0)])] G=A4 (.t [],h'):=by
   refine A3y (n:=300) ?_;rw [A3t];have g4:D3 (G++[rT V,rT I]) 4 (.c (.p G.length 0))=A4 (.a V):=by rw [G6];exact L9 hVl
   have g11:D3 (G++[rT V,rT I]) 11 (.c (.p (G.length+1) 0))=A4 (.a I):=by rw [O9];exact L9 D7J
   simp only [fC,E4,D9C,D99,D9U,D9A,D9G,D95,D9T,g4,g11,hB,A1N];rw [lG];exact f1
  obtain ⟨x,hx,hdx⟩:=f2.var;have hN:=C0U (D:=D) (n:=n) (k:=k) (d:=d) (s:=A30 D n k d);have hlen:=f2.len;have T1:=D7 f2.r8;have hH:Has (h'++[rT []]) (.c x) 1 (R1 D n k d (A30 D n k d)).length (encS (R1 D n k d (A30 D n k d))):=by
   rcases hdx with ⟨e1,e2,rfl⟩ | ⟨id,rfl,hr,hl,_,_⟩
   ·exact .inl ⟨rfl,e1,e2⟩
   ·exact Has.row (rw:=A5) (B6 hr) hl (C0Y _)
  have hSo:=B33 hH (by omega);obtain ⟨es,r4,hm⟩:=f2.r4;have hm2:MapN es (D05 D n k d) (bO (R1 D n k d (A30 D n k d))):=⟨hm.1,λs hs=>hm.2 s ((kZ _ _).1 hs)⟩;have tL:=A5T (R1 D n k d (A30 D n k d));have lh:(h'++[rT []]).length=h'.length+1:=by simp
  rw [lh] at hSo;obtain ⟨v',g',o1,o2⟩:=C63 (F:=D05 D n k d) (B:=h'++[rT []]++[rT (encS (bO (R1 D n k d (A30 D n k d))))]) (b:=g.length) (q:=300) (mid:=g.length+4) (sid:=h'.length+1) (S:=bO (R1 D n k d (A30 D n k d))) hm2 (by simp;omega) (by rw [<-lh];exact O8) (B6 (B6 f2.r5)) (B6 (B6 r4)) (by omega)
   (bO (R1 D n k d (A30 D n k d))).length 0 300 h'.length (h'++[rT []]++[rT (encS (bO (R1 D n k d (A30 D n k d))))]) (by omega) (by omega) (Low.refl (by simp;omega)) (by omega) (by omega) (by omega) (by omega) (λj r _ hj=>hj) (by simp [I7]) (D9x _)
  have eL:(xQ D n k d).length=(bO (R1 D n k d (A30 D n k d))).length:=by simp [xQ]
  refine ⟨v',g',?_,by rw [eL];exact o2⟩;have t1:B8 (h'++[rT []]) (.c (.p (g.length+3) 0))=A4 (.c x):=B9 (B6 hx) rfl (by
   rcases hdx with ⟨_,_,rfl⟩ | ⟨id,rfl,_⟩<;>rfl)
  have s5:H1 (g++[rT V,rT I,rT [],rT [.ns],A4 (K8 []),rT [.nm]]) (.c (.p (g.length+5) 0)) (.c (.m (g.length+4)))=A4 G:=by
   rw [nK,hG];rfl
  have g4:D3 G 4 (.c (.p g.length 0))=A4 (.a V):=by rw [hG,G6];exact L9 hVl
  have g11:D3 G 11 (.c (.p (g.length+1) 0))=A4 (.a I):=by rw [hG,O9];exact L9 D7J
  rw [B7O,<-hV,<-hI];simp only [fC,E4,D9C,D99,D9U,D9A,D9G,D95,D9T,Nat.reduceAdd,s5,g4,g11,emk,hS,t1];rw [hSo];simp only [E4,A1N];exact o1
 obtain ⟨v,g',e,ho⟩:=key (ro h) hv.ro;exact B5a e (by simpa [G5] using ho) B1R
def ndC (i k l p s:Int) (x y:Cell):List Cell:=[.i .i64 i,.i .i64 k,.i .i64 l,.i .i64 p,.i .i64 s,x,y]
def IsNd (h:A9) (cs:List Cell) (nd:Nd):Prop:=∃ x y,cs=ndC nd.ino nd.kind nd.links nd.parent nd.size x y/\Has h (.c x) 1 nd.data.length (B4 nd.data)/\Has h (.c y) 2 nd.names.length (I7 nd.names)
def IsNds (h:A9):List Cell->List Nd->Prop
 | cs,[]=>cs=[]
 | cs,x::t=>∃ c1 c2,cs=c1++c2/\IsNd h c1 x/\IsNds h c2 t
def IsTree (h:A9) (v:Val) (t:List Nd):Prop:=∃ cs,Has h v 7 t.length cs/\IsNds h cs t
def C6v {h:A9} {x:Cell} {sz n:Nat} {cs:List Cell} (hv:Has h (.c x) sz n cs):x.isX=A6:=by
 rcases hv with ⟨e,_⟩ | ⟨id,off,r,e,_⟩<;>cases e<;>rfl
def IsNd.length {h:A9} {cs:List Cell} {x:Nd} (hx:IsNd h cs x):cs.length=7:=by
 obtain ⟨a,b,rfl,_⟩:=hx;rfl
def IsNd.noX {h:A9} {cs:List Cell} {x:Nd} (hx:IsNd h cs x):noX cs=A5:=by
 obtain ⟨a,b,rfl,h1,h2⟩:=hx;simp only [Esc.noX,ndC,E0j,List.all_nil,C6v h1,C6v h2];rfl
def IsNds.noX {h:A9}:∀ {t:List Nd} {cs:List Cell},IsNds h cs t->noX cs=A5/\cs.length=t.length*7
 | [],_,hx=>by
  have hx:_=[]:=hx;subst hx;exact ⟨rfl,rfl⟩
 | x::t,_,⟨c1,c2,e,h1,h2⟩=>by
  subst e;have h3:=h1.noX;have h4:=IsNds.noX h2;refine ⟨?_,by rw [D9A,h1.length,h4.2,D9G];omega⟩;have h5:=h4.1;unfold Esc.noX at h3 h5 ⊢;rw [List.all_append,h3,h5];rfl
def IsNd.ro {h:A9} {cs:List Cell} {x:Nd} (hx:IsNd h cs x):IsNd (ro h) cs x:=by
 obtain ⟨a,b,e,h1,h2⟩:=hx;exact ⟨a,b,e,h1.ro,h2.ro⟩
def IsNd.since {g h:A9} {cs:List Cell} {x:Nd} (hx:IsNd g cs x) (h1:Low g.length g h):IsNd h cs x:=by
 obtain ⟨a,b,e,h2,h3⟩:=hx;exact ⟨a,b,e,h2.since h1,h3.since h1⟩
def IsNds.ro {h:A9}:∀ {t:List Nd} {cs:List Cell},IsNds h cs t->IsNds (Esc.ro h) cs t
 | [],_,hx=>hx
 | x::t,_,⟨c1,c2,e,h1,h2⟩=>⟨c1,c2,e,h1.ro,IsNds.ro h2⟩
def IsNds.since {g h:A9} (h1:Low g.length g h):∀ {t:List Nd} {cs:List Cell},IsNds g cs t->IsNds h cs t
 | [],_,hx=>hx
 | x::t,_,⟨c1,c2,e,h2,h3⟩=>⟨c1,c2,e,h2.since h1,IsNds.since h1 h3⟩
def IsTree.ro {h:A9} {v:Val} {t:List Nd} (ht:IsTree h v t):IsTree (Esc.ro h) v t:=by
 obtain ⟨cs,h1,h2⟩:=ht;exact ⟨cs,h1.ro,h2.ro⟩
def IsTree.since {g h:A9} {v:Val} {t:List Nd} (ht:IsTree g v t) (h1:Low g.length g h):IsTree h v t:=by
 obtain ⟨cs,h2,h3⟩:=ht;exact ⟨cs,h2.since h1,h3.since h1⟩
def IsTree.len {h:A9} {v:Val} {t:List Nd} (ht:IsTree h v t):C1Y v=A4 (iV t.length):=by
 obtain ⟨cs,h1,_⟩:=ht;exact h1.len
def IsNds.at {h:A9}:∀ {t:List Nd} {cs:List Cell},IsNds h cs t->∀ {i:Nat} {x:Nd},t[i]?=A4 x->IsNd h ((cs.drop (i*7)).take 7) x
 | [],_,_,i,x,hx=>by simp at hx
 | y::t,_,⟨c1,c2,e,h1,h2⟩,0,x,hx=>by
  subst e;simp at hx;subst hx;rw [Nat.zero_mul,D9O,E0x h1.length];exact h1
 | y::t,_,⟨c1,c2,e,h1,h2⟩,i+1,x,hx=>by
  subst e;rw [show (i+1)*7=7+i*7 by omega,<-E0t,E0s h1.length];exact IsNds.at h2 (by simpa using hx)
def IsTree.at {h:A9} {v:Val} {t:List Nd} (ht:IsTree h v t) {i:Nat} (hi:i<t.length) :
  ∃ a cs,E5 7 v (iV (i:Int))=A4 a/\D3 h 7 a=A4 (.a cs)/\IsNd h cs t[i]:=by
 obtain ⟨cs,h1,h2⟩:=ht;have hcs:=h2.noX;obtain ⟨id,off,rfl,hid,_,hB⟩:=h1.sl (by omega);refine ⟨pV id (off+i*7),_,D8 hi,hB (i*7) 7 (by rw [hcs.2];omega),h2.at (D9u hi)⟩
def D0n {h:A9} {cs:List Cell} (hc:cs.length=7):E9 (h++[rT [o0,o0,o0,o0,o0,.ns,.ns]]) 7 (pV h.length 0) (.a cs)=A4 (h++[rT cs]):=by
 exact (storeAll O8 rfl hc).trans (by simp)
def A31 {h:A9} {y:Cell} {l:List Ent} (hy:Has h (.c y) 2 l.length (I7 l)) {i:Nat} (hi:i<l.length):∃ a,E5 2 (.c y) (.c (.i .i64 (i:Int)))=A4 a/\D3 h 2 a=A4 (.a (R0 (A4 l[i]))):=by
 obtain ⟨id,off,e,hid,_,hB⟩:=hy.sl (by omega);cases e;refine ⟨.c (.p id (off+i*2)),D8 hi,?_⟩;rw [hB (i*2) 2 (by rw [kI];omega),B3v l i hi]
def C1p {h:A9} {x:Ent}:E9 (h++[rT [.s [],o0]]) 2 (.c (.p h.length 0)) (.a (R0 (A4 x)))=A4 (h++[rT (R0 (A4 x))]):=by rw [F8];rfl
def D54 {h:A9} {x:Ent}:B8 (h++[rT (R0 (A4 x))]) (.c (.p h.length 1))=A4 (.c (.i .i64 x.2)):=by rw [J2];rfl
def HeldX (h:A9) (x:Cell) (cs:List Cell) (n sz r:Nat):Prop:=(n=0/\cs=[]/\x=.ns)\/∃ id,x=.sl id 0 n sz/\rd h id=rT cs/\cs.length=n*sz/\id≠r
def HeldX.keep {h h':A9} {x:Cell} {cs:List Cell} {n sz r:Nat} (hx:HeldX h x cs n sz r) (hk:∀ id m,x=.sl id 0 m sz->rd h' id=rd h id):HeldX h' x cs n sz r:=by
 rcases hx with hx | ⟨id,e,hr,hl,Z5⟩
 ·exact .inl hx
 ·exact .inr ⟨id,e,by rw [hk id n e];exact hr,hl,Z5⟩
def HeldX.lt {h:A9} {x:Cell} {cs:List Cell} {n sz r id m:Nat} (hx:HeldX h x cs n sz r) (e:x=.sl id 0 m sz):id<h.length:=by
 rcases hx with ⟨_,_,e2⟩ | ⟨bQ,e2,hr,_,_⟩
 ·rw [e] at e2;cases e2
 ·rw [e] at e2;cases e2;exact D7 hr
def D23 {h:A9} {x:Cell} {cs0 cs ys:List Cell} {r off n sz:Nat} (hr:rd h r=rT cs0) (hx:cs0[off]?=A4 x) (hd:HeldX h x cs n sz r) (hl:n<=100000) (hy:ys.length=sz) (hsz:0<sz) :
  ∃ id h2 h3,B8 h (pV r off)=A4 (.c x)/\qK (h++[rT ys]) sz (.c x) (sV h.length 0 1 sz)=A4 (sV id 0 (n+1) sz,h2)/\H1 h2 (pV r off) (sV id 0 (n+1) sz)=A4 h3 /\
   rd h3 r=rT (cs0.set off (.sl id 0 (n+1) sz))/\h.length<id/\rd h3 id=rT (cs++ys)/\(cs++ys).length=(n+1)*sz/\(∀ j,j<h.length->j≠r->(∀ m,x≠.sl j 0 m sz)->rd h3 j=rd h j)/\h.length<h3.length:=by
 have hrl:=D7 hr;have l1:B8 h (pV r off)=A4 (.c x):=B9 hr hx (by simp);have hof:off<cs0.length:=(List.getElem?_eq_some_iff.1 hx).1;have e1:(h++[rT ys]).length=h.length+1:=by simp
 rcases hd with ⟨rfl,rfl,rfl⟩ | ⟨id,rfl,hi,nQ,Z5⟩
 ·have hA:=C9z (h:=h++[rT ys]) (jd:=h.length) (m:=1) (sz:=sz) (ys:=ys) (by simp) (by omega) hsz (by omega);rw [e1] at hA;have hr2:rd (h++[rT ys]++[rT ys]) r=rT cs0:=B6 (B6 hr);have s1:=I3 (x:=.sl (h.length+1) 0 1 sz) (off:=off) hr2 hof;refine ⟨h.length+1,_,_,l1,hA,s1,D1 (D7 hr2),by omega,?_,by simp [hy],λj hj hjr _=>?_,by simp⟩
  ·rw [B7 (by omega)];have:=O8 (h:=h++[rT ys]) (r:=⟨ys,A5⟩);rw [e1] at this;exact this
  ·rw [B7 (Ne.symm hjr),E2 (by simp;omega),E2 hj]
 ·have L8:=D7 hi;have hA:=A72 (h:=h++[rT ys]) (id:=id) (jd:=h.length) (n:=n) (m:=1) (sz:=sz) (cs:=cs) (ys:=ys) (rw:=A5) (B6 hi) nQ (by simp) (by omega) rfl hsz (by omega);rw [e1] at hA;have hr2:rd ((h++[rT ys]).set id A7++[rT (cs++ys)]) r=rT cs0:=by
   refine B6 ?_;rw [B7 Z5];exact B6 hr
  have s1:=I3 (x:=.sl (h.length+1) 0 (n+1) sz) (off:=off) hr2 hof;refine ⟨h.length+1,_,_,l1,hA,s1,D1 (D7 hr2),by omega,?_,by simp [nQ,hy,E0A],λj hj hjr hjx=>?_,by simp;omega⟩
  ·rw [B7 (by omega)];have:=O8 (h:=(h++[rT ys]).set id A7) (r:=⟨cs++ys,A5⟩);rw [E0c,e1] at this;exact this
  ·have hji:j≠id:=λe=>hjx n (by rw [e])
   rw [B7 (Ne.symm hjr),E2 (by simp;omega),B7 (Ne.symm hji),E2 hj]
structure NodeP (D:Dev) (n:Int) (V:List Cell) (z:Nd) (L:List Ent) (g:A9) (F:List Ent) (h:A9):Prop where
 low:Low g.length g h
 r0:rd h g.length=rT V
 r1:rd h (g.length+1)=rT (ndC 0 0 0 0 0 .ns .ns)
 r4:rd h (g.length+4)=rT (B4 z.data)
 r5:rd h (g.length+5)=rT (I7 L)
 r3:∃ x,rd h (g.length+3)=rT (ndC z.ino z.kind z.links z.parent z.size (.sl (g.length+4) 0 z.data.length 1) x)/\HeldX h x (I7 F) F.length 2 (g.length+3)/\∀ id m,x=.sl id 0 m 2->g.length+6<=id
def NodeP.more {D:Dev} {n:Int} {V:List Cell} {z:Nd} {L:List Ent} {g h:A9} {F:List Ent} (P:NodeP D n V z L g F h) (t:A9):NodeP D n V z L g F (h++t):=by
 obtain ⟨x,h1,h2,h3⟩:=P.r3;exact ⟨P.low.new _,B6 P.r0,B6 P.r1,B6 P.r4,B6 P.r5,x,B6 h1,h2.keep λid m e=>E2 (h2.lt e),h3⟩
def B59 {D:Dev} {n m:Int} {f:Cell} {g:A9} {q:Nat} {z:Nd} {L:List Ent} (hD:okD D) (hv:IsView g f D) (h62:L.length<=10000):∀ (e i M:Nat) (F:List Ent) (h:A9),i+e=L.length->e<M->F.length<=i->NodeP D n (vwC D.length n m f) z L g F h ->
  ∃ x h',B4A q M (.c (.p g.length 0)) (.c (.p (g.length+1) 0)) (.c (.p (g.length+3) 0)) (.c (.sl (g.length+5) 0 L.length 2)) (.c (.i .i64 (L.length:Int))) (.c (.i .i64 (i:Int))) h =
   A4 (.a (ndC z.ino z.kind z.links z.parent z.size (.sl (g.length+4) 0 z.data.length 1) x),h')/\rd h' (g.length+4)=rT (B4 z.data) /\
   HeldX h' x (I7 (F++(L.drop i).filter (C6G D n))) (F++(L.drop i).filter (C6G D n)).length 2 (g.length+3)/\(∀ id m,x=.sl id 0 m 2->g.length+6<=id)/\Low g.length g h'
 | e,i,0,F,h,_,hm,_,_=>by omega
 | 0,i,M+1,F,h,hi,hm,hF,P=>by
  have c0:¬ ((i:Int)<(L.length:Nat)):=by omega
  obtain ⟨x,h1,h2,h3⟩:=P.r3;have l7:=C9 (n:=7) h1 rfl;have s7:=storeAll (n:=7) P.r1 rfl (xs:=ndC z.ino z.kind z.links z.parent z.size (.sl (g.length+4) 0 z.data.length 1) x) rfl;have l8:D3 (h.set (g.length+1) (rT (ndC z.ino z.kind z.links z.parent z.size (.sl (g.length+4) 0 z.data.length 1) x))) 7 (.c (.p (g.length+1) 0))=A4 (.a (ndC z.ino z.kind z.links z.parent z.size (.sl (g.length+4) 0 z.data.length 1) x)):=C9 (D1 (D7 P.r1)) rfl;rw [D9K (by omega),List.filter_nil,D9Q];refine ⟨x,h.set (g.length+1) (rT (ndC z.ino z.kind z.links z.parent z.size (.sl (g.length+4) 0 z.data.length 1) x)),?_,by rw [B7 (by omega)];exact P.r4,h2.keep λid m e=>B7 (by have:=h3 id m e;omega),h3,P.low.set (by omega) _⟩;rw [A6A];generalize ndC z.ino z.kind z.links z.parent z.size (.sl (g.length+4) 0 z.data.length 1) x=N at *;simp only [E4,H7,c0,decide_false,dT,l7,s7,l8,C94]
 | e+1,i,M+1,F,h,hi,hm,hF,P=>by
  have L8:i<L.length:=by omega
  have c0:(i:Int)<(L.length:Nat):=by omega
  have w1:=D9 (show i+1<9223372036854775808 by omega);have hr5:Has h (.c (.sl (g.length+5) 0 L.length 2)) 2 L.length (I7 L):=Has.row P.r5 kI B5U;obtain ⟨ad,a1,a2⟩:=A31 hr5 L8;have P1:=P.more [rT (R0 (A4 L[i]))];have hvh:=hv.since P1.low;have lV:=C9 (n:=4) P1.r0 rfl;have hI:=Z0 (n:=n) (m:=m) (i:=(L[i]).2) hD hvh;rw [A11] at hI;have f0:∀ k l s p d,B3g (.a (D4 k l s p d)) 0=A4 (.c (.i .i64 k)):=λ_ _ _ _ _=>rfl
  rw [D9E L8];obtain ⟨x,hx⟩:∃ x,x=L[i]:=⟨_,rfl⟩;rw [<-hx] at a2 hI P1 lV hvh ⊢;obtain ⟨hh,hhe⟩:∃ hh,hh=h++[rT (R0 (A4 x))]:=⟨_,rfl⟩;have e1:B8 hh (.c (.p h.length 1))=A4 (.c (.i .i64 x.2)):=by rw [hhe];exact D54
  have se:E9 (h++[rT [.s [],o0]]) 2 (.c (.p h.length 0)) (.a (R0 (A4 x)))=A4 hh:=by rw [hhe];exact C1p
  have le:D3 hh 2 (.c (.p h.length 0))=A4 (.a (R0 (A4 x))):=by rw [hhe];exact C9 O8 rfl
  rw [<-hhe] at P1 lV hvh hI;rw [A6A];have step:∀ (b:Bool),C6G D n x=b->(kdV D n x.2=1\/kdV D n x.2=2)=(b=A5):=by
   intro b hb;subst hb;unfold C6G;simp
  cases hb:C6G D n x with
  | false =>
   have hk:=step A6 hb;have k1:¬ kdV D n x.2=1:=λe=>by rw [e] at hk;simp at hk
   have k2:¬ kdV D n x.2=2:=λe=>by rw [e] at hk;simp at hk
   rw [List.filter_cons_of_neg (by simp [hb])];obtain ⟨y,h',f1,f2⟩:=B59 (q:=q) hD hv h62 e (i+1) M F hh (by omega) (by omega) (by omega) P1;refine ⟨y,h',?_,f2⟩;generalize vwC D.length n m f=V at *;simp only [E4,H7,c0,decide_true,fD,a1,a2,se,qL,D9T,e1,lV,hI,f0,mD,k1,k2,decide_false,C9M,A5l,cond_false,dT,wZ,P6,w1];exact f1
  | true =>
   rw [List.filter_cons_of_pos hb];obtain ⟨xc,g1,g2,g3⟩:=P1.r3;have ef:E7 [Cell.s [],o0] [(0,2,.a (R0 (A4 x)))]=A4 (R0 (A4 x)):=rfl;obtain ⟨id,h2,h3,p1,p2,p3,p4,p5,p6,p7,p8,p9⟩:=D23 (off:=6) (ys:=R0 (A4 x)) g1 rfl g2 (by omega) rfl (by omega);have keep:∀ j,j<g.length+6->j≠g.length+3->rd h3 j=rd hh j:=λj hj hj3=>by
    have:=D7 P1.r5;refine p8 j (by omega) hj3 λmm e=>?_
    have:=g3 j mm e;omega
   have P3:NodeP D n (vwC D.length n m f) z L g (F++[x]) h3:=by
    refine ⟨?_,by rw [keep _ (by omega) (by omega)];exact P1.r0,by rw [keep _ (by omega) (by omega)];exact P1.r1,by rw [keep _ (by omega) (by omega)];exact P1.r4,by rw [keep _ (by omega) (by omega)];exact P1.r5,.sl id 0 (F.length+1) 2,p4,.inr ⟨id,by simp,by rw [C8j];exact p6,by rw [kI],?_⟩,λbQ m' e=>?_⟩
    ·refine ⟨D9x _,by have:=P1.low.2.1;omega,λj hj=>?_⟩;rw [keep j (by omega) (by omega)];exact P1.low.2.2 j hj
    ·have:=D7 P1.r5;omega
    ·cases e;have:=D7 P1.r5;omega
   obtain ⟨y,h',f1,f2⟩:=B59 (q:=q) hD hv h62 e (i+1) M (F++[x]) h3 (by omega) (by omega) (by simp;omega) P3;rw [D9C,List.singleton_append] at f2;refine ⟨y,h',?_,f2⟩;have k0:=step A5 hb;by_cases k1:kdV D n x.2=1
   ·generalize vwC D.length n m f=V at *;simp only [E4,H7,c0,decide_true,fD,a1,a2,se,qL,D9T,e1,lV,hI,f0,mD,k1,D26,A5l,cond_true,p1,le,ef,p2,p3,wZ,P6,w1];exact f1
   ·have k2:kdV D n x.2=2:=by
     rcases (show kdV D n x.2=1\/kdV D n x.2=2 by rw [k0]) with h | h
     ·exact absurd h k1
     ·exact h
    have n21:¬ (2:Int)=1:=by decide
    generalize vwC D.length n m f=V at *;simp only [E4,H7,c0,decide_true,fD,a1,a2,se,qL,D9T,e1,lV,hI,f0,mD,k2,n21,decide_false,C9M,A5l,cond_false,p1,le,ef,p2,p3,wZ,P6,w1];exact f1
def NdF (P:Nat->Prop) (cs:List Cell):Prop:=∀ id off m sz,Cell.sl id off m sz∈cs->P id
def C0x {h h':A9} {x:Cell} {sz n:Nat} {cs:List Cell} (hv:Has h (.c x) sz n cs) (hk:∀ id off m s,x=.sl id off m s->rd h' id=rd h id):Has h' (.c x) sz n cs:=by
 rcases hv with hv | ⟨id,off,r,e,hr,h2⟩
 ·exact .inl hv
 ·cases e;exact .inr ⟨id,off,r,rfl,by rw [hk id off n sz rfl];exact hr,h2⟩
def IsNd.keep {h h':A9} {cs:List Cell} {x:Nd} {P:Nat->Prop} (hx:IsNd h cs x) (hf:NdF P cs) (hk:∀ id,P id->rd h' id=rd h id):IsNd h' cs x:=by
 obtain ⟨a,b,rfl,h1,h2⟩:=hx;exact ⟨a,b,rfl,C0x h1 λid off m s e=>hk id (hf id off m s (by simp [ndC,e])),C0x h2 λid off m s e=>hk id (hf id off m s (by simp [ndC,e]))⟩
def D12 {P:Nat->Prop} {i k l p s:Int} {x y:Cell} (hx:∀ id off m sz,x=.sl id off m sz->P id) (hy:∀ id off m sz,y=.sl id off m sz->P id):NdF P (ndC i k l p s x y):=by
 intro id off m sz h;simp only [ndC,E0B,List.not_mem_nil,or_false] at h;rcases h with h | h | h | h | h | h | h
 ·cases h
 ·cases h
 ·cases h
 ·cases h
 ·cases h
 ·exact hx id off m sz h.symm
 ·exact hy id off m sz h.symm
def C8Z {h:A9} {v:Val} {cs:List (List Cell)}:quiet h (A4 (v,h++cs.map λc=>rT c))=A4 (v,h++cs.map λc=>rT c):=by
 have:∀ (cs:List (List Cell)) (h':A9),Grows h h'->Grows h (h'++cs.map λc=>rT c):=by
  intro cs
  induction cs with
  | nil=>intro h' hg;simpa using hg
  | cons c cs ih =>
   intro h' hg;have:=ih _ (hg.new c);rw [E0d]
   rwa [D9C,List.singleton_append] at this
 exact Y7 (this cs h Grows.rfl')
def C5g {D:Dev} {n m i:Int} {f:Cell} {h:A9} (hD:okD D) (hv:IsView h f D) :
  ∃ (cs:List Cell) (t:List (List Cell)),A1J [.a (vwC D.length n m f),.c (.i .i64 i)] h=A4 (.a cs,h++t.map λc=>rT c)/\IsNd (h++t.map λc=>rT c) cs (xS D n i)/\NdF (λid=>h.length<=id/\id<h.length+t.length) cs:=by
 have key:∀ g,IsView g f D->∃ x g',A7u (1000) [.a (vwC D.length n m f),.c (.i .i64 i)] g=A4 (.a (ndC i (kdV D n i) (lnV D n i) (paV D n i) (aR (kdV D n i) (szV D n i)) (.sl (g.length+4) 0 (wU D n i).length 1) x),g')/\rd g' (g.length+4)=rT (B4 (wU D n i)) /\
   HeldX g' x (I7 (A4f D n i)) (A4f D n i).length 2 (g.length+3)/\(∀ id m,x=.sl id 0 m 2->g.length+6<=id):=by
  intro g hv;obtain ⟨V,hV⟩:∃ V,V=vwC D.length n m f:=⟨_,rfl⟩;have hVl:V.length=4:=by rw [hV];rfl
  have C8v:=Z0 (n:=n) (m:=m) (i:=i) (h:=g++[rT V,rT (ndC 0 0 0 0 0 .ns .ns)]) hD (hv.more _);rw [A11,<-hV] at C8v;obtain ⟨I,hI⟩:∃ I,I=D4 (kdV D n i) (lnV D n i) (szV D n i) (paV D n i) (drV D n i):=⟨_,rfl⟩;have hIl:I.length=11:=by rw [hI];simp [D4,C1,eW]
  have i0:I[0]?=A4 (.i .i64 (kdV D n i)):=by rw [hI];rfl
  have i1:I[1]?=A4 (.i .i64 (lnV D n i)):=by rw [hI];rfl
  have i3:I[3]?=A4 (.i .i64 (paV D n i)):=by rw [hI];rfl
  have hSz:=λh=>B0E (k:=kdV D n i) (l:=lnV D n i) (s:=szV D n i) (p:=paV D n i) (d:=drV D n i) (h:=h)
  rw [<-hI] at C8v;simp only [<-hI] at hSz;have D48:=C4v (n:=n) (m:=m) (k:=kdV D n i) (l:=lnV D n i) (s:=szV D n i) (p:=paV D n i) (d:=drV D n i) (h:=g++[rT V,rT (ndC 0 0 0 0 0 .ns .ns),rT I,A7]) hD eW (hv.more _);rw [<-hI,<-hV] at D48;have eL:(g++[rT V,rT (ndC 0 0 0 0 0 .ns .ns),rT I,A7]).length=g.length+4:=by simp
  rw [eL] at D48;have eD:wC D n (kdV D n i) (szV D n i) (drV D n i) 0 34304=wU D n i:=rfl;rw [eD] at D48;have ef:∀ s y,E7 [o0,o0,o0,o0,o0,.ns,.ns] [(0,1,.c (.i .i64 i)),(1,1,.c (.i .i64 (kdV D n i))),(2,1,.c (.i .i64 (lnV D n i))),(3,1,.c (.i .i64 (paV D n i))),(4,1,.c (.i .i64 s)),(5,1,.c y)]=A4 (ndC i (kdV D n i) (lnV D n i) (paV D n i) s y .ns):=λ_ _=>rfl
  obtain ⟨N,hN⟩:∃ N,N=ndC i (kdV D n i) (lnV D n i) (paV D n i) (aR (kdV D n i) (szV D n i)) (.sl (g.length+4) 0 (wU D n i).length 1) .ns:=⟨_,rfl⟩;have hNl:N.length=7:=by rw [hN];rfl
  have z7:(ndC 0 0 0 0 0 .ns .ns).length=7:=rfl;obtain ⟨G,hG⟩:∃ G,G=g++[rT V,rT (ndC 0 0 0 0 0 .ns .ns),rT I,rT N,rT (B4 (wU D n i))]:=⟨_,rfl⟩;have hLi:=C17 (n:=n) (m:=m) (k:=kdV D n i) (l:=lnV D n i) (s:=szV D n i) (p:=paV D n i) (d:=drV D n i) (h:=G) hD eW (by rw [hG];exact hv.more _);rw [<-hI,<-hV] at hLi;have lG:G.length=g.length+5:=by rw [hG];simp
  rw [lG] at hLi;have hen:=C3q (D:=D) (n:=n) (k:=kdV D n i) (d:=drV D n i);obtain ⟨H,hH⟩:∃ H,H=G++[rT (I7 (xQ D n (kdV D n i) (drV D n i)))]:=⟨_,rfl⟩;have P0:NodeP D n (vwC D.length n m f) ⟨i,kdV D n i,lnV D n i,paV D n i,aR (kdV D n i) (szV D n i),wU D n i,[]⟩ (xQ D n (kdV D n i) (drV D n i)) g [] H:=by
   rw [<-hV];refine ⟨by rw [hH,hG];exact ((Low.refl (D9x _)).new _).new _,by rw [hH,hG];simp,by rw [hH,hG];simp,by rw [hH,hG];simp,?_,.ns,?_,.inl ⟨rfl,rfl,rfl⟩,λid m e=>by cases e⟩
   ·rw [hH,show g.length+5=G.length by omega];exact O8
   ·rw [hH];refine B6 ?_;rw [hG,hN];simp
  obtain ⟨x,h',f1,f2,f3,f4,f5⟩:=B59 (q:=1000) (m:=m) (f:=f) hD hv (by omega) (xQ D n (kdV D n i) (drV D n i)).length 0 1000 [] H (by omega) (by omega) (by simp) P0;rw [D9O,D9U] at f3;refine ⟨x,h',?_,f2,f3,f4⟩;dsimp only at f1;have ez:[o0,o0,o0,o0,o0,.ns,.ns]=ndC 0 0 0 0 0 .ns .ns:=rfl;have eG:g++[rT V,rT (ndC 0 0 0 0 0 .ns .ns),rT I,rT N,rT (B4 (wU D n i))]=G:=hG.symm;have ei:[o0,o0,o0,o0,o0,o0,o0,o0,o0,o0,o0].length=11:=rfl;rw [B9k]
  replace ef:=ef (aR (kdV D n i) (szV D n i)) (.sl (g.length+4) 0 (wU D n i).length 1)
  rw [<-hN] at ef;rw [ez] at ef ⊢;rw [<-hV];generalize [o0,o0,o0,o0,o0,o0,o0,o0,o0,o0,o0]=zi at *;generalize ndC 0 0 0 0 0 .ns .ns=z at *;have gV:D3 G 4 (.c (.p g.length 0))=A4 (.a V):=by rw [hG,G6];exact L9 hVl
  have gI:D3 G 11 (.c (.p (g.length+2) 0))=A4 (.a I):=by rw [hG,O9];exact L9 hIl
  generalize B4 (wU D n i)=B at *;simp only [esc,O9,G6,Z4,J2,O3,F8,L9,cK,zF,Nat.reduceAdd,hVl,hIl,z7,ei,C8v,i0,i1,i3,hSz,D48,ef,hNl,eG,gV,gI,hLi];rw [hH] at f1;exact f1
 obtain ⟨x,g',e,h1,h2,h3⟩:=key (ro h) hv.ro;rw [G5] at e h1 h2 h3;have n1:=oQ h1 (by simp);have q1:¬ h.length+4<h.length:=by omega
 rcases h2 with ⟨e1,e2,rfl⟩ | ⟨id,rfl,hr,hl,Z5⟩
 ·have hc:M6 g' h.length [] (ndC i (kdV D n i) (lnV D n i) (paV D n i) (aR (kdV D n i) (szV D n i)) (.sl (h.length+4) 0 (wU D n i).length 1) .ns)=A4 (ndC i (kdV D n i) (lnV D n i) (paV D n i) (aR (kdV D n i) (szV D n i)) (.sl h.length 0 (wU D n i).length 1) .ns,[h.length+4]):=by
   simp [ndC,M6,Cell.low,Cell.flat,n1]
  have:=A3E e (v2:=.a (ndC i (kdV D n i) (lnV D n i) (paV D n i) (aR (kdV D n i) (szV D n i)) (.sl h.length 0 (wU D n i).length 1) .ns)) (ids:=[h.length+4]) (by simp only [S8,hc,E0b]);rw [E0d,List.map_nil,h1] at this;refine ⟨_,[B4 (wU D n i)],this,⟨_,_,rfl,Has.tr O8 (show (B4 (wU D n i)).length=(wU D n i).length*1 by rw [B5,Nat.mul_one]) (R7 _),.inl ⟨rfl,e1,e2⟩⟩,D12 (λid off m sz e=>?_) λid off m sz e=>by cases e⟩;cases e;exact ⟨D9x _,by simp⟩
 ·have hid:=h3 id _ rfl;have n2:=oQ hr B1R;have q2:¬ id<h.length:=by omega
  have hc:M6 g' h.length [] (ndC i (kdV D n i) (lnV D n i) (paV D n i) (aR (kdV D n i) (szV D n i)) (.sl (h.length+4) 0 (wU D n i).length 1) (.sl id 0 (A4f D n i).length 2))=A4 (ndC i (kdV D n i) (lnV D n i) (paV D n i) (aR (kdV D n i) (szV D n i)) (.sl h.length 0 (wU D n i).length 1) (.sl (h.length+1) 0 (A4f D n i).length 2),[h.length+4,id]):=by
   have q3:h.length<=id:=by omega
   have q4:¬ id=h.length+4:=by omega
   simp [ndC,M6,Cell.low,Cell.flat,n1,n2,q2,q3,q4]
  have:=A3E e (v2:=.a (ndC i (kdV D n i) (lnV D n i) (paV D n i) (aR (kdV D n i) (szV D n i)) (.sl h.length 0 (wU D n i).length 1) (.sl (h.length+1) 0 (A4f D n i).length 2))) (ids:=[h.length+4,id]) (by simp only [S8,hc,E0b]);rw [E0d,E0d,List.map_nil,h1,hr] at this;refine ⟨_,[B4 (wU D n i),I7 (A4f D n i)],this,?_,D12 (λid off m sz e=>by cases e;exact ⟨D9x _,by simp⟩) λid off m sz e=>by cases e;exact ⟨by omega,by simp⟩⟩;exact ⟨_,_,rfl,Has.tr (by simp [xS]) (show (B4 (wU D n i)).length=(wU D n i).length*1 by rw [B5,Nat.mul_one]) (R7 _),Has.tr (by simp [xS]) kI B5U⟩
def KeysI (es:Q7) (R:List Int):Prop:=es.map (·.1)=R.map λi=>Cell.i .i64 i
def KeysI.len {es:Q7} {R:List Int} (hk:KeysI es R):es.length=R.length:=by
 have:=congrArg List.length hk;simpa using this
def KeysI.ok {es:Q7} {R:List Int} (hk:KeysI es R) (a:Int):wV (A4 .i64) (.i .i64 a) es=A5:=by
 unfold wV;rw [D9v];refine ⟨by simp [oO],List.all_eq_true.2 λe he=>?_⟩;have:e.1∈R.map λi=>Cell.i .i64 i:=by rw [<-hk];exact List.mem_map.2 ⟨e,he,rfl⟩
 rw [List.mem_map] at this;obtain ⟨i,_,hi⟩:=this;rw [<-hi];simp [oO]
def KeysI.snoc {es:Q7} {R:List Int} (hk:KeysI es R) (a:Int) (p:Part):KeysI (es++[(.i .i64 a,p)]) (R++[a]):=by
 unfold KeysI at *;rw [E0h,E0h,hk];rfl
def C8J {a:Int}:∀ {es:Q7} {R:List Int} {i:Nat},KeysI es R->a ∉ R->mgo (.i .i64 a) es i=A7
 | [],_,_,_,_=>rfl
 | e::es,[],i,hk,_=>by simp [KeysI] at hk
 | e::es,r::R,i,hk,ha=>by
  have hk1:e.1=.i .i64 r:=(List.cons.inj hk).1;have hk2:KeysI es R:=(List.cons.inj hk).2;rw [E0B,not_or] at ha;rw [mgo,if_neg (by rw [hk1];intro e;cases e;exact ha.1 rfl)];exact C8J hk2 ha.2
def C92 {a:Int}:∀ {es:Q7} {R:List Int} {i j:Nat} {p:Part},KeysI es R->R.Nodup->es[j]?=A4 (.i .i64 a,p)->mgo (.i .i64 a) es i=A4 (i+j,p)
 | [],_,_,_,_,_,_,h=>by simp at h
 | e::es,[],i,j,p,hk,_,_=>by simp [KeysI] at hk
 | e::es,r::R,i,j,p,hk,hn,h=>by
  have hk1:e.1=.i .i64 r:=(List.cons.inj hk).1;have hk2:KeysI es R:=(List.cons.inj hk).2;cases j with
  | zero =>
   simp at h;subst h;rw [mgo,if_pos rfl];simp
  | succ j =>
   have h':es[j]?=A4 (.i .i64 a,p):=by simpa using h
   have lQ:a∈R:=by
    have h3:(es.map (·.1))[j]?=A4 (.i .i64 a):=by rw [E0C,h'];rfl
    rw [hk2,E0C,D9J] at h3;obtain ⟨r',hr',e'⟩:=h3;cases e';exact D9S hr'
   have Z5:¬ e.1=.i .i64 a:=by
    rw [hk1];intro e';cases e';exact (List.nodup_cons.1 hn).1 lQ
   rw [mgo,if_neg Z5,C92 (i:=i+1) hk2 (List.nodup_cons.1 hn).2 h'];simp;omega
def C6M {h:A9} {mid:Nat} {es:Q7} {R:List Int} {a:Int} {z:Part} {ok:Bool} (hr:rd h mid=A4 (K8 es)) (hk:KeysI es R) (ha:a ∉ R):qN h (A4 .i64) z ok (.c (.m mid)) (.c (.i .i64 a))=A4 (oV ok z A6):=by
 simp only [qN,B3S,C4O,hr,D9H,kP];rw [if_pos (hk.ok a)];unfold A4b;rw [C8J hk ha]
def D1h {h:A9} {mid:Nat} {es:Q7} {R:List Int} {a:Int} {z p:Part} {ok:Bool} {j:Nat} (hr:rd h mid=A4 (K8 es)) (hk:KeysI es R) (hn:R.Nodup) (hj:es[j]?=A4 (.i .i64 a,p)):qN h (A4 .i64) z ok (.c (.m mid)) (.c (.i .i64 a))=A4 (oV ok p A5):=by
 simp only [qN,B3S,C4O,hr,D9H,kP];rw [if_pos (hk.ok a)];unfold A4b;rw [C92 hk hn hj]
def D3U {h:A9} {mid:Nat} {es:Q7} {R:List Int} {a:Int} {l:List Cell} (hr:rd h mid=A4 (K8 es)) (hk:KeysI es R) (ha:a ∉ R):xK h (A4 .i64) (.c (.m mid)) (.c (.i .i64 a)) (.a l)=A4 (h.set mid (A4 (K8 (es++[(.i .i64 a,.a l)])))):=by
 simp only [xK,B3S,B7y,hr,D9H,kP];rw [if_pos (hk.ok a)];unfold A4c A4b;rw [C8J hk ha]
def Ow (b:Nat) (h:A9):Prop:=∀ id x,b<=id->rd h id=A4 x->x.own=A5
def Ow.self {h:A9}:Ow h.length h:=λid x hid hx=>by have:=D7 hx;omega
def Ow.more {b:Nat} {h t:A9} (a:Ow b h) (ht:t.all B0P=A5:=by rfl):Ow b (h++t):=λid x hid hx=>by
 by_cases hl:id<h.length
 ·rw [E2 hl] at hx;exact a id x hid hx
 ·rw [rd_some,D9P (by omega)] at hx;exact List.all_eq_true.1 ht _ (D9S hx)
def Ow.put {b:Nat} {h:A9} {i:Nat} {r:Option Row} (a:Ow b h) (hr:B0P r=A5):Ow b (h.set i r):=λid x hid hx=>by
 by_cases e:i=id
 ·subst e;have hl:=D7 hx;simp at hl;rw [D1 (by simpa using hl)] at hx;subst hx;exact hr
 ·rw [B7 e] at hx;exact a id x hid hx
def Ow.app {b sz:Nat} {h h':A9} {x y v:Val} (a:Ow b h) (e:qK h sz x y=A4 (v,h')):Ow b h':=by
 unfold qK at e;obtain ⟨ys,_,e⟩:=Option.bind_eq_some_iff.1 e;split at e
 ·split at e
  ·cases e;exact a.more
  ·cases e
 ·obtain ⟨r,_,e⟩:=Option.bind_eq_some_iff.1 e;split at e
  ·cases e;exact (a.put rfl).more
  ·cases e
 ·cases e
def Ow.st1 {b:Nat} {h h':A9} {x y:Val} (a:Ow b h) (e:H1 h x y=A4 h'):Ow b h':=by
 unfold H1 at e;split at e
 ·obtain ⟨r,_,e⟩:=Option.bind_eq_some_iff.1 e;split at e
  ·cases e;exact a.put rfl
  ·cases e
 ·cases e
def Ow.grows {h h':A9} (a:Ow h.length h') (hl:Low h.length h h'):Grows h h':=by
 refine ⟨List.prefix_iff_eq_take.2 (E0q λi=>?_),a⟩;by_cases hi:i<h.length
 ·have h1:=hl.2.2 i hi;have hl2:=hl.2.1;unfold rd at h1;rw [D97 hi];rw [D9u hi,D9u (by omega)] at h1 ⊢;have h1:h'[i]'(by omega)=h[i]:=h1;rw [h1]
 ·rw [D9W (by omega),D9W (by rw [D91];omega)]
def D4Y (b:Nat) (h:A9):Nat:=match rd h (b+5) with
 | some ⟨.sl L _ _ _::_,_⟩=>L
 | _=>0
def Pr (b:Nat) (h:A9) (id:Nat):Prop:=b+6<=id/\id<h.length/\id≠D4Y b h
def A9u {b L n:Nat} {h:A9} (hr:rd h (b+5)=rT [.sl L 0 n 1]):D4Y b h=L:=by
 unfold D4Y;rw [hr]
structure OfP (D:Dev) (n:Int) (V:List Cell) (g:A9) (R:List Int) (h:A9):Prop where
 low:Low g.length g h
 ow:Ow g.length h
 nd:R.Nodup
 r0:rd h g.length=rT V
 r3:rd h (g.length+3)=rT [.m (g.length+2)]
 rw_:∃ L es,rd h (g.length+5)=rT [.sl L 0 (R.length+1) 1]/\rd h L=rT (encI (1::R))/\g.length+4<=L/\L≠g.length+5 /\
  rd h (g.length+2)=A4 (K8 es)/\KeysI es R/\∀ (j:Nat) (e:Cell × Part),es[j]?=A4 e->∃ a cs,e=(.i .i64 a,.a cs)/\IsNd h cs (xS D n a)/\NdF (Pr g.length h) cs
def OfP.since {D:Dev} {n:Int} {V:List Cell} {g h h':A9} {R:List Int} (P:OfP D n V g R h) (hl:Low h.length h h') (ho:Ow g.length h'):OfP D n V g R h':=by
 obtain ⟨L,es,h1,h2,h3,h4,h5,h6,h7⟩:=P.rw_;have T1:=hl.2.1;have c1:=A9u h1;have c2:=A9u (hl.rd h1);refine ⟨P.low.trans ⟨by have:=P.low.2.1;omega,T1,λid hid=>hl.2.2 id (by have:=P.low.2.1;omega)⟩,ho,P.nd,hl.rd P.r0,hl.rd P.r3,L,es,hl.rd h1,hl.rd h2,h3,h4,hl.rd h5,h6,λj e he=>?_⟩;obtain ⟨a,cs,e1,e2,e3⟩:=h7 j e he;exact ⟨a,cs,e1,e2.keep e3 λid hid=>hl.2.2 id hid.2.1,λid off m sz hm=>by have:=e3 id off m sz hm;unfold Pr at *;omega⟩
def OfP.more {D:Dev} {n:Int} {V:List Cell} {g h:A9} {R:List Int} (P:OfP D n V g R h) (t:A9) (ht:t.all B0P=A5:=by rfl):OfP D n V g R (h++t):=P.since ((Low.refl (D9x _)).new t) (P.ow.more ht)
def OfP.pr {D:Dev} {n:Int} {V:List Cell} {g h h':A9} {R:List Int} (P:OfP D n V g R h) (hl:Low h.length h h') {id:Nat} (hp:Pr g.length h id):Pr g.length h' id/\rd h' id=rd h id:=by
 obtain ⟨L,es,h1,_⟩:=P.rw_;have c1:=A9u h1;have c2:=A9u (hl.rd h1);have T1:=hl.2.1;unfold Pr at *;exact ⟨by omega,hl.2.2 id hp.2.1⟩
def OfP.look {D:Dev} {n:Int} {V:List Cell} {g h:A9} {R:List Int} (P:OfP D n V g R h) {a:Int} (ha:a∈R):∃ cs,IsNd h cs (xS D n a)/\NdF (Pr g.length h) cs/\∀ z ok,qN h (A4 .i64) z ok (.c (.m (g.length+2))) (.c (.i .i64 a))=A4 (oV ok (.a cs) A5):=by
 obtain ⟨L,es,h1,h2,h3,h4,h5,h6,h7⟩:=P.rw_;obtain ⟨j,hj⟩:=List.mem_iff_getElem?.1 ha;have hlen:=h6.len;have hjl:j<es.length:=by rw [hlen];exact (List.getElem?_eq_some_iff.1 hj).1
 obtain ⟨b,cs,e1,e2,e3⟩:=h7 j es[j] (D9u hjl);have hb:b=a:=by
  have h8:(es.map (·.1))[j]?=A4 (.i .i64 b):=by rw [E0C,D9u hjl,e1];rfl
  rw [h6,E0C,hj] at h8;simpa using h8.symm
 subst hb;exact ⟨cs,e2,e3,λz ok=>D1h h5 h6 P.nd (by rw [D9u hjl,e1])⟩
def D4f {D:Dev} {n m a:Int} {f:Cell} {g h:A9} {R:List Int} (hD:okD D) (hv:IsView g f D) (P:OfP D n (vwC D.length n m f) g R h) (h62:R.length<=1000) :
  ∃ h',oF [.c (.i .i64 a),.c (.p (g.length+3) 0),.c (.p g.length 0),.c (.p (g.length+5) 0)] h=A4 (.t [],h')/\OfP D n (vwC D.length n m f) g (B6m R a) h'/\∀ id,Pr g.length h id->Pr g.length h' id/\rd h' id=rd h id:=by
 have la:=B9 (off:=0) P.r3 rfl rfl;have z7:ndC 0 0 0 0 0 .ns .ns=[o0,o0,o0,o0,o0,.ns,.ns]:=rfl;unfold B6m;by_cases c:a∈R
 ·obtain ⟨cs,g1,_,g2⟩:=P.look c;have s0:=D0n (h:=h) g1.length;rw [if_pos c];refine ⟨h++[rT cs],A7R (n:=0) ?_,P.more _,λid hp=>P.pr ((Low.refl (D9x _)).new _) hp⟩;rw [A7t];simp only [E4,la,g2,oV,A5k,List.getElem?_cons_zero,D9Z,E0b,rC,rD,s0,A5n,Bool.not_true,dT];rfl
 ·rw [if_neg c];obtain ⟨L,es,h1,h2,h3,h4,h5,h6,h7⟩:=P.rw_;have lk:=C6M (z:=.a (ndC 0 0 0 0 0 .ns .ns)) (ok:=A5) h5 h6 c;have s0:=D0n (h:=h) (cs:=ndC 0 0 0 0 0 .ns .ns) rfl;obtain ⟨H,hH⟩:∃ H,H=h++[rT (ndC 0 0 0 0 0 .ns .ns)]:=⟨_,rfl⟩;have PH:OfP D n (vwC D.length n m f) g R H:=by rw [hH];exact P.more _
  have lH:H.length=h.length+1:=by rw [hH];simp
  rw [<-hH] at s0;have la2:=B9 (off:=0) PH.r3 rfl rfl;have lV:=C9 (n:=4) PH.r0 rfl;obtain ⟨cs,t,n1,n2,n3⟩:=C5g (n:=n) (m:=m) (i:=a) hD (hv.since PH.low);obtain ⟨H2,hH2⟩:∃ H2,H2=H++t.map λc=>rT c:=⟨_,rfl⟩
  have n1q:quiet H (A1J [.a (vwC D.length n m f),.c (.i .i64 a)] H)=A4 (.a cs,H2):=by rw [n1,C8Z,hH2]
  rw [<-hH2] at n2;have P2:OfP D n (vwC D.length n m f) g R H2:=by rw [hH2];exact PH.more _ (by rw [E0k];intro x hx;obtain ⟨c,_,rfl⟩:=List.mem_map.1 hx;rfl)
  have lH2:H2.length=H.length+t.length:=by rw [hH2];simp
  obtain ⟨L',es',k1,k2,k3,k4,k5,k6,k7⟩:=P2.rw_;have eL:L'=L:=by
   have:rd H2 (g.length+5)=rT [.sl L 0 (R.length+1) 1]:=by rw [hH2,hH];exact B6 (B6 h1)
   rw [this] at k1;injection k1 with e;injection e with e1;injection e1 with e2;injection e2 with e3
   exact e3.symm
  subst eL;have pm:=D3U (l:=cs) k5 k6 c;obtain ⟨H3,hH3⟩:∃ H3,H3=H2.set (g.length+2) (A4 (K8 (es'++[(.i .i64 a,.a cs)]))):=⟨_,rfl⟩;rw [<-hH3] at pm;have lH3:H3.length=H2.length:=by rw [hH3];simp
  have r5:rd H3 (g.length+5)=rT [.sl L' 0 (R.length+1) 1]:=by rw [hH3,B7 (by omega)];exact k1
  have rL:rd H3 L'=rT (encI (1::R)):=by rw [hH3,B7 (by omega)];exact k2
  have D9n:=D7 h2;have ef:E7 [o0] [(0,1,.c (.i .i64 a))]=A4 (encI [a]):=rfl;obtain ⟨id,h8,h9,p1,p2,p3,p4,p5,p6,p7,p8,p9⟩:=D23 (off:=0) (ys:=encI [a]) (n:=R.length+1) (sz:=1) r5 rfl (.inr ⟨L',rfl,rL,by simp [C1],k4⟩) (by omega) rfl (by omega);have keep:∀ j,j<H3.length->j≠g.length+5->j≠L'->rd h9 j=rd H3 j:=λj h1 h2 h3=>p8 j h1 h2 λmm e=>by cases e;exact h3 rfl
  have b5:=D7 r5;have cH2:=A9u k1;have c9:D4Y g.length h9=id:=A9u (n:=R.length+1+1) (by rw [p4];rfl);refine ⟨h9,A7R (n:=0) ?_,?_,λid0 hp=>?_⟩
  ·rw [A7t];rw [z7] at lk s0;simp only [E4,la,lk,oV,A5k,List.getElem?_cons_zero,D9Z,E0b,rC,rD,s0,A5n,E0E,fD,la2,lV,D9Q,n1q,pm,p1,ef,p2,p3];rfl
  ·refine ⟨?_,?_,?_,?_,?_,id,es'++[(.i .i64 a,.a cs)],?_,?_,by omega,by omega,?_,k6.snoc a _,λj e he=>?_⟩
   ·refine ⟨D9x _,by have:=P2.low.2.1;omega,λj hj=>?_⟩;rw [keep j (by omega) (by omega) (by omega),hH3,B7 (by omega)];exact P2.low.2.2 j hj
   ·have o3:Ow g.length H3:=by rw [hH3];exact P2.ow.put C3r
    exact (o3.more.app p2).st1 p3
   ·rw [List.nodup_append];exact ⟨P.nd,by simp,λx hx y hy e=>by simp at hy;subst hy;subst e;exact c hx⟩
   ·rw [keep _ (by omega) (by omega) (by omega),hH3,B7 (by omega)];exact P2.r0
   ·rw [keep _ (by omega) (by omega) (by omega),hH3,B7 (by omega)];exact P2.r3
   ·rw [p4];simp
   ·rw [p6,<-vI];simp
   ·rw [keep _ (by omega) (by omega) (by omega),hH3,D1 (by omega)]
   ·by_cases hj:j<es'.length
    ·rw [D94 hj] at he;obtain ⟨b,cs',e1,e2,e3⟩:=k7 j e he;refine ⟨b,cs',e1,e2.keep e3 λid hid=>?_,λbQ off m' sz hm=>?_⟩
     ·unfold Pr at hid;rw [keep id (by omega) (by omega) (by omega),hH3,B7 (by omega)]
     ·have:=e3 bQ off m' sz hm;unfold Pr at *;omega
    ·have hj2:j=es'.length:=by
      have:=(List.getElem?_eq_some_iff.1 he).1;simp at this;omega
     subst hj2;rw [D9P (D9x _)] at he;simp at he;subst he;refine ⟨a,cs,rfl,n2.keep n3 λid hid=>?_,λbQ off m' sz hm=>?_⟩
     ·have:=P.low.2.1;rw [keep id (by omega) (by omega) (by omega),hH3,B7 (by omega)]
     ·have:=n3 bQ off m' sz hm;have hP:=P.low.2.1;have hb:=D7 h1;unfold Pr;omega
  ·have q1:=(P2.pr (Low.refl (D9x _)) (P.pr (h':=H2) (by rw [hH2,hH];exact ((Low.refl (D9x _)).new _).new _) hp).1).1;have q2:=(P.pr (h':=H2) (by rw [hH2,hH];exact ((Low.refl (D9x _)).new _).new _) hp).2;unfold Pr at *;exact ⟨by omega,by rw [keep id0 (by omega) (by omega) (by omega),hH3,B7 (by omega)];exact q2⟩
def D5P {R:List Int} {a:Int} (hR:∀ x∈R,1<=x/\x<=128) (ha:1<=a/\a<=128):∀ x∈B6m R a,1<=x/\x<=128:=by
 intro x hx;rcases C7t.1 hx with h | rfl
 ·exact hR x h
 ·exact ha
def B7B {D:Dev} {n m:Int} {f:Cell} {g:A9} {q M:Nat} {L:List Ent} {y:Cell} {fc x6:Val} (hD:okD D) (hv:IsView g f D) (hL:∀ e∈L,1<=e.2/\e.2<=128) (h62:L.length<=1000)
  (hfc:∀ a h,qT mT fc [a] h=oF [a,.c (.p (g.length+3) 0),.c (.p g.length 0),.c (.p (g.length+5) 0)] h) :
  ∀ (e j M2:Nat) (R:List Int) (h:A9),j+e=L.length->e<M2->(∀ x∈R,1<=x/\x<=128)->OfP D n (vwC D.length n m f) g R h->Has h (.c y) 2 L.length (I7 L)->(∀ id off k s,y=.sl id off k s->Pr g.length h id) ->
   ∃ h',A4m q M M2 (.c (.p (g.length+3) 0)) (.c (.p (g.length+5) 0)) fc x6 (.c y) (.c (.i .i64 (L.length:Int))) (.c (.i .i64 (j:Int))) h=bnd (K6 .add x6 (.c (.i .i64 1))) (λv29=>tR q M (.c (.p (g.length+3) 0)) (.c (.p (g.length+5) 0)) fc v29 h') /\
    OfP D n (vwC D.length n m f) g (C1j R (L.drop j)) h'
 | e,j,0,R,h,_,hm,_,_,_,_=>by omega
 | 0,j,M2+1,R,h,hj,hm,hR,P,hy,hp=>by
  have c0:¬ ((j:Int)<(L.length:Nat)):=by omega
  rw [xV,D9K (by omega)];exact ⟨h,by simp only [E4,H7,c0,decide_false,dT],P⟩
 | e+1,j,M2+1,R,h,hj,hm,hR,P,hy,hp=>by
  have hjl:j<L.length:=by omega
  have c0:(j:Int)<(L.length:Nat):=by omega
  have w1:=D9 (show j+1<9223372036854775808 by omega);obtain ⟨ad,a1,a2⟩:=A31 hy hjl;rw [D9E hjl,A9J];have hx:=hL L[j] (D9Y hjl);obtain ⟨x,hxe⟩:∃ x,x=L[j]:=⟨_,rfl⟩;rw [<-hxe] at a2 hx ⊢;have P1:=P.more [rT (R0 (A4 x))];have hlow1:Low h.length h (h++[rT (R0 (A4 x))]):=(Low.refl (D9x _)).new _;have hRl:=A5O P.nd hR;obtain ⟨h2,f1,f2,f3⟩:=D4f (a:=x.2) hD hv P1 (by omega);have hy2:Has h2 (.c y) 2 L.length (I7 L):=C0x hy λid off k s ey=>by
   have q1:=P.pr hlow1 (hp id off k s ey);rw [(f3 id q1.1).2,q1.2]
  obtain ⟨h',k1,k2⟩:=B7B (q:=q) (M:=M) (x6:=x6) hD hv hL h62 hfc e (j+1) M2 (B6m R x.2) h2 (by omega) (by omega) (D5P hR hx) f2 hy2 (λid off k s ey=>(f3 id (P.pr hlow1 (hp id off k s ey)).1).1);refine ⟨h',?_,k2⟩;rw [xV];simp only [E4,H7,c0,decide_true,fD,a1,a2,C1p,qL,D9T,E0D,D54,hfc,f1,P6,w1];exact k1
def C7n {D:Dev} {n m:Int} {f:Cell} {g:A9} {q:Nat} {fc:Val} (hD:okD D) (hv:IsView g f D) (hq:1000<q)
  (hfc:∀ a h,qT mT fc [a] h=oF [a,.c (.p (g.length+3) 0),.c (.p g.length 0),.c (.p (g.length+5) 0)] h) :
  ∀ (e i M:Nat) (R:List Int) (h:A9),e<M->130<=e+i->i<=1000->RowI (A4f D n) i R->OfP D n (vwC D.length n m f) g R h ->
   ∃ h',tR q M (.c (.p (g.length+3) 0)) (.c (.p (g.length+5) 0)) fc (.c (.i .i64 (i:Int))) h=tS q q (.c (.p (g.length+3) 0)) (.c (.sl h'.length 0 0 7)) (.c o0) (h'++[rT []])/\OfP D n (vwC D.length n m f) g (A9b (A4f D n) e i R) h'
 | e,i,0,R,h,hm,_,_,_,_=>by omega
 | e,i,M+1,R,h,hm,D9m,hi,hI,P=>by
  obtain ⟨L,es,h1,h2,h3,h4,h5,h6,h7⟩:=P.rw_;have hRl:=A5O hI.nd hI.rg;have t4:=B9 (off:=0) h1 rfl rfl;have t3:=B9 (off:=0) P.r3 rfl rfl;have w1:=D9 (show i+1<9223372036854775808 by omega);by_cases c:i<(1::R).length
  ·have c':i<R.length+1:=by simpa using c
   have c0:(i:Int)<(R.length+1:Nat):=by omega
   obtain ⟨e,rfl⟩:∃ e',e=e'+1:=⟨e-1,by omega⟩;have ad:E5 1 (.c (.sl L 0 (R.length+1) 1)) (.c (.i .i64 (i:Int)))=A4 (.c (.p L i)):=by rw [D8 c'];simp
   have l1:B8 h (.c (.p L i))=A4 (.c (.i .i64 (1::R)[i])):=B9 h2 (by rw [H0,D9u c];rfl) rfl;have lQ:(1::R)[i]∈R:=by
    have:=D9Y c;rw [E0B] at this;rcases this with e | e
    ·rw [e];exact hI.hd
    ·exact e
   obtain ⟨cs,g1,g2,g3⟩:=P.look lQ;have sI:=hI.step (λa=>C4Y) c;rw [A9b,dif_pos c];obtain ⟨a,ha⟩:∃ a,a=(1::R)[i]:=⟨_,rfl⟩;rw [<-ha] at l1 g1 g3 sI ⊢;obtain ⟨x,y,rfl,hx,hy⟩:=g1;have hyl:=hy.len;have f6:B3g (.a (ndC (xS D n a).ino (xS D n a).kind (xS D n a).links (xS D n a).parent (xS D n a).size x y)) 6=A4 (.c y):=rfl;have hny:(xS D n a).names=A4f D n a:=rfl;rw [hny] at hy hyl;have n224:=C6V (D:=D) (n:=n) (i:=a);obtain ⟨h8,k1,k2⟩:=B7B (q:=q) (M:=M) (x6:=.c (.i .i64 (i:Int))) hD hv (L:=A4f D n a) (y:=y) C4Y (by omega) hfc (A4f D n a).length 0 q R h (by omega) (by omega) hI.rg P hy (λid off k s ey=>g2 id off k s (by simp [ndC,ey]));rw [D9O] at k2;rw [P6,E4,w1] at k1;obtain ⟨h',p1,p2⟩:=C7n (q:=q) hD hv hq hfc e (i+1) M _ h8 (by omega) (by omega) (by omega) sI k2;refine ⟨h',?_,p2⟩;rw [xU];simp only [E4,t4,A1N,H7,c0,decide_true,fD,t3,ad,l1,g3,oV,f6,hyl,D9Q];exact k1.trans p1
  ·have c':¬ i<R.length+1:=by simpa using c
   have c0:¬ ((i:Int)<(R.length+1:Nat)):=by omega
   have ew:A9b (A4f D n) e i R=R:=by
    cases e with
    | zero=>rfl
    | succ e=>rw [A9b,dif_neg c]
   rw [ew];refine ⟨h,?_,P⟩;rw [xU];simp only [E4,t4,A1N,H7,c0,decide_false,dT]
def IsNds.snoc {h:A9} {cs:List Cell} {x:Nd} (hx:IsNd h cs x):∀ {t:List Nd} {C:List Cell},IsNds h C t->IsNds h (C++cs) (t++[x])
 | [],C,hC=>by
  have hC:C=[]:=hC;subst hC;exact ⟨cs,[],by simp,hx,rfl⟩
 | y::t,C,⟨c1,c2,e,h1,h2⟩=>by
  subst e;exact ⟨c1,c2++cs,by simp,h1,IsNds.snoc hx h2⟩
def A2b (D:Dev) (n:Int) (R:List Int) (k:Nat):List Nd:=((D90 k).filter λ(i:Nat)=>decide ((i:Int)∈R)).map λ(i:Nat)=>xS D n (i:Int)
def C3V {D:Dev} {n:Int} {R:List Int} {k:Nat} (h:(k:Int)∈R):A2b D n R (k+1)=A2b D n R k++[xS D n k]:=by
 simp [A2b,List.range_succ,List.filter_append,h]
def C7H {D:Dev} {n:Int} {R:List Int} {k:Nat} (h:¬ (k:Int)∈R):A2b D n R (k+1)=A2b D n R k:=by
 simp [A2b,List.range_succ,List.filter_append,h]
def D1Y {D:Dev} {n:Int} {R:List Int} {k:Nat}:(A2b D n R k).length<=k:=by
 have:=E0m (λ(i:Nat)=>decide ((i:Int)∈R)) (D90 k);simpa [A2b] using this
def B6d {D:Dev} {n:Int} {V:List Cell} {g H:A9} {R:List Int} {q:Nat} (P:OfP D n V g R H):∀ (e k M id:Nat) (C:List Cell) (h:A9),k+e=129->e<M->Low H.length H h->Ow g.length h->H.length<=id->rd h id=rT C->IsNds H C (A2b D n R k) ->
  ∃ v h',tS q M (.c (.p (g.length+3) 0)) (.c (.sl id 0 (A2b D n R k).length 7)) (.c (.i .i64 (k:Int))) h=A4 (v,h')/\IsTree h' v (A2b D n R 129)/\Low H.length H h'/\Ow g.length h'
 | e,k,0,id,C,h,_,hm,_,_,_,_,_=>by omega
 | 0,k,M+1,id,C,h,hk,hm,hlow,how,hid,hr,hC=>by
  have e0:k=129:=by omega
  subst e0;have c0:¬ ((129:Nat):Int)<129:=by omega
  rw [lY];have hx:=hC.noX;exact ⟨_,h,by simp only [E4,H7,c0,decide_false,dT]<;>rfl,⟨C,Has.row hr hx.2 hx.1,hC.since hlow⟩,hlow,how⟩
 | e+1,k,M+1,id,C,h,hk,hm,hlow,how,hid,hr,hC=>by
  have c0:(k:Int)<129:=by omega
  have w1:=D9 (show k+1<9223372036854775808 by omega);have Ph:=P.since hlow how;have t3:=B9 (off:=0) Ph.r3 rfl rfl;have ht:=D1Y (D:=D) (n:=n) (R:=R) (k:=k);by_cases c:(k:Int)∈R
  ·obtain ⟨cs,g1,g2,g3⟩:=P.look c;obtain ⟨cs',g1',_,g3'⟩:=Ph.look c;have ecs:cs'=cs:=by
    have r2:∀ z ok,qN h (A4 .i64) z ok (.c (.m (g.length+2))) (.c (.i .i64 (k:Int)))=A4 (oV ok (.a cs) A5):=by
     intro z ok;rw [<-g3 z ok];obtain ⟨L,es,_,_,_,_,h5,_⟩:=P.rw_;simp only [qN,C4O,h5,hlow.rd h5]
    have h3:=r2 (.c .ns) A6;rw [g3' (.c .ns) A6] at h3;simpa [oV] using h3
   subst ecs;have s0:=D0n (h:=h) g1.length;have nQ:=g1.length;have l7:D3 (h++[rT cs']) 7 (.c (.p h.length 0))=A4 (.a cs'):=C9 O8 nQ;have ef:E7 [o0,o0,o0,o0,o0,.ns,.ns] [(0,7,.a cs')]=A4 cs':=by
    simp only [E7,fC];rw [if_pos ⟨nQ,by decide⟩];rw [lay_all (by rw [nQ];rfl)]
   have hx:=hC.noX;obtain ⟨h2,a1,a2,a3,a4,a5⟩:=push (g:=H) (n:=(A2b D n R k).length) (sz:=7) (ys:=cs') (h:=h++[rT cs']) (hlow.new _) (B6 hr) hx.2 hid nQ (by omega) (by omega);obtain ⟨v,h',f1,f2,f3⟩:=B6d (q:=q) P e (k+1) M ((h++[rT cs']).length+1) (C++cs') h2 (by omega) (by omega) a3 (how.more.more.app a1) (by omega) a2 (by rw [C3V c];exact hC.snoc g1);refine ⟨v,h',?_,f2,f3⟩;have el:(A2b D n R (k+1)).length=(A2b D n R k).length+1:=by rw [C3V c];simp
   rw [el] at f1;rw [lY];simp only [E4,H7,c0,decide_true,fD,t3,g3',oV,A5k,List.getElem?_cons_zero,D9Z,E0b,rC,rD,s0,l7,ef,a1,xT,P6,w1];exact f1
  ·obtain ⟨L,es,_,_,_,_,h5,h6,_⟩:=Ph.rw_;have lk:=C6M (z:=.a [o0,o0,o0,o0,o0,.ns,.ns]) (ok:=A5) h5 h6 c;have s0:=D0n (h:=h) (cs:=[o0,o0,o0,o0,o0,.ns,.ns]) rfl;obtain ⟨v,h',f1,f2,f3⟩:=B6d (q:=q) P e (k+1) M id C (h++[rT [o0,o0,o0,o0,o0,.ns,.ns]]) (by omega) (by omega) (hlow.new _) how.more hid (B6 hr) (by rw [C7H c];exact hC);refine ⟨v,h',?_,f2,f3⟩;rw [C7H c] at f1;rw [lY];simp only [E4,H7,c0,decide_true,fD,t3,lk,oV,A5k,List.getElem?_cons_zero,D9Z,E0b,rC,rD,s0,dT,xT,P6,w1];exact f1
def C1E {D:Dev} {n m:Int} {f:Cell} {h:A9} (hD:okD D) (hv:IsView h f D) :
  ∃ v h',aY [.a (vwC D.length n m f)] h=A4 (v,h')/\IsTree h' v (A4l D n)/\Low h.length h h'/\Ow h.length h':=by
 obtain ⟨V,hV⟩:∃ V,V=vwC D.length n m f:=⟨_,rfl⟩;have hVl:V.length=4:=by rw [hV];rfl
 have C8v:=Z0 (n:=n) (m:=m) (i:=1) (h:=h++[rT V,rT []]) hD (hv.more _);rw [A11,<-hV] at C8v;have f0:∀ k l s p d,B3g (.a (D4 k l s p d)) 0=A4 (.c (.i .i64 k)):=λ_ _ _ _ _=>rfl
 unfold A4l;by_cases c:kdV D n 1=2
 ·rw [if_pos c];have ef:E7 [o0] [(0,1,.c (.i .i64 1))]=A4 [.i .i64 1]:=rfl;obtain ⟨H,hH⟩:∃ H,H=h++[rT V,rT [],A4 (K8 []),rT [.m (h.length+2)],rT [.i .i64 1],rT [.sl (h.length+4) 0 1 1]]:=⟨_,rfl⟩;have lH:H.length=h.length+6:=by rw [hH];simp
  have emk:A70 65 [.c (.p (h.length+3) 0),.c (.p h.length 0),.c (.p (h.length+5) 0)]=A4 (.c (.f 65 [(h.length+3,0),(h.length,0),(h.length+5,0)])):=rfl;have hfc:∀ a h',qT mT (.c (.f 65 [(h.length+3,0),(h.length,0),(h.length+5,0)])) [a] h'=oF [a,.c (.p (h.length+3) 0),.c (.p h.length 0),.c (.p (h.length+5) 0)] h':=λ_ _=>Eq.trans rfl rfl
  have P0:OfP D n (vwC D.length n m f) h [] H:=by
   rw [<-hV,hH];refine ⟨(Low.refl (D9x _)).new _,Ow.self.more (by simp [B0P];exact ⟨rfl,rfl,Row.own_mrow _,rfl,rfl,rfl⟩),by simp,by simp,by simp,h.length+4,[],by simp,by simp [encI],by omega,by omega,by simp,rfl,λj e he=>by simp at he⟩
  obtain ⟨h2,f1,f2,_⟩:=D4f (a:=1) hD hv P0 (by simp);have es:B6m [] 1=[1]:=rfl;rw [es] at f2;obtain ⟨h3,g1,g2⟩:=C7n (q:=2000) hD hv (by omega) hfc 130 0 2000 [1] h2 (by omega) (by omega) (by omega) RowI.one f2;change OfP D n (vwC D.length n m f) h (C7m D n) h3 at g2;obtain ⟨v,h',k1,k2,k3,k4⟩:=B6d (q:=2000) g2 129 0 2000 h3.length [] (h3++[rT []]) (by omega) (by omega) ((Low.refl (D9x _)).new _) g2.ow.more (D9x _) (by simp) rfl;refine ⟨v,h',A0y (n:=2000) ?_,k2,?_,k4⟩
  ·have e5:(h++[rT V,rT [],A4 (K8 [])]).length=h.length+3:=by simp
   have s1:H1 (h++[rT V,rT [],A4 (K8 []),rT [.nm]]) (.c (.p (h.length+3) 0)) (.c (.m (h.length+2)))=A4 (h++[rT V,rT [],A4 (K8 []),rT [.m (h.length+2)]]):=by rw [nK];rfl
   have s2:H1 (h++[rT V,rT [],A4 (K8 []),rT [.m (h.length+2)],rT [.i .i64 1],rT [.ns]]) (.c (.p (h.length+5) 0)) (.c (.sl (h.length+4) 0 1 1))=A4 H:=by rw [nK,hH];rfl
   rw [A0l,<-hV];simp only [esc,G6,L9,hVl,C8v,f0,c,Nat.add_assoc,Nat.reduceAdd,s1,ef,s2,emk,hfc,f1];exact g1.trans k1
  ·exact g2.low.trans ⟨by have:=g2.low.2.1;omega,k3.2.1,λid hid=>by
    have:=g2.low.2.1;rw [k3.2.2 id (by omega)]⟩
 ·rw [if_neg c];refine ⟨.c (.sl (h.length+2) 0 0 7),h++[rT V,rT [],rT []],A0y (n:=0) ?_,⟨[],Has.row (rw:=A5) (by simp) rfl rfl,rfl⟩,(Low.refl (D9x _)).new _,Ow.self.more⟩;rw [A0l,<-hV];simp only [esc,G6,L9,hVl,C8v,f0,c]
def C1D {D:Dev} {n m:Int} {f:Cell} {h:A9} (hD:okD D) (hv:IsView h f D) :
  ∃ v h',aY [.a (vwC D.length n m f)] h=A4 (v,h')/\IsTree h' v (A4l D n)/\Low h.length h h':=by
 obtain ⟨v,h',h1,h2,h3,_⟩:=C1E (n:=n) (m:=m) hD hv;exact ⟨v,h',h1,h2,h3⟩
def C2t {D:Dev} {n m:Int} {f:Cell} {h:A9} (hD:okD D) (hv:IsView h f D) :
  ∃ v h',aY [.a (vwC D.length n m f)] h=A4 (v,h')/\IsTree h' v (A4l D n)/\Grows h h':=by
 obtain ⟨v,h',h1,h2,h3,h4⟩:=C1E (n:=n) (m:=m) hD hv;exact ⟨v,h',h1,h2,h4.grows h3⟩
def nmC:Cell->Option Nat
 | .sl id _ _ _=>A4 id
 | .m id=>A4 id
 | _=>A7
def Nam (h:A9) (r id:Nat):Prop:=∃ R x,rd h r=A4 R/\x∈R.cells/\nmC x=A4 id
structure Fr (r:Nat) (h h':A9):Prop where
 size:h.length<=h'.length
 keep:∀ id,id<h.length->id≠r->¬ Nam h r id->rd h' id=rd h id
 nam:∀ id,Nam h' r id->Nam h r id\/h.length<=id
def Fr.refl (r:Nat) (h:A9):Fr r h h:=⟨D9x _,λ_ _ _ _=>rfl,λ_ hn=>.inl hn⟩
def Fr.trans {r:Nat} {h h' h'':A9} (a:Fr r h h') (b:Fr r h' h''):Fr r h h'':=by
 refine ⟨D93 a.size b.size,λid hid hr hn=>?_,λid hn=>?_⟩
 ·rw [b.keep id (by have:=a.size;omega) hr λhm=>?_,a.keep id hid hr hn];rcases a.nam id hm with h1 | h1
  ·exact hn h1
  ·omega
 ·rcases b.nam id hn with h1 | h1
  ·exact a.nam id h1
  ·exact .inr (by have:=a.size;omega)
def Nam.same {h h':A9} {r id:Nat} (e:rd h' r=rd h r):Nam h' r id↔Nam h r id:=by unfold Nam;rw [e]
def Fr.low {r:Nat} {h h':A9} (hl:Low h.length h h') (hr:r<h.length):Fr r h h' :=
 ⟨hl.2.1,λid hid _ _=>hl.2.2 id hid,λid hn=>.inl ((Nam.same (hl.2.2 r hr)).1 hn)⟩
def Loc (h:A9) (r id:Nat):Prop:=id<h.length/\id≠r/\¬ Nam h r id
def Fr.loc {r id:Nat} {h h':A9} (a:Fr r h h') (hl:Loc h r id):Loc h' r id/\rd h' id=rd h id:=by
 refine ⟨⟨Nat.lt_of_lt_of_le hl.1 a.size,hl.2.1,λhn=>?_⟩,a.keep id hl.1 hl.2.1 hl.2.2⟩;rcases a.nam id hn with h1 | h1
 ·exact hl.2.2 h1
 ·have:=hl.1;omega
def Apt (cs:List Cell) (r:Nat):Prop:=(∀ (i j a:Nat) (x y:Cell),cs[i]?=A4 x->cs[j]?=A4 y->nmC x=A4 a->nmC y=A4 a->i=j)/\∀ x∈cs,nmC x≠A4 r
def Apt.set {cs:List Cell} {r:Nat} (ha:Apt cs r) (off:Nat) {x:Cell} (hx:∀ id,nmC x=A4 id->id≠r/\∀ (j:Nat) y,j≠off->cs[j]?=A4 y->nmC y≠A4 id):Apt (cs.set off x) r:=by
 have look:∀ (j:Nat) (y:Cell),(cs.set off x)[j]?=A4 y->(j=off/\y=x)\/(j≠off/\cs[j]?=A4 y):=by
  intro j y hj;by_cases e:j=off
  ·subst e
   left
   rw [List.getElem?_set] at hj;simp only [if_true] at hj;split at hj
   ·cases hj;exact ⟨rfl,rfl⟩
   ·cases hj
  ·right
   rw [E0o (Ne.symm e)] at hj;exact ⟨e,hj⟩
 refine ⟨λi j a y z hi hj hy hz=>?_,λy hy=>?_⟩
 ·rcases look i y hi with ⟨e1,e2⟩ | ⟨e1,e2⟩<;>rcases look j z hj with ⟨e3,e4⟩ | ⟨e3,e4⟩
  ·rw [e1,e3]
  ·subst e2;exact absurd hz ((hx a hy).2 j z e3 e4)
  ·subst e4;exact absurd hy ((hx a hz).2 i y e1 e2)
  ·exact ha.1 i j a y z e2 e4 hy hz
 ·obtain ⟨j,hj⟩:=List.mem_iff_getElem?.1 hy;rcases look j y hj with ⟨e1,e2⟩ | ⟨e1,e2⟩
  ·subst e2;intro e;exact (hx r e).1 rfl
  ·exact ha.2 y (D9S e2)
def Apt.ne {cs:List Cell} {r:Nat} (ha:Apt cs r) {i j a b:Nat} {x y:Cell} (hi:cs[i]?=A4 x) (hj:cs[j]?=A4 y) (hx:nmC x=A4 a) (hy:nmC y=A4 b) (Z5:i≠j):a≠b:=by
 intro e;subst e;exact Z5 (ha.1 i j a x y hi hj hx hy)
def HeldX.nm {h:A9} {x:Cell} {cs:List Cell} {n sz r:Nat} (hx:HeldX h x cs n sz r) {id:Nat} (e:nmC x=A4 id):x=.sl id 0 n sz/\rd h id=rT cs/\cs.length=n*sz/\id≠r:=by
 rcases hx with ⟨_,_,e2⟩ | ⟨bQ,e2,h1,h2,h3⟩
 ·rw [e2] at e;cases e
 ·subst e2;cases e;exact ⟨rfl,h1,h2,h3⟩
def HeldX.kept {h h':A9} {x:Cell} {cs:List Cell} {n sz r:Nat} (hx:HeldX h x cs n sz r) (hk:∀ id,nmC x=A4 id->rd h' id=rd h id):HeldX h' x cs n sz r :=
 hx.keep λid m e=>hk id (by rw [e];rfl)
structure Cl where
 row:List Int
 ino:List (List Int)
 taken:List Bool
 blocks:List Int
 made:List (List UInt8)
 lost:Int
 lnk:Int->Option Int
 par:Int->Option Int
def MapI (es:Q7) (F:Int->Option Int):Prop:=(∀ e∈es,∃ i,e.1=Cell.i .i64 i)/\∀ i,(A4b (.i .i64 i) es).map (·.2)=(F i).map λv=>Part.c (.i .i64 v)
def A3j (F:Int->Option Int) (a v:Int):Int->Option Int:=λi=>if i=a then A4 v else F i
def D6f {es:Q7} {a:Int} (h:∀ e∈es,∃ i,e.1=Cell.i .i64 i):wV (A4 .i64) (.i .i64 a) es=A5:=by
 simp only [wV,oO,decide_true,D9R,E0k];intro e he;obtain ⟨x,hx⟩:=h e he;rw [hx];simp
def MapI.nil:MapI [] λ_=>A7:=⟨λe he=>by simp at he,λi=>rfl⟩
def MapI.put {es:Q7} {F:Int->Option Int} (hm:MapI es F) (a v:Int):MapI (A4c (.i .i64 a) (.c (.i .i64 v)) es) (A3j F a v):=by
 refine ⟨B55 (Q:=λc=>∃ i,c=.i .i64 i) ⟨a,rfl⟩ hm.1,λi=>?_⟩;unfold A3j;by_cases c:i=a
 ·subst c;rw [if_pos rfl,(zT (k':=.mh)).1];rfl
 ·rw [if_neg c,(zT (k:=.i .i64 a) (k':=.i .i64 i)).2 (by simpa using c)];exact hm.2 i
def D6g {h:A9} {mid:Nat} {es:Q7} {F:Int->Option Int} {a:Int} {ok:Bool} (hr:rd h mid=A4 (K8 es)) (hm:MapI es F):qN h (A4 .i64) (.c o0) ok (.c (.m mid)) (.c (.i .i64 a))=A4 (oV ok (.c (.i .i64 ((F a).getD 0))) (F a).isSome):=by
 simp only [qN,B3S,C4O,hr,D9H,kP];rw [if_pos (D6f hm.1)];have h2:=hm.2 a;cases hg:A4b (.i .i64 a) es with
 | none =>
  rw [hg] at h2;cases hF:F a with
  | none=>rfl
  | some v=>rw [hF] at h2;cases h2
 | some ip =>
  obtain ⟨i,p⟩:=ip;rw [hg] at h2;cases hF:F a with
  | none=>rw [hF] at h2;cases h2
  | some v=>rw [hF] at h2;simp at h2;subst h2;rfl
def D7l {h:A9} {mid:Nat} {es:Q7} {F:Int->Option Int} {a x:Int} (hr:rd h mid=A4 (K8 es)) (hm:MapI es F):xK h (A4 .i64) (.c (.m mid)) (.c (.i .i64 a)) (.c (.i .i64 x))=A4 (h.set mid (A4 (K8 (A4c (.i .i64 a) (.c (.i .i64 x)) es)))):=by
 simp only [xK,B3S,B7y,hr,D9H,kP];rw [if_pos (D6f hm.1)]
def wkC (D:Dev) (n m:Int) (f xr xi xt xb xm:Cell) (lost:Int) (ml mp:Nat):List Cell:=[.i .i64 D.length,.i .i64 n,.i .u64 m,f,xr,xi,xt,xb,xm,.i .i64 lost,.m ml,.m mp]
def jE (l:List (List Int)):List Cell:=(l.map encI).flatten
def bI (l:List Bool):List Cell:=l.map .b
structure WP (D:Dev) (n m:Int) (f:Cell) (g:A9) (r:Nat) (c:Cl) (h:A9):Prop where
 lo:Low g.length g h
 ge:g.length<=r
 low:∀ id,Nam h r id->g.length<=id
 il:∀ x∈c.ino,x.length=11
 ilen:c.ino.length=(n+1).toNat
 tlen:c.taken.length=D.length
 row:∃ xr xi xt xb xm ml mp es1 es2,rd h r=rT (wkC D n m f xr xi xt xb xm c.lost ml mp)/\Apt (wkC D n m f xr xi xt xb xm c.lost ml mp) r /\
  HeldX h xr (encI c.row) c.row.length 1 r/\HeldX h xi (jE c.ino) c.ino.length 11 r/\HeldX h xt (bI c.taken) c.taken.length 1 r /\
  HeldX h xb (encI c.blocks) c.blocks.length 1 r/\HeldX h xm (C8 c.made) c.made.length 256 r /\
  rd h ml=A4 (K8 es1)/\MapI es1 c.lnk/\rd h mp=A4 (K8 es2)/\MapI es2 c.par
section
variable {D:Dev} {n m:Int} {f:Cell} {g:A9} {r:Nat} {c:Cl} {h:A9}
def WP.rlt (P:WP D n m f g r c h):r<h.length:=by
 obtain ⟨_,_,_,_,_,_,_,_,_,h1,_⟩:=P.row;exact D7 h1
def B11 {R:Row} {i id:Nat} {x:Cell} (hr:rd h r=A4 R) (hi:R.cells[i]?=A4 x) (hx:nmC x=A4 id):Nam h r id:=⟨R,x,hr,D9S hi,hx⟩
def B57 (hv:∃ id cs,f=.f id cs) (P:WP D n m f g r c h) {id:Nat} (hn:Nam h r id):id<h.length:=by
 obtain ⟨xr,xi,xt,xb,xm,ml,mp,es1,es2,h1,h2,h3,h4,h5,h6,h7,h8,h9,h10,h11⟩:=P.row;obtain ⟨R,x,hR,hx,hnm⟩:=hn;rw [h1] at hR;cases hR;obtain ⟨fi,fc,rfl⟩:=hv;simp only [wkC,E0B,List.not_mem_nil,or_false] at hx;rcases hx with rfl | rfl | rfl | rfl | rfl | rfl | rfl | rfl | rfl | rfl | rfl | rfl
 ·cases hnm
 ·cases hnm
 ·cases hnm
 ·cases hnm
 ·exact D7 (h3.nm hnm).2.1
 ·exact D7 (h4.nm hnm).2.1
 ·exact D7 (h5.nm hnm).2.1
 ·exact D7 (h6.nm hnm).2.1
 ·exact D7 (h7.nm hnm).2.1
 ·cases hnm
 ·cases hnm;exact D7 h8
 ·cases hnm;exact D7 h10
def WP.keep {h':A9} (P:WP D n m f g r c h) (hlo:Low g.length g h') (hr:rd h' r=rd h r) (hk:∀ id,Nam h r id->rd h' id=rd h id):WP D n m f g r c h':=by
 obtain ⟨xr,xi,xt,xb,xm,ml,mp,es1,es2,h1,h2,h3,h4,h5,h6,h7,h8,h9,h10,h11⟩:=P.row;have k:∀ (i:Nat) (x:Cell) (id:Nat),(wkC D n m f xr xi xt xb xm c.lost ml mp)[i]?=A4 x->nmC x=A4 id->rd h' id=rd h id:=λi x id hi hx=>hk id (B11 h1 hi hx)
 refine ⟨hlo,P.ge,λid hn=>P.low id ((Nam.same hr).1 hn),P.il,P.ilen,P.tlen,xr,xi,xt,xb,xm,ml,mp,es1,es2,by rw [hr];exact h1,h2,h3.kept λid e=>k 4 _ _ rfl e,h4.kept λid e=>k 5 _ _ rfl e,h5.kept λid e=>k 6 _ _ rfl e,h6.kept λid e=>k 7 _ _ rfl e,h7.kept λid e=>k 8 _ _ rfl e,?_,h9,?_,h11⟩
 ·rw [k 10 (.m ml) ml rfl rfl];exact h8
 ·rw [k 11 (.m mp) mp rfl rfl];exact h10
def WP.since {h':A9} (hv:∃ id cs,f=.f id cs) (P:WP D n m f g r c h) (hl:Low h.length h h'):WP D n m f g r c h' :=
 P.keep ⟨P.lo.1,D93 P.lo.2.1 hl.2.1,λid hid=>by rw [hl.2.2 id (by have:=P.lo.2.1;omega)];exact P.lo.2.2 id hid⟩ (hl.2.2 r P.rlt) λid hn=>hl.2.2 id (B57 hv P hn)
def WP.more (hv:∃ id cs,f=.f id cs) (P:WP D n m f g r c h) (t:A9):WP D n m f g r c (h++t):=P.since hv ((Low.refl (D9x _)).new t)
def WP.set {id:Nat} {x:Option Row} (P:WP D n m f g r c h) (hl:Loc h r id) (hg:g.length<=id):WP D n m f g r c (h.set id x):=by
 refine P.keep (P.lo.set hg x) (B7 hl.2.1) λj hj=>B7 λe=>hl.2.2 (by rw [e];exact hj)
def Fr.set {id:Nat} {x:Option Row} {h0:A9} (a:Fr r h0 h) (hl:Loc h r id) (h0l:h0.length<=id):Fr r h0 (h.set id x):=by
 have e:rd (h.set id x) r=rd h r:=B7 hl.2.1;exact ⟨by simpa using a.size,λj hj h1 h2=>by rw [B7 (by omega)];exact a.keep j hj h1 h2,λj hj=>a.nam j ((Nam.same e).1 hj)⟩
end
section
variable (n m m2:Nat) (a0 a1 a2 a3 x0 x1 x2 x3 x4 x5 x6 x7 x8 x9 x10 x11 x12 x13 x17 x18 x19 x20 x21 x22 x27 x28 x29 x30 x31 x32 x37 x38 x39 x72 x73 x74 x75 x76 x77 x78 x79 x88 x89 x90 D8h D8i D8j D5Z D50 D51:Val) (h:A9)
def gH:FD A8:=⟨px 0X13ef407a126a0521b22a0411d6e10420540503d72f01860520114014c0000722401b2a1903a1e0413a4f4c3a703a1e203a1f403a1f03a6c73a70103f042032a1031800500503d712a5d4203140130182,[],[],[.tmp 4],[E1 bS fM]⟩
def A1x:=gH.R
def iG:=mR A1x gH (tT []) n [a0,a1] h
def bF:=gH.K Tryz.func95
def R5:=gH.Q
def iK:OfT A1x R5:=bF.of
def cG:FD A8:=⟨px 0X128f60301a191032f1a04202f2f382f72a2f1e0104121e439002711b0000017236017530282,[],[],[.tmp 6],[lM R5 bF]⟩
def xH:=cG.R
def pI:=mR xH cG (tT []) n [a0,a1,a2,a3] h
def xD:=cG.K Tryz.func98
def cJ:=cG.Q
def pQ:OfT xH cJ:=xD.of
def I8:FD A8:=⟨px 0X126e48867a4883f1c2111002323ef7055e02218026e488611906413019625c1684881851824301c1904f4d04264f6e484f7484f74e4f7013061903f4e3e3f70110321e1d01d6b4521cf60042031c1284881a1c41d4219f5041264215011a070244131889012129420060517011f61820131c41b422e219531c2,[],[.eqN A5 A5 (.t 16)],[.cellN 4 256],[cal B8j,E1 nH A0b,lM cJ xD]⟩
def rY:=I8.R
def rR:J9:=I8.E
def rE:AtH:=I8.lj 0 n [m] [x1,x2,x4,x7]
def A5K:AtH:=I8.lj 1 n [m] [x1,x2,x4,x7]
def fX:TT:=⟨rR,[⟨2,4,rE⟩,⟨2,4,A5K⟩]⟩
def A2z:=mR rY I8 fX n [a0,a1] h
def lF:=mL I8 fX 0 n [m] [x1,x2,x4,x7] h
def aT:=mJ I8 fX 1 n [m] [x1,x2,x4,x7] h
def rV:=I8.K Tryz.func97
def fW:=I8.Q
def A2P:OfT rY fW:=rV.of
def gJ:FD A8:=⟨px 0X622a4054052a3d4006488390488011c148807f4e488180440540503d71711811b622a3054052a3d0613901011113e2e10430540503d71711d112652e11b301c2,[],[],[],[]⟩
def A1y:=gJ.R
def A69:=mR A1y gJ (tT []) n [a0,a1,a2] h
def pH:=gJ.K Tryz.func96
def gQ:=gJ.Q
def A7C:OfT A1y gQ:=pH.of
def Q0:FD A8:=⟨px 0X2c3835312c16f2f16d2042432f6f21ca5e06233041a5f5041800503d2f4041a5f52f41b01b01241022041a5f531d94203021b6461b1d25f1b181f10410540503d2f470193100330022a1a5f506223041a4f52f461824390527a4b5921994c18244421311a4af2e053802218422a280164918c2001a223f5c46e482b0440162d46855816844c390701b38f704124842150307024713401215f4200605110383c2c5935d5b182032bf22a161b01130423a292b51d4228f21b63b51b01251151033b3b0422c1e2b51b421df21b63b41b042032e1041800503d1c1859181942422e153182,[],[.min (.t 20) (.v (.c (.i .i64 6)))],[],[E1 K9 Q1,E1 A0v A6W,lM R5 bF,E1 E3 E8,lM fW rV,lM gQ pH]⟩
def A1w:=Q0.R
def eR:AtH:=Q0.lj 0 n [m] [x1,x2,x4,x5,x6,x21,x22]
def nL:AtH:=Q0.lj 1 n [] [x1,x2,x5,x6]
def qI:=tT [⟨2,7,eR⟩,⟨1,4,nL⟩]
def A67:=mR A1w Q0 qI n [a0,a1] h
def fY:=mL Q0 qI 0 n [m] [x1,x2,x4,x5,x6,x21,x22] h
def sF:=mJ Q0 qI 1 n [] [x1,x2,x5,x6] h
def A1p:=Q0.K Tryz.func45
def gO:=Q0.Q
def A7B:OfT A1w gO:=A1p.of
def G4:FD A8:=⟨px 0X127e4963f494b1c21111111006324af1d055a04a4921849f2d0538022180122a401482d17855e14182404225c104401482d15c54a38067b422ff704123e4235031a27024181328901215d42026251115b752017241032042233817290459420328f600441811d3284215011a07024613401213d42006051102901131e491843b392f128201321c49601031a49181c3021f4c432e219701c2,[],[],[.cellN 4 33],[cal B9r,cal nG,lM R5 bF]⟩
def uX:=G4.R
def sD:AtH:=G4.lj 0 n [m] [x0,x3,x4,x11,x12,x13]
def sC:AtH:=G4.lj 1 n [m] [x0,x3,x4,x11,x12,x13]
def sE:AtH:=G4.lj 2 n [m,m2] [x0,x3,x4,x6,x11,x12,x13,x21]
def A6I:AtH:=G4.lj 3 n [m,m2] [x0,x3,x4,x6,x11,x12,x13,x21]
def T9:=tT [⟨2,6,sD⟩,⟨2,6,sC⟩,⟨3,8,sE⟩,⟨3,8,A6I⟩]
def A3q:=mR uX G4 T9 n [a0,a1] h
def bY:=mL G4 T9 0 n [m] [x0,x3,x4,x11,x12,x13] h
def mI:=mJ G4 T9 1 n [m] [x0,x3,x4,x11,x12,x13] h
def bZ:=mL G4 T9 2 n [m,m2] [x0,x3,x4,x6,x11,x12,x13,x21] h
def mK:=mJ G4 T9 3 n [m,m2] [x0,x3,x4,x6,x11,x12,x13,x21] h
def uT:=G4.K Tryz.func100
def bG:=G4.Q
def A3v:OfT uX bG:=uT.of
def gG:FD A8:=⟨px 0X14bf7007a466a103141022f3b6831868480661110723ff13ef2362c191b12c2802a3e2c3df2d0042336c1042234c1041800503d72e01e2d2b2911d20137023c4602f3b33811001722410222c2a024f420329f18004401482d312e50621301032c11e491b1c501929253312f61b642e31d1950282,[],[],[.cellN 6 4,.tmp 7],[E1 A7M B2s,cal B5h,E1 E3 E8,cal B48]⟩
def pJ:=gG.R
def A68:=mR pJ gG (tT []) n [a0,a1,a2] h
def pG:=gG.K Tryz.func166
def gP:=gG.S
def A45:G3 pJ gP:=pG.flat
def H6:FD A8:=⟨px 0X11b9f402b81b902190000003721b8f19c053801b8492181aff1d001e239020129123e01118102293b33829815f128c128e1a80191819ff1f00441811d33f42550347024513401212bb42026451102901436f199042b92af2ad28282002321d4811e2222222200772198f2c051d801984921818ff480519e018f49218018ef6001a13901013113e0400511e856f171826f0410511d850400511ca55f1181c1224301a1911d94e1ba31d93c031d93c11ac1d91f01301a190421bd1a1aa1bd701bd1e01981bd1f0118a5d01d1eb66625cf15bf2462f1b1b1282801e5b2c5af4c00181a3330400517a53f491874d01c392f1824bf2362c1a1b031841831d45e4235031a270241b134012118b420162511029012304213581041800503d7380191897f7d1c22ff1800441811d33a42150307024713401215b42006051102901033c49291c4594f4d612c2002314a11d4228f500287d21b4224a432e270182,[],[.mkMap,.eqA A6 ([.i .i64,.s,.i .i64]) (.t 54) (.t 55),.mput A7 (.t 58) (.t 61) (.t 64),.look A7 (.c o0) A6 (.t 82) (.t 83)],[.tmp 4],[cal nG,E1 E3 E8,cal A3u,E1 gP pG,cal B9w]⟩
def nE:=H6.R
def W3:AtH:=H6.lj 0 n [m] [x0,x3,x5,x6,x18,x19,x20]
def W4:AtH:=H6.lj 1 n [m,m2] [x0,x3,x5,x6,x8,x18,x19,x20,x30,x31,x32]
def xM:AtH:=H6.lj 2 n [m] [x5,x13,x74,x75,x76]
def A92:AtH:=H6.lj 3 n [m,m2] [x0,x3,x5,x6,x8,x18,x19,x20,x30,x31,x32]
def Z7:=tT [⟨2,7,W3⟩,⟨3,11,W4⟩,⟨2,5,xM⟩,⟨3,11,A92⟩]
def A6B:=mR nE H6 Z7 n [a0,a1] h
def qU:=mL H6 Z7 0 n [m] [x0,x3,x5,x6,x18,x19,x20] h
def eU:=mL H6 Z7 1 n [m,m2] [x0,x3,x5,x6,x8,x18,x19,x20,x30,x31,x32] h
def qV:=mL H6 Z7 2 n [m] [x5,x13,x74,x75,x76] h
def X0:=mJ H6 Z7 3 n [m,m2] [x0,x3,x5,x6,x8,x18,x19,x20,x30,x31,x32] h
def zY:=H6.K Tryz.func101
def eH:=H6.S
def A46:A4D nE eH:=zY.out
def U9:FD A8:=⟨px 0X11b6011d00620622a0054052a3d0613901011113e2f10400540503d71711d1836f1f12f1041b0503d71721222403f19a121bf53128200001301a26f50021382f1041a0503d74f0182b53102920136011d000002722401b1c193041887b6e18f70188719021881a6c18870101b619102781a5c787015022683a01d19d4231339f138f1801282801e382c2ff290038581041b0503d72a01b2b4228f70007904203381041800503d71a0181f4236015301c2,[],[.look (A4 .i64) (.c o0) A5 (.t 21) (.t 22),.look (A4 .i64) (.c o0) A6 (.t 42) (.t 43),.mput (A4 .i64) (.t 42) (.t 43) (.t 45),.mput (A4 .i64) (.t 51) (.t 52) (.t 53)],[.tmp 6],[E1 K9 Q1]⟩
def A1z:=U9.R
def B1N:AtH:=U9.lj 0 n [] []
def A1L:=tT [⟨1,0,B1N⟩]
def iH:=mR A1z U9 A1L n [a0,a1,a2] h
def fZ:=mJ U9 A1L 0 n [] [] h
def A1q:=U9.K Tryz.func102
def gR:=U9.Q
def iL:OfT A1z gR:=A1q.of
def L7:FD A8:=⟨px 0X122c848862be4881b81c21111100006321aff3d051ec0221822ba48860425329c2182ae4881ac1c4181abf11aaf2262d1f1b11e2801c1aa2c1a9f19c0062430218128e504028a19d2b1b3f42017622a5054051c3d50020450540503d711a196222401b2c1901831e81a01e81e101e81f11cc1e81f11e84e01e81e001e81f11bc1e81f3f1e870101b1a1901cc4e1aa31cc3c031cc3c119c1cc1f0101b1a190431b81a2f1b8701b81e01881b81f0103f785a03928d42772359f158f2462f1d1b1282801e582c4ff4900181a3330400516857c491874a01c3d3b18248f2362c1c1b031841831d44c4215011a070241913401217d4200605110290123042135e1041800503d72d0197b796f1a7513c200001332cf12bf248861c191b1628042b2c2af2902b102a5c72b421c181b1852e2291b7502c2,[.c .ns],[.eqA A5 ([.i .i64,.s,.i .i64]) (.t 52) (.t 53),.look A7 (.c o0) A6 (.t 57) (.t 60)],[.cellN 8 256],[cal B76,E1 E3 E8,cal A3u,E1 gP pG,cal B77,E1 A1G A61]⟩
def uY:=L7.R
def aJ:AtH:=L7.lj 0 n [m] [x0,x2,x3,x5,x8,x9,x27,x28,x29]
def A6J:AtH:=L7.lj 1 n [m] [x0,x2,x3,x5,x8,x9,x27,x28,x29]
def iN:=tT [⟨2,9,aJ⟩,⟨2,9,A6J⟩]
def A3r:=mR uY L7 iN n [a0,a1,a2,a3] h
def cA:=mL L7 iN 0 n [m] [x0,x2,x3,x5,x8,x9,x27,x28,x29] h
def Q3:=mJ L7 iN 1 n [m] [x0,x2,x3,x5,x8,x9,x27,x28,x29] h
def uU:=L7.K Tryz.func105
def iJ:=L7.Q
def A3w:OfT uY iJ:=uU.of
def J4:FD A8:=⟨px 0X1ebf1cf05380221801c1e31830461841a33a8138a16f4918712fc171db018181daf1e00441811d33d42350327024613401213a9420362511029011936f4918439f39d39b1c2041a31832de488180410162d44f571be0631221bdf11bcf248861c1b1b11828061bc2c1bbf1b9001736f491ba1c182f4444413721b8f19a053c02218026f0412b850402ac52ae161824061836304129c51f1719e052cd4219df226291a1b021841821d42d4215021a070241813401212af420160511029042536f4918718e052ad2ab2a9328211318df1801382294226f496042436f4918714412012410220410162d44f5428b4203021b6461b1d24f1b181f10410540503d71701943230422a10162d44f50182330410162d45f571181824306191021af1a7f1af701190220405f582b71bd418243201a4ff1104ef24961f065a12e2802c4e2c4df3c001230182130410162d4785041800503d73d01d11b1f1d1833bf21b63b51b042036a1041800503d72e0181b422df21b63b41b013511191033b3b0384c1041b0503d71f01919301c2,[],[.look (A4 .i64) (.c o0) A6 (.t 18) (.t 19),.mkMap,.mput A7 (.t 83) (.t 85) (.t 87)],[],[E1 K9 Q1,E1 E3 E8,cal B9s,lM R5 bF,lM bG uT,E1 eH zY,lM gR A1q,cal B9t,lM gQ pH,cal nG,lM iJ uU]⟩
def A3s:=J4.R
def gU:AtH:=J4.lj 0 n [] [x0,x1,x4,x6]
def gW:AtH:=J4.lj 1 n [m] [x0,x1,x4,x6,x8,x72,x73,x74]
def B3q:AtH:=J4.lj 2 n [m] [x0,x1,x4,x6,x8,x72,x73,x74]
def A1R:AtH:=J4.lj 3 n [m] [x0,x6,x8,D8h,D8i,D8j]
def cP:=tT [⟨1,4,gU⟩,⟨2,8,gW⟩,⟨2,8,B3q⟩,⟨2,6,A1R⟩]
def A9N:=mR A3s J4 cP n [a0,a1] h
def A8m:=mJ J4 cP 0 n [] [x0,x1,x4,x6] h
def iX:=mL J4 cP 1 n [m] [x0,x1,x4,x6,x8,x72,x73,x74] h
def vE:=mJ J4 cP 2 n [m] [x0,x1,x4,x6,x8,x72,x73,x74] h
def vF:=mL J4 cP 3 n [m] [x0,x6,x8,D8h,D8i,D8j] h
def A3l:=J4.K Tryz.func46
def kB:=J4.Q
def A9S:OfT A3s kB:=A3l.of
def R4:FD A8:=⟨px 0X122f66061840503d3f1ef051111113321eef1ba0578022180422a1051e281b1d33383aa1041a0503d3f139810410540503d3f11c01924502204005041b1d2ec10410540503d3f1be01a39f421bdf1900441811d32b4255041a47024513401212ef4203645110290400540503d3f1ac072ed2eb2e91c222201337cf6050026f7b0318042437f13f1318042337f13f131824301c1950229f1a0029f188042229f2f7f29f71f429f3c0150327f18d0192bb4218cf70040411d6f10400540503d3f7d0191f42354121a2702401e120290400540503d3f16f6b0181ed42030162516011d3182222202336af4f052e022181b22a0411d5f10420540503d3f5b018185af500441811d31b42150307024613401211a94200605110290113031801f5519f19d19b1c2034266405383d30121a112c1033e3b001427c0400506e5001b3b17c50020410505c5510111107f4c2d01c319032cf3003a2380116f0380383c4181873182012386603e3b210222410320103031802a1a2b43b42033e4c03a253182,[],[.mkMap,.mput (A4 .i64) (.t 17) (.v (.c (.i .i64 1))) (.v (.c (.i .i64 1))),.build ([o0,o0,.i .u64 0,.nf,.ns,.ns,.ns,.ns,.ns,o0,.nm,.nm]) [(0,4,(.t 15)),(10,1,(.t 16)),(11,1,(.t 18))],.look (A4 .i64) (.c o0) A6 (.t 113) (.t 114)],[.cellN 2 6],[E1 bT fN,E1 A5c B03,E1 K9 Q1,lM gO A1p,lM kB A3l]⟩
def B04:=R4.R
def B7a:AtH:=R4.lj 0 n [m] [x1,x2,x3,x37,x38,x39]
def oK:AtH:=R4.lj 1 n [m] [x1,x2,x3,x6]
def C5Z:AtH:=R4.lj 2 n [m] [x1,x2,x3,x6]
def A8k:AtH:=R4.lj 3 n [m] [x2,x3,x88,x89,x90]
def C50:AtH:=R4.lj 4 n [m] [x2,x3,x88,x89,x90]
def tB:=tT [⟨2,6,B7a⟩,⟨2,4,oK⟩,⟨2,4,C5Z⟩,⟨2,5,A8k⟩,⟨2,5,C50⟩]
def C1J:=mR B04 R4 tB n [a0] h
def A8i:=mL R4 tB 0 n [m] [x1,x2,x3,x37,x38,x39] h
def A8j:=mL R4 tB 1 n [m] [x1,x2,x3,x6] h
def A0I:=mJ R4 tB 2 n [m] [x1,x2,x3,x6] h
def A8l:=mL R4 tB 3 n [m] [x2,x3,x88,x89,x90] h
def A8h:=mJ R4 tB 4 n [m] [x2,x3,x88,x89,x90] h
def B01:=R4.K Tryz.func15
def A44:=R4.S
def B78:C5u B04 A44:=B01.tidy
def mV:FD A8:=⟨px 0X24886464881d2e48818712e451824301a190611f1a01f4b1e1f1e71f701104271183942642e119501c2,[],[],[],[]⟩
def A58:=mV.R
def nD:=mR A58 mV (tT []) n [a0,a1,a2] h
def A52:=mV.K Tryz.func52
def mZ:=mV.Q
def nF:OfT A58 mZ:=A52.of
def D5:FD A8:=⟨px 0X128cf405f4219052062185f01533c810436f1ff0511111114321fef1ec052c01fe4921801fdf2900613901011113e3aa13aa15182439c1f9013eb4521f8f11eef2a00461a11d4154f4d18275061a67024613401213db4205665110290423f1e92b43d93cf3cd1c20131294814b333333305721e8f19f0518a022180004248862c2e4881d12e2802c1dd2c1dcf1cb00463332fc1b182ee1048818044881d2ea15f42de15f1cc591d01b24301a190612fb1a02fb4b5f2fb1e2c82fb7012b81bc0738d7521bbf11baf11b9f1e021e2811c2801a1b92c1b8f1ac0042232ae1031802f1ad2b1b493f3d41d21abf1df1b61a9f1c03b1d1b01b1861a1b1d4163b3918255041a47024713401212c94203645110290413f19c2b42bf2bd2bb5282333013318ff1b050021ee18e031804265f01c3b1fc16f198041835713270240181204021ea11ea11dc1890529b420302625188f1b01de188022f021c244237ff17ef19011a280187e2c7df7a00113031802f7b2b187a7c44444431b279f4f054c02218001c21e5f048818044881d7f10443f51ac16f1181824018120290443f57f5c051c9425bf159f700461a11d415291f18215011a07024713401211a94200605110290433f4c2b419f19d19b1c2034bf607c16c4b18921d424af22a251b01037e4491c41b2401d2014884481780000722401b28190183681a0681e00681f06c681f0684b0681e25c681f0110220290404a2c2b1d18942034884a43a422e375182,[],[],[.tmp 4],[E1 qF A1u,E1 pW yJ,E1 yP A4y,E1 pZ A4C,E1 sY zZ,E1 yL A4u,lM mZ A52]⟩
def dZ:=D5.R
def oX:J9:=D5.E
def cS:AtH:=D5.lj 0 n [m] [x2,x3,x5,x6,x37,x38,x39]
def A3P:AtH:=D5.lj 1 n [m] [x2,x3,x5,x6,x37,x38,x39]
def cU:AtH:=D5.lj 2 n [m] [x2,x3,x5,x6,x9,x10,x11]
def cV:AtH:=D5.lj 3 n [m] [x2,x3,x5,x6,x77,x78,x79]
def A3Q:AtH:=D5.lj 4 n [m] [x2,x3,x5,x6,x77,x78,x79]
def oJ:AtH:=D5.lj 5 n [m] [x5,x6,x17,D5Z,D50,D51]
def A3R:AtH:=D5.lj 6 n [m] [x5,x6,x17,D5Z,D50,D51]
def J7:TT:=⟨oX,[⟨2,7,cS⟩,⟨2,7,A3P⟩,⟨2,7,cU⟩,⟨2,7,cV⟩,⟨2,7,A3Q⟩,⟨2,6,oJ⟩,⟨2,6,A3R⟩]⟩
def A1b:=mR dZ D5 J7 n [a0,a1] h
def iU:=mL D5 J7 0 n [m] [x2,x3,x5,x6,x37,x38,x39] h
def A0H:=mJ D5 J7 1 n [m] [x2,x3,x5,x6,x37,x38,x39] h
def iW:=mL D5 J7 2 n [m] [x2,x3,x5,x6,x9,x10,x11] h
def Z9:=mL D5 J7 3 n [m] [x2,x3,x5,x6,x77,x78,x79] h
def iS:=mJ D5 J7 4 n [m] [x2,x3,x5,x6,x77,x78,x79] h
def aA:=mL D5 J7 5 n [m] [x5,x6,x17,D5Z,D50,D51] h
def iT:=mJ D5 J7 6 n [m] [x5,x6,x17,D5Z,D50,D51] h
def pF:=D5.K Tryz.func21
def W8:=D5.S
def A0q:A4D dZ W8:=pF.out
def jR:FD A8:=⟨px 0X134010229f1a051e02949218011b40138000002722404223c1281e03491521df600441811d31a42150307024413401212f4200605110290401a72b42d2b2962820023340422e253182,[],[],[.tmp 4],[]⟩
def A4J:=jR.R
def B0y:AtH:=jR.lj 0 n [m] [x1,x8,x9,x10]
def B28:=tT [⟨2,4,B0y⟩]
def B7N:=mR A4J jR B28 n [a0,a1] h
def A3S:=mL jR B28 0 n [m] [x1,x8,x9,x10] h
def B2l:=jR.K Tryz.func18
def A43:=jR.S
def B2O:G3 A4J A43:=B2l.flat
end
def gB (D:Dev) (n:Int) (c:Cl) (no:Int):Bool:=N9 D.length n no && !(c.taken.getD no.toNat A5)
def K0 (D:Dev) (n:Int) (c:Cl) (no:Int):Int:=bif gB D n c no then no else 0
def L5 (D:Dev) (n:Int) (c:Cl) (no:Int):Cl:=bif gB D n c no then { c with taken:=c.taken.set no.toNat A5 } else c
def C6F {b n i:Int} (h:N9 b n i=A5):0<=i/\i<b:=by
 unfold N9 at h;simp only [D9v,decide_eq_true_eq] at h;have:=A5u (b:=b) (n:=n);omega
section
variable {D:Dev} {n m:Int} {f:Cell} {g:A9} {r:Nat} {c:Cl} {h:A9}
def WP.take (P:WP D n m f g r c h) {k:Nat} {v:Bool} {xr xi xt xb xm:Cell} {ml mp:Nat} (h1:rd h r=rT (wkC D n m f xr xi xt xb xm c.lost ml mp)) (h0:D.length≠0) :
  ∃ t,xt=.sl t 0 D.length 1/\rd h t=rT (bI c.taken)/\WP D n m f g r { c with taken:=c.taken.set k v } (h.set t (rT (bI (c.taken.set k v))))/\Fr r h (h.set t (rT (bI (c.taken.set k v)))):=by
 obtain ⟨xr',xi',xt',xb',xm',ml',mp',es1,es2,g1,g2,g3,g4,g5,g6,g7,g8,g9,g10,g11⟩:=P.row;have:=h1.symm.trans g1;simp only [D9y,Row.mk.injEq,and_true,wkC,List.cons.injEq,true_and,Cell.m.injEq] at this;obtain ⟨rfl,rfl,rfl,rfl,rfl,rfl,rfl⟩:=this;rcases g5 with ⟨e,_,_⟩ | ⟨t,rfl,t1,t2,t3⟩
 ·rw [P.tlen] at e;exact absurd e h0
 ·rw [P.tlen] at t2 ⊢;have nt:Nam h r t:=B11 (i:=6) g1 rfl rfl;have tg:=P.low t nt;have hr':rd (h.set t (rT (bI (c.taken.set k v)))) r=rd h r:=B7 t3;have oth:∀ (i:Nat) (x:Cell) (id:Nat),(wkC D n m f xr xi (.sl t 0 c.taken.length 1) xb xm c.lost ml mp)[i]?=A4 x->nmC x=A4 id->i≠6->rd (h.set t (rT (bI (c.taken.set k v)))) id=rd h id:=by
   intro i x id hi hx Z5;exact B7 (λe=>(g2.ne hi (show (wkC D n m f xr xi (.sl t 0 c.taken.length 1) xb xm c.lost ml mp)[6]?=A4 (.sl t 0 c.taken.length 1) from rfl) hx rfl Z5) e.symm)
  refine ⟨t,rfl,t1,⟨P.lo.set tg _,P.ge,λid hn=>P.low id ((Nam.same hr').1 hn),P.il,P.ilen,by simpa using P.tlen,xr,xi,.sl t 0 c.taken.length 1,xb,xm,ml,mp,es1,es2,by rw [hr'];exact g1,g2,g3.kept λid e=>oth 4 _ _ rfl e (by decide),g4.kept λid e=>oth 5 _ _ rfl e (by decide),.inr ⟨t,by simp,D1 (D7 t1),by simp [bI],t3⟩,g6.kept λid e=>oth 7 _ _ rfl e (by decide),g7.kept λid e=>oth 8 _ _ rfl e (by decide),?_,g9,?_,g11⟩,by simp,λid hid h1 h2=>B7 λe=>h2 (by rw [<-e];exact nt),λid hn=>.inl ((Nam.same hr').1 hn)⟩
  ·rw [oth 10 (.m ml) ml rfl rfl (by decide)];exact g8
  ·rw [oth 11 (.m mp) mp rfl rfl (by decide)];exact g10
def B3R {no:Int} (P:WP D n m f g r c h):∃ h',R5 [pV r 0,iV no] h=A4 (iV (K0 D n c no),h')/\WP D n m f g r (L5 D n c no) h'/\Fr r h h':=by
 obtain ⟨xr,xi,xt,xb,xm,ml,mp,es1,es2,g1,g2,g3,g4,g5,g6,g7,g8,g9,g10,g11⟩:=id P.row;have lL:D3 h 3 (pV r 0)=A4 (.a (J8 D.length n m)):=T2 g1 (by simp [wkC]) rfl;have lT:B8 h (pV r 6)=A4 (.c xt):=B9 g1 rfl rfl;have hD:=cY (b:=D.length) (n:=n) (m:=m) (i:=no) (h:=h);unfold K0 L5 gB;cases hd:N9 D.length n no with
 | false =>
  rw [hd] at hD;refine ⟨h,iK (n:=0) ?_,P,Fr.refl r h⟩;rw [iG];simp only [esc,Nat.reduceAdd,lL,hD,D9L,cond_false]
 | true =>
  rw [hd] at hD;obtain ⟨i0,i1⟩:=C6F hd;obtain ⟨k,rfl⟩:=E0i i0;have hk:k<D.length:=by omega
  obtain ⟨t,rfl,t1,t2,t3⟩:=P.take (k:=k) (v:=A5) g1 (by omega);have hkt:k<c.taken.length:=by rw [P.tlen];exact hk
  have ad:=D8 (sz:=1) (id:=t) (off:=0) (k:=.i64) hk;have l1:B8 h (pV t (0+k*1))=A4 (bV c.taken[k]):=B9 t1 (by simp [bI,hkt]) rfl;have s1:H1 h (pV t (0+k*1)) (bV A5)=A4 (h.set t (rT (bI (c.taken.set k A5)))):=by
   rw [I3 t1 (by simp [bI,hkt])];simp [bI,List.map_set]
  rw [D9T,Nat.mul_one] at ad l1 s1;have eg:c.taken.getD (Int.toNat (k:Int)) A5=c.taken[k]:=by simp [List.getD,hkt]
  rw [eg,D9N];cases hb:c.taken[k] with
  | true =>
   rw [hb] at l1;refine ⟨h,iK (n:=0) ?_,P,Fr.refl r h⟩;rw [iG];simp only [esc,Nat.reduceAdd,lL,lT,ad,l1,hD,Bool.not_true,Bool.and_false,cond_false]
  | false =>
   rw [hb] at l1;refine ⟨_,iK (n:=0) ?_,t2,t3⟩;rw [iG];simp only [esc,Nat.reduceAdd,lL,lT,ad,l1,s1,hD,Bool.not_true,E0E,Bool.and_true,cond_true]
end
section
variable {D:Dev} {n m:Int} {f:Cell} {g:A9} {r:Nat} {c:Cl} {h:A9}
def WP.apt (P:WP D n m f g r c h) {cs:List Cell} (g1:rd h r=rT cs):Apt cs r:=by
 obtain ⟨xr,xi,xt,xb,xm,ml,mp,es1,es2,h1,h2,_⟩:=P.row;rw [h1] at g1;cases g1;exact h2
def WP.pushed {off:Nat} {x y:Cell} {cs:List Cell} {h3:A9} (hv:∃ id cs,f=.f id cs) (P:WP D n m f g r c h) (g1:rd h r=rT cs) (hx:cs[off]?=A4 x) (r3:rd h3 r=rT (cs.set off y))
  (hid:∀ id,nmC y=A4 id->h.length<=id) (hk:∀ j,j<h.length->j≠r->nmC x≠A4 j->rd h3 j=rd h j) (hl:h.length<=h3.length) :
  Fr r h h3/\Low g.length g h3/\Apt (cs.set off y) r/\(∀ id,Nam h3 r id->g.length<=id)/\∀ (i:Nat) (z:Cell) (j:Nat),i≠off->cs[i]?=A4 z->nmC z=A4 j->rd h3 j=rd h j:=by
 have ha:=P.apt g1;have lt:∀ (i:Nat) (z:Cell) (j:Nat),cs[i]?=A4 z->nmC z=A4 j->j<h.length:=λi z j hi hz=>B57 hv P (B11 g1 hi hz)
 have nam3:∀ id,Nam h3 r id->Nam h r id\/h.length<=id:=by
  intro id hn;obtain ⟨R,z,hR,hz,hnm⟩:=hn;rw [r3] at hR;cases hR;rcases List.mem_or_eq_of_mem_set hz with h1 | h1
  ·exact .inl ⟨_,z,g1,h1,hnm⟩
  ·subst h1;exact .inr (hid id hnm)
 have lg:=P.lo.2.1;refine ⟨⟨hl,λid hid hr hn=>hk id hid hr λe=>hn (B11 g1 hx e),nam3⟩,⟨P.lo.1,by omega,λid hid=>?_⟩,ha.set off λid e=>?_,λid hn=>?_,λi z j hi hz hj=>?_⟩
 ·rw [hk id (by omega) (by have:=P.ge;omega) λe=>?_]
  ·exact P.lo.2.2 id hid
  ·have:=P.low id (B11 g1 hx e);omega
 ·have h1:=hid id e;exact ⟨by have:=P.rlt;omega,λj z _ hz hj=>by have:=lt j z id hz hj;omega⟩
 ·rcases nam3 id hn with h1 | h1
  ·exact P.low id h1
  ·omega
 ·exact hk j (lt i z j hz hj) (λe=>ha.2 z (D9S hz) (by rw [hj,e])) λe=>ha.ne hz hx hj e hi rfl
def WP.mod {off t:Nat} {x:Cell} {cs:List Cell} (P:WP D n m f g r c h) (hv:∃ id cs,f=.f id cs) (g1:rd h r=rT cs) (hx:cs[off]?=A4 x) (hn:nmC x=A4 t) (R:Option Row) :
  Fr r h (h.set t R)/\Low g.length g (h.set t R)/\rd (h.set t R) r=rd h r/\(∀ (i:Nat) (z:Cell) (j:Nat),i≠off->cs[i]?=A4 z->nmC z=A4 j->rd (h.set t R) j=rd h j)/\rd (h.set t R) t=R:=by
 have nt:=B11 g1 hx hn;have tne:t≠r:=λe=>(P.apt g1).2 x (D9S hx) (by rw [hn,e])
 have hr':rd (h.set t R) r=rd h r:=B7 tne;exact ⟨⟨by simp,λid hid h1 h2=>B7 λe=>h2 (by rw [<-e];exact nt),λid hn=>.inl ((Nam.same hr').1 hn)⟩,P.lo.set (P.low t nt) _,hr',λi z j hi hz hj=>B7 λe=>(P.apt g1).ne hx hz hn hj (Ne.symm hi) e,D1 (B57 hv P nt)⟩
def WP.push (hv:∃ id cs,f=.f id cs) (P:WP D n m f g r c h) {off nn sz:Nat} {x:Cell} {cs l ys:List Cell} (g1:rd h r=rT cs) (hx:cs[off]?=A4 x) (hd:HeldX h x l nn sz r) (hl:nn<=100000) (hy:ys.length=sz) (hsz:0<sz) :
  ∃ id h2 h3,B8 h (pV r off)=A4 (.c x)/\qK (h++[rT ys]) sz (.c x) (sV h.length 0 1 sz)=A4 (sV id 0 (nn+1) sz,h2)/\H1 h2 (pV r off) (sV id 0 (nn+1) sz)=A4 h3 /\
   rd h3 r=rT (cs.set off (.sl id 0 (nn+1) sz))/\HeldX h3 (.sl id 0 (nn+1) sz) (l++ys) (nn+1) sz r /\
   Fr r h h3/\Low g.length g h3/\Apt (cs.set off (.sl id 0 (nn+1) sz)) r/\(∀ id,Nam h3 r id->g.length<=id)/\∀ (i:Nat) (z:Cell) (j:Nat),i≠off->cs[i]?=A4 z->nmC z=A4 j->rd h3 j=rd h j:=by
 obtain ⟨id,h2,h3,p1,p2,p3,p4,p5,p6,p7,p8,p9⟩:=D23 g1 hx hd hl hy hsz;obtain ⟨q1,q2,q3,q4,q5⟩:=P.pushed (h3:=h3) (y:=.sl id 0 (nn+1) sz) hv g1 hx p4 (λj e=>by cases e;omega) (λj hj hr hn=>p8 j hj hr λmm e=>hn (by rw [e];rfl)) (by omega);exact ⟨id,h2,h3,p1,p2,p3,p4,.inr ⟨id,rfl,p6,p7,by have:=P.rlt;omega⟩,q1,q2,q3,q4,q5⟩
def WP.pushRow (hv:∃ id cs,f=.f id cs) (P:WP D n m f g r c h) (a:Int) (hl:c.row.length<=100000) :
  ∃ x id h2 h3,B8 h (pV r 4)=A4 (.c x)/\qK (h++[rT [.i .i64 a]]) 1 (.c x) (sV h.length 0 1 1)=A4 (sV id 0 (c.row.length+1) 1,h2)/\H1 h2 (pV r 4) (sV id 0 (c.row.length+1) 1)=A4 h3 /\
   WP D n m f g r { c with row:=c.row++[a] } h3/\Fr r h h3:=by
 obtain ⟨xr,xi,xt,xb,xm,ml,mp,es1,es2,g1,g2,g3,g4,g5,g6,g7,g8,g9,g10,g11⟩:=id P.row;obtain ⟨id,h2,h3,p1,p2,p3,p4,p5,q1,q2,q3,q4,q5⟩:=P.push (off:=4) (ys:=[.i .i64 a]) hv g1 rfl g3 hl rfl (by decide);refine ⟨xr,id,h2,h3,p1,p2,p3,⟨q2,P.ge,q4,P.il,P.ilen,P.tlen,_,xi,xt,xb,xm,ml,mp,es1,es2,p4,q3,?_,g4.kept λid e=>q5 5 _ _ (by decide) rfl e,g5.kept λid e=>q5 6 _ _ (by decide) rfl e,g6.kept λid e=>q5 7 _ _ (by decide) rfl e,g7.kept λid e=>q5 8 _ _ (by decide) rfl e,?_,g9,?_,g11⟩,q1⟩
 ·have e1:encI (c.row++[a])=encI c.row++[.i .i64 a]:=vI _ _;rw [e1,D9A];exact p5
 ·rw [q5 10 (.m ml) ml (by decide) rfl rfl];exact g8
 ·rw [q5 11 (.m mp) mp (by decide) rfl rfl];exact g10
def WP.pushBlk (hv:∃ id cs,f=.f id cs) (P:WP D n m f g r c h) (a:Int) (hl:c.blocks.length<=100000) :
  ∃ x id h2 h3,B8 h (pV r 7)=A4 (.c x)/\qK (h++[rT [.i .i64 a]]) 1 (.c x) (sV h.length 0 1 1)=A4 (sV id 0 (c.blocks.length+1) 1,h2)/\H1 h2 (pV r 7) (sV id 0 (c.blocks.length+1) 1)=A4 h3 /\
   WP D n m f g r { c with blocks:=c.blocks++[a] } h3/\Fr r h h3:=by
 obtain ⟨xr,xi,xt,xb,xm,ml,mp,es1,es2,g1,g2,g3,g4,g5,g6,g7,g8,g9,g10,g11⟩:=id P.row;obtain ⟨id,h2,h3,p1,p2,p3,p4,p5,q1,q2,q3,q4,q5⟩:=P.push (off:=7) (ys:=[.i .i64 a]) hv g1 rfl g6 hl rfl (by decide);refine ⟨xb,id,h2,h3,p1,p2,p3,⟨q2,P.ge,q4,P.il,P.ilen,P.tlen,xr,xi,xt,_,xm,ml,mp,es1,es2,p4,q3,g3.kept λid e=>q5 4 _ _ (by decide) rfl e,g4.kept λid e=>q5 5 _ _ (by decide) rfl e,g5.kept λid e=>q5 6 _ _ (by decide) rfl e,?_,g7.kept λid e=>q5 8 _ _ (by decide) rfl e,?_,g9,?_,g11⟩,q1⟩
 ·have e1:encI (c.blocks++[a])=encI c.blocks++[.i .i64 a]:=vI _ _;rw [e1,D9A];exact p5
 ·rw [q5 10 (.m ml) ml (by decide) rfl rfl];exact g8
 ·rw [q5 11 (.m mp) mp (by decide) rfl rfl];exact g10
def WP.pushMade (hv:∃ id cs,f=.f id cs) (P:WP D n m f g r c h) {b:List UInt8} (hb:b.length=256) (hl:c.made.length<=100000) :
  ∃ x id h2 h3,B8 h (pV r 8)=A4 (.c x)/\qK (h++[rT (B4 b)]) 256 (.c x) (sV h.length 0 1 256)=A4 (sV id 0 (c.made.length+1) 256,h2)/\H1 h2 (pV r 8) (sV id 0 (c.made.length+1) 256)=A4 h3 /\
   WP D n m f g r { c with made:=c.made++[b] } h3/\Fr r h h3:=by
 obtain ⟨xr,xi,xt,xb,xm,ml,mp,es1,es2,g1,g2,g3,g4,g5,g6,g7,g8,g9,g10,g11⟩:=id P.row;obtain ⟨id,h2,h3,p1,p2,p3,p4,p5,q1,q2,q3,q4,q5⟩:=P.push (off:=8) (ys:=B4 b) hv g1 rfl g7 hl (by rw [B5,hb]) (by decide);refine ⟨xm,id,h2,h3,p1,p2,p3,⟨q2,P.ge,q4,P.il,P.ilen,P.tlen,xr,xi,xt,xb,_,ml,mp,es1,es2,p4,q3,g3.kept λid e=>q5 4 _ _ (by decide) rfl e,g4.kept λid e=>q5 5 _ _ (by decide) rfl e,g5.kept λid e=>q5 6 _ _ (by decide) rfl e,g6.kept λid e=>q5 7 _ _ (by decide) rfl e,?_,?_,g9,?_,g11⟩,q1⟩
 ·have e1:C8 (c.made++[b])=C8 c.made++B4 b:=by simp [C8]
  rw [e1,D9A];exact p5
 ·rw [q5 10 (.m ml) ml (by decide) rfl rfl];exact g8
 ·rw [q5 11 (.m mp) mp (by decide) rfl rfl];exact g10
def dU (c:Cl) (no:Int) (b:List UInt8):Cl:={ c with blocks:=c.blocks++[no],made:=c.made++[b] }
def C4M {no:Int} {b:List UInt8} (hv:∃ id cs,f=.f id cs) (P:WP D n m f g r c h) (hb:b.length=256) (h1:c.blocks.length<=100000) (h2:c.made.length<=100000) :
  ∃ h',gQ [pV r 0,iV no,.a (B4 b)] h=A4 (.t [],h')/\WP D n m f g r (dU c no b) h'/\Fr r h h':=by
 have hbl:(B4 b).length=256:=by rw [B5,hb]
 have P1:=P.more hv [rT (B4 b)];have F1:Fr r h (h++[rT (B4 b)]):=Fr.low ((Low.refl (D9x _)).new _) P.rlt;obtain ⟨G,hG⟩:∃ G,G=h++[rT (B4 b)]:=⟨_,rfl⟩;have hl0:Loc G r h.length:=by
  rw [hG];refine ⟨by simp,by have:=P.rlt;omega,λhn=>?_⟩;have:=B57 hv P ((Nam.same (E2 P.rlt)).1 hn);omega
 have hr0:rd G h.length=rT (B4 b):=by rw [hG];exact O8
 rw [<-hG] at P1 F1;obtain ⟨x,id,g2,g3,a1,a2,a3,a4,a5⟩:=P1.pushBlk hv no h1;obtain ⟨l1,l2⟩:=a5.loc hl0;rw [hr0] at l2;have lB:D3 g3 256 (pV h.length 0)=A4 (.a (B4 b)):=C9 l2 hbl;obtain ⟨x',bQ,g4,g5,b1,b2,b3,b4,b5⟩:=a4.pushMade hv hb h2;refine ⟨g5,A7C (n:=0) ?_,b4,F1.trans (a5.trans b5)⟩;rw [A69];have ef:E7 (D9w 256 (Cell.i .u8 0)) [(0,256,.a (B4 b))]=A4 (B4 b):=C2L hb;have ef0:E7 [o0] [(0,1,iV no)]=A4 [.i .i64 no]:=rfl;have es:(g3++[A7]).set g3.length (rT (B4 b))=g3++[rT (B4 b)]:=by simp
 rw [hG] at a1 a2;simp only [D9C,D99,D9U,D9A,D9G,D95,D9T] at a2;generalize B4 b=B at *;generalize D9w 256 (Cell.i .u8 0)=Z at *;simp only [esc,Nat.reduceAdd,E0D,ef0,a1,a2,a3,lB,ef,b1,b2,b3];rfl
end
def R9 (D:Dev) (n:Int) (c:Cl) (ino:Int):Bool:=!(decide (ino=1)||decide (kdV D n ino=0)||decide (kdV D n ino=2)&&(c.par ino).isSome)
def A0W (c:Cl) (ino:Int):Cl:={ c with lnk:=A3j c.lnk ino ((c.lnk ino).getD 0+1) }
def C07 (c:Cl) (dir ino:Int):Cl:={ c with par:=A3j c.par ino dir,row:=c.row++[ino] }
def aI (D:Dev) (n:Int) (c:Cl) (dir ino:Int):Cl:=bif R9 D n c ino then (bif (c.par ino).isSome then A0W c ino else C07 (A0W c ino) dir ino) else c
section
variable {D:Dev} {n m:Int} {f:Cell} {g:A9} {r:Nat} {c:Cl} {h:A9}
def WP.setLnk (hv:∃ id cs,f=.f id cs) (P:WP D n m f g r c h) (a v:Int):∃ ml h',B8 h (.c (.p r 10))=A4 (.c (.m ml))/\(∀ ok i,qN h (A4 .i64) (.c o0) ok (.c (.m ml)) (.c (.i .i64 i))=A4 (oV ok (.c (.i .i64 ((c.lnk i).getD 0))) (c.lnk i).isSome)) /\
  xK h (A4 .i64) (.c (.m ml)) (.c (.i .i64 a)) (.c (.i .i64 v))=A4 h'/\WP D n m f g r { c with lnk:=A3j c.lnk a v } h'/\Fr r h h':=by
 obtain ⟨xr,xi,xt,xb,xm,ml,mp,es1,es2,g1,g2,g3,g4,g5,g6,g7,g8,g9,g10,g11⟩:=id P.row;have l1:B8 h (.c (.p r 10))=A4 (.c (.m ml)):=B9 g1 rfl rfl;obtain ⟨q1,q2,q3,q4,q5⟩:=P.mod (off:=10) (x:=.m ml) hv g1 rfl rfl (A4 (K8 (A4c (.i .i64 a) (.c (.i .i64 v)) es1)));refine ⟨ml,_,l1,λok i=>D6g g8 g9,D7l g8 g9,⟨q2,P.ge,λid hn=>P.low id ((Nam.same q3).1 hn),P.il,P.ilen,P.tlen,xr,xi,xt,xb,xm,ml,mp,_,es2,by rw [q3];exact g1,g2,g3.kept λid e=>q4 4 _ _ (by decide) rfl e,g4.kept λid e=>q4 5 _ _ (by decide) rfl e,g5.kept λid e=>q4 6 _ _ (by decide) rfl e,g6.kept λid e=>q4 7 _ _ (by decide) rfl e,g7.kept λid e=>q4 8 _ _ (by decide) rfl e,q5,g9.put a v,?_,g11⟩,q1⟩;rw [q4 11 (.m mp) mp (by decide) rfl rfl];exact g10
def WP.setPar (hv:∃ id cs,f=.f id cs) (P:WP D n m f g r c h) (a v:Int):∃ mp h',B8 h (.c (.p r 11))=A4 (.c (.m mp))/\(∀ ok i,qN h (A4 .i64) (.c o0) ok (.c (.m mp)) (.c (.i .i64 i))=A4 (oV ok (.c (.i .i64 ((c.par i).getD 0))) (c.par i).isSome)) /\
  xK h (A4 .i64) (.c (.m mp)) (.c (.i .i64 a)) (.c (.i .i64 v))=A4 h'/\WP D n m f g r { c with par:=A3j c.par a v } h'/\Fr r h h':=by
 obtain ⟨xr,xi,xt,xb,xm,ml,mp,es1,es2,g1,g2,g3,g4,g5,g6,g7,g8,g9,g10,g11⟩:=id P.row;have l1:B8 h (.c (.p r 11))=A4 (.c (.m mp)):=B9 g1 rfl rfl;obtain ⟨q1,q2,q3,q4,q5⟩:=P.mod (off:=11) (x:=.m mp) hv g1 rfl rfl (A4 (K8 (A4c (.i .i64 a) (.c (.i .i64 v)) es2)));refine ⟨mp,_,l1,λok i=>D6g g10 g11,D7l g10 g11,⟨q2,P.ge,λid hn=>P.low id ((Nam.same q3).1 hn),P.il,P.ilen,P.tlen,xr,xi,xt,xb,xm,ml,mp,es1,_,by rw [q3];exact g1,g2,g3.kept λid e=>q4 4 _ _ (by decide) rfl e,g4.kept λid e=>q4 5 _ _ (by decide) rfl e,g5.kept λid e=>q4 6 _ _ (by decide) rfl e,g6.kept λid e=>q4 7 _ _ (by decide) rfl e,g7.kept λid e=>q4 8 _ _ (by decide) rfl e,?_,g9,q5,g11.put a v⟩,q1⟩;rw [q4 10 (.m ml) ml (by decide) rfl rfl];exact g8
def WP.view (P:WP D n m f g r c h):D3 h 4 (pV r 0)=A4 (.a (vwC D.length n m f)):=by
 obtain ⟨xr,xi,xt,xb,xm,ml,mp,es1,es2,g1,_⟩:=P.row;exact T2 g1 (by simp [wkC]) rfl
def D5X {dir ino:Int} (hD:okD D) (hv:IsView g f D) (P:WP D n m f g r c h) (hl:c.row.length<=100000) (hk:0<=(c.lnk ino).getD 0/\(c.lnk ino).getD 0<1000000) :
  ∃ h',gR [pV r 0,iV dir,iV ino] h=A4 (bV (R9 D n c ino),h')/\WP D n m f g r (aI D n c dir ino) h'/\Fr r h h':=by
 have hv2:=hv.get;have lV:=P.view;have hI:=Z0 (n:=n) (m:=m) (i:=ino) hD (hv.since P.lo);rw [A11] at hI;have f0:∀ k l s p d,B3g (.a (D4 k l s p d)) 0=A4 (iV k):=λ_ _ _ _ _=>rfl
 obtain ⟨mp,h9,b1,b2,b3,b4,b5⟩:=P.setPar hv2 ino dir;have b2':=b2 A5 ino;obtain ⟨ml,h1,a1,a2,a3,a4,a5⟩:=P.setLnk hv2 ino ((c.lnk ino).getD 0+1);have a2':=a2 A6 ino;have w1:D9B .i64 ((c.lnk ino).getD 0+1)=(c.lnk ino).getD 0+1:=wrap_i64 (by omega) (by omega);have no:R9 D n c ino=A6->∃ h',gR [pV r 0,iV dir,iV ino] h=A4 (bV A6,h')/\WP D n m f g r c h'/\Fr r h h':=by
  intro hb;refine ⟨h,iL (n:=0) ?_,P,Fr.refl r h⟩;rw [iH];unfold R9 at hb;simp only [Bool.not_eq_false',E0y,D9v,decide_eq_true_eq] at hb;by_cases c1:ino=1
  ·have n1:(1:Int)=1:=rfl;subst c1;generalize vwC D.length n m f=V at *;simp only [esc,lV,hI,f0,b1,b2',oV,mD,decide_true]
  ·by_cases c2:kdV D n ino=0
   ·generalize vwC D.length n m f=V at *;simp only [esc,lV,hI,f0,b1,b2',oV,mD,c1,c2,decide_true,decide_false]
   ·have c3:kdV D n ino=2/\(c.par ino).isSome=A5:=by
     rcases hb with (h | h) | h
     ·exact absurd h c1
     ·exact absurd h c2
     ·exact h
    obtain ⟨c3,c4⟩:=c3;have n20:¬ (2:Int)=0:=by decide
    generalize vwC D.length n m f=V at *;simp only [esc,lV,hI,f0,b1,b2',oV,mD,c1,c3,c4,n20,decide_true,decide_false]
 cases hb:R9 D n c ino with
 | false =>
  obtain ⟨h',e1,e2,e3⟩:=no hb;exact ⟨h',e1,by unfold aI;rw [hb];exact e2,e3⟩
 | true =>
  unfold aI;rw [hb];unfold R9 at hb;simp only [E0e,Bool.or_eq_false_iff,Bool.and_eq_false_iff,decide_eq_false_iff_not] at hb;obtain ⟨⟨c1,c2⟩,c3⟩:=hb;have P1:WP D n m f g r (A0W c ino) h1:=a4;cases hs:(c.par ino).isSome with
  | true =>
   have c4:¬ kdV D n ino=2:=by
    rcases c3 with h | h
    ·exact h
    ·rw [hs] at h;cases h
   refine ⟨h1,iL (n:=0) ?_,P1,a5⟩;rw [iH];rw [hs] at b2';generalize vwC D.length n m f=V at *;simp only [esc,lV,hI,f0,b1,b2',oV,mD,c1,c2,c4,decide_false,a1,a2',P6,w1,a3,fZ]
  | false =>
   obtain ⟨mp',h2,d1,d2,d3,d4,d5⟩:=P1.setPar hv2 ino dir;obtain ⟨x,id,g2,g3,e1,e2,e3,e4,e5⟩:=d4.pushRow hv2 ino hl;have e4':WP D n m f g r (C07 (A0W c ino) dir ino) g3:=e4;refine ⟨g3,iL (n:=0) ?_,e4',(a5.trans d5).trans e5⟩;rw [iH];rw [hs] at b2';have ef0:E7 [o0] [(0,1,iV ino)]=A4 [.i .i64 ino]:=rfl;generalize vwC D.length n m f=V at *;by_cases c4:kdV D n ino=2
   ·have n20:¬ (2:Int)=0:=by decide
    simp only [esc,lV,hI,f0,b1,b2',oV,mD,c1,c4,n20,decide_true,decide_false,a1,a2',P6,w1,a3,d1,d3,ef0,e1,e2,e3,fZ]
   ·simp only [esc,lV,hI,f0,b1,b2',oV,mD,c1,c2,c4,decide_true,decide_false,a1,a2',P6,w1,a3,d1,d3,ef0,e1,e2,e3,fZ]
end
def hmS (D:Dev) (X:List Int) (nm:List UInt8):Option Slt:=if P7 X nm=0 then A7 else X8 (blk D (P7 X nm)) nm
def B6o (no:Int) (o:Option Slt):List Cell:=.i .i64 no::slC o
def D5q {D:Dev} {n m:Int} {f xr xi xt xb xm:Cell} {lost:Int} {ml mp:Nat} (hf:f.isX=A6) (h1:xr.isX=A6) (h2:xi.isX=A6) (h3:xt.isX=A6) (h4:xb.isX=A6) (h5:xm.isX=A6):noX (wkC D n m f xr xi xt xb xm lost ml mp)=A5:=by
 simp only [noX,wkC,E0j,List.all_nil,hf,h1,h2,h3,h4,h5];rfl
def HeldX.isX {h:A9} {x:Cell} {cs:List Cell} {n sz r:Nat} (hx:HeldX h x cs n sz r):x.isX=A6:=by
 rcases hx with ⟨_,_,rfl⟩ | ⟨id,rfl,_⟩<;>rfl
section
variable {D:Dev} {n m:Int} {f:Cell} {g:A9} {r:Nat} {c:Cl} {h:A9}
def VwR (h:A9) (r:Nat) (V:List Cell):Prop:=∃ cs w,rd h r=A4 ⟨cs,w⟩/\cs.take 4=V/\4<=cs.length/\noX cs=A5
def VwR.ro {V:List Cell} (a:VwR h r V):VwR (ro h) r V:=by
 obtain ⟨cs,w,h1,h2,h3,h4⟩:=a;exact ⟨cs,A6,B4m h1 h4,h2,h3,h4⟩
def VwR.more {V:List Cell} (a:VwR h r V) (t:A9):VwR (h++t) r V:=by
 obtain ⟨cs,w,h1,h2⟩:=a;exact ⟨cs,w,B6 h1,h2⟩
def VwR.since {V:List Cell} {h':A9} (a:VwR h r V) (hl:Low h.length h h'):VwR h' r V:=by
 obtain ⟨cs,w,h1,h2⟩:=a;exact ⟨cs,w,hl.rd h1,h2⟩
def VwR.load {V:List Cell} (a:VwR h r V):D3 h 4 (pV r 0)=A4 (.a V):=by
 obtain ⟨cs,w,h1,h2,h3,h4⟩:=a;rw [T2 h1 (by omega) (by
  rw [D9O];have:noX (cs.take 4)=A5:=by
   unfold noX at h4 ⊢;rw [E0k] at h4 ⊢;exact λx hx=>h4 x (List.mem_of_mem_take hx)
  rw [this];simp),D9O,h2]
def WP.vw (hv:∃ id cs,f=.f id cs) (P:WP D n m f g r c h):VwR h r (vwC D.length n m f):=by
 obtain ⟨xr,xi,xt,xb,xm,ml,mp,es1,es2,g1,g2,g3,g4,g5,g6,g7,_⟩:=P.row;obtain ⟨_,_,rfl⟩:=hv;exact ⟨_,A5,g1,rfl,by simp [wkC],D5q rfl g3.isX g4.isX g5.isX g6.isX g7.isX⟩
def C9R {d:Int} {t:List Int} {nm:List UInt8} (hD:okD D) (hv:IsView h f D) (hr:VwR h r (vwC D.length n m f)) (ht:t.length=32) (hs:nm.length<9223372036854775807) :
  gP [pV r 0,.a (encI (d::t)),.c (.s nm)] h=A4 (.t [.a (B6o (P7 (d::t) nm) (hmS D (d::t) nm)),.c (.b (hmS D (d::t) nm).isSome)],h):=by
 have hX:(encI (d::t)).length=33:=by simp [C1,ht]
 have hv1:=hv.ro;have lV:=λtt=>(hr.ro.more tt).load
 have key:∃ g',pJ 0 [pV r 0,.a (encI (d::t)),.c (.s nm)] (ro h)=A4 (.t [.a (B6o (P7 (d::t) nm) (hmS D (d::t) nm)),.c (.b (hmS D (d::t) nm).isSome)],g'):=by
  generalize ro h=g at *;have hM:=λh=>B56 (s:=nm) hs (h:=h)
  have hP:=λh=>A8E (d:=d) (h:=h) ht (C4S (s:=nm))
  have T1:=C6z (d::t) nm;have eP:B8v nm%C4 d=vN (d::t) nm:=rfl;rw [eP] at hP;have ad:∀ q,I5 32 1 (pV q 1) (iV (vN (d::t) nm:Nat))=A4 (pV q (1+vN (d::t) nm)):=λq=>by
   rw [D2c (by omega) (by omega)];simp
  have l1:ld1 (rT (encI (d::t))) (1+vN (d::t) nm)=A4 (iV (P7 (d::t) nm)):=by
   rw [zF];have:(encI (d::t))[1+vN (d::t) nm]?=A4 (.i .i64 (P7 (d::t) nm)):=by
    rw [H0,Nat.add_comm,D9Z,D9u (by omega)];unfold P7;rw [List.tail_cons,D9z,D9u (by omega)];rfl
   rw [this];rfl
  have ef0:E7 [o0,o0,.s [],o0] []=A4 (B6o 0 A7):=rfl;have ef1:∀ (no:Int) (o:Option Slt),E7 [o0,o0,.s [],o0] [(0,1,iV no),(1,3,.a (slC o))]=A4 (B6o no o):=λno o=>by cases o<;>rfl
  have z4:∀ o no,stN (rT [o0,o0,.s [],o0]) 0 4 (B6o no o)=rT (B6o no o):=λo no=>by cases o<;>rfl
  have l4:∀ o no,ldN (rT (B6o no o)) 0 4=A4 (.a (B6o no o)):=λo no=>by cases o<;>rfl
  have s3:∀ o,stN (rT [o0,.s [],o0]) 0 3 (slC o)=rT (slC o):=λo=>by cases o<;>rfl
  have l3:∀ o,ldN (rT (slC o)) 0 3=A4 (.a (slC o)):=λo=>by cases o<;>rfl
  have l33:ldN (rT (encI (d::t))) 0 33=A4 (.a (encI (d::t))):=L9 hX;rw [A68];unfold hmS;have hB:=λtt=>N1 (n:=n) (m:=m) (no:=P7 (d::t) nm) (h:=g++tt) hD (hv1.more _)
  have hF:=λh=>A0E (b:=blk D (P7 (d::t) nm)) (nm:=nm) (h:=h) (J3 hD)
  generalize P7 (d::t) nm=B at *;generalize vN (d::t) nm=P at *;by_cases c0:B=0
  ·rw [if_pos c0,c0];rw [c0] at l1;generalize encI (d::t)=X at *;generalize vwC D.length n m f=V at *;exact ⟨_,by simp only [esc,O9,G6,Z4,J2,O3,F8,L9,cK,hM,hP,ad,l1,l33,decide_true,ef0,z4,l4,E0n]<;>rfl⟩
  ·rw [if_neg c0];generalize X8 (blk D B) nm=o at *;generalize B4 (blk D B)=y at *;generalize encI (d::t)=X at *;generalize vwC D.length n m f=V at *;exact ⟨_,by simp only [esc,O9,G6,Z4,J2,O3,F8,L9,cK,Nat.reduceAdd,hM,hP,ad,l1,l33,c0,decide_false,lV,hB,hF,ef1,z4,l4,s3,l3]<;>rfl⟩
 obtain ⟨g',e⟩:=key;exact A45 e (by cases hmS D (d::t) nm<;>rfl)
end
def LocV (h:A9) (r id:Nat) (cs:List Cell):Prop:=Loc h r id/\rd h id=rT cs
section
variable {D:Dev} {n m:Int} {f:Cell} {g:A9} {r:Nat} {c:Cl} {h:A9}
def LocV.fr {h':A9} {id:Nat} {cs:List Cell} (a:LocV h r id cs) (b:Fr r h h'):LocV h' r id cs:=by
 obtain ⟨h1,h2⟩:=b.loc a.1;exact ⟨h1,by rw [h2];exact a.2⟩
def LocV.set {id j:Nat} {cs:List Cell} {x:Option Row} (a:LocV h r id cs) (hj:j≠id) (hl:j≠r):LocV (h.set j x) r id cs:=by
 refine ⟨⟨by simpa using a.1.1,a.1.2.1,λhn=>a.1.2.2 ((Nam.same (B7 hl)).1 hn)⟩,by rw [B7 hj];exact a.2⟩
def LocV.self {id:Nat} {cs cs':List Cell} (a:LocV h r id cs):LocV (h.set id (rT cs')) r id cs' :=
 ⟨⟨by simpa using a.1.1,a.1.2.1,λhn=>a.1.2.2 ((Nam.same (B7 a.1.2.1)).1 hn)⟩,D1 a.1.1⟩
def LocV.new (hv:∃ id cs,f=.f id cs) (P:WP D n m f g r c h) {t:A9} {k:Nat} {cs:List Cell} (hk:t[k]?=A4 (rT cs)):LocV (h++t) r (h.length+k) cs:=by
 have hk2:=(List.getElem?_eq_some_iff.1 hk).1;refine ⟨⟨by simp;omega,by have:=P.rlt;omega,λhn=>?_⟩,?_⟩
 ·have:=B57 hv P ((Nam.same (E2 P.rlt)).1 hn);omega
 ·unfold rd;rw [D9P (by omega),show h.length+k-h.length=k by omega,hk];rfl
def D2Y {k:Nat} {x many:Int} {pm pw:Nat} (P:WP D n m f g r c h) (hm:LocV h r pm [.i .i64 many]) (hw:LocV h r pw [.p r 0]) (hk:k<128) :
  ∃ h',cJ [iV (k:Int),iV x,pV pm 0,pV pw 0] h=A4 (bV (decide ((k:Int)+6<many) && !decide (K0 D n c x=0)),h') /\
   WP D n m f g r (if (k:Int)+6<many then L5 D n c x else c) h'/\Fr r h h':=by
 have l1:B8 h (pV pm 0)=A4 (iV many):=B9 hm.2 rfl rfl;have l2:B8 h (pV pw 0)=A4 (pV r 0):=B9 hw.2 rfl rfl;have w1:D9B .i64 ((k:Int)+6)=(k:Int)+6:=wrap_i64 (by omega) (by omega);by_cases c1:(k:Int)+6<many
 ·obtain ⟨h',e1,e2,e3⟩:=B3R (no:=x) P;refine ⟨h',pQ (n:=0) ?_,by rw [if_pos c1];exact e2,e3⟩;rw [pI];simp only [esc,w1,l1,l2,c1,e1,D9R]
 ·refine ⟨h,pQ (n:=0) ?_,by rw [if_neg c1];exact P,Fr.refl r h⟩;rw [pI];simp only [esc,w1,l1,l2,c1,D9L]
def S6 (D:Dev) (n many:Int) (s:Cl × List UInt8) (k:Nat):Cl × List UInt8 :=
 if ptP s.2 k=0 then s else
  (if (k:Int)+6<many then L5 D n s.1 (ptP s.2 k) else s.1,bif decide ((k:Int)+6<many) && !decide (K0 D n s.1 (ptP s.2 k)=0) then s.2 else G0 s.2 (2*k) (C6 2 0))
def O5 (D:Dev) (n many:Int):Nat->Nat->Cl × List UInt8->Cl × List UInt8
 | 0,_,s=>s
 | e+1,k,s=>O5 D n many e (k+1) (S6 D n many s k)
def A34 {D:Dev} {n many:Int} {s:Cl × List UInt8} {k:Nat} (hs:s.2.length=256) (hk:k<128):(S6 D n many s k).2.length=256:=by
 unfold S6;split
 ·exact hs
 ·dsimp only;cases (decide ((k:Int)+6<many) && !decide (K0 D n s.1 (ptP s.2 k)=0)) with
  | true=>exact hs
  | false=>rw [cond_false,K5 (by rw [hs,N0];omega)];exact hs
def B5W {D:Dev} {n many:Int}:∀ {e k:Nat} {s:Cl × List UInt8},k+e<=128->s.2.length=256->(O5 D n many e k s).2.length=256
 | 0,_,s,_,hs=>hs
 | e+1,k,s,hk,hs=>by
  rw [O5];exact B5W (by omega) (A34 hs (by omega))
def C7b {many:Int} {pm pw q0 q1 q:Nat} {h0:A9} (h0g:g.length<=h0.length) (a0:h0.length<=q0) (a1:h0.length<=q1) (n1:q0≠q1) (n2:q0≠pm) (n3:q0≠pw):∀ (e k M:Nat) (s:Cl × List UInt8) (h:A9),k+e=128->e<M->s.2.length=256 ->
  WP D n m f g r s.1 h->Fr r h0 h->LocV h r pm [.i .i64 many]->LocV h r pw [.p r 0]->LocV h r q0 (B4 s.2)->(∃ z,z.length=256/\LocV h r q1 z) ->
  ∃ h',rE q M (.c (.f 98 [(pm,0),(pw,0)])) (pV q0 0) (pV q1 0) (iV (k:Int)) h=A4 (.a (B4 (O5 D n many e k s).2),h')/\WP D n m f g r (O5 D n many e k s).1 h'/\Fr r h0 h'
 | e,k,0,s,h,_,hM,_,_,_,_,_,_,_=>by omega
 | 0,k,M+1,s,h,hk,hM,hs,P,F,hm,hw,hb,hz=>by
  have c0:¬ ((k:Int)<128):=by omega
  obtain ⟨z,uS,hz⟩:=hz;have hl:(B4 s.2).length=256:=by rw [B5,hs]
  have l1:=C9 (n:=256) hb.2 hl;have s1:=storeAll (n:=256) (xs:=B4 s.2) hz.2 uS hl;have hz2:=hz.self (cs':=B4 s.2);have l2:=C9 (n:=256) hz2.2 hl;refine ⟨h.set q1 (rT (B4 s.2)),?_,P.set hz.1 (by omega),F.set hz.1 a1⟩;rw [lF];unfold O5;generalize B4 s.2=B at *;simp only [esc,c0,l1,s1,l2]
 | e+1,k,M+1,s,h,hk,hM,hs,P,F,hm,hw,hb,hz=>by
  have c0:((k:Int)<128):=by omega
  have hk1:k<128:=by omega
  have hl:(B4 s.2).length=256:=by rw [B5,hs]
  have l1:=C9 (n:=256) hb.2 hl;have hG:=B0V (h:=h) hs hk1;have w1:=D9 (show k+1<9223372036854775808 by omega);have hfs:=A34 (D:=D) (n:=n) (many:=many) hs hk1;have ih:=λh=>C7b (q:=q) (many:=many) h0g a0 a1 n1 n2 n3 e (k+1) M (S6 D n many s k) h (by omega) (by omega) hfs
  have hcv:∀ (k x:Val) (h:A9),qT rR (.c (.f 98 [(pm,0),(pw,0)])) [k,x] h=cJ [k,x,pV pm 0,pV pw 0] h:=λ_ _ _=>Eq.trans rfl rfl
  rw [lF,O5];by_cases cz:ptP s.2 k=0
  ·have ef:S6 D n many s k=s:=by unfold S6;rw [if_pos cz]
   rw [ef] at ih ⊢;obtain ⟨h',e1,e2⟩:=ih h P F hm hw hb hz;refine ⟨h',?_,e2⟩;rw [cz] at hG;generalize B4 s.2=B at *;simp only [esc,c0,l1,hG,aT,w1];exact e1
  ·obtain ⟨h1,f1,f2,f3⟩:=D2Y (x:=ptP s.2 k) P hm hw hk1;have hb1:=hb.fr f3;have hm1:=hm.fr f3;have hw1:=hw.fr f3;obtain ⟨z,uS,hz⟩:=hz;have hz1:=hz.fr f3;cases hok:(decide ((k:Int)+6<many) && !decide (K0 D n s.1 (ptP s.2 k)=0)) with
   | true =>
    have ef:S6 D n many s k=(if (k:Int)+6<many then L5 D n s.1 (ptP s.2 k) else s.1,s.2):=by unfold S6;rw [if_neg cz,hok];rfl
    rw [ef] at ih ⊢;obtain ⟨h',e1,e2⟩:=ih h1 f2 (F.trans f3) hm1 hw1 hb1 ⟨z,uS,hz1⟩;refine ⟨h',?_,e2⟩;rw [hok] at f1
    try dsimp only at e1
    generalize B4 s.2=B at *;simp only [esc,c0,l1,hG,cz,hcv,f1,aT,w1];exact e1
   | false =>
    have ef:S6 D n many s k=(if (k:Int)+6<many then L5 D n s.1 (ptP s.2 k) else s.1,G0 s.2 (2*k) (C6 2 0)):=by unfold S6;rw [if_neg cz,hok];rfl
    rw [ef] at ih hfs ⊢;have hW:=λh=>U8 (h:=h) (l:=s.2) hs (a:=((2*k:Nat):Int)) (w:=2) (v:=0)
    rw [D4v (by omega)] at hW;have lb1:=C9 (n:=256) hb1.2 hl;have hl2:(B4 (G0 s.2 (2*k) (C6 2 0))).length=256:=by rw [B5];exact hfs
    have sb1:=storeAll (n:=256) (xs:=B4 (G0 s.2 (2*k) (C6 2 0))) hb1.2 hl hl2;obtain ⟨h',e1,e2⟩:=ih _ (f2.set hb1.1 (by omega)) ((F.trans f3).set hb1.1 a0) (hm1.set n2 hb1.1.2.1) (hw1.set n3 hb1.1.2.1) hb1.self ⟨z,uS,hz1.set n1 hb1.1.2.1⟩;refine ⟨h',?_,e2⟩;rw [hok] at f1
    try dsimp only at e1
    generalize B4 (G0 s.2 (2*k) (C6 2 0))=B2 at *;generalize B4 s.2=B at *;simp only [esc,c0,l1,hG,cz,hcv,f1,lb1,D4u (show k<128 by omega),hW,sb1,aT,w1];exact e1
end
def V9 {x:List Int} {l:List (List Int)}:jE (x::l)=encI x++jE l:=rfl
def kN:∀ {l:List (List Int)},(∀ x∈l,x.length=11)->(jE l).length=l.length*11
 | [],_=>rfl
 | x::l,h=>by
  rw [V9,D9A,C1,h x (D9I ..),kN λy hy=>h y (D9F _ hy),D9G];omega
def D1m (l:List (List Int)):noX (jE l)=A5:=by
 induction l with
 | nil=>rfl
 | cons x l ih =>
  rw [V9];have h1:=A80 x;simp only [noX,List.all_append,D9v] at h1 ih ⊢;exact ⟨h1,ih⟩
def C0F:∀ {l:List (List Int)} {i:Nat} (h:∀ x∈l,x.length=11) (hi:i<l.length),((jE l).drop (i*11)).take 11=encI l[i]
 | x::l,0,h,_=>by
  have:=h x (D9I ..);rw [V9,Nat.zero_mul,D9O,E0x (by rw [C1,this])];rfl
 | x::l,i+1,h,hi=>by
  have:=h x (D9I ..);rw [V9,show (i+1)*11=11+i*11 by omega,<-E0t,E0s (by rw [C1,this])];exact C0F (λy hy=>h y (D9F _ hy)) (by simpa using hi)
def C6J:∀ {l:List (List Int)} {i:Nat} {y:List Int} (h:∀ x∈l,x.length=11) (hy:y.length=11) (hi:i<l.length),lay (jE l) (i*11) (encI y)=jE (l.set i y)
 | x::l,0,y,h,hy,_=>by
  have:=h x (D9I ..);unfold lay;rw [V9,Nat.zero_mul,E0z,D9U,C1,D9T,hy,E0s (by rw [C1,this])];rfl
 | x::l,i+1,y,h,hy,hi=>by
  have hx:=h x (D9I ..);have ih:=C6J (l:=l) (i:=i) (y:=y) (λy hy=>h y (D9F _ hy)) hy (by simpa using hi);rw [List.set_cons_succ,V9,V9,<-ih];unfold lay;rw [show (i+1)*11=(encI x).length+i*11 by rw [C1,hx];omega,List.take_length_add_append,Nat.add_assoc,List.drop_length_add_append,D9C]
section
variable {D:Dev} {n m:Int} {f:Cell} {g:A9} {r:Nat} {c:Cl} {h:A9}
def WP.setIno (hv:∃ id cs,f=.f id cs) (P:WP D n m f g r c h) {k:Nat} {l:List Int} (hk:k<c.ino.length) (hl:l.length=11) :
  ∃ id h',B8 h (pV r 5)=A4 (sV id 0 c.ino.length 11)/\rd h id=rT (jE c.ino)/\E9 h 11 (pV id (k*11)) (.a (encI l))=A4 h'/\WP D n m f g r { c with ino:=c.ino.set k l } h'/\Fr r h h':=by
 obtain ⟨xr,xi,xt,xb,xm,ml,mp,es1,es2,g1,g2,g3,g4,g5,g6,g7,g8,g9,g10,g11⟩:=id P.row;rcases g4 with ⟨e,_,_⟩ | ⟨t,rfl,t1,t2,t3⟩
 ·omega
 ·have l1:B8 h (pV r 5)=A4 (sV t 0 c.ino.length 11):=B9 g1 rfl rfl;have st:=B6p (n:=11) (off:=k*11) (xs:=encI l) t1 (by rw [C1,hl]) (by rw [t2];omega);rw [C6J P.il hl hk] at st;obtain ⟨q1,q2,q3,q4,q5⟩:=P.mod (off:=5) (x:=.sl t 0 c.ino.length 11) hv g1 rfl rfl (rT (jE (c.ino.set k l)));have L8:∀ x∈c.ino.set k l,x.length=11:=λx hx=>by
   rcases List.mem_or_eq_of_mem_set hx with h1 | h1
   ·exact P.il x h1
   ·rw [h1];exact hl
  refine ⟨t,_,l1,t1,st,⟨q2,P.ge,λid hn=>P.low id ((Nam.same q3).1 hn),L8,by simpa using P.ilen,P.tlen,xr,_,xt,xb,xm,ml,mp,es1,es2,by rw [q3];exact g1,g2,g3.kept λid e=>q4 4 _ _ (by decide) rfl e,.inr ⟨t,by simp,q5,by rw [kN L8],t3⟩,g5.kept λid e=>q4 6 _ _ (by decide) rfl e,g6.kept λid e=>q4 7 _ _ (by decide) rfl e,g7.kept λid e=>q4 8 _ _ (by decide) rfl e,?_,g9,?_,g11⟩,q1⟩
  ·rw [q4 10 (.m ml) ml (by decide) rfl rfl];exact g8
  ·rw [q4 11 (.m mp) mp (by decide) rfl rfl];exact g10
def WP.setLost (hv:∃ id cs,f=.f id cs) (P:WP D n m f g r c h) (a:Int):∃ h',B8 h (pV r 9)=A4 (iV c.lost)/\H1 h (pV r 9) (iV a)=A4 h'/\WP D n m f g r { c with lost:=a } h'/\Fr r h h':=by
 obtain ⟨xr,xi,xt,xb,xm,ml,mp,es1,es2,g1,g2,g3,g4,g5,g6,g7,g8,g9,g10,g11⟩:=id P.row;have l1:B8 h (pV r 9)=A4 (iV c.lost):=B9 g1 rfl rfl;have s1:=I3 (x:=.i .i64 a) (off:=9) g1 (by simp [wkC]);obtain ⟨q1,q2,q3,q4,q5⟩:=P.pushed (off:=9) (y:=.i .i64 a) (h3:=h.set r (rT ((wkC D n m f xr xi xt xb xm c.lost ml mp).set 9 (.i .i64 a)))) hv g1 rfl (D1 (D7 g1)) (λj e=>by cases e) (λj hj hr hn=>B7 (Ne.symm hr)) (by simp);refine ⟨_,l1,s1,⟨q2,P.ge,q4,P.il,P.ilen,P.tlen,xr,xi,xt,xb,xm,ml,mp,es1,es2,D1 (D7 g1),q3,g3.kept λid e=>q5 4 _ _ (by decide) rfl e,g4.kept λid e=>q5 5 _ _ (by decide) rfl e,g5.kept λid e=>q5 6 _ _ (by decide) rfl e,g6.kept λid e=>q5 7 _ _ (by decide) rfl e,g7.kept λid e=>q5 8 _ _ (by decide) rfl e,?_,g9,?_,g11⟩,q1⟩
 ·rw [q5 10 (.m ml) ml (by decide) rfl rfl];exact g8
 ·rw [q5 11 (.m mp) mp (by decide) rfl rfl];exact g10
def D5y {many:Int} {pm pw:Nat} {b:List UInt8} (hv:∃ id cs,f=.f id cs) (P:WP D n m f g r c h) (hm:LocV h r pm [.i .i64 many]) (hw:LocV h r pw [.p r 0]) (hb:b.length=256) :
  ∃ h',fW [.a (B4 b),.c (.f 98 [(pm,0),(pw,0)])] h=A4 (.a (B4 (O5 D n many 128 0 (c,b)).2),h')/\WP D n m f g r (O5 D n many 128 0 (c,b)).1 h'/\Fr r h h':=by
 have P1:=P.more hv [rT (B4 b),rT (B4 (zeros 256))];have F1:Fr r h (h++[rT (B4 b),rT (B4 (zeros 256))]):=Fr.low ((Low.refl (D9x _)).new _) P.rlt;obtain ⟨h',e1,e2,e3⟩:=C7b (q:=200) (many:=many) (h0:=h) (q0:=h.length) (q1:=h.length+1) (pm:=pm) (pw:=pw) P.lo.2.1 (D9x _) (by omega) (by omega) (by have:=hm.1.1;omega) (by have:=hw.1.1;omega) 128 0 200 (c,b) _ (by omega) (by omega) hb P1 F1 (hm.fr F1) (hw.fr F1) (LocV.new (k:=0) hv P rfl) ⟨B4 (zeros 256),by rw [B5];exact zeros_length,LocV.new (k:=1) hv P rfl⟩;refine ⟨h',A2P (n:=200) ?_,e2,e3⟩;rw [A2z,F7];generalize zeros 256=z at *;simp only [esc];exact e1
end
def kF (D:Dev) (n:Int) (d:List Int):Nat->Nat->Cl × List Int->Cl × List Int
 | 0,_,s=>s
 | e+1,k,s=>kF D n d e (k+1) (L5 D n s.1 (d.getD k 0),s.2.set k (K0 D n s.1 (d.getD k 0)))
def A23 (D:Dev) (n:Int) (d:List Int) (many:Int) (s:Cl × List Int):Cl × List Int :=
 if 6<many then (L5 D n s.1 (d.getD 6 0),s.2.set 6 (K0 D n s.1 (d.getD 6 0))) else s
def I6 (D:Dev) (n:Int) (c:Cl) (ino:Int):Cl × List Int:=A23 D n (drV D n ino) (cR (szV D n ino)) (kF D n (drV D n ino) (min (cR (szV D n ino)) 6).toNat 0 (c,zI 7))
def O4 (D:Dev) (n:Int) (c:Cl) (ino:Int):Cl:={ (I6 D n c ino).1 with ino:=(I6 D n c ino).1.ino.set ino.toNat (1::1::szV D n ino::0::(I6 D n c ino).2) }
def X7 (D:Dev) (n:Int) (c:Cl) (ino:Int):Cl :=
 if (I6 D n c ino).2.getD 6 0=0 then O4 D n c ino else
  dU (O5 D n (cR (szV D n ino)) 128 0 (O4 D n c ino,blk D ((I6 D n c ino).2.getD 6 0))).1 ((I6 D n c ino).2.getD 6 0) (O5 D n (cR (szV D n ino)) 128 0 (O4 D n c ino,blk D ((I6 D n c ino).2.getD 6 0))).2
structure SameC (c c':Cl):Prop where
 row:c'.row=c.row
 ino:c'.ino=c.ino
 blocks:c'.blocks=c.blocks
 made:c'.made=c.made
 lost:c'.lost=c.lost
 lnk:c'.lnk=c.lnk
 par:c'.par=c.par
def SameC.rfl' (c:Cl):SameC c c:=⟨rfl,rfl,rfl,rfl,rfl,rfl,rfl⟩
def SameC.trans {a b c:Cl} (x:SameC a b) (y:SameC b c):SameC a c:=⟨y.row.trans x.row,y.ino.trans x.ino,y.blocks.trans x.blocks,y.made.trans x.made,y.lost.trans x.lost,y.lnk.trans x.lnk,y.par.trans x.par⟩
def tG (D:Dev) (n:Int) (c:Cl) (no:Int):SameC c (L5 D n c no):=by
 unfold L5;cases gB D n c no<;>exact ⟨rfl,rfl,rfl,rfl,rfl,rfl,rfl⟩
def C8s {D:Dev} {n many:Int} {s:Cl × List UInt8} {k:Nat}:SameC s.1 (S6 D n many s k).1:=by
 unfold S6;split
 ·exact .rfl' _
 ·dsimp only;split
  ·exact tG ..
  ·exact .rfl' _
def nO {D:Dev} {n many:Int}:∀ {e k:Nat} {s:Cl × List UInt8},SameC s.1 (O5 D n many e k s).1
 | 0,_,s=>.rfl' _
 | e+1,k,s=>by
  rw [O5];exact (C8s).trans nO
def A3X {D:Dev} {n:Int} {d:List Int}:∀ {e k:Nat} {s:Cl × List Int},SameC s.1 (kF D n d e k s).1/\(kF D n d e k s).2.length=s.2.length
 | 0,_,s=>⟨.rfl' _,rfl⟩
 | e+1,k,s=>by
  rw [kF];have:=A3X (D:=D) (n:=n) (d:=d) (e:=e) (k:=k+1) (s:=(L5 D n s.1 (d.getD k 0),s.2.set k (K0 D n s.1 (d.getD k 0))));exact ⟨(tG ..).trans this.1,by rw [this.2];simp⟩
def D03 {D:Dev} {n many:Int} {d:List Int} {s:Cl × List Int}:SameC s.1 (A23 D n d many s).1/\(A23 D n d many s).2.length=s.2.length:=by
 unfold A23;split
 ·exact ⟨tG ..,by simp⟩
 ·exact ⟨.rfl' _,rfl⟩
def tI {D:Dev} {n ino:Int} {c:Cl}:SameC c (I6 D n c ino).1/\(I6 D n c ino).2.length=7:=by
 unfold I6;have h1:=A3X (D:=D) (n:=n) (d:=drV D n ino) (e:=(min (cR (szV D n ino)) 6).toNat) (k:=0) (s:=(c,zI 7));have h2:=D03 (D:=D) (n:=n) (d:=drV D n ino) (many:=cR (szV D n ino)) (s:=kF D n (drV D n ino) (min (cR (szV D n ino)) 6).toNat 0 (c,zI 7));exact ⟨h1.1.trans h2.1,by rw [h2.2,h1.2];rfl⟩
section
variable {D:Dev} {n m:Int} {f:Cell} {g:A9} {r:Nat} {c:Cl} {h:A9}
def C27 {ino lim kd ln sz pa many:Int} {d:List Int} {pb pw pi pm q:Nat} {h0:A9} (h0g:g.length<=h0.length) (a0:h0.length<=pi) (n1:pi≠pb) (n2:pi≠pw) (n3:pi≠pm) (hd:d.length=7) (D8N:lim<=6) :
  ∀ (e k M:Nat) (s:Cl × List Int) (h:A9),(k:Int)+e=lim->e<M->s.2.length=7->WP D n m f g r s.1 h->Fr r h0 h->LocV h r pb [.p r 0]->LocV h r pw (D4 kd ln sz pa d)->LocV h r pi (D4 1 1 sz 0 s.2)->LocV h r pm [.i .i64 many] ->
  ∃ M' h',eR q M (iV ino) (pV pb 0) (pV pw 0) (pV pi 0) (pV pm 0) (iV lim) (iV (k:Int)) h=eR q (M'+1) (iV ino) (pV pb 0) (pV pw 0) (pV pi 0) (pV pm 0) (iV lim) (iV lim) h' /\
   WP D n m f g r (kF D n d e k s).1 h'/\Fr r h0 h'/\LocV h' r pb [.p r 0]/\LocV h' r pw (D4 kd ln sz pa d)/\LocV h' r pi (D4 1 1 sz 0 (kF D n d e k s).2)/\LocV h' r pm [.i .i64 many]
 | e,k,0,s,h,_,hM,_,_,_,_,_,_,_=>by omega
 | 0,k,M+1,s,h,hk,hM,hs,P,F,hb,hw,hi,hm=>by
  have:(k:Int)=lim:=by omega
  rw [this];exact ⟨M,h,rfl,P,F,hb,hw,hi,hm⟩
 | e+1,k,M+1,s,h,hk,hM,hs,P,F,hb,hw,hi,hm=>by
  have c0:(k:Int)<lim:=by omega
  have hk6:k<6:=by omega
  have w1:=D9 (show k+1<9223372036854775808 by omega);have lb:B8 h (pV pb 0)=A4 (pV r 0):=B9 hb.2 rfl rfl;have ad:∀ p,I5 6 1 (pV p 4) (iV (k:Int))=A4 (pV p (4+k)):=λp=>by
   rw [K3 hk6];simp
  have lw:B8 h (pV pw (4+k))=A4 (iV (d.getD k 0)):=by
   refine B9 hw.2 ?_ rfl;rw [Nat.add_comm];simp only [D4,D9Z];rw [H0,D9z,D9u (by omega)];rfl
  obtain ⟨h1,f1,f2,f3⟩:=B3R (no:=d.getD k 0) P;have hb1:=hb.fr f3;have hw1:=hw.fr f3;have hm1:=hm.fr f3;have hi1:=hi.fr f3;have L8:(D4 1 1 sz 0 s.2).length=11:=by simp [D4,C1,hs]
  have s1:=I3 (x:=.i .i64 (K0 D n s.1 (d.getD k 0))) (off:=4+k) hi1.2 (by rw [L8];omega);have es:(D4 1 1 sz 0 s.2).set (4+k) (.i .i64 (K0 D n s.1 (d.getD k 0)))=D4 1 1 sz 0 (s.2.set k (K0 D n s.1 (d.getD k 0))):=by
   rw [Nat.add_comm];simp only [D4,List.set_cons_succ,qY]
  rw [es] at s1;obtain ⟨M',h',e1,e2⟩:=C27 (q:=q) (ino:=ino) (lim:=lim) (kd:=kd) (ln:=ln) (sz:=sz) (pa:=pa) (many:=many) h0g a0 n1 n2 n3 hd D8N e (k+1) M (L5 D n s.1 (d.getD k 0),s.2.set k (K0 D n s.1 (d.getD k 0))) _ (by omega) (by omega) (by simp [hs]) (f2.set hi1.1 (by omega)) ((F.trans f3).set hi1.1 a0) (hb1.set n1 hi1.1.2.1) (hw1.set n2 hi1.1.2.1) hi1.self (hm1.set n3 hi1.1.2.1);refine ⟨M',h',?_,e2⟩;rw [fY];simp only [esc,c0,lb,ad,lw,f1,s1,w1];exact e1
def D47 {ino:Int} (hD:okD D) (hv:IsView g f D) (P:WP D n m f g r c h) (h1:c.blocks.length<=100000) (h2:c.made.length<=100000) (i0:0<=ino) (i1:ino.toNat<c.ino.length) :
  ∃ h',gO [pV r 0,iV ino] h=A4 (.t [],h')/\WP D n m f g r (X7 D n c ino) h'/\Fr r h h':=by
 have hv2:=hv.get;obtain ⟨k,rfl⟩:=E0i i0;rw [D9N] at i1;obtain ⟨I,hI⟩:∃ I,I=D4 (kdV D n k) (lnV D n k) (szV D n k) (paV D n k) (drV D n k):=⟨_,rfl⟩;have hIl:I.length=11:=by rw [hI];simp [D4,C1,eW]
 have hVI:=λt=>Z0 (n:=n) (m:=m) (i:=(k:Int)) (h:=h++t) hD ((hv.since P.lo).more t)
 rw [A11,<-hI] at hVI;have lV:=(P.more hv2 [rT [Cell.p r 0]]).view;obtain ⟨z,hz⟩:∃ z,z=D4 1 1 (szV D n k) 0 (zI 7):=⟨_,rfl⟩;have uS:z.length=11:=by rw [hz];rfl
 have z11:[o0,o0,o0,o0,o0,o0,o0,o0,o0,o0,o0].length=11:=rfl;have ef:E7 [o0,o0,o0,o0,o0,o0,o0,o0,o0,o0,o0] [(0,1,iV 1),(1,1,iV 1),(2,1,iV (szV D n k))]=A4 z:=by rw [hz];rfl
 have I2:I[2]?=A4 (.i .i64 (szV D n k)):=by rw [hI];rfl
 have hBl:=λh=>B8s (n:=szV D n k) (h:=h)
 have eB:(if szV D n k<1 then (0:Int) else if 34304<szV D n k then 134 else (szV D n k+255)/256)=cR (szV D n k):=rfl;rw [eB] at hBl;have hmr:0<=cR (szV D n k):=by unfold cR;split<;>(try split)<;>omega
 obtain ⟨many,D3i⟩:∃ many,many=cR (szV D n k):=⟨_,rfl⟩;rw [<-D3i] at hBl hmr;have D5d:A90 (iV many) (iV 6)=A4 (iV (min many 6)):=by
  simp only [A90];rw [show (if (6:Int)<many then 6 else many)=min many 6 by split<;>omega]
 obtain ⟨T,hT⟩:∃ T,T=[rT [Cell.p r 0],rT I,rT z,rT [Cell.i .i64 many]]:=⟨_,rfl⟩;have P1:=P.more hv2 T;have F1:Fr r h (h++T):=Fr.low ((Low.refl (D9x _)).new _) P.rlt;have L0:LocV (h++T) r h.length [.p r 0]:=LocV.new (k:=0) hv2 P (by rw [hT];rfl);have L1:LocV (h++T) r (h.length+1) I:=LocV.new (k:=1) hv2 P (by rw [hT];rfl);have L2:LocV (h++T) r (h.length+2) z:=LocV.new (k:=2) hv2 P (by rw [hT];rfl);have L3:LocV (h++T) r (h.length+3) [.i .i64 many]:=LocV.new (k:=3) hv2 P (by rw [hT];rfl);rw [hI] at L1;rw [hz] at L2;obtain ⟨M',hA,e1,PA,FA,A0,A1,A2,A3⟩:=C27 (q:=200) (ino:=(k:Int)) (lim:=min many 6) P.lo.2.1 (show h.length<=h.length+2 by omega) (by omega) (by omega) (by omega) eW (by omega) (min many 6).toNat 0 200 (c,zI 7) (h++T) (by omega) (by omega) rfl P1 F1 L0 L1 L2 L3;obtain ⟨s,hs⟩:∃ s,s=kF D n (drV D n k) (min many 6).toNat 0 (c,zI 7):=⟨_,rfl⟩;have hsame:=A3X (D:=D) (n:=n) (d:=drV D n k) (e:=(min many 6).toNat) (k:=0) (s:=(c,zI 7));rw [<-hs] at PA A2 hsame;have hs7:s.2.length=7:=hsame.2;have lb:B8 hA (pV h.length 0)=A4 (pV r 0):=B9 A0.2 rfl rfl;have lm:B8 hA (pV (h.length+3) 0)=A4 (iV many):=B9 A3.2 rfl rfl;have step:∃ hB,eR 200 (M'+1) (iV (k:Int)) (pV h.length 0) (pV (h.length+1) 0) (pV (h.length+2) 0) (pV (h.length+3) 0) (iV (min many 6)) (iV (min many 6)) hA =
   nL 200 (iV (k:Int)) (pV h.length 0) (pV (h.length+2) 0) (pV (h.length+3) 0) hB/\WP D n m f g r (A23 D n (drV D n k) many s).1 hB/\Fr r h hB/\LocV hB r h.length [.p r 0]/\LocV hB r (h.length+2) (D4 1 1 (szV D n k) 0 (A23 D n (drV D n k) many s).2)/\LocV hB r (h.length+3) [.i .i64 many]:=by
  have c0:¬ (min many 6<min many 6):=by omega
  unfold A23;by_cases c6:6<many
  ·rw [if_pos c6];have lw:B8 hA (pV (h.length+1) 10)=A4 (iV ((drV D n k).getD 6 0)):=by
    refine B9 A1.2 ?_ rfl;simp only [D4,D9Z];rw [H0,D9z,D9u (by rw [eW];omega)];rfl
   obtain ⟨h1,f1,f2,f3⟩:=B3R (no:=(drV D n k).getD 6 0) PA;have B0:=A0.fr f3;have B2:=A2.fr f3;have B3:=A3.fr f3;have L8:(D4 1 1 (szV D n k) 0 s.2).length=11:=by simp [D4,C1,hs7]
   have s1:=I3 (x:=.i .i64 (K0 D n s.1 ((drV D n k).getD 6 0))) (off:=10) B2.2 (by rw [L8];omega);have es:(D4 1 1 (szV D n k) 0 s.2).set 10 (.i .i64 (K0 D n s.1 ((drV D n k).getD 6 0)))=D4 1 1 (szV D n k) 0 (s.2.set 6 (K0 D n s.1 ((drV D n k).getD 6 0))):=by
    simp only [D4,List.set_cons_succ,qY]
   rw [es] at s1;refine ⟨_,?_,f2.set B2.1 (by have:=P.lo.2.1;omega),(FA.trans f3).set B2.1 (by omega),B0.set (by omega) B2.1.2.1,B2.self,B3.set (by omega) B2.1.2.1⟩;rw [fY];simp only [esc,c0,lm,c6,lb,lw,f1,s1]
  ·rw [if_neg c6];refine ⟨hA,?_,PA,FA,A0,A2,A3⟩;rw [fY];simp only [esc,c0,lm,c6]
 obtain ⟨hB,e2,PB,FB,B0,B2,B3⟩:=step;have hfd:I6 D n c k=A23 D n (drV D n k) many s:=by unfold I6;rw [<-D3i,<-hs]
 have hfs:=tI (D:=D) (n:=n) (ino:=(k:Int)) (c:=c);rw [<-hfd] at PB B2;obtain ⟨S,hS⟩:∃ S,S=I6 D n c k:=⟨_,rfl⟩;rw [<-hS] at PB B2 hfs;have kin:k<S.1.ino.length:=by rw [hfs.1.ino];exact i1
 obtain ⟨id,hC,c1,c2,c3,PC,FC⟩:=PB.setIno hv2 (k:=k) (l:=1::1::szV D n k::0::S.2) kin (by simp [hfs.2]);have C0:=B0.fr FC;have C2:=B2.fr FC;have C3:=B3.fr FC;have lB0:B8 hB (pV h.length 0)=A4 (pV r 0):=B9 B0.2 rfl rfl;have lB2:D3 hB 11 (pV (h.length+2) 0)=A4 (.a (encI (1::1::szV D n k::0::S.2))):=C9 B2.2 (by simp [C1,hfs.2]);have adI:E5 11 (sV id 0 S.1.ino.length 11) (iV (k:Int))=A4 (pV id (k*11)):=by rw [D8 kin];simp
 have D66:B8 hC (pV (h.length+2) 10)=A4 (iV (S.2.getD 6 0)):=by
  refine B9 C2.2 ?_ rfl;simp only [D4,D9Z];rw [H0,D9z,D9u (by rw [hfs.2];omega)];rfl
 have hfi:O4 D n c k={ S.1 with ino:=S.1.ino.set k (1::1::szV D n k::0::S.2) }:=by unfold O4;rw [<-hS,D9N]
 rw [<-hfi] at PC;have run:∀ {v:Val} {h':A9},nL 200 (iV (k:Int)) (pV h.length 0) (pV (h.length+2) 0) (pV (h.length+3) 0) hB=A4 (v,h')->gO [pV r 0,iV (k:Int)] h=A4 (v,h'):=by
  intro v h' hj;refine A7B (n:=200) ?_;rw [A67];have eT:=e1.trans (e2.trans hj);rw [hT] at eT;have hB0:=hVI [rT [Cell.p r 0]];have l2:ld1 (rT I) 2=A4 (iV (szV D n k)):=by rw [zF,I2];rfl
  have lm1:ld1 (rT [Cell.i .i64 many]) 0=A4 (iV many):=rfl;have lp:ld1 (rT [Cell.p r 0]) 0=A4 (pV r 0):=rfl;have sm:st1 (rT [o0]) 0 (.i .i64 many)=rT [.i .i64 many]:=rfl;generalize [o0,o0,o0,o0,o0,o0,o0,o0,o0,o0,o0]=zz at *;generalize vwC D.length n m f=V at *;simp only [esc,O9,G6,Z4,J2,O3,F8,nK,A73,L9,cK,Nat.reduceAdd,lV,hB0,hIl,uS,z11,l2,lp,sm,lm1,ef,hBl,D5d];exact eT
 unfold X7;rw [<-hS,<-D3i];by_cases cz:S.2.getD 6 0=0
 ·rw [if_pos cz];refine ⟨hC,run ?_,PC,FB.trans FC⟩;rw [sF];rw [cz] at D66;simp only [esc,Nat.reduceAdd,lB0,c1,lB2,adI,c3,D66];rfl
 ·rw [if_neg cz];have hBk:=N1 (n:=n) (m:=m) (no:=S.2.getD 6 0) (h:=hC) hD (hv.since PC.lo);obtain ⟨hE,f1,f2,f3⟩:=D5y (many:=many) (b:=blk D (S.2.getD 6 0)) hv2 PC C3 C0 (J3 hD);have D0:=C0.fr f3;have D2:=C2.fr f3;have hsm:=nO (D:=D) (n:=n) (many:=many) (e:=128) (k:=0) (s:=(O4 D n c k,blk D (S.2.getD 6 0)));have bl:(O5 D n many 128 0 (O4 D n c k,blk D (S.2.getD 6 0))).1.blocks.length<=100000:=by
   rw [hsm.blocks];dsimp only;rw [hfi];dsimp only;rw [hfs.1.blocks];exact h1
  have ml:(O5 D n many 128 0 (O4 D n c k,blk D (S.2.getD 6 0))).1.made.length<=100000:=by
   rw [hsm.made];dsimp only;rw [hfi];dsimp only;rw [hfs.1.made];exact h2
  obtain ⟨hF,g1,g2,g3⟩:=C4M (no:=S.2.getD 6 0) hv2 f2 (B5W (e:=128) (k:=0) (s:=(O4 D n c k,blk D (S.2.getD 6 0))) (by omega) (J3 hD)) bl ml;refine ⟨hF,run ?_,g2,((FB.trans FC).trans f3).trans g3⟩;have lC0:B8 hC (pV h.length 0)=A4 (pV r 0):=B9 C0.2 rfl rfl;have lE0:B8 hE (pV h.length 0)=A4 (pV r 0):=B9 D0.2 rfl rfl;have D82:B8 hE (pV (h.length+2) 10)=A4 (iV (S.2.getD 6 0)):=by
   refine B9 D2.2 ?_ rfl;simp only [D4,D9Z];rw [H0,D9z,D9u (by rw [hfs.2];omega)];rfl
  have lCV:=PC.view;have emk:A70 98 [pV (h.length+3) 0,pV h.length 0]=A4 (.c (.f 98 [(h.length+3,0),(h.length,0)])):=rfl;rw [sF];generalize S.2.getD 6 0=no at *;generalize B4 (O5 D n many 128 0 (O4 D n c k,blk D no)).2=B2 at *;generalize B4 (blk D no)=B1 at *;generalize vwC D.length n m f=V at *;simp only [esc,Nat.reduceAdd,lB0,c1,lB2,adI,c3,D66,cz,lC0,lCV,hBk,emk,f1,lE0,D82,g1];rfl
end
def sL (no:Int):Nat->Nat->List Int->List Int
 | 0,_,t=>t
 | e+1,i,t=>sL no e (i+1) (if t.getD i 0=no then t.set i 0 else t)
def zK {no:Int}:∀ {e i:Nat} {t:List Int},(sL no e i t).length=t.length
 | 0,_,_=>rfl
 | e+1,i,t=>by
  rw [sL,zK];split<;>simp
def A6e (D:Dev) (n:Int) (s:Cl × List Int) (no:Int):Cl × List Int:=(L5 D n s.1 no,if K0 D n s.1 no=0 then sL no 32 0 s.2 else s.2)
def R3 (D:Dev) (n:Int) (s:Cl × List Int) (L:List Int):Cl × List Int:=L.foldl (A6e D n) s
def C2W {D:Dev} {n no:Int} {s:Cl × List Int}:(A6e D n s no).2.length=s.2.length:=by
 unfold A6e;dsimp only;split
 ·exact zK
 ·rfl
def B5J {D:Dev} {n:Int}:∀ {L:List Int} {s:Cl × List Int},(R3 D n s L).2.length=s.2.length
 | [],_=>rfl
 | no::L,s=>by
  show (R3 D n (A6e D n s no) L).2.length=_;rw [B5J,C2W]
def bW {D:Dev} {n:Int}:∀ {L:List Int} {s:Cl × List Int},SameC s.1 (R3 D n s L).1
 | [],_=>.rfl' _
 | no::L,s=>by
  show SameC s.1 (R3 D n (A6e D n s no) L).1;have h2:SameC (L5 D n s.1 no) (R3 D n (A6e D n s no) L).1:=bW (D:=D) (n:=n) (L:=L) (s:=A6e D n s no);exact (tG ..).trans h2
section
variable {D:Dev} {n m:Int} {f:Cell} {g:A9} {r:Nat} {c:Cl} {h:A9}
def B6s {no d:Int} {px q M:Nat} {w x4 v11 v12 v13:Val} {h0:A9} (h0g:g.length<=h0.length) (a0:h0.length<=px):∀ (e i M2:Nat) (t:List Int) (h:A9),i+e=32->e<M2->t.length=32->WP D n m f g r c h->Fr r h0 h->LocV h r px (encI (d::t)) ->
  ∃ h',sE q M M2 w (pV px 0) x4 (iV no) v11 v12 v13 (iV (i:Int)) h=sC q M w (pV px 0) x4 v11 v12 v13 h'/\WP D n m f g r c h'/\Fr r h0 h'/\LocV h' r px (encI (d::sL no e i t))/\h'.length=h.length/\∀ j,j≠px->rd h' j=rd h j
 | e,i,0,t,h,_,hM,_,_,_,_=>by omega
 | 0,i,M2+1,t,h,hi,hM,ht,P,F,hx=>by
  have c0:¬ ((i:Int)<32):=by omega
  refine ⟨h,?_,P,F,hx,rfl,λ_ _=>rfl⟩;rw [bZ];simp only [esc,c0]
 | e+1,i,M2+1,t,h,hi,hM,ht,P,F,hx=>by
  have c0:((i:Int)<32):=by omega
  have D8H:i<32:=by omega
  have ad:I5 32 1 (pV px 1) (iV (i:Int))=A4 (pV px (1+i)):=by rw [K3 D8H];simp
  have l1:B8 h (pV px (1+i))=A4 (iV (t.getD i 0)):=by
   refine B9 hx.2 ?_ rfl;rw [Nat.add_comm,H0,D9Z,D9z,D9u (by omega)];rfl
  have w1:=D9 (show i+1<9223372036854775808 by omega);by_cases cz:t.getD i 0=no
  ·have s1:=I3 (x:=o0) (off:=1+i) hx.2 (by simp [C1,ht];omega);have es:(encI (d::t)).set (1+i) o0=encI (d::t.set i 0):=by rw [qY,Nat.add_comm,List.set_cons_succ]
   rw [es] at s1;obtain ⟨h',e1,e2,e3,e4,e5,e6⟩:=B6s (no:=no) (d:=d) (q:=q) (M:=M) (w:=w) (x4:=x4) (v11:=v11) (v12:=v12) (v13:=v13) h0g a0 e (i+1) M2 (t.set i 0) _ (by omega) (by omega) (by simp [ht]) (P.set hx.1 (by omega)) (F.set hx.1 a0) hx.self;refine ⟨h',?_,e2,e3,by rw [sL,if_pos cz];exact e4,by rw [e5];simp,λj hj=>by rw [e6 j hj,B7 (Ne.symm hj)]⟩;rw [bZ];simp only [esc,c0,ad,l1,cz,s1,mK,w1];exact e1
  ·obtain ⟨h',e1,e2,e3,e4,e5,e6⟩:=B6s (no:=no) (d:=d) (q:=q) (M:=M) (w:=w) (x4:=x4) (v11:=v11) (v12:=v12) (v13:=v13) h0g a0 e (i+1) M2 t h (by omega) (by omega) ht P F hx;refine ⟨h',?_,e2,e3,by rw [sL,if_neg cz];exact e4,e5,e6⟩;rw [bZ];simp only [esc,c0,ad,l1,cz,mK,w1];exact e1
def B5K {d:Int} {L:List Int} {px p4 sid q:Nat} {h0:A9} (h0g:g.length<=h0.length) (a0:h0.length<=px) (a1:h0.length<=p4) (n1:px≠p4) (n2:px≠sid) (hq:40<=q) (hL:L.length<1000000):∀ (e i M:Nat) (s:Cl × List Int) (h:A9),i+e=L.length->e<M->s.2.length=32->WP D n m f g r s.1 h->Fr r h0 h->LocV h r px (encI (d::s.2))->(∃ z,z.length=33/\LocV h r p4 z)->LocV h r sid (encI L) ->
  ∃ h',sD q M (pV r 0) (pV px 0) (pV p4 0) (sV sid 0 L.length 1) (iV (L.length:Nat)) (iV (i:Int)) h=A4 (.a (encI (d::(R3 D n s (L.drop i)).2)),h')/\WP D n m f g r (R3 D n s (L.drop i)).1 h'/\Fr r h0 h'
 | e,i,0,s,h,_,hM,_,_,_,_,_,_=>by omega
 | 0,i,M+1,s,h,hi,hM,hs,P,F,hx,hz,hl=>by
  have c0:¬ ((i:Int)<(L.length:Nat)):=by omega
  obtain ⟨z,uS,hz⟩:=hz;have h33:(encI (d::s.2)).length=33:=by simp [C1,hs]
  have l1:=C9 (n:=33) hx.2 h33;have s1:=storeAll (n:=33) (xs:=encI (d::s.2)) hz.2 uS h33;have hz2:=hz.self (cs':=encI (d::s.2));have l2:=C9 (n:=33) hz2.2 h33;rw [D9K (by omega)];refine ⟨h.set p4 (rT (encI (d::s.2))),?_,P.set hz.1 (by omega),F.set hz.1 a1⟩;rw [bY];show _=A4 (Val.a (encI (d::s.2)),_);generalize encI (d::s.2)=B at *;simp only [esc,c0,l1,s1,l2]
 | e+1,i,M+1,s,h,hi,hM,hs,P,F,hx,hz,hl=>by
  have c0:((i:Int)<(L.length:Nat)):=by omega
  have L8:i<L.length:=by omega
  have ad:E5 1 (sV sid 0 L.length 1) (iV (i:Int))=A4 (pV sid i):=by rw [D8 L8];simp
  have l1:B8 h (pV sid i)=A4 (iV L[i]):=B9 hl.2 (by rw [H0,D9u L8];rfl) rfl;have w1:=D9 (show i+1<9223372036854775808 by omega);obtain ⟨h1,f1,f2,f3⟩:=B3R (no:=L[i]) P;have hx1:=hx.fr f3;have hl1:=hl.fr f3;obtain ⟨z,uS,hz⟩:=hz;have hz1:=hz.fr f3;rw [D9E L8];have eb:∀ T,R3 D n s (L[i]::T)=R3 D n (A6e D n s L[i]) T:=λT=>rfl
  rw [eb];have hbl:=C2W (D:=D) (n:=n) (s:=s) (no:=L[i]);by_cases cz:K0 D n s.1 L[i]=0
  ·have eB:A6e D n s L[i]=(L5 D n s.1 L[i],sL L[i] 32 0 s.2):=by unfold A6e;rw [if_pos cz]
   obtain ⟨h2,e1,e2,e3,e4,e5,e6⟩:=B6s (no:=L[i]) (d:=d) (q:=q) (M:=M) (w:=pV r 0) (x4:=pV p4 0) (v11:=sV sid 0 L.length 1) (v12:=iV (L.length:Nat)) (v13:=iV (i:Int)) h0g a0 32 0 q s.2 h1 (by omega) (by omega) hs f2 (F.trans f3) hx1;have keep:∀ {id:Nat} {cs:List Cell},LocV h1 r id cs->px≠id->LocV h2 r id cs:=λ{id cs} a Z5=>by
    have er:rd h2 r=rd h1 r:=e6 r (Ne.symm hx1.1.2.1);exact ⟨⟨by rw [e5];exact a.1.1,a.1.2.1,λhn=>a.1.2.2 ((Nam.same er).1 hn)⟩,by rw [e6 id (Ne.symm Z5)];exact a.2⟩
   have D81:(sL L[i] 32 0 s.2).length=32:=by rw [zK];exact hs
   rw [eB];generalize sL L[i] 32 0 s.2=Z at *;obtain ⟨h',k1,k2⟩:=B5K (d:=d) (q:=q) h0g a0 a1 n1 n2 hq hL e (i+1) M (L5 D n s.1 L[i],Z) h2 (by omega) (by omega) D81 e2 e3 e4 ⟨z,uS,keep hz1 n1⟩ (keep hl1 n2);refine ⟨h',?_,k2⟩;rw [bY];rw [cz] at f1;rw [mI] at e1;have c00:((0:Nat):Int)=0:=rfl;rw [c00] at e1;simp only [esc,c0,ad,l1,f1];refine e1.trans ?_;simp only [esc,w1];exact k1
  ·have eB:A6e D n s L[i]=(L5 D n s.1 L[i],s.2):=by unfold A6e;rw [if_neg cz]
   rw [eB] at hbl ⊢;obtain ⟨h',k1,k2⟩:=B5K (d:=d) (q:=q) h0g a0 a1 n1 n2 hq hL e (i+1) M (L5 D n s.1 L[i],s.2) h1 (by omega) (by omega) hs f2 (F.trans f3) hx1 ⟨z,uS,hz1⟩ hl1;refine ⟨h',?_,k2⟩;rw [bY];simp only [esc,c0,ad,l1,f1,cz,mI,w1];exact k1
def L6 (d:Int) (t:List Int):Int:=if 0<=d/\d<=5 then d else 0
def W5 (d:Int) (t:List Int):List Int:=if 0<=d/\d<=5 then gY d t (C4 d) else zI 32
def A5z (d:Int) (t:List Int):A6L d t=L6 d t::W5 d t:=by
 unfold A6L L6 W5;split<;>rfl
def A8t {d:Int} {t:List Int}:(W5 d t).length=32:=by
 have:=C6m (d:=d) (t:=t);rw [A5z] at this;simpa using this
def C78 {d:Int} {t:List Int} (hv:∃ id cs,f=.f id cs) (P:WP D n m f g r c h) (ht:t.length=32) :
  ∃ h',bG [pV r 0,.a (encI (d::t))] h=A4 (.a (encI (L6 d t::(R3 D n (c,W5 d t) (J0 (W5 d t) (C4 (L6 d t)))).2)),h')/\WP D n m f g r (R3 D n (c,W5 d t) (J0 (W5 d t) (C4 (L6 d t)))).1 h'/\Fr r h h':=by
 have hft:=A8t (d:=d) (t:=t);have h33:(encI (d::t)).length=33:=by simp [C1,ht]
 have hF:=λh=>C4C (d:=d) (h:=h) ht
 rw [A5z] at hF;have C6u:(encI (L6 d t::W5 d t)).length=33:=by simp [C1,hft]
 have D6Y:(o0::D9w 32 o0).length=33:=by simp
 obtain ⟨z,hz⟩:∃ z,z=o0::D9w 32 o0:=⟨_,rfl⟩;obtain ⟨d',hd'⟩:∃ d',d'=L6 d t:=⟨_,rfl⟩;obtain ⟨t',ht'⟩:∃ t',t'=W5 d t:=⟨_,rfl⟩;rw [<-hd',<-ht'] at hF C6u ⊢;rw [<-ht'] at hft;have hB:=kL (d:=d') (t:=t') (h:=h++[rT (encI (d'::t')),rT z]) hft;obtain ⟨L,hL⟩:∃ L,L=J0 t' (C4 d'):=⟨_,rfl⟩;rw [<-hL] at hB ⊢;obtain ⟨T,hT⟩:∃ T,T=[rT (encI (d'::t')),rT z,rT (encI L)]:=⟨_,rfl⟩;have P1:=P.more hv T;have F1:Fr r h (h++T):=Fr.low ((Low.refl (D9x _)).new _) P.rlt;have L0:LocV (h++T) r h.length (encI (d'::t')):=LocV.new (k:=0) hv P (by rw [hT];rfl);have L1:LocV (h++T) r (h.length+1) z:=LocV.new (k:=1) hv P (by rw [hT];rfl);have L2:LocV (h++T) r (h.length+2) (encI L):=LocV.new (k:=2) hv P (by rw [hT];rfl);have hLl:L.length<=32:=by rw [hL];exact D93 (oI _ _) (Q5 _)
 obtain ⟨h',e1,e2,e3⟩:=B5K (q:=100) P.lo.2.1 (D9x _) (show h.length<=h.length+1 by omega) (by omega) (show h.length≠h.length+2 by omega) (by omega) (by omega) L.length 0 100 (c,t') (h++T) (by omega) (by omega) hft P1 F1 L0 ⟨z,by rw [hz];exact D6Y,L1⟩ L2;rw [D9O] at e1 e2;refine ⟨h',A3v (n:=100) ?_,e2,e3⟩;rw [A3q];have ez:([o0]++D9w 32 o0)=z:=by rw [hz];rfl
 rw [ez];rw [hT] at e1;have l33:ldN (rT (encI (d::t))) 0 33=A4 (.a (encI (d::t))):=L9 h33;have l33':ldN (rT (encI (d'::t'))) 0 33=A4 (.a (encI (d'::t'))):=L9 C6u;have s33:stN (rT (encI (d::t))) 0 33 (encI (d'::t'))=rT (encI (d'::t')):=cK h33 C6u;generalize encI (d::t)=X at *;generalize encI (d'::t')=X' at *;simp only [esc,O9,G6,O3,F8,l33,l33',s33,hF];simp only [esc] at hB;simp only [esc,hB];exact e1
end
abbrev Spt:=Int × Slt
def A2V (D:Dev) (L:List Int):List Spt:=L.flatMap λno=>(H9 (blk D no)).map λs=>(no,s)
def atH (D:Dev) (X:List Int) (e:Spt):Bool:=decide (P7 X e.2.2.1=e.1)&&decide (hmS D X e.2.2.1=A4 e.2)
def M7 (D:Dev) (X:List Int) (l:List Spt):mC:=(l.filter (atH D X)).map (·.2.2.1)
def B3B (D:Dev) (X:List Int) (nm:List UInt8):Int:=((hmS D X nm).getD (0,[],0)).2.2
def W7 (D:Dev) (X:List Int) (L:List Int):List Ent:=(bO (M7 D X (A2V D L))).map λs=>(s,B3B D X s)
def D0k {neg:Bool} (p q:Slt):aeq neg [.i .i64,.s,.i .i64] (.a (slC (A4 p))) (.a (slC (A4 q)))=A4 (bV (bif neg then !(decide (A4 p=A4 q)) else decide (A4 p=A4 q))):=by
 simp only [aeq];rw [if_pos ⟨rfl,rfl⟩];have:decide (slC (A4 p)=slC (A4 q))=decide (A4 p=A4 q):=by
  apply Bool.eq_iff_iff.2;simp only [decide_eq_true_eq,slC,List.cons.injEq,Cell.i.injEq,Cell.s.injEq,true_and,and_true,D9y];obtain ⟨p1,p2,p3⟩:=p;obtain ⟨q1,q2,q3⟩:=q;simp only [D9D];constructor
  ·rintro ⟨h1,h2,h3⟩;exact ⟨by omega,h2,h3⟩
  ·rintro ⟨h1,h2,h3⟩;exact ⟨by omega,h2,h3⟩
 rw [this]
def B7t {D:Dev} {X:List Int} {s:List Spt} {e:Spt}:M7 D X (s++[e])=M7 D X s++(if atH D X e=A5 then [e.2.2.1] else []):=by
 unfold M7;rw [List.filter_append,E0h,E0H];by_cases c:atH D X e=A5<;>simp [c]
structure NmS (D:Dev) (X L:List Int) (g:A9) (s:List Spt) (id:Nat) (h:A9):Prop where
 low:Low g.length g h
 rx:rd h g.length=rT (encI X)
 rm:∃ es,rd h (g.length+2)=A4 (K8 es)/\MapN es (B3B D X) (M7 D X s)
 rs:rd h (g.length+4)=rT (encI L)
 rl:rd h id=rT (encS (M7 D X s))
 idg:id=g.length+3\/g.length+5<=id
def NmS.more {D:Dev} {X L:List Int} {g h:A9} {s:List Spt} {id:Nat} (S:NmS D X L g s id h) (t:A9):NmS D X L g s id (h++t) :=
 ⟨S.low.new _,B6 S.rx,by obtain ⟨es,h1,h2⟩:=S.rm;exact ⟨es,B6 h1,h2⟩,B6 S.rs,B6 S.rl,S.idg⟩
section
variable {D:Dev} {n m:Int} {f:Cell} {g:A9} {r:Nat} {h:A9}
def D7a {d:Int} {t L:List Int} {s:List Spt} {id lst j q m0 M:Nat} {l:List Slt} {x:Slt} {no:Int} {x18 x19 x20:Val} (hD:okD D) (hv:IsView g f D) (hw:VwR g r (vwC D.length n m f)) (ht:t.length=32) (S:NmS D (d::t) L g s id h) (hN:(M7 D (d::t) s).length<=1000000) (hs:x.2.1.length<=24)
  (hl:rd h lst=rT (kX l)) (hx:l[j]?=A4 x) (hl5:g.length+5<=lst) (Z5:lst≠id) (hj:l.length<=7) :
  ∃ bQ h',W4 q m0 (M+1) (.c (.p r 0)) (.c (.p g.length 0)) (.c (.m (g.length+2))) (.c (.sl id 0 (M7 D (d::t) s).length 1)) (.c (.i .i64 no)) x18 x19 x20 (.c (.sl lst 0 l.length 3)) (.c (.i .i64 (l.length:Nat))) (.c (.i .i64 (j:Int))) h =
   W4 q m0 M (.c (.p r 0)) (.c (.p g.length 0)) (.c (.m (g.length+2))) (.c (.sl bQ 0 (M7 D (d::t) (s++[(no,x)])).length 1)) (.c (.i .i64 no)) x18 x19 x20 (.c (.sl lst 0 l.length 3)) (.c (.i .i64 (l.length:Nat))) (.c (.i .i64 ((j+1:Nat):Int))) h' /\
   NmS D (d::t) L g (s++[(no,x)]) bQ h'/\rd h' lst=rT (kX l)/\lst≠bQ:=by
 have hjl:j<l.length:=(List.getElem?_eq_some_iff.1 hx).1;have c0:((j:Int)<(l.length:Nat)):=by omega
 have ad:E5 3 (.c (.sl lst 0 l.length 3)) (.c (.i .i64 (j:Int)))=A4 (.c (.p lst (j*3))):=by rw [D8 hjl];simp
 have hlen:=oT (l:=l);have l3:D3 h 3 (.c (.p lst (j*3)))=A4 (.a (slC (A4 x))):=by rw [T2 hl (by rw [hlen];omega) rfl,C49 hx]
 obtain ⟨k,nm,i⟩:=x;have w1:=D9 (show j+1<9223372036854775808 by omega);obtain ⟨h1,e1⟩:∃ h1,h1=h++[rT (slC (A4 (k,nm,i)))]:=⟨_,rfl⟩;have s3:E9 (h++[rT [o0,.s [],o0]]) 3 (.c (.p h.length 0)) (.a (slC (A4 (k,nm,i))))=A4 h1:=by rw [F8,e1];rfl
 have S1:NmS D (d::t) L g s id h1:=e1 ▸ S.more _;have lX:D3 h1 33 (.c (.p g.length 0))=A4 (.a (encI (d::t))):=C9 S1.rx (by simp [C1,ht]);have lN:B8 h1 (.c (.p h.length 1))=A4 (.c (.s nm)):=by rw [e1,J2];rfl
 have hH:=C9R (n:=n) (m:=m) (f:=f) (r:=r) (d:=d) (t:=t) (nm:=nm) (h:=h1) hD (hv.since S1.low) (hw.since S1.low) ht (by dsimp only at hs;omega);obtain ⟨h2,e2⟩:∃ h2,h2=h1++[rT (B6o (P7 (d::t) nm) (hmS D (d::t) nm))]:=⟨_,rfl⟩;have s4:E9 (h1++[rT [o0,o0,.s [],o0]]) 4 (.c (.p h1.length 0)) (.a (B6o (P7 (d::t) nm) (hmS D (d::t) nm)))=A4 h2:=by
  rw [F8,e2];cases hmS D (d::t) nm<;>rfl
 have S2:NmS D (d::t) L g s id h2:=e2 ▸ S1.more _;have lB:B8 h2 (.c (.p h1.length 0))=A4 (.c (.i .i64 (P7 (d::t) nm))):=by rw [e2,J2];rfl
 have lS:D3 h2 3 (.c (.p h1.length 1))=A4 (.a (slC (hmS D (d::t) nm))):=by rw [e2,G6];cases hmS D (d::t) nm<;>rfl
 have rp:rd h2 h.length=rT (slC (A4 (k,nm,i))):=by rw [e2,e1];simp
 have lP:D3 h2 3 (.c (.p h.length 0))=A4 (.a (slC (A4 (k,nm,i)))):=C9 rp rfl;have lP1:B8 h2 (.c (.p h.length 1))=A4 (.c (.s nm)):=B9 rp rfl rfl;have lP2:B8 h2 (.c (.p h.length 2))=A4 (.c (.i .i64 i)):=B9 rp rfl rfl;have rl2:rd h2 lst=rT (kX l):=by rw [e2,e1];exact B6 (B6 hl)
 have no1:atH D (d::t) (no,k,nm,i)=A6->NmS D (d::t) L g (s++[(no,k,nm,i)]) id h2/\(M7 D (d::t) (s++[(no,k,nm,i)])).length=(M7 D (d::t) s).length:=by
  intro hb;have en:M7 D (d::t) (s++[(no,k,nm,i)])=M7 D (d::t) s:=by rw [B7t,hb];simp
  exact ⟨{ S2 with rm:=by rw [en];exact S2.rm,rl:=by rw [en];exact S2.rl },by rw [en]⟩
 rw [eU];cases ho:hmS D (d::t) nm with
 | none =>
  obtain ⟨n1,n2⟩:=no1 (by unfold atH;simp only [ho];simp);refine ⟨id,h2,?_,n1,rl2,Z5⟩;rw [n2];rw [ho] at hH s4 lS;generalize encI (d::t)=X at *;simp only [esc,Nat.reduceAdd,c0,ad,l3,s3,lX,lN,hH,E0n,s4,X0,w1]
 | some p =>
  rw [ho] at hH s4 lS;have ea:=D0k (neg:=A6) p (k,nm,i);by_cases c1:P7 (d::t) nm=no
  ·rw [c1] at hH s4 lB;by_cases c2:p=(k,nm,i)
   ·have hb:atH D (d::t) (no,k,nm,i)=A5:=by unfold atH;simp only [ho,c1,c2];simp
    have en:M7 D (d::t) (s++[(no,k,nm,i)])=M7 D (d::t) s++[nm]:=by rw [B7t,if_pos hb]
    have hin:B3B D (d::t) nm=i:=by unfold B3B;rw [ho,c2];rfl
    obtain ⟨es,r4,hm⟩:=S2.rm;have mp:=D0a (s:=nm) (x:=i) r4 hm;have hm':=hm.put nm;rw [hin] at hm';have lt2:=D7 r4;have idr:id≠g.length+2:=by have:=S.idg;omega
    obtain ⟨h3,e3⟩:∃ h3,h3=h2.set (g.length+2) (A4 (K8 (A4c (.s nm) (.c (.i .i64 i)) es))):=⟨_,rfl⟩;rw [<-e3] at mp;have hh:h2.length=h.length+2:=by rw [e2,e1];simp
    have q1:B8 h3 (.c (.p h.length 1))=A4 (.c (.s nm)):=B9 (by rw [e3,B7 (by have:=D7 hl;omega)];exact rp) rfl rfl;have ef:E7 [Cell.s []] [(0,1,.c (.s nm))]=A4 [.s nm]:=rfl;have ril:rd h3 id=rT (encS (M7 D (d::t) s)):=by rw [e3,B7 (Ne.symm idr)];exact S2.rl
    obtain ⟨h4,b1,b2,b3,b4⟩:=B6f (n:=(M7 D (d::t) s).length) (sz:=1) (ys:=[Cell.s nm]) ril (by rw [X6];omega) rfl (by omega) (by omega);have h3l:h3.length=h.length+2:=by rw [e3];simp [hh]
    have gS:=D7 S.rs;have ea2:aeq A6 [.i .i64,.s,.i .i64] (.a (slC (A4 p))) (.a (slC (A4 (k,nm,i))))=A4 (.c (.b A5)):=by rw [ea,c2];simp
    refine ⟨h3.length+1,h4,?_,⟨?_,?_,⟨_,?_,by rw [en];exact hm'⟩,?_,?_,by omega⟩,?_,by have:=D7 hl;omega⟩
    ·rw [en,D9A];generalize encI (d::t)=X at *;simp only [esc,Nat.reduceAdd,c0,ad,l3,s3,lX,lN,hH,D98,s4,lB,eq_self,lS,lP,ea2,lP1,lP2,mp,q1,ef,b1,X0,w1]
    ·have l3':Low g.length g h3:=by rw [e3];exact S2.low.set (by omega) _
     exact l3'.trans (b4 _ (by have:=S.idg;omega) (by omega))
    ·exact b3 _ _ (by have:=S.idg;omega) (by rw [e3,B7 (by omega)];exact S2.rx)
    ·exact b3 _ _ (Ne.symm idr) (by rw [e3];exact D1 lt2)
    ·exact b3 _ _ (by have:=S.idg;intro e;omega) (by rw [e3,B7 (by omega)];exact S2.rs)
    ·rw [en,show encS (M7 D (d::t) s++[nm])=encS (M7 D (d::t) s)++[Cell.s nm] by simp [encS]];exact b2
    ·exact b3 _ _ Z5 (by rw [e3,B7 (by omega)];exact rl2)
   ·obtain ⟨n1,n2⟩:=no1 (by unfold atH;simp only [ho];simp [c2]);have ea2:aeq A6 [.i .i64,.s,.i .i64] (.a (slC (A4 p))) (.a (slC (A4 (k,nm,i))))=A4 (.c (.b A6)):=by rw [ea];simp [c2]
    refine ⟨id,h2,?_,n1,rl2,Z5⟩;rw [n2];generalize encI (d::t)=X at *;simp only [esc,Nat.reduceAdd,c0,ad,l3,s3,lX,lN,hH,D98,s4,lB,eq_self,lS,lP,ea2,X0,w1]
  ·obtain ⟨n1,n2⟩:=no1 (by unfold atH;simp only [ho];simp [c1]);refine ⟨id,h2,?_,n1,rl2,Z5⟩;rw [n2];generalize encI (d::t)=X at *;simp only [esc,Nat.reduceAdd,c0,ad,l3,s3,lX,lN,hH,D98,s4,lB,c1,X0,w1]
end
def B58 {D:Dev} {X:List Int} {s:List Spt}:(M7 D X s).length<=s.length:=by
 unfold M7;rw [List.length_map];exact E0m _ _
def C2P {D:Dev} {no:Int} {L:List Int}:A2V D (no::L)=(H9 (blk D no)).map (λs=>(no,s))++A2V D L:=by simp [A2V]
section
variable {D:Dev} {n m:Int} {f:Cell} {g:A9} {r:Nat} {h:A9}
def C6U {d:Int} {t L:List Int} {lst q m0:Nat} {l:List Slt} {no:Int} {x18 x19 x20:Val} (hD:okD D) (hv:IsView g f D) (hw:VwR g r (vwC D.length n m f)) (ht:t.length=32) (hl7:l.length<=7) (tL:∀ x∈l,x.2.1.length<=24) (hl5:g.length+5<=lst) :
  ∀ (e j M:Nat) (s:List Spt) (id:Nat) (h:A9),j+e=l.length->e<M->s.length+e<=100000->NmS D (d::t) L g s id h->rd h lst=rT (kX l)->lst≠id ->
  ∃ bQ h',W4 q m0 M (pV r 0) (pV g.length 0) (.c (.m (g.length+2))) (sV id 0 (M7 D (d::t) s).length 1) (iV no) x18 x19 x20 (sV lst 0 l.length 3) (iV (l.length:Nat)) (iV (j:Int)) h =
   bnd (K6 .add x20 (iV 1)) (λv=>W3 q m0 (pV r 0) (pV g.length 0) (.c (.m (g.length+2))) (sV bQ 0 (M7 D (d::t) (s++(l.drop j).map λx=>(no,x))).length 1) x18 x19 v h')/\NmS D (d::t) L g (s++(l.drop j).map λx=>(no,x)) bQ h'
 | e,j,0,s,id,h,_,hM,_,_,_,_=>by omega
 | 0,j,M+1,s,id,h,hj,hM,hn,S,hr,Z5=>by
  have c0:¬ ((j:Int)<(l.length:Nat)):=by omega
  rw [D9K (by omega),List.map_nil,D9Q];refine ⟨id,h,?_,S⟩;rw [eU];simp only [E4,H7,c0,decide_false,dT]
 | e+1,j,M+1,s,id,h,hj,hM,hn,S,hr,Z5=>by
  have hjl:j<l.length:=by omega
  have gX:=B58 (D:=D) (X:=d::t) (s:=s);obtain ⟨id1,h1,e1,e2,e3,e4⟩:=D7a (q:=q) (m0:=m0) (M:=M) (no:=no) (x18:=x18) (x19:=x19) (x20:=x20) hD hv hw ht S (by omega) (tL _ (D9Y hjl)) hr (D9u hjl) hl5 Z5 hl7;obtain ⟨bQ,h',f1,f2⟩:=C6U (q:=q) (m0:=m0) (no:=no) (x18:=x18) (x19:=x19) (x20:=x20) hD hv hw ht hl7 tL hl5 e (j+1) M (s++[(no,l[j])]) id1 h1 (by omega) (by omega) (by simp;omega) e2 e3 e4;rw [D9C,List.singleton_append] at f1 f2;rw [D9E hjl,E0d];exact ⟨bQ,h',e1.trans f1,f2⟩
def C8O {d:Int} {t L:List Int} {q:Nat} (hD:okD D) (hv:IsView g f D) (hw:VwR g r (vwC D.length n m f)) (ht:t.length=32) (hq:8<=q) (hL:L.length<=32) :
  ∀ (e i M:Nat) (s:List Spt) (id:Nat) (h:A9),i+e=L.length->e<M->s.length<=7*i->NmS D (d::t) L g s id h ->
  ∃ M' bQ h',W3 q M (pV r 0) (pV g.length 0) (.c (.m (g.length+2))) (sV id 0 (M7 D (d::t) s).length 1) (sV (g.length+4) 0 L.length 1) (iV (L.length:Nat)) (iV (i:Int)) h =
   W3 q (M'+1) (pV r 0) (pV g.length 0) (.c (.m (g.length+2))) (sV bQ 0 (M7 D (d::t) (s++A2V D (L.drop i))).length 1) (sV (g.length+4) 0 L.length 1) (iV (L.length:Nat)) (iV (L.length:Nat)) h'/\NmS D (d::t) L g (s++A2V D (L.drop i)) bQ h'/\(s++A2V D (L.drop i)).length<=7*L.length:=by
 intro e
 induction e with
 | zero =>
  intro i M s id h hi hM hn S;obtain ⟨M,rfl⟩:∃ M',M=M'+1:=⟨M-1,by omega⟩;have ei:i=L.length:=by omega
  subst ei;rw [List.drop_length,show A2V D []=[] from rfl,D9Q];exact ⟨M,id,h,rfl,S,hn⟩
 | succ e ih =>
  intro i M s id h hi hM hn S;obtain ⟨M,rfl⟩:∃ M',M=M'+1:=⟨M-1,by omega⟩;have L8:i<L.length:=by omega
  have c0:(i:Int)<(L.length:Nat):=by omega
  have ad:E5 1 (sV (g.length+4) 0 L.length 1) (iV (i:Int))=A4 (pV (g.length+4) i):=by rw [D8 L8];simp
  have l1:B8 h (pV (g.length+4) i)=A4 (iV L[i]):=B9 S.rs (by rw [H0,D9u L8];rfl) rfl;have lV:=(hw.since S.low).load;have hB:=N1 (n:=n) (m:=m) (no:=L[i]) hD (hv.since S.low);obtain ⟨v,tt,b1,b2,b3⟩:=wR (b:=blk D L[i]) (h:=h) (J3 hD);have hlen:=b2.len;have h7:=fP (blk D L[i]);have w1:=D9 (show i+1<9223372036854775808 by omega);have tL:∀ x∈H9 (blk D L[i]),x.2.1.length<=24:=λx hx=>by
   have:=B6h (A9A hx).1;exact this
  have main:∃ id1 h1,W4 q M q (pV r 0) (pV g.length 0) (.c (.m (g.length+2))) (sV id 0 (M7 D (d::t) s).length 1) (iV L[i]) (sV (g.length+4) 0 L.length 1) (iV (L.length:Nat)) (iV (i:Int)) v (iV ((H9 (blk D L[i])).length:Nat)) (iV ((0:Nat):Int)) (h++tt) =
    bnd (K6 .add (iV (i:Int)) (iV 1)) (λv=>W3 q M (pV r 0) (pV g.length 0) (.c (.m (g.length+2))) (sV id1 0 (M7 D (d::t) (s++(H9 (blk D L[i])).map λx=>(L[i],x))).length 1) (sV (g.length+4) 0 L.length 1) (iV (L.length:Nat)) v h1)/\NmS D (d::t) L g (s++(H9 (blk D L[i])).map λx=>(L[i],x)) id1 h1:=by
   rcases b3 with ⟨rfl,rfl,b3⟩ | ⟨rfl,rfl⟩
   ·rw [b3];refine ⟨id,h,?_,by simpa using S⟩;obtain ⟨q',rfl⟩:∃ q',q=q'+1:=⟨q-1,by omega⟩;have c00:¬ ((0:Nat):Int)<((([]:List Slt).length:Nat):Int):=by simp
    rw [eU,D9Q,List.map_nil,D9Q];simp only [E4,H7,c00,decide_false,dT]
   ·have gS:=D7 S.rs;have idl:=D7 S.rl;obtain ⟨bQ,h',f1,f2⟩:=C6U (lst:=h.length) (q:=q) (m0:=M) (no:=L[i]) (x18:=sV (g.length+4) 0 L.length 1) (x19:=iV (L.length:Nat)) (x20:=iV (i:Int)) (l:=H9 (blk D L[i])) hD hv hw ht h7 tL (by omega) (H9 (blk D L[i])).length 0 q s id (h++[rT (kX (H9 (blk D L[i])))]) (by omega) (by omega) (by omega) (S.more _) (by simp) (by omega);rw [D9O] at f1 f2;exact ⟨bQ,h',f1,f2⟩
  obtain ⟨id1,h1,m1,m2⟩:=main;obtain ⟨M',bQ,h',f1,f2,f3⟩:=ih (i+1) M _ id1 h1 (by omega) (by omega) (by simp;omega) m2;rw [D9C,<-C2P,<-D9E L8] at f1 f2 f3;refine ⟨M',bQ,h',?_,f2,f3⟩;rw [qU];have e00:((0:Nat):Int)=0:=rfl;rw [e00] at m1;generalize vwC D.length n m f=V at *;simp only [esc,E0D,c0,ad,l1,lV,hB,b1,hlen];simp only [P6,E4,w1] at m1;exact m1.trans f1
def D3H {F:List UInt8->Int} {B:A9} {b q mid sid:Nat} {S:mC} {es:Q7} (hm:MapN es F S) (hb:b<=B.length) (hs:rd B sid=rT (encS S)) (h4:rd B mid=A4 (K8 es)) (h62:S.length<1000000) :
  ∀ (e i M id:Nat) (h:A9),i+e=S.length->e<M->Low b B h->id≠sid->id≠mid->b<=id->(∀ j r,j=sid\/j=mid->rd B j=A4 r->rd h j=A4 r)->rd h id=rT (I7 ((S.take i).map λs=>(s,F s)))->B.length<=h.length ->
   ∃ v' h',xM q M (.c (.m mid)) (.c (.sl id 0 i 2)) (.c (.sl sid 0 S.length 1)) (.c (.i .i64 (S.length:Int))) (.c (.i .i64 (i:Int))) h=A4 (v',h')/\Out b h' v' 2 S.length (I7 (S.map λs=>(s,F s)))
 | e,i,0,id,h,_,hm,_,_,_,_,_,_,_=>by omega
 | 0,i,M+1,id,h,hi,hm0,hlow,ns,n4,hbi,hk,hr,hl=>by
  have c0:¬ (i:Int)<(S.length:Nat):=by omega
  have ei:i=S.length:=by omega
  subst ei;rw [qV];rw [List.take_length] at hr;refine ⟨.c (.sl id 0 S.length 2),h,by simp only [E4,H7,c0,decide_false,dT],by rw [kI];simp,id,rfl,hbi,hr⟩
 | e+1,i,M+1,id,h,hi,hm0,hlow,ns,n4,hbi,hk,hr,hl=>by
  have L8:i<S.length:=by omega
  have c0:(i:Int)<(S.length:Nat):=by omega
  have ad:E5 1 (.c (.sl sid 0 S.length 1)) (.c (.i .i64 (i:Int)))=A4 (.c (.p sid i)):=by rw [D8 L8];simp
  have l1:B8 h (.c (.p sid i))=A4 (.c (.s S[i])):=B9 (hk sid _ (.inl rfl) hs) (by rw [A8p,D9u L8];rfl) rfl;have lk:=C6N (s:=S[i]) (hk _ _ (.inr rfl) h4) hm (D9Y L8);have ef:E7 [Cell.s [],o0] [(0,1,.c (.s S[i])),(1,1,.c (.i .i64 (F S[i])))]=A4 (R0 (A4 (S[i],F S[i]))):=rfl;have ef2:E7 [Cell.s [],o0] [(0,2,.a (R0 (A4 (S[i],F S[i]))))]=A4 (R0 (A4 (S[i],F S[i]))):=rfl;have el:((S.take i).map λs=>(s,F s)).length=i:=by simp;omega
  obtain ⟨h2,a1,a2,a3,a4⟩:=B6f (n:=i) (sz:=2) (ys:=R0 (A4 (S[i],F S[i]))) hr (by rw [kI,el]) rfl (by omega) (by omega);have et:I7 ((S.take i).map λs=>(s,F s))++R0 (A4 (S[i],F S[i]))=I7 ((S.take (i+1)).map λs=>(s,F s)):=by
   rw [List.take_add_one,D9u L8,E0h,I7];simp [I7]
  rw [et] at a2;have w1:=D9 (show i+1<9223372036854775808 by omega);have D8P:=D7 a2;obtain ⟨v',h',f1,f2⟩:=D3H (q:=q) hm hb hs h4 h62 e (i+1) M (h.length+1) h2 (by omega) (by omega) (hlow.trans (a4 _ hbi (by omega)))
   (λe1=>by have:=D7 hs;omega) (λe1=>by have:=D7 h4;omega) (by omega) (λj r hj hjr=>a3 _ _ (by rcases hj with rfl | rfl<;>omega) (hk j r hj hjr)) a2 (by omega)
  rw [qV];refine ⟨v',h',?_,f2⟩;simp only [E4,H7,c0,decide_true,fD,ad,l1,lk,ef,ef2,a1,P6,w1];exact f1
def D3D {d:Int} {t:List Int} (hD:okD D) (hv:IsView h f D) (hr:VwR h r (vwC D.length n m f)) (ht:t.length=32) :
  eH [.c (.p r 0),.a (encI (d::t))] h=A4 (.c (.sl h.length 0 (W7 D (d::t) (J0 t (C4 d))).length 2),h++[rT (I7 (W7 D (d::t) (J0 t (C4 d))))]):=by
 have h33:(encI (d::t)).length=33:=by simp [C1,ht]
 have hLl:(J0 t (C4 d)).length<=32:=D93 (oI _ _) (Q5 _);have key:∀ g,IsView g f D->VwR g r (vwC D.length n m f)->∃ v g',nE 300 [.c (.p r 0),.a (encI (d::t))] g=A4 (v,g')/\Out g.length g' v 2 (W7 D (d::t) (J0 t (C4 d))).length (I7 (W7 D (d::t) (J0 t (C4 d)))):=by
  intro g hv hw;have hB:=kL (d:=d) (t:=t) (h:=g++[rT (encI (d::t)),rT [],A4 (K8 []),rT []]) ht;obtain ⟨L,hL⟩:∃ L,L=J0 t (C4 d):=⟨_,rfl⟩;rw [<-hL] at hB hLl ⊢;obtain ⟨G,hG⟩:∃ G,G=g++[rT (encI (d::t)),rT [],A4 (K8 []),rT [],rT (encI L)]:=⟨_,rfl⟩;have S0:NmS D (d::t) L g [] (g.length+3) G:=by
   rw [hG];exact ⟨(Low.refl (D9x _)).new _,by simp,⟨[],by simp,MapN.nil _⟩,by simp,by simp [M7,encS],.inl rfl⟩
  obtain ⟨M',id,H,e1,S,hn⟩:=C8O (q:=300) hD hv hw ht (by omega) hLl L.length 0 300 [] (g.length+3) G (by omega) (by omega) (by simp) S0;rw [D9O,D9U] at e1 S hn;obtain ⟨N,hN⟩:∃ N,N=M7 D (d::t) (A2V D L):=⟨_,rfl⟩;have gX:=B58 (D:=D) (X:=d::t) (s:=A2V D L);have hrl:=S.rl;rw [<-hN] at e1 gX hrl;have hH:Has (H++[rT []]) (.c (.sl id 0 N.length 1)) 1 N.length (encS N):=Has.row (rw:=A5) (B6 hrl) (by rw [X6];omega) (C0Y _);have hSo:=B33 hH (by omega);obtain ⟨es,r4,hm⟩:=S.rm;rw [<-hN] at hm;have hm2:MapN es (B3B D (d::t)) (bO N):=⟨hm.1,λs hs=>hm.2 s ((kZ _ _).1 hs)⟩;have tL:=A5T N;have lh:(H++[rT []]).length=H.length+1:=by simp
  rw [lh] at hSo;have T1:=D7 r4;have gl:=S.low.2.1;obtain ⟨v',g',o1,o2⟩:=D3H (F:=B3B D (d::t)) (B:=H++[rT []]++[rT (encS (bO N))]) (b:=g.length) (q:=300) (mid:=g.length+2) (sid:=H.length+1) (S:=bO N) hm2 (by simp;omega) (by rw [<-lh];exact O8) (B6 (B6 r4)) (by omega)
   (bO N).length 0 300 H.length (H++[rT []]++[rT (encS (bO N))]) (by omega) (by omega) (Low.refl (by simp;omega)) (by omega) (by omega) (by omega) (λj r _ hj=>hj) (by simp [I7]) (D9x _)
  have eL:W7 D (d::t) L=(bO N).map λs=>(s,B3B D (d::t) s):=by unfold W7;rw [<-hN]
  refine ⟨v',g',?_,by rw [eL,List.length_map];exact o2⟩;have c0:¬ ((L.length:Nat):Int)<(L.length:Nat):=by omega
  have l33:ldN (rT (encI (d::t))) 0 33=A4 (.a (encI (d::t))):=L9 h33;have n0:(M7 D (d::t) ([]:List Spt)).length=0:=rfl;have e00:((0:Nat):Int)=0:=rfl;rw [n0,e00] at e1;rw [hG] at e1;rw [e00] at o1;rw [A6B];simp only [esc] at hB;rw [qU 300 M'] at e1;simp only [esc,c0,hSo] at e1 o1;generalize encI (d::t)=X at *;simp only [esc,O9,G6,Nat.reduceAdd,l33,hB];refine e1.trans ?_;exact o1
 obtain ⟨v,g',e,ho⟩:=key (ro h) hv.ro hr.ro;exact A46 e (by simpa [G5] using ho) B1R
end
def B3m {cur:List UInt8} {k:Nat} {s:List UInt8} {n:Int} (hk:k<7) (hc:cur.length=256):(G0 cur (G8 k) (T0 s n)).length=256:=by
 rw [K5 (by rw [hc,U2];unfold G8;omega)];exact hc
def C3m {l xs:List UInt8} {a c n:Nat} (h:a+xs.length<=l.length) (hd:c+n<=a\/a+xs.length<=c):((G0 l a xs).drop c).take n=(l.drop c).take n:=by
 apply E0q;intro j;rw [List.getElem?_take,List.getElem?_take];split
 ·rename_i hj;rw [E0u,E0u,C0K h,if_neg (by omega)]
 ·rfl
def C3J {cur e:List UInt8} {j k:Nat} (hc:cur.length=256) (he:e.length=32) (hj:j<7) (hk:k<7):dJ (G0 cur (G8 j) e) k=if k=j then e else dJ cur k:=by
 have gX:G8 j+e.length<=cur.length:=by rw [hc,he];unfold G8;omega
 unfold dJ;by_cases c:k=j
 ·subst c;rw [if_pos rfl,<-he];exact C6H gX
 ·rw [if_neg c];exact C3m gX (by rw [he];unfold G8;omega)
def C7h (sl:List UInt8):Option Ent:=(eZ ((sl.drop 2).take 25)).bind λs=>if (A95 s ((le (sl.take 2):Nat):Int)&&decide (T0 s ((le (sl.take 2):Nat):Int)=sl))=A5 then A4 (s,((le (sl.take 2):Nat):Int)) else A7
def C81 {b:List UInt8} {k:Nat}:M4 b k=C7h (dJ b k):=by
 have e1:((dJ b k).drop 2).take 25=nameB b k:=by
  unfold dJ nameB;rw [List.drop_take,E0t,List.take_take];rfl
 have e2:(((le ((dJ b k).take 2):Nat)):Int)=qO b k:=by
  unfold dJ qO fieldN;rw [List.take_take];rfl
 unfold M4 C7h isE;rw [e1,e2]
def unpack_pack {s:List UInt8} (hf:U4 s=A5):eZ (dG s)=A4 s:=by
 have hl:=(aZ hf).2;have hp:dG s=UInt8.ofNat s.length::(s++zeros (24-s.length)):=by unfold dG A00;rw [hf,cond_true,List.take_length]
 have hn:((dG s).headD 0).toNat=s.length:=by
  rw [hp,List.headD_cons,UInt8.toNat_ofNat'];omega
 have hd:((dG s).drop 1).take s.length=s:=by
  rw [hp,List.drop_succ_cons,D9O,List.take_left]
 unfold eZ;rw [hn,if_pos hl,hd,if_pos ⟨hf,rfl⟩]
def D1B {s:List UInt8} {n:Int} (hm:A95 s n=A5):C7h (T0 s n)=A4 (s,n):=by
 have hm2:=hm;unfold A95 at hm2;simp only [D9v,decide_eq_true_eq] at hm2;obtain ⟨hf,h1,h2⟩:=hm2;have e1:((T0 s n).drop 2).take 25=dG s:=by
  unfold T0;rw [D9C,E0s N0,E0x kV]
 have e2:(((le ((T0 s n).take 2):Nat)):Int)=n:=by
  unfold T0;rw [D9C,E0x N0];have:=A9z 2 n;rw [this];omega
 unfold C7h;rw [e1,e2,unpack_pack hf,D9H,hm,decide_eq_true rfl];rfl
def B7z:C7h (zeros 32)=A7:=by decide +kernel
def D1O:∀ k,k<7->dJ hdB k=zeros 32:=by decide +kernel
def B7i {b nm:List UInt8} {i:Nat} {x:Ent} (hi:M4 b i=A4 x) (hx:x.1=nm):∀ (e k:Nat),k<=i->i<k+e->(∀ j y,k<=j->j<i->M4 b j=A4 y->y.1≠nm)->U3 b nm e k=A4 (i,x)
 | 0,k,h1,h2,_=>by omega
 | e+1,k,h1,h2,D5d=>by
  by_cases c:k=i
  ·subst c;obtain ⟨s,n⟩:=x;simp only at hx;subst hx;exact yZ hi
  ·have ih:=B7i hi hx e (k+1) (by omega) (by omega) (λj y h3 h4=>D5d j y (by omega) h4);cases hr:M4 b k with
   | none=>rw [mN hr];exact ih
   | some y =>
    obtain ⟨s,n⟩:=y;rw [mM hr (D5d k (s,n) (D9x _) (by omega) hr)];exact ih
def D6j (o:Option Ent) (d:List UInt8):List UInt8:=match o with
 | some x=>T0 x.1 x.2
 | none=>d
def B6i {b:List UInt8} {k:Nat} {x:Ent} (hx:M4 b k=A4 x):A95 x.1 x.2=A5:=by
 unfold M4 at hx;cases hu:eZ (nameB b k) with
 | none=>rw [hu] at hx;cases hx
 | some s' =>
  rw [hu,D9H] at hx;split at hx
  ·rename_i hc;cases hx;unfold isE at hc;rw [D9v] at hc;exact hc.1
  ·cases hx
def zA {b nm:List UInt8}:∀ (e k:Nat) {x:Slt},U3 b nm e k=A4 x->M4 b x.1=A4 x.2/\x.2.1=nm/\k<=x.1/\x.1<k+e/\∀ j y,k<=j->j<x.1->M4 b j=A4 y->y.1≠nm
 | 0,k,x,h=>by cases h
 | e+1,k,x,h=>by
  cases hx:M4 b k with
  | none =>
   rw [mN hx] at h;obtain ⟨h1,h2,h3,h4,h5⟩:=zA e (k+1) h;refine ⟨h1,h2,by omega,by omega,λj y hj hj2 hy=>?_⟩;by_cases c:j=k
   ·subst c;rw [hx] at hy;cases hy
   ·exact h5 j y (by omega) hj2 hy
  | some z =>
   obtain ⟨s,n⟩:=z;by_cases c:s=nm
   ·subst c;rw [yZ hx] at h;cases h;exact ⟨hx,rfl,D9x _,by show k<_;omega,λj y hj hj2=>by have:j<k:=hj2;omega⟩
   ·rw [mM hx c] at h;obtain ⟨h1,h2,h3,h4,h5⟩:=zA e (k+1) h;refine ⟨h1,h2,by omega,by omega,λj y hj hj2 hy=>?_⟩;by_cases c2:j=k
    ·subst c2;rw [hx] at hy;cases hy;exact c
    ·exact h5 j y (by omega) hj2 hy
def A8s {b nm:List UInt8}:∀ (e k:Nat),U3 b nm e k=A7->∀ j y,k<=j->j<k+e->M4 b j=A4 y->y.1≠nm
 | 0,k,h,j,y,h1,h2,_=>by omega
 | e+1,k,h,j,y,h1,h2,hy=>by
  cases hx:M4 b k with
  | none =>
   rw [mN hx] at h;by_cases c:j=k
   ·subst c;rw [hx] at hy;cases hy
   ·exact A8s e (k+1) h j y (by omega) (by omega) hy
  | some z =>
   obtain ⟨s,n⟩:=z;by_cases c:s=nm
   ·subst c;rw [yZ hx] at h;cases h
   ·rw [mM hx c] at h;by_cases c2:j=k
    ·subst c2;rw [hx] at hy;cases hy;exact c
    ·exact A8s e (k+1) h j y (by omega) (by omega) hy
def A0L {b nm:List UInt8}:∀ (e k:Nat),(∀ j y,k<=j->j<k+e->M4 b j=A4 y->y.1≠nm)->U3 b nm e k=A7
 | 0,k,_=>rfl
 | e+1,k,h=>by
  have ih:=A0L e (k+1) λj y h1 h2 hy=>h j y (by omega) (by omega) hy
  cases hx:M4 b k with
  | none=>rw [mN hx];exact ih
  | some z =>
   obtain ⟨s,n⟩:=z;rw [mM hx (h k (s,n) (D9x _) (by omega) hx)];exact ih
def D0G {h:A9} {b id n:Nat} {a:Int} {cs:List Cell} (hb:b<=id) (hr:rd h id=rT cs) (hf:K1 cs=A5) :
  S8 h b (.t [.a [.i .i64 a,.sl id 0 n 1],.c o0])=A4 (.t [.a [.i .i64 a,.sl b 0 n 1],.c o0],[id]):=by
 have h1:¬ id<b:=by omega
 have hc1:M6 h b [] [.i .i64 a,.sl id 0 n 1]=A4 ([.i .i64 a,.sl b 0 n 1],[id]):=by
  simp [M6,Cell.low,Cell.flat,oQ hr hf,h1,hb]
 have hc2:M6 h b [id] [o0]=A4 ([o0],[id]):=dS (by simp);simp only [S8,eJ,hc1,hc2,D9H,E0b]
def D6B {a:Int} {x:Cell}:E7 [o0,.ns] [(0,1,iV a),(1,1,.c x)]=A4 [.i .i64 a,x]:=rfl
def B9T {k id n:Nat} {h:A9} (hk:k<7) (hid:id<h.length):A2F [iV (k:Int),iV 0,sV id 0 n 1] h=A4 (.t [.a [.i .i64 (G8 k:Nat),.sl id 0 n 1],.c o0],h):=by
 have key:∀ g,∃ g',A2l 0 [iV (k:Int),iV 0,sV id 0 n 1] g=A4 (.t [.a [.i .i64 (G8 k:Nat),.sl id 0 n 1],.c o0],g'):=by
  intro g;have c1:¬ (k:Int)<0:=by omega
  have c2:¬ 7<=(k:Int):=by omega
  have hF:=λh=>nB (h:=h) hk
  have w1:D9B .i64 (((G8 k:Nat):Int)+0)=((G8 k:Nat):Int):=by unfold G8;rw [wrap_i64 (by omega) (by omega)];omega
  rw [B4J];exact ⟨_,by simp only [esc,esh,Nat.reduceAdd,c1,c2,hF,w1,D6B]<;>rfl⟩
 obtain ⟨g',e⟩:=key (ro h);exact B2K e (by simp [Val.low,Cell.low,Cell.flat,hid])
def C10 {k:Nat} {s:List UInt8} {n:Int} {h:A9} (hs:s.length<9223372036854775807) (hk:k<7) (hm:A95 s n=A5):A41 [iV (k:Int),.a [.s s,.i .i64 n]] h=A4 (.t [.a [.i .i64 (G8 k:Nat),.sl h.length 0 32 1],.c o0],h++[rT (B4 (T0 s n))]):=by
 have key:∀ g,∃ g',A4F 0 [iV (k:Int),.a [.s s,.i .i64 n]] g=A4 (.t [.a [.i .i64 (G8 k:Nat),.sl (g.length+2) 0 32 1],.c o0],g')/\rd g' (g.length+2)=rT (B4 (T0 s n)):=by
  intro g;have c1:0<=(k:Int):=by omega
  have c2:(k:Int)<7:=by omega
  have hM:=λh=>A2W (s:=s) (n:=n) (h:=h) hs
  rw [hm] at hM;have hW:=λh=>qS (s:=s) (n:=n) (h:=h) hs
  have hL:=B9T (k:=k) (id:=g.length+2) (n:=32) (h:=g++[rT [.s s,.i .i64 n],rT [o0,.ns],rT (B4 (T0 s n))]) hk (by simp);rw [B7J];generalize T0 s n=E at *;exact ⟨_,by simp only [esc,esh,Nat.reduceAdd,c1,c2,hM,hW,hL]<;>rfl,by simp⟩
 obtain ⟨g',e,hr⟩:=key (ro h);rw [G5] at hr;have:=B2J e (D0G (b:=h.length) (by rw [G5];omega) (by rw [G5];exact hr) (by simp));rw [this,G5];simp [hr]
def MapK (es:Q7) (K:List UInt8->Option Int):Prop:=(∀ e∈es,∃ s,e.1=Cell.s s)/\∀ s,(A4b (.s s) es).map (·.2)=(K s).map λv=>Part.c (.i .i64 v)
def C2v (K:List UInt8->Option Int) (a:List UInt8) (v:Int):List UInt8->Option Int:=λs=>if s=a then A4 v else K s
def MapK.nil:MapK [] λ_=>A7:=⟨λe he=>by simp at he,λs=>rfl⟩
def MapK.put {es:Q7} {K:List UInt8->Option Int} (hm:MapK es K) (a:List UInt8) (v:Int):MapK (A4c (.s a) (.c (.i .i64 v)) es) (C2v K a v):=by
 refine ⟨B55 (Q:=λc=>∃ s,c=.s s) ⟨a,rfl⟩ hm.1,λs=>?_⟩;unfold C2v;by_cases c:s=a
 ·subst c;rw [if_pos rfl,(zT (k':=.mh)).1];rfl
 ·rw [if_neg c,(zT (k:=.s a) (k':=.s s)).2 (by simpa using c)];exact hm.2 s
def D76 {h:A9} {mid:Nat} {es:Q7} {K:List UInt8->Option Int} {a:List UInt8} (hr:rd h mid=A4 (K8 es)) (hm:MapK es K):qN h A7 (.c o0) A6 (.c (.m mid)) (.c (.s a))=A4 (.c (.i .i64 ((K a).getD 0))):=by
 simp only [qN,B3S,C4O,hr,D9H,kP];rw [if_pos (C9V hm.1)];have h2:=hm.2 a;cases hg:A4b (.s a) es with
 | none =>
  rw [hg] at h2;cases hF:K a with
  | none=>rfl
  | some v=>rw [hF] at h2;cases h2
 | some ip =>
  obtain ⟨i,p⟩:=ip;rw [hg] at h2;cases hF:K a with
  | none=>rw [hF] at h2;cases h2
  | some v=>rw [hF] at h2;simp at h2;subst h2;rfl
def D86 {h:A9} {mid:Nat} {es:Q7} {K:List UInt8->Option Int} {a:List UInt8} {x:Int} (hr:rd h mid=A4 (K8 es)) (hm:MapK es K):xK h A7 (.c (.m mid)) (.c (.s a)) (.c (.i .i64 x))=A4 (h.set mid (A4 (K8 (A4c (.s a) (.c (.i .i64 x)) es)))):=by
 simp only [xK,B3S,B7y,hr,D9H,kP];rw [if_pos (C9V hm.1)]
def X9 (D:Dev) (X:List Int) (no:Int) (K:List UInt8->Option Int) (x:Slt):Bool:=atH D X (no,x)&&decide ((K x.2.1).getD 0=x.2.2)
def cX (D:Dev) (X:List Int) (no:Int) (K:List UInt8->Option Int) (s:Cl × List UInt8) (x:Slt):Cl × List UInt8 :=
 bif X9 D X no K x then (s.1,G0 s.2 (G8 x.1) (T0 x.2.1 x.2.2)) else ({ s.1 with lost:=s.1.lost+1 },s.2)
def T4 (D:Dev) (X:List Int) (no:Int) (K:List UInt8->Option Int) (s:Cl × List UInt8) (l:List Slt):Cl × List UInt8:=l.foldl (cX D X no K) s
def C25 {D:Dev} {X:List Int} {no:Int} {K:List UInt8->Option Int} {s:Cl × List UInt8} {x:Slt} (hs:s.2.length=256) (hk:x.1<7):(cX D X no K s x).2.length=256:=by
 unfold cX;cases X9 D X no K x with
 | false=>exact hs
 | true=>rw [cond_true];dsimp only;rw [K5 (by rw [hs,U2];unfold G8;omega)];exact hs
def C0a {D:Dev} {X:List Int} {no:Int} {K:List UInt8->Option Int} {s:Cl × List UInt8} {x:Slt}:s.1.lost<=(cX D X no K s x).1.lost/\(cX D X no K s x).1.lost<=s.1.lost+1:=by
 unfold cX;cases X9 D X no K x<;>simp<;>omega
section
variable {D:Dev} {n m:Int} {f:Cell} {g:A9} {r:Nat} {h:A9}
def LocV.more {t:A9} {id:Nat} {cs:List Cell} (hr:r<h.length) (a:LocV h r id cs):LocV (h++t) r id cs :=
 a.fr (Fr.low ((Low.refl (D9x _)).new _) hr)
def LocM (h:A9) (r id:Nat) (es:Q7):Prop:=Loc h r id/\rd h id=A4 (K8 es)
def LocM.fr {h':A9} {id:Nat} {es:Q7} (a:LocM h r id es) (b:Fr r h h'):LocM h' r id es:=by
 obtain ⟨h1,h2⟩:=b.loc a.1;exact ⟨h1,by rw [h2];exact a.2⟩
def LocM.set {id j:Nat} {es:Q7} {x:Option Row} (a:LocM h r id es) (hj:j≠id) (hl:j≠r):LocM (h.set j x) r id es:=by
 refine ⟨⟨by simpa using a.1.1,a.1.2.1,λhn=>a.1.2.2 ((Nam.same (B7 hl)).1 hn)⟩,by rw [B7 hj];exact a.2⟩
def C8e {d:Int} {t:List Int} {no:Int} {K:List UInt8->Option Int} {es:Q7} {l:List Slt} {mk px p8 p9 lst q:Nat} {h0:A9} (hD:okD D) (hv:IsView g f D) (ht:t.length=32) (hK:MapK es K) (h0g:g.length<=h0.length) (a8:h0.length<=p8) (a9:h0.length<=p9)
  (n1:p9≠mk) (n2:p9≠px) (n3:p9≠p8) (n4:p9≠lst) (hl7:l.length<=7) (tL:∀ x∈l,x.1<7/\x.2.1.length<=24/\A95 x.2.1 x.2.2=A5) :
  ∀ (e j M:Nat) (s:Cl × List UInt8) (h:A9),j+e=l.length->e<M->s.2.length=256->0<=s.1.lost->s.1.lost+e<=1000000->WP D n m f g r s.1 h->Fr r h0 h->LocM h r mk es->LocV h r px (encI (d::t))->(∃ z,z.length=256/\LocV h r p8 z)->LocV h r p9 (B4 s.2)->LocV h r lst (kX l) ->
  ∃ h',aJ q M (.c (.p r 0)) (.c (.i .i64 no)) (.c (.m mk)) (.c (.p px 0)) (.c (.p p8 0)) (.c (.p p9 0)) (.c (.sl lst 0 l.length 3)) (.c (.i .i64 (l.length:Nat))) (.c (.i .i64 (j:Int))) h=A4 (.a (B4 (T4 D (d::t) no K s (l.drop j)).2),h')/\WP D n m f g r (T4 D (d::t) no K s (l.drop j)).1 h'/\Fr r h0 h':=by
 intro e
 induction e with
 | zero =>
  intro j M s h hj hM hs l0 l1 P F hm hx hz hb hl;obtain ⟨M,rfl⟩:∃ M',M=M'+1:=⟨M-1,by omega⟩;have c0:¬ ((j:Int)<(l.length:Nat)):=by omega
  obtain ⟨z,uS,hz⟩:=hz;have hbl:(B4 s.2).length=256:=by rw [B5,hs]
  have q1:=C9 (n:=256) hb.2 hbl;have s1:=storeAll (n:=256) (xs:=B4 s.2) hz.2 uS hbl;have hz2:=hz.self (cs':=B4 s.2);have q2:=C9 (n:=256) hz2.2 hbl;rw [D9K (by omega)];refine ⟨h.set p8 (rT (B4 s.2)),?_,P.set hz.1 (by omega),F.set hz.1 a8⟩;rw [cA];show _=A4 (Val.a (B4 s.2),_);generalize B4 s.2=B at *;simp only [esc,c0,q1,s1,q2]
 | succ e ih =>
  intro j M s h hj hM hs l0 l1 P F hm hx hz hb hl;obtain ⟨M,rfl⟩:∃ M',M=M'+1:=⟨M-1,by omega⟩;have hjl:j<l.length:=by omega
  have c0:((j:Int)<(l.length:Nat)):=by omega
  have hv2:=hv.get;have ad:E5 3 (.c (.sl lst 0 l.length 3)) (.c (.i .i64 (j:Int)))=A4 (.c (.p lst (j*3))):=by rw [D8 hjl];simp
  have hlen:=oT (l:=l);have w1:=D9 (show j+1<9223372036854775808 by omega);obtain ⟨x,hxe⟩:∃ x,x=l[j]:=⟨_,rfl⟩;have hxj:l[j]?=A4 x:=by rw [hxe];exact D9u hjl
  obtain ⟨x7,x24,xm⟩:=tL x (by rw [hxe];exact D9Y hjl);have l3:D3 h 3 (.c (.p lst (j*3)))=A4 (.a (slC (A4 x))):=by rw [T2 hl.2 (by rw [hlen];omega) rfl,C49 hxj]
  have nQ:=C25 (D:=D) (X:=d::t) (no:=no) (K:=K) (s:=s) (x:=x) hs x7;have hlo:=C0a (D:=D) (X:=d::t) (no:=no) (K:=K) (s:=s) (x:=x);rw [D9E hjl,<-hxe];have er:∀ T,T4 D (d::t) no K s (x::T)=T4 D (d::t) no K (cX D (d::t) no K s x) T:=λT=>rfl
  rw [er];obtain ⟨k,nm,i⟩:=x;dsimp only at x7 x24 xm;obtain ⟨h1,e1⟩:∃ h1,h1=h++[rT (slC (A4 (k,nm,i)))]:=⟨_,rfl⟩;have s3:E9 (h++[rT [o0,.s [],o0]]) 3 (.c (.p h.length 0)) (.a (slC (A4 (k,nm,i))))=A4 h1:=by rw [F8,e1];rfl
  have P1:WP D n m f g r s.1 h1:=e1 ▸ P.more hv2 _;have hx1:LocV h1 r px (encI (d::t)):=e1 ▸ hx.more P.rlt;have lX:D3 h1 33 (.c (.p px 0))=A4 (.a (encI (d::t))):=C9 hx1.2 (by simp [C1,ht]);have lN:B8 h1 (.c (.p h.length 1))=A4 (.c (.s nm)):=by rw [e1,J2];rfl
  have hH:=C9R (n:=n) (m:=m) (f:=f) (r:=r) (d:=d) (t:=t) (nm:=nm) (h:=h1) hD (hv.since P1.lo) (P1.vw hv2) ht (by omega);obtain ⟨h2,e2⟩:∃ h2,h2=h1++[rT (B6o (P7 (d::t) nm) (hmS D (d::t) nm))]:=⟨_,rfl⟩;have s4:E9 (h1++[rT [o0,o0,.s [],o0]]) 4 (.c (.p h1.length 0)) (.a (B6o (P7 (d::t) nm) (hmS D (d::t) nm)))=A4 h2:=by
   rw [F8,e2];cases hmS D (d::t) nm<;>rfl
  have e12:h2=h++[rT (slC (A4 (k,nm,i))),rT (B6o (P7 (d::t) nm) (hmS D (d::t) nm))]:=by rw [e2,e1];simp
  have F2:Fr r h h2:=by rw [e12];exact Fr.low ((Low.refl (D9x _)).new _) P.rlt
  have P2:WP D n m f g r s.1 h2:=by rw [e12];exact P.more hv2 _
  have m2:=hm.fr F2;have x2:=hx.fr F2;have b2:=hb.fr F2;have ls2:=hl.fr F2;obtain ⟨z,uS,hz⟩:=hz;have z2:=hz.fr F2;have lB:B8 h2 (.c (.p h1.length 0))=A4 (.c (.i .i64 (P7 (d::t) nm))):=by rw [e2,J2];rfl
  have lS:D3 h2 3 (.c (.p h1.length 1))=A4 (.a (slC (hmS D (d::t) nm))):=by rw [e2,G6];cases hmS D (d::t) nm<;>rfl
  have rp:rd h2 h.length=rT (slC (A4 (k,nm,i))):=by rw [e2,e1];simp
  have lP:D3 h2 3 (.c (.p h.length 0))=A4 (.a (slC (A4 (k,nm,i)))):=C9 rp rfl;have lP0:B8 h2 (.c (.p h.length 0))=A4 (.c (.i .i64 (k:Int))):=B9 rp rfl rfl;have lP1:B8 h2 (.c (.p h.length 1))=A4 (.c (.s nm)):=B9 rp rfl rfl;have lP2:B8 h2 (.c (.p h.length 2))=A4 (.c (.i .i64 i)):=B9 rp rfl rfl;have lPE:D3 h2 2 (.c (.p h.length 1))=A4 (.a [.s nm,.i .i64 i]):=by rw [T2 rp (by simp [slC]) rfl];rfl
  have lk:=D76 (a:=nm) m2.2 hK;have lose:X9 D (d::t) no K (k,nm,i)=A6->∃ h3 h',B8 h2 (.c (.p r 9))=A4 (.c (.i .i64 s.1.lost))/\D9B .i64 (s.1.lost+1)=s.1.lost+1/\H1 h2 (.c (.p r 9)) (.c (.i .i64 (s.1.lost+1)))=A4 h3 /\
    aJ q M (.c (.p r 0)) (.c (.i .i64 no)) (.c (.m mk)) (.c (.p px 0)) (.c (.p p8 0)) (.c (.p p9 0)) (.c (.sl lst 0 l.length 3)) (.c (.i .i64 (l.length:Nat))) (.c (.i .i64 ((j+1:Nat):Int))) h3=A4 (.a (B4 (T4 D (d::t) no K (cX D (d::t) no K s (k,nm,i)) (l.drop (j+1))).2),h')/\WP D n m f g r (T4 D (d::t) no K (cX D (d::t) no K s (k,nm,i)) (l.drop (j+1))).1 h'/\Fr r h0 h':=by
   intro hk;have ec:cX D (d::t) no K s (k,nm,i)=({ s.1 with lost:=s.1.lost+1 },s.2):=by unfold cX;rw [hk];rfl
   obtain ⟨h3,f1,f2,f3,f4⟩:=P2.setLost hv2 (s.1.lost+1);have Fa:=F2.trans f4;obtain ⟨h',g1,g2⟩:=ih (j+1) M ({ s.1 with lost:=s.1.lost+1 },s.2) h3 (by omega) (by omega) hs (by dsimp only;omega) (by dsimp only;omega) f3 (F.trans Fa) (m2.fr f4) (x2.fr f4) ⟨z,uS,z2.fr f4⟩ (b2.fr f4) (ls2.fr f4);rw [ec];exact ⟨h3,h',f1,wrap_i64 (by omega) (by omega),f2,g1,g2⟩
  rw [cA];cases ho:hmS D (d::t) nm with
  | none =>
   obtain ⟨h3,h',f1,f2,f3,f4,f5⟩:=lose (by unfold X9 atH;simp only [ho];simp);refine ⟨h',?_,f5⟩;rw [ho] at hH s4 lS;generalize encI (d::t)=X at *;simp only [esc,Nat.reduceAdd,c0,ad,l3,s3,lX,lN,hH,E0n,s4,f1,f2,f3,Q3,w1];exact f4
  | some p =>
   rw [ho] at hH s4 lS;have ea:=D0k (neg:=A5) p (k,nm,i);by_cases c1:P7 (d::t) nm=no
   ·rw [c1] at hH s4 lB;by_cases c2:p=(k,nm,i)
    ·have ea2:aeq A5 [.i .i64,.s,.i .i64] (.a (slC (A4 p))) (.a (slC (A4 (k,nm,i))))=A4 (.c (.b A6)):=by rw [ea,c2];simp
     by_cases c3:(K nm).getD 0=i
     ·have hk:X9 D (d::t) no K (k,nm,i)=A5:=by unfold X9 atH;simp only [ho,c1,c2,c3];simp
      have ec:cX D (d::t) no K s (k,nm,i)=(s.1,G0 s.2 (G8 k) (T0 nm i)):=by unfold cX;rw [hk];rfl
      rw [ec] at nQ ⊢;have D5a:=C10 (k:=k) (s:=nm) (n:=i) (h:=h2) (by omega) x7 xm;obtain ⟨h3,e3⟩:∃ h3,h3=h2++[rT (B4 (T0 nm i)),rT [.i .i64 (G8 k:Nat),.sl h2.length 0 32 1]]:=⟨_,rfl⟩;have s5:E9 (h2++[rT (B4 (T0 nm i)),rT [o0,.ns]]) 2 (.c (.p (h2.length+1) 0)) (.a [.i .i64 (G8 k:Nat),.sl h2.length 0 32 1])=A4 h3:=by rw [O3,e3];rfl
      have F3:Fr r h2 h3:=by rw [e3];exact Fr.low ((Low.refl (D9x _)).new _) P2.rlt
      have P3:WP D n m f g r s.1 h3:=by rw [e3];exact P2.more hv2 _
      have b3:=b2.fr F3;have hbl:(B4 s.2).length=256:=by rw [B5,hs]
      have q1:=C9 (n:=256) b3.2 hbl;have q2:D3 h3 2 (.c (.p (h2.length+1) 0))=A4 (.a [.i .i64 (G8 k:Nat),.sl h2.length 0 32 1]):=by rw [e3,O9];rfl
      have D6E:Has h3 (.c (.sl h2.length 0 32 1)) 1 32 (B4 (T0 nm i)):=Has.row (rw:=A5) (by rw [e3];simp) (by rw [B5,U2]) (R7 _);have D8y:=B4g (a:=G8 k) (l:=s.2) D6E (by omega) (by unfold G8;omega) hs;have hl2:(B4 (G0 s.2 (G8 k) (T0 nm i))).length=256:=by rw [B5];exact nQ
      have sb:=storeAll (n:=256) (xs:=B4 (G0 s.2 (G8 k) (T0 nm i))) b3.2 hbl hl2;have Fa:=F2.trans F3;obtain ⟨h',g1,g2⟩:=ih (j+1) M (s.1,G0 s.2 (G8 k) (T0 nm i)) _ (by omega) (by omega) nQ l0 (by dsimp only;omega) (P3.set b3.1 (by omega)) ((F.trans Fa).set b3.1 a9) ((m2.fr F3).set n1 b3.1.2.1) ((x2.fr F3).set n2 b3.1.2.1) ⟨z,uS,(z2.fr F3).set n3 b3.1.2.1⟩ b3.self ((ls2.fr F3).set n4 b3.1.2.1);refine ⟨h',?_,g2⟩
      try dsimp only at g1
      generalize B4 (G0 s.2 (G8 k) (T0 nm i))=B2 at *;generalize B4 s.2=B at *;generalize encI (d::t)=X at *;generalize B4 (T0 nm i)=E at *;simp only [esc,Nat.reduceAdd,c0,ad,l3,s3,lX,lN,hH,D98,s4,lB,eq_self,lS,lP,ea2,lP0,lP1,lP2,lPE,lk,c3,D5a,s5,q1,q2,D8y,sb,Q3,w1];exact g1
     ·obtain ⟨h3,h',f1,f2,f3,f4,f5⟩:=lose (by unfold X9;simp [c3]);refine ⟨h',?_,f5⟩;generalize encI (d::t)=X at *;simp only [esc,Nat.reduceAdd,c0,ad,l3,s3,lX,lN,hH,D98,s4,lB,eq_self,lS,lP,ea2,lP1,lP2,lk,c3,f1,f2,f3,Q3,w1];exact f4
    ·have ea2:aeq A5 [.i .i64,.s,.i .i64] (.a (slC (A4 p))) (.a (slC (A4 (k,nm,i))))=A4 (.c (.b A5)):=by rw [ea];simp [c2]
     obtain ⟨h3,h',f1,f2,f3,f4,f5⟩:=lose (by unfold X9 atH;simp only [ho];simp [c2]);refine ⟨h',?_,f5⟩;generalize encI (d::t)=X at *;simp only [esc,Nat.reduceAdd,c0,ad,l3,s3,lX,lN,hH,D98,s4,lB,eq_self,lS,lP,ea2,f1,f2,f3,Q3,w1];exact f4
   ·obtain ⟨h3,h',f1,f2,f3,f4,f5⟩:=lose (by unfold X9 atH;simp only [ho];simp [c1]);refine ⟨h',?_,f5⟩;generalize encI (d::t)=X at *;simp only [esc,Nat.reduceAdd,c0,ad,l3,s3,lX,lN,hH,D98,s4,lB,c1,f1,f2,f3,Q3,w1];exact f4
end
def B1O {D:Dev} {X:List Int} {no:Int} {K:List UInt8->Option Int}:∀ {l:List Slt} {s:Cl × List UInt8},s.2.length=256->(∀ x∈l,x.1<7)->(T4 D X no K s l).2.length=256
 | [],_,hs,_=>hs
 | x::l,s,hs,h=>B1O (l:=l) (s:=cX D X no K s x) (C25 hs (h x (D9I ..))) λy hy=>h y (D9F _ hy)
def B7b {D:Dev} {X:List Int} {no:Int} {K:List UInt8->Option Int}:∀ {l:List Slt} {s:Cl × List UInt8},s.1.lost<=(T4 D X no K s l).1.lost/\(T4 D X no K s l).1.lost<=s.1.lost+l.length
 | [],s=>⟨Int.le_refl _,by show s.1.lost<=_;simp⟩
 | x::l,s=>by
  have h1:=C0a (D:=D) (X:=X) (no:=no) (K:=K) (s:=s) (x:=x);have h2:=B7b (D:=D) (X:=X) (no:=no) (K:=K) (l:=l) (s:=cX D X no K s x);show s.1.lost<=(T4 D X no K (cX D X no K s x) l).1.lost/\_<=_;rw [D9G];refine ⟨by omega,?_⟩;show (T4 D X no K (cX D X no K s x) l).1.lost<=_;omega
structure SameL (c c':Cl):Prop where
 row:c'.row=c.row
 ino:c'.ino=c.ino
 blocks:c'.blocks=c.blocks
 made:c'.made=c.made
 taken:c'.taken=c.taken
 lnk:c'.lnk=c.lnk
 par:c'.par=c.par
def vG {D:Dev} {X:List Int} {no:Int} {K:List UInt8->Option Int}:∀ {l:List Slt} {s:Cl × List UInt8},SameL s.1 (T4 D X no K s l).1
 | [],_=>⟨rfl,rfl,rfl,rfl,rfl,rfl,rfl⟩
 | x::l,s=>by
  have h2:=vG (D:=D) (X:=X) (no:=no) (K:=K) (l:=l) (s:=cX D X no K s x);have h1:SameL s.1 (cX D X no K s x).1:=by
   unfold cX;cases X9 D X no K x<;>exact ⟨rfl,rfl,rfl,rfl,rfl,rfl,rfl⟩
  show SameL s.1 (T4 D X no K (cX D X no K s x) l).1;exact ⟨h2.row.trans h1.row,h2.ino.trans h1.ino,h2.blocks.trans h1.blocks,h2.made.trans h1.made,h2.taken.trans h1.taken,h2.lnk.trans h1.lnk,h2.par.trans h1.par⟩
def B4q {b:List UInt8}:∀ x∈H9 b,x.1<7/\x.2.1.length<=24/\A95 x.2.1 x.2.2=A5:=λx hx=>by
 have h1:=A9A hx;exact ⟨h1.2,B6h h1.1,B6i h1.1⟩
section
variable {D:Dev} {n m:Int} {f:Cell} {g:A9} {r:Nat} {c:Cl} {h:A9}
def C8f {d:Int} {t:List Int} {no:Int} {K:List UInt8->Option Int} {es:Q7} {mk:Nat} (hD:okD D) (hv:IsView g f D) (P:WP D n m f g r c h) (ht:t.length=32) (hK:MapK es K) (hm:LocM h r mk es) (l0:0<=c.lost) (l1:c.lost<=900000) :
  ∃ h',iJ [.c (.p r 0),.a (encI (d::t)),.c (.i .i64 no),.c (.m mk)] h=A4 (.a (B4 (T4 D (d::t) no K (c,cF []) (H9 (blk D no))).2),h')/\WP D n m f g r (T4 D (d::t) no K (c,cF []) (H9 (blk D no))).1 h'/\Fr r h h':=by
 have hv2:=hv.get;have h33:(encI (d::t)).length=33:=by simp [C1,ht]
 have D8z:=λh=>C1Z (v:=.c .ns) (nv:=0) (l:=[]) (h:=h) (.inl ⟨rfl,rfl,rfl⟩) (by simp)
 have hNl:(B4 (cF [])).length=256:=by rw [B5];exact A13
 have hZl:(B4 (zeros 256)).length=256:=by rw [B5];exact zeros_length
 obtain ⟨T,hT⟩:∃ T,T=[rT (encI (d::t)),rT (B4 (zeros 256)),rT (B4 (cF []))]:=⟨_,rfl⟩;have F1:Fr r h (h++T):=Fr.low ((Low.refl (D9x _)).new _) P.rlt;have P1:=P.more hv2 T;have lV:=P1.view;have hB:=N1 (n:=n) (m:=m) (no:=no) hD (hv.since P1.lo);obtain ⟨v,tt,b1,b2,b3⟩:=wR (b:=blk D no) (h:=h++T) (J3 hD);have hlen:=b2.len;have h7:=fP (blk D no);have F2:Fr r (h++T) (h++T++tt):=Fr.low ((Low.refl (D9x _)).new _) P1.rlt;have P2:=P1.more hv2 tt;have L0:LocV (h++T) r h.length (encI (d::t)):=LocV.new (k:=0) hv2 P (by rw [hT];rfl);have L1:LocV (h++T) r (h.length+1) (B4 (zeros 256)):=LocV.new (k:=1) hv2 P (by rw [hT];rfl);have L2:LocV (h++T) r (h.length+2) (B4 (cF [])):=LocV.new (k:=2) hv2 P (by rw [hT];rfl);have main:∃ h',aJ 100 100 (.c (.p r 0)) (.c (.i .i64 no)) (.c (.m mk)) (.c (.p h.length 0)) (.c (.p (h.length+1) 0)) (.c (.p (h.length+2) 0)) v (.c (.i .i64 ((H9 (blk D no)).length:Nat))) (.c o0) (h++T++tt)=A4 (.a (B4 (T4 D (d::t) no K (c,cF []) (H9 (blk D no))).2),h')/\WP D n m f g r (T4 D (d::t) no K (c,cF []) (H9 (blk D no))).1 h'/\Fr r h h':=by
  rcases b3 with ⟨rfl,rfl,b3⟩ | ⟨rfl,rfl⟩
  ·rw [b3,D9Q];have c00:decide ((0:Int)<((0:Nat):Int))=A6:=by decide
   have q1:=C9 (n:=256) L2.2 hNl;have s1:=storeAll (n:=256) (xs:=B4 (cF [])) L1.2 hZl hNl;have z2:=L1.self (cs':=B4 (cF []));have q2:=C9 (n:=256) z2.2 hNl;refine ⟨(h++T).set (h.length+1) (rT (B4 (cF []))),?_,P1.set L1.1 (by have:=P.lo.2.1;omega),F1.set L1.1 (by omega)⟩;rw [cA];show _=A4 (Val.a (B4 (cF [])),_);generalize B4 (cF [])=B at *;generalize h++T=G at *;simp only [esc,c00,q1,s1,q2]
  ·have hT3:(h++T).length=h.length+3:=by rw [hT];simp
   have L3:LocV (h++T++[rT (kX (H9 (blk D no)))]) r ((h++T).length+0) (kX (H9 (blk D no))):=LocV.new (k:=0) hv2 P1 rfl;rw [E0D] at L3;have hml:=hm.1.1;obtain ⟨h',e1,e2,e3⟩:=C8e (n:=n) (m:=m) (q:=100) (no:=no) (h0:=h) (mk:=mk) (px:=h.length) (p8:=h.length+1) (p9:=h.length+2) (lst:=(h++T).length) (l:=H9 (blk D no)) hD hv ht hK P.lo.2.1 (by omega) (by omega) (by omega) (by omega) (by omega) (by omega) h7 B4q (H9 (blk D no)).length 0 100 (c,cF []) _ (by omega) (by omega) (A13 (l:=[])) l0 (by dsimp only;omega) P2 (F1.trans F2) (hm.fr (F1.trans F2)) (L0.fr F2) ⟨_,hZl,L1.fr F2⟩ (L2.fr F2) L3;rw [D9O] at e1 e2;exact ⟨h',e1,e2,e3⟩
 obtain ⟨h',e1,e2,e3⟩:=main;refine ⟨h',A3w (n:=100) ?_,e2,e3⟩;rw [A3r,F7];rw [hT] at e1 lV hB b1;have sB:stN (rT (B4 (zeros 256))) 0 256 (B4 (cF []))=rT (B4 (cF [])):=cK hZl hNl;generalize B4 (T4 D (d::t) no K (c,cF []) (H9 (blk D no))).2=BR at *;generalize B4 (cF [])=B at *;generalize B4 (zeros 256)=Z at *;generalize encI (d::t)=X at *;generalize vwC D.length n m f=V at *;generalize B4 (blk D no)=Y at *;simp only [esc,D8z,O3,Nat.reduceAdd,sB,lV,hB,b1,hlen];simp only [esc] at e1;exact e1
end
def K2 (D:Dev) (n ino:Int) (s:Cl × (List UInt8->Option Int)) (e:Ent):Cl × (List UInt8->Option Int):=bif R9 D n s.1 e.2 then (aI D n s.1 ino e.2,C2v s.2 e.1 e.2) else s
def P8 (D:Dev) (n ino:Int) (s:Cl × (List UInt8->Option Int)) (L:List Ent):Cl × (List UInt8->Option Int):=L.foldl (K2 D n ino) s
def gC (D:Dev) (X:List Int) (K:List UInt8->Option Int) (c:Cl) (no:Int):Cl:=dU (T4 D X no K (c,cF []) (H9 (blk D no))).1 no (T4 D X no K (c,cF []) (H9 (blk D no))).2
def N6 (D:Dev) (X:List Int) (K:List UInt8->Option Int) (c:Cl) (L:List Int):Cl:=L.foldl (gC D X K) c
def BndL (c:Cl) (B:Int):Prop:=∀ i,0<=(c.lnk i).getD 0/\(c.lnk i).getD 0<=B
def BndL.mono {c:Cl} {B B':Int} (h:BndL c B) (hb:B<=B'):BndL c B':=λi=>⟨(h i).1,Int.le_trans (h i).2 hb⟩
structure SameT (c c':Cl):Prop where
 ino:c'.ino=c.ino
 blocks:c'.blocks=c.blocks
 made:c'.made=c.made
 taken:c'.taken=c.taken
 lost:c'.lost=c.lost
def C7G {D:Dev} {n ino B:Int} {s:Cl × (List UInt8->Option Int)} {e:Ent} (hb:BndL s.1 B):SameT s.1 (K2 D n ino s e).1/\BndL (K2 D n ino s e).1 (B+1)/\(K2 D n ino s e).1.row.length<=s.1.row.length+1:=by
 have hl:BndL (A0W s.1 e.2) (B+1):=by
  intro i;have h1:=hb i;have h2:=hb e.2;unfold A0W A3j;dsimp only;by_cases c:i=e.2
  ·rw [if_pos c];simp;omega
  ·rw [if_neg c];omega
 unfold K2 aI;cases R9 D n s.1 e.2 with
 | false=>exact ⟨⟨rfl,rfl,rfl,rfl,rfl⟩,hb.mono (by omega),by simp⟩
 | true =>
  simp only [cond_true];cases (s.1.par e.2).isSome with
  | true=>exact ⟨⟨rfl,rfl,rfl,rfl,rfl⟩,hl,by simp [A0W]⟩
  | false=>exact ⟨⟨rfl,rfl,rfl,rfl,rfl⟩,λi=>hl i,by simp [C07,A0W]⟩
section
variable {D:Dev} {n m:Int} {f:Cell} {g:A9} {r:Nat} {h:A9}
def LocM.self {id:Nat} {es es':Q7} (a:LocM h r id es):LocM (h.set id (A4 (K8 es'))) r id es' :=
 ⟨⟨by simpa using a.1.1,a.1.2.1,λhn=>a.1.2.2 ((Nam.same (B7 a.1.2.1)).1 hn)⟩,D1 a.1.1⟩
def C9o {ino:Int} {L:List Ent} {pi px mk lst q:Nat} {ci cx:List Cell} {h0:A9} (hD:okD D) (hv:IsView g f D) (h0g:g.length<=h0.length) (am:h0.length<=mk) (n1:mk≠pi) (n2:mk≠px) (n3:mk≠lst) (hL:L.length<=10000) :
  ∀ (e j M:Nat) (B:Int) (s:Cl × (List UInt8->Option Int)) (es:Q7) (h:A9),j+e=L.length->e<M->s.1.row.length+e<=100000->B+e<900000->BndL s.1 B->WP D n m f g r s.1 h->Fr r h0 h->LocM h r mk es->MapK es s.2->LocV h r pi ci->LocV h r px cx->LocV h r lst (I7 L) ->
  ∃ M' es' h',gW q M (.c (.p r 0)) (.c (.i .i64 ino)) (.c (.p pi 0)) (.c (.p px 0)) (.c (.m mk)) (.c (.sl lst 0 L.length 2)) (.c (.i .i64 (L.length:Nat))) (.c (.i .i64 (j:Int))) h =
   gW q (M'+1) (.c (.p r 0)) (.c (.i .i64 ino)) (.c (.p pi 0)) (.c (.p px 0)) (.c (.m mk)) (.c (.sl lst 0 L.length 2)) (.c (.i .i64 (L.length:Nat))) (.c (.i .i64 (L.length:Nat))) h' /\
   WP D n m f g r (P8 D n ino s (L.drop j)).1 h'/\Fr r h0 h'/\LocM h' r mk es'/\MapK es' (P8 D n ino s (L.drop j)).2/\LocV h' r pi ci/\LocV h' r px cx/\BndL (P8 D n ino s (L.drop j)).1 (B+e)/\(P8 D n ino s (L.drop j)).1.row.length<=s.1.row.length+e/\SameT s.1 (P8 D n ino s (L.drop j)).1:=by
 intro e
 induction e with
 | zero =>
  intro j M B s es h hj hM hr hB hb P F hm hK hi hx hl;obtain ⟨M,rfl⟩:∃ M',M=M'+1:=⟨M-1,by omega⟩;have ej:j=L.length:=by omega
  subst ej;rw [List.drop_length];exact ⟨M,es,h,rfl,P,F,hm,hK,hi,hx,hb.mono (by omega),by show s.1.row.length<=_;omega,⟨rfl,rfl,rfl,rfl,rfl⟩⟩
 | succ e ih =>
  intro j M B s es h hj hM hr hB hb P F hm hK hi hx hl;obtain ⟨M,rfl⟩:∃ M',M=M'+1:=⟨M-1,by omega⟩;have hjl:j<L.length:=by omega
  have c0:((j:Int)<(L.length:Nat)):=by omega
  have hv2:=hv.get;have w1:=D9 (show j+1<9223372036854775808 by omega);have D6E:Has h (.c (.sl lst 0 L.length 2)) 2 L.length (I7 L):=Has.row hl.2 kI B5U;obtain ⟨ad,a1,a2⟩:=A31 D6E hjl;rw [D9E hjl];obtain ⟨x,hxe⟩:∃ x,x=L[j]:=⟨_,rfl⟩;rw [<-hxe] at a2 ⊢;have er:∀ T,P8 D n ino s (x::T)=P8 D n ino (K2 D n ino s x) T:=λT=>rfl
  rw [er];obtain ⟨tf1,tf2,tf3⟩:=C7G (D:=D) (n:=n) (ino:=ino) (s:=s) (e:=x) hb;obtain ⟨hh,hhe⟩:∃ hh,hh=h++[rT (R0 (A4 x))]:=⟨_,rfl⟩;have se:E9 (h++[rT [.s [],o0]]) 2 (.c (.p h.length 0)) (.a (R0 (A4 x)))=A4 hh:=by rw [hhe];exact C1p
  have F1:Fr r h hh:=by rw [hhe];exact Fr.low ((Low.refl (D9x _)).new _) P.rlt
  have P1:WP D n m f g r s.1 hh:=by rw [hhe];exact P.more hv2 _
  have L1:LocV hh r (h.length+0) (R0 (A4 x)):=by rw [hhe];exact LocV.new (k:=0) hv2 P rfl
  rw [E0D] at L1;have e1:B8 hh (.c (.p h.length 1))=A4 (.c (.i .i64 x.2)):=B9 L1.2 rfl rfl;have hkl:=hb x.2;obtain ⟨h2,f1,f2,f3⟩:=D5X (dir:=ino) (ino:=x.2) hD hv P1 (by omega) (by omega);have Fa:=F1.trans f3;have m2:=hm.fr Fa;have i2:=hi.fr Fa;have x2:=hx.fr Fa;have l2:=hl.fr Fa;have L2:=L1.fr f3;have e2:B8 h2 (.c (.p h.length 0))=A4 (.c (.s x.1)):=B9 L2.2 rfl rfl;have e3:B8 h2 (.c (.p h.length 1))=A4 (.c (.i .i64 x.2)):=B9 L2.2 rfl rfl;cases hb2:R9 D n s.1 x.2 with
  | true =>
   have et:K2 D n ino s x=(aI D n s.1 ino x.2,C2v s.2 x.1 x.2):=by unfold K2;rw [hb2];rfl
   have mp:=D86 (a:=x.1) (x:=x.2) m2.2 hK;have T1:=hm.1.1;rw [et] at tf1 tf2 tf3 ⊢;obtain ⟨M',es',h',g1,g2,g3,g4,g5,g6,g7,g8,g9,g10⟩:=ih (j+1) M (B+1) (aI D n s.1 ino x.2,C2v s.2 x.1 x.2) (A4c (.s x.1) (.c (.i .i64 x.2)) es) _ (by omega) (by omega) (by dsimp only at tf3 ⊢;omega) (by omega) tf2 (f2.set m2.1 (by omega)) ((F.trans Fa).set m2.1 am) m2.self (hK.put x.1 x.2) (i2.set n1 m2.1.2.1) (x2.set n2 m2.1.2.1) (l2.set n3 m2.1.2.1);refine ⟨M',es',h',?_,g2,g3,g4,g5,g6,g7,g8.mono (by omega),by dsimp only at tf3 g9;omega,⟨g10.ino.trans tf1.ino,g10.blocks.trans tf1.blocks,g10.made.trans tf1.made,g10.taken.trans tf1.taken,g10.lost.trans tf1.lost⟩⟩;rw [iX];rw [hb2] at f1;simp only [esc,c0,a1,a2,se,e1,f1,e2,e3,mp,vE,w1];exact g1
  | false =>
   have et:K2 D n ino s x=s:=by unfold K2;rw [hb2];rfl
   have ec:aI D n s.1 ino x.2=s.1:=by unfold aI;rw [hb2];rfl
   rw [ec] at f2;rw [et];obtain ⟨M',es',h',g1,g2,g3,g4,g5,g6,g7,g8,g9,g10⟩:=ih (j+1) M B s es h2 (by omega) (by omega) (by omega) (by omega) hb f2 (F.trans Fa) m2 hK i2 x2 l2;refine ⟨M',es',h',?_,g2,g3,g4,g5,g6,g7,g8.mono (by omega),by omega,g10⟩;rw [iX];rw [hb2] at f1;simp only [esc,c0,a1,a2,se,e1,f1,vE,w1];exact g1
def C51 {d:Int} {t L:List Int} {K:List UInt8->Option Int} {es:Q7} {mk px sid q:Nat} {h0:A9} (hD:okD D) (hv:IsView g f D) (ht:t.length=32) (hK:MapK es K) (hL:L.length<=100) :
  ∀ (e j M:Nat) (c:Cl) (h:A9),j+e=L.length->e<M->0<=c.lost->c.lost+7*e<=900000->c.blocks.length+e<=100000->c.made.length+e<=100000->WP D n m f g r c h->Fr r h0 h->LocM h r mk es->LocV h r px (encI (d::t))->LocV h r sid (encI L) ->
  ∃ h',A1R q M (.c (.p r 0)) (.c (.p px 0)) (.c (.m mk)) (.c (.sl sid 0 L.length 1)) (.c (.i .i64 (L.length:Nat))) (.c (.i .i64 (j:Int))) h=A4 (.t [],h')/\WP D n m f g r (N6 D (d::t) K c (L.drop j)) h'/\Fr r h0 h' /\
   0<=(N6 D (d::t) K c (L.drop j)).lost/\(N6 D (d::t) K c (L.drop j)).lost<=c.lost+7*e/\(N6 D (d::t) K c (L.drop j)).blocks.length=c.blocks.length+e/\(N6 D (d::t) K c (L.drop j)).made.length=c.made.length+e/\(N6 D (d::t) K c (L.drop j)).row=c.row/\(N6 D (d::t) K c (L.drop j)).lnk=c.lnk/\(N6 D (d::t) K c (L.drop j)).ino=c.ino:=by
 intro e
 induction e with
 | zero =>
  intro j M c h hj hM l0 l1 b0 b1 P F hm hx hl;obtain ⟨M,rfl⟩:∃ M',M=M'+1:=⟨M-1,by omega⟩;have c0:¬ ((j:Int)<(L.length:Nat)):=by omega
  rw [D9K (by omega)];refine ⟨h,?_,P,F,l0,by show c.lost<=_;omega,rfl,rfl,rfl,rfl,rfl⟩;rw [vF];simp only [esc,c0];rfl
 | succ e ih =>
  intro j M c h hj hM l0 l1 b0 b1 P F hm hx hl;obtain ⟨M,rfl⟩:∃ M',M=M'+1:=⟨M-1,by omega⟩;have hjl:j<L.length:=by omega
  have c0:((j:Int)<(L.length:Nat)):=by omega
  have hv2:=hv.get;have w1:=D9 (show j+1<9223372036854775808 by omega);have ad:E5 1 (.c (.sl sid 0 L.length 1)) (.c (.i .i64 (j:Int)))=A4 (.c (.p sid j)):=by rw [D8 hjl];simp
  have a1:B8 h (.c (.p sid j))=A4 (.c (.i .i64 L[j])):=B9 hl.2 (by rw [H0,D9u hjl];rfl) rfl;have lX:D3 h 33 (.c (.p px 0))=A4 (.a (encI (d::t))):=C9 hx.2 (by simp [C1,ht]);obtain ⟨h1,f1,f2,f3⟩:=C8f (no:=L[j]) hD hv P ht hK hm l0 (by omega);have hlen:=B1O (D:=D) (X:=d::t) (no:=L[j]) (K:=K) (l:=H9 (blk D L[j])) (s:=(c,cF [])) (A13 (l:=[])) λx hx=>(B4q x hx).1
  have hlo:=B7b (D:=D) (X:=d::t) (no:=L[j]) (K:=K) (l:=H9 (blk D L[j])) (s:=(c,cF []));have hsa:=vG (D:=D) (X:=d::t) (no:=L[j]) (K:=K) (l:=H9 (blk D L[j])) (s:=(c,cF []));have h7:=fP (blk D L[j]);have em:gC D (d::t) K c L[j]=dU (T4 D (d::t) L[j] K (c,cF []) (H9 (blk D L[j]))).1 L[j] (T4 D (d::t) L[j] K (c,cF []) (H9 (blk D L[j]))).2:=rfl;obtain ⟨s,hs⟩:∃ s,s=T4 D (d::t) L[j] K (c,cF []) (H9 (blk D L[j])):=⟨_,rfl⟩;rw [<-hs] at f1 f2 hlen hlo hsa em;dsimp only at hlo hsa;have eb:=hsa.blocks;have emd:=hsa.made;obtain ⟨h2,g1,g2,g3⟩:=C4M (no:=L[j]) hv2 f2 hlen (by rw [eb];omega) (by rw [emd];omega);have Fa:=f3.trans g3;rw [D9E hjl];have er:∀ T,N6 D (d::t) K c (L[j]::T)=N6 D (d::t) K (gC D (d::t) K c L[j]) T:=λT=>rfl
  rw [er,em];have k1:(dU s.1 L[j] s.2).blocks.length=c.blocks.length+1:=by show (s.1.blocks++[L[j]]).length=_;rw [eb];simp
  have k2:(dU s.1 L[j] s.2).made.length=c.made.length+1:=by show (s.1.made++[s.2]).length=_;rw [emd];simp
  have k3:(dU s.1 L[j] s.2).lost=s.1.lost:=rfl;obtain ⟨h',p1,p2,p3,p4,p5,p6,p7,p8,p9,p10⟩:=ih (j+1) M (dU s.1 L[j] s.2) h2 (by omega) (by omega) (by rw [k3];omega) (by rw [k3];omega) (by omega) (by omega) g2 (F.trans Fa) (hm.fr Fa) (hx.fr Fa) (hl.fr Fa);refine ⟨h',?_,p2,p3,p4,by rw [k3] at p5;omega,by omega,by omega,p8.trans hsa.row,p9.trans hsa.lnk,p10.trans hsa.ino⟩;rw [vF];generalize B4 s.2=B2 at *;generalize encI (d::t)=X at *;simp only [esc,c0,ad,a1,lX,f1,g1,w1];exact p1
end
def K7 (D:Dev) (n:Int) (c:Cl) (ino:Int):Cl × Int :=
 bif decide (kdV D n ino=2)&&O0 (blk D ((drV D n ino).getD 0 0)) then (L5 D n c ((drV D n ino).getD 0 0),K0 D n c ((drV D n ino).getD 0 0)) else (c,0)
def nN (D:Dev) (n:Int) (c:Cl) (ino:Int):Cl:={ (K7 D n c ino).1 with ino:=(K7 D n c ino).1.ino.set ino.toNat (2::1::0::(c.par ino).getD 0::(K7 D n c ino).2::zI 6) }
def F9 (D:Dev) (n:Int) (c:Cl) (d:Int) (t:List Int):Cl × List Int:=R3 D n (c,W5 d t) (J0 (W5 d t) (C4 (L6 d t)))
def bodyT (D:Dev) (n:Int) (c:Cl) (ino d:Int) (t:List Int):Cl × (List UInt8->Option Int) :=
 P8 D n ino ((F9 D n c d t).1,λ_=>A7) (W7 D (L6 d t::(F9 D n c d t).2) (J0 (F9 D n c d t).2 (C4 (L6 d t))))
def X4 (D:Dev) (n:Int) (c:Cl) (ino no d:Int) (t:List Int):Cl :=
 N6 D (L6 d t::(F9 D n c d t).2) (bodyT D n c ino d t).2 (dU (bodyT D n c ino d t).1 no (bif okX (L6 d t) (F9 D n c d t).2 then oU (L6 d t) (F9 D n c d t).2 else zeros 256)) (J0 (F9 D n c d t).2 (C4 (L6 d t)))
def rF (D:Dev) (n:Int) (c:Cl) (ino:Int):Cl :=
 if (K7 D n c ino).2=0 then nN D n c ino else
  X4 D n (nN D n c ino) ino (K7 D n c ino).2 (getD (blk D ((drV D n ino).getD 0 0))) (O6 (blk D ((drV D n ino).getD 0 0)) 32)
def B6V {D:Dev}:∀ {L:List Int},(A2V D L).length<=7*L.length
 | []=>by simp [A2V]
 | no::L=>by
  have h1:=B6V (D:=D) (L:=L);have h2:=fP (blk D no);rw [C2P,D9A,List.length_map,D9G];omega
def C4L {D:Dev} {X L:List Int}:(W7 D X L).length<=7*L.length:=by
 have h1:=B6V (D:=D) (L:=L);have h2:=B58 (D:=D) (X:=X) (s:=A2V D L);unfold W7;rw [List.length_map];have h3:=A5T (M7 D X (A2V D L));omega
structure Small (c:Cl) (R B S L:Nat):Prop where
 row:c.row.length<=R
 lnk:BndL c B
 blocks:c.blocks.length<=S
 made:c.made.length<=S
 lost0:0<=c.lost
 lost:c.lost<=(L:Int)
section
variable {D:Dev} {n m:Int} {f:Cell} {g:A9} {r:Nat} {c:Cl} {h:A9}
def D2S {ino no d:Int} {t:List Int} {pi px q R B S Lo:Nat} {k l s p:Int} {tl:List Int} {h0:A9} (hD:okD D) (hv:IsView g f D) (ht:t.length=32) (hq:300<=q) (h0g:g.length<=h0.length) (ax:h0.length<=px) (npx:px≠pi)
  (hR:R<=50000) (hB:B<=500000) (hS:S<=50000) (hLo:Lo<=500000) (sm:Small c R B S Lo) (P:WP D n m f g r c h) (F:Fr r h0 h) (hi:LocV h r pi (D4 k l s p (no::tl))) (htl:tl.length=6) (hx:LocV h r px (encI (d::t))) :
  ∃ h',(bnd (D3 h 33 (.c (.p px 0))) λv48=>bnd (bG [.c (.p r 0),v48] h) λp49=>bnd (E9 p49.2 33 (.c (.p px 0)) p49.1) λh50=>bnd (D3 (h50++[A4 (K8 [])]) 33 (.c (.p px 0))) λv51=>bnd (eH [.c (.p r 0),v51] (h50++[A4 (K8 [])])) λp52=>bnd (C1Y p52.1) λv53=>gW q q (.c (.p r 0)) (.c (.i .i64 ino)) (.c (.p pi 0)) (.c (.p px 0)) (.c (.m h50.length)) p52.1 v53 (.c o0) p52.2)=A4 (.t [],h') /\
   WP D n m f g r (X4 D n c ino no d t) h'/\Fr r h0 h'/\Small (X4 D n c ino no d t) (R+224) (B+224) (S+33) (Lo+224)/\(X4 D n c ino no d t).ino=c.ino:=by
 have hv2:=hv.get;have h33:(encI (d::t)).length=33:=by simp [C1,ht]
 have l33:=C9 (n:=33) hx.2 h33;obtain ⟨hA,a1,a2,a3⟩:=C78 (d:=d) (t:=t) hv2 P ht;have hbs:=bW (D:=D) (n:=n) (L:=J0 (W5 d t) (C4 (L6 d t))) (s:=(c,W5 d t));have hbl:=B5J (D:=D) (n:=n) (L:=J0 (W5 d t) (C4 (L6 d t))) (s:=(c,W5 d t));have eb:R3 D n (c,W5 d t) (J0 (W5 d t) (C4 (L6 d t)))=F9 D n c d t:=rfl;rw [eb] at a1 a2 hbs hbl;have hbT:(F9 D n c d t).2.length=32:=hbl.trans A8t;obtain ⟨d',hd'⟩:∃ d',d'=L6 d t:=⟨_,rfl⟩;unfold X4 bodyT;rw [<-hd'] at a1 ⊢;obtain ⟨s1,hs1⟩:∃ s1,s1=F9 D n c d t:=⟨_,rfl⟩;rw [<-hs1] at a1 a2 hbs hbT ⊢;dsimp only at hbs;have xA:=hx.fr a3;have iA:=hi.fr a3;have C6u:(encI (d'::s1.2)).length=33:=by simp [C1,hbT]
 have st:=storeAll (n:=33) (xs:=encI (d'::s1.2)) xA.2 h33 C6u;obtain ⟨hB',hBe⟩:∃ hB',hB'=hA.set px (rT (encI (d'::s1.2))):=⟨_,rfl⟩;rw [<-hBe] at st;have PB:WP D n m f g r s1.1 hB':=by rw [hBe];exact a2.set xA.1 (by omega)
 have FB:Fr r h0 hB':=by rw [hBe];exact (F.trans a3).set xA.1 ax
 have xB:LocV hB' r px (encI (d'::s1.2)):=by rw [hBe];exact xA.self
 have iB:LocV hB' r pi (D4 k l s p (no::tl)):=by rw [hBe];exact iA.set npx xA.1.2.1
 obtain ⟨L,hL⟩:∃ L,L=J0 s1.2 (C4 d'):=⟨_,rfl⟩;have hLl:L.length<=32:=by rw [hL];exact D93 (oI _ _) (Q5 _)
 obtain ⟨N,hN⟩:∃ N,N=W7 D (d'::s1.2) L:=⟨_,rfl⟩;have hNl:N.length<=224:=by
  have:=C4L (D:=D) (X:=d'::s1.2) (L:=L);rw [hN];omega
 have PC:=PB.more hv2 [A4 (K8 [])];have FC:Fr r hB' (hB'++[A4 (K8 [])]):=Fr.low ((Low.refl (D9x _)).new _) PB.rlt;have nmE:=D3D (n:=n) (m:=m) (f:=f) (r:=r) (d:=d') (t:=s1.2) (h:=hB'++[A4 (K8 [])]) hD (hv.since PC.lo) (PC.vw hv2) hbT;rw [<-hL,<-hN] at nmE;have PD:=PC.more hv2 [rT (I7 N)];have FD:Fr r (hB'++[A4 (K8 [])]) (hB'++[A4 (K8 [])]++[rT (I7 N)]):=Fr.low ((Low.refl (D9x _)).new _) PC.rlt;have hCl:(hB'++[A4 (K8 [])]).length=hB'.length+1:=by simp
 have LD:LocV (hB'++[A4 (K8 [])]++[rT (I7 N)]) r (hB'.length+1) (I7 N):=by
  have:=LocV.new (h:=hB'++[A4 (K8 [])]) (t:=[rT (I7 N)]) (k:=0) (cs:=I7 N) hv2 PC rfl;rw [hCl] at this;exact this
 have mkD:LocM (hB'++[A4 (K8 [])]++[rT (I7 N)]) r hB'.length []:=by
  refine LocM.fr (h:=hB'++[A4 (K8 [])]) ⟨⟨by simp,by have:=PB.rlt;omega,λhn=>?_⟩,by simp⟩ FD;have:=B57 hv2 PB ((Nam.same (E2 PB.rlt)).1 hn);omega
 have hpx:=xB.1.1;have hpi:=iB.1.1;have bl0:BndL s1.1 B:=λi=>by rw [hbs.lnk];exact sm.lnk i
 have r0:s1.1.row.length<=R:=by rw [hbs.row];exact sm.row
 have hh0:=FB.size;obtain ⟨M',es',hE,e1,e2,e3,e4,e5,e6,e7,e8,e9,e10⟩:=C9o (q:=q) (ino:=ino) (L:=N) (pi:=pi) (px:=px) (mk:=hB'.length) (lst:=hB'.length+1) (h0:=h0) hD hv h0g hh0 (by omega) (by omega) (by omega) (by omega) N.length 0 q B (s1.1,λ_=>A7) [] _ (by omega) (by omega) (by dsimp only;omega) (by omega) bl0 PD (FB.trans (FC.trans FD)) mkD MapK.nil (iB.fr (FC.trans FD)) (xB.fr (FC.trans FD)) LD;rw [D9O] at e2 e5 e8 e9 e10;rw [<-hL,<-hN];obtain ⟨s2,hs2⟩:∃ s2,s2=P8 D n ino (s1.1,λ_=>A7) N:=⟨_,rfl⟩;rw [<-hs2] at e2 e5 e8 e9 e10 ⊢;dsimp only at e9 e10;have D5a:=B3K (d:=d') (t:=s1.2) (h:=hE) hbT;obtain ⟨ib,hib⟩:∃ ib,ib=(bif okX d' s1.2 then oU d' s1.2 else zeros 256):=⟨_,rfl⟩;have D7V:ib.length=256:=by
  rw [hib];cases okX d' s1.2 with
  | true=>exact A1V hbT
  | false=>exact zeros_length
 rw [<-hib] at D5a ⊢;have hIl:(B4 ib).length=256:=by rw [B5,D7V]
 have PF:=e2.more hv2 [rT (B4 ib)];have FF:Fr r hE (hE++[rT (B4 ib)]):=Fr.low ((Low.refl (D9x _)).new _) e2.rlt;have iF:=e6.fr FF;have xF:=e7.fr FF;have mF:=e4.fr FF;have lXE:D3 hE 33 (.c (.p px 0))=A4 (.a (encI (d'::s1.2))):=C9 e7.2 C6u;have li:B8 (hE++[rT (B4 ib)]) (.c (.p pi 4))=A4 (.c (.i .i64 no)):=B9 iF.2 rfl rfl;have lib:D3 (hE++[rT (B4 ib)]) 256 (.c (.p hE.length 0))=A4 (.a (B4 ib)):=by rw [G6];exact L9 hIl
 have sib:E9 (hE++[rT (D9w 256 (Cell.i .u8 0))]) 256 (.c (.p hE.length 0)) (.a (B4 ib))=A4 (hE++[rT (B4 ib)]):=by
  rw [F8];show mp (stN (rT (D9w 256 (Cell.i .u8 0))) 0 256 (B4 ib)) _=_;rw [cK D9X hIl];rfl
 obtain ⟨hG,g1,g2,g3⟩:=C4M (no:=no) hv2 PF D7V (by rw [e10.blocks,hbs.blocks];have:=sm.blocks;omega) (by rw [e10.made,hbs.made];have:=sm.made;omega);have xG:=xF.fr g3;have mG:=mF.fr g3;have lXG:D3 hG 33 (.c (.p px 0))=A4 (.a (encI (d'::s1.2))):=C9 xG.2 C6u;have hBu:=kL (d:=d') (t:=s1.2) (h:=hG) hbT;rw [<-hL] at hBu;have PH:=g2.more hv2 [rT (encI L)];have FH:Fr r hG (hG++[rT (encI L)]):=Fr.low ((Low.refl (D9x _)).new _) g2.rlt;have lH:LocV (hG++[rT (encI L)]) r (hG.length+0) (encI L):=LocV.new (k:=0) hv2 g2 rfl;rw [E0D] at lH;have cb:(dU s2.1 no ib).blocks.length=c.blocks.length+1:=by show (s2.1.blocks++[no]).length=_;rw [e10.blocks,hbs.blocks];simp
 have cm:(dU s2.1 no ib).made.length=c.made.length+1:=by show (s2.1.made++[ib]).length=_;rw [e10.made,hbs.made];simp
 have cl:(dU s2.1 no ib).lost=c.lost:=by show s2.1.lost=_;rw [e10.lost,hbs.lost]
 have sb:=sm.blocks;have smd:=sm.made;have sl0:=sm.lost0;have sl1:=sm.lost;obtain ⟨hZ,z1,z2,z3,z4,z5,z6,z7,z8,z9,z10⟩:=C51 (q:=q) (d:=d') (t:=s1.2) (L:=L) (K:=s2.2) (es:=es') (mk:=hB'.length) (px:=px) (sid:=hG.length) (h0:=h0) hD hv hbT e5 (by omega) L.length 0 q (dU s2.1 no ib) _ (by omega) (by omega) (by rw [cl];omega) (by rw [cl];omega) (by omega) (by omega) PH (e3.trans (FF.trans (g3.trans FH))) (mG.fr FH) (xG.fr FH) lH;rw [D9O] at z2 z4 z5 z6 z7 z8 z9 z10;refine ⟨hZ,?_,z2,z3,⟨?_,?_,by omega,by omega,z4,by omega⟩,?_⟩
 ·have lXB:D3 (hB'++[A4 (K8 [])]) 33 (.c (.p px 0))=A4 (.a (encI (d'::s1.2))):=C9 (B6 xB.2) C6u;have e00:((0:Nat):Int)=0:=rfl;rw [e00] at e1 z1;have cN:¬ ((N.length:Nat):Int)<(N.length:Nat):=by omega
  rw [hCl] at nmE;rw [iX q M'] at e1;generalize encI (d::t)=X at *;generalize encI (d'::s1.2)=X' at *;generalize B4 ib=IB at *;generalize D9w 256 (Cell.i .u8 0)=Z at *;simp only [E4,l33,a1,st,lXB,nmE,A1N];refine e1.trans ?_;simp only [esc,cN,lXE,D5a,sib,lib];have ad0:∀ j,I5 6 1 (.c (.p j 4)) (.c o0)=A4 (.c (.p j 4)):=λj=>K3 (j:=0) (by omega)
  simp only [esc,ad0,li,g1,lXG,hBu];exact z1
 ·rw [z8];show s2.1.row.length<=_;omega
 ·intro i;have:=e8 i;rw [z9];show 0<=(s2.1.lnk i).getD 0/\(s2.1.lnk i).getD 0<=_;omega
 ·rw [z10];show s2.1.ino=_;rw [e10.ino,hbs.ino]
end
end Go.Proofs.YtbnkgnfhgbhblaaGreat
