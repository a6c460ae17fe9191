/- What the proof of this claim leans on, part 4. -/
import Derived.Test.YtbnkgnfhgbhblaaGreatFMendCountsp3
set_option linter.all false
set_option maxRecDepth 100000
open Go Go.Esc
noncomputable section
open Bool renaming and_eq_true→E5S,and_false→E6T,false_and→E51,not_eq_true'→E6I,not_false→E6Q,not_true→E6V,or_eq_true→E6S,true_and→E55,false→A6,true→A5
open Int renaming cast_ofNat_Int→E6r,eq_ofNat_of_zero_le→E6C,toNat_natCast→E6c
open IntKind renaming wrap→E5U
open List renaming all_cons→E6B,all_eq_true→E6M,append_assoc→E5Y,append_nil→E6m,cons_append→E6q,drop_drop→E6P,drop_eq_getElem_cons→E5X,drop_of_length_le→E56,drop_zero→E6a,getD_eq_getElem?_getD→E5Z,getElem?_append_right→E57,getElem?_cons_succ→E6F,getElem?_drop→E6J,getElem?_eq_getElem→E5P,getElem?_eq_none→E6x,getElem?_take_of_lt→E6s,getElem_mem→E6v,length_append→E5T,length_cons→E52,length_nil→E6h,length_replicate→E6n,length_set→E6o,length_take→E6l,map_append→E6N,map_cons→E6X,mem_cons_of_mem→E6f,mem_cons_self→E6g,mem_of_getElem?→E6j,mem_or_eq_of_mem_set→E6A,nil_append→E59,range→E6p,range'→E6y,replicate→E5R,replicate_succ→E6k,set_append_right→E6u,set_cons_succ→E6H,set_cons_zero→E6G,take_of_length_le→E53,take_succ_eq_append_getElem→E58,take_zero→E6U
open Nat renaming add_mul→E6W,add_zero→E6E,le_refl→E5V,le_trans→E6w,min_eq_left→E6R,mod_eq_of_lt→E6K,sub_self→E6D,zero_add→E6e
open Option renaming bind_some→E54,getD_some→E6z,isSome_none→E6i,isSome_some→E6b,none→A7,some→A4
open Option.some renaming injEq→E5W
open Prod.mk renaming injEq→E50
open Go.Proofs.Tryz renaming prog→A8
namespace Go.Proofs.YtbnkgnfhgbhblaaGreat
def C7L {x:Cell} {a n:Nat} {cs:List Cell} {h:B5} (hv:Has h (.c x) 1 n cs) (hn:1<=n) (han:a+n<=256) :
  A4Z [.a [.i .i64 a,x]] h=A4 (iV 0,h):=by
 have key:∀ g,Has g (.c x) 1 n cs->∃ g',A4G 0 [.a [.i .i64 a,x]] g=A4 (iV 0,g'):=by
  intro g hv;have c1:¬ (n:Int)<1:=by omega
  have c2:¬ (256:Int)<n:=by omega
  have c3:¬ (a:Int)<0:=by omega
  have e1:E5U .i64 (256-(n:Int))=256-n:=wrap_i64 (by omega) (by omega);have c4:¬ (256:Int)-n<a:=by omega
  rw [B9M];exact ⟨_,by simp only [esc,esh,hv.len,c1,c2,c3,e1,c4]<;>rfl⟩
 obtain ⟨g',e⟩:=key (ro h) hv.ro;exact B5K e rfl
def B2j {x:Cell} {n:Nat} {data l:List UInt8} {z:List Cell} {g:B5} (hv:Has g (.c x) 1 n (B4 data)) {a q:Nat} (han:a+n<=256) (hl:l.length=256) (hz:z.length=256) (hn:data.length=n):∀ d i m,i+d=n->d<m ->
  B8U q m (pV g.length 0) (pV (g.length+1) 0) (pV (g.length+2) 0) (.c x) (iV n) (iV i) (g++[rT (B4 (J7 l a (data.take i))),rT [.i .i64 a,x],rT z]) =
   A4 (.a (B4 (J7 l a data)),g++[rT (B4 (J7 l a data)),rT [.i .i64 a,x],rT (B4 (J7 l a data))])
 | d,i,0,_,hm=>by omega
 | 0,i,m+1,hi,hm=>by
  have e0:i=n:=by omega
  subst e0;have c0:¬ (i:Int)<i:=by omega
  have hE:(B4 (J7 l a data)).length=256:=by rw [A9,P9 (by omega),hl]
  rw [A9n,E53 (by omega)];simp only [esc,esh,c0,hE,hz]
 | d+1,i,m+1,hi,hm=>by
  have ih:=B2j hv (z:=z) (q:=q) han hl hz hn d (i+1) m (by omega) (by omega);obtain ⟨id,off,e,hid,h1,h2⟩:=(hv.more [rT (B4 (J7 l a (data.take i))),rT [.i .i64 a,x],rT z]).sl (by omega);cases e;have c0:(i:Int)<n:=by omega
  have hx:=h1 i (.i .u8 data[i].toNat) (by rw [Z0,E5P (by omega)];rfl);have eb:D9 1 (sV id off n 1) (iV (i:Int))=A4 (pV id (off+i)):=by rw [C9 (by omega)];simp
  have ea:I3 256 1 (pV g.length 0) (iV ((a+i:Nat):Int))=A4 (pV g.length (a+i)):=by rw [J5 (by omega)];simp
  have hE:(B4 (J7 l a (data.take i))).length=256:=by rw [A9,P9 (by simp;omega),hl]
  have ho:a+i<256:=by omega
  have e5:(J7 l a (data.take i)).set (a+i) data[i]=J7 l a (data.take (i+1)):=by
   have:=B21 (l:=l) (xs:=data.take i) (a:=a) (x:=data[i]) (by simp;omega);rw [E6l,E6R (by omega)] at this;rw [this,E58 (by omega)]
  have es:(B4 (J7 l a (data.take i))).set (a+i) (.i .u8 data[i].toNat)=B4 (J7 l a (data.take (i+1))):=by rw [iY,e5]
  rw [A9n];simp only [esc,esh,c0,eb,hx,A2O (show a+i<9223372036854775808 by omega),ea,hE,ho,es,D3 (show i+1<9223372036854775808 by omega)];exact ih
def B8T {x:Cell} {n a:Nat} {data l:List UInt8} {h:B5} (hv:Has h (.c x) 1 n (B4 data)) (hn:1<=n) (han:a+n<=256) (hl:l.length=256) :
  A3G [.a (B4 l),.a [.i .i64 a,x]] h=A4 (.a (B4 (J7 l a data)),h):=by
 have hd:data.length=n:=by simpa [A9] using hv.length
 have key:∀ N,n<N->∀ g,Has g (.c x) 1 n (B4 data)->∃ g',B0q N [.a (B4 l),.a [.i .i64 a,x]] g=A4 (.a (B4 (J7 l a data)),g'):=by
  intro N hN g hv;have hz:(E5R 256 (Cell.i .u8 0)).length=256:=E6n;have hE:(B4 l).length=256:=by rw [A9,hl]
  rw [C5j];generalize E5R 256 (Cell.i .u8 0)=z at *;have e:=B2j hv (l:=l) (z:=z) (q:=N) han hl hz hd n 0 N (by omega) (by omega);simp only [E6U,B8A] at e;have hc:=C7L (hv.more [rT (B4 l),rT [.i .i64 a,x],rT z]) hn han;exact ⟨_,by simp only [esc,esh,Nat.reduceAdd,hE,hz,hc,hv.len];exact e⟩
 obtain ⟨g',e⟩:=key (n+1) (by omega) (ro h) hv.ro;exact C0s e (by simp)
def D6U {a:Int} {x:Cell}:E6 [o0,.ns] [(0,1,iV a),(1,1,.c x)]=A4 [.i .i64 a,x]:=rfl
def D4O:E6 ([]:List Cell) []=A4 []:=rfl
def C8d {j:Nat} {k l s p:Int} {d:List Int} {h:B5} (hd:d.length=7) (h8:j<8) (c:A2E k l s p d=A5) :
  A42 [iV j,.a (F9 k l s p d)] h=A4 (.t [.a [.i .i64 ((32*j:Nat):Int),.sl h.length 0 32 1],.c o0],h++[rT (B4 (iS k l s p d))]):=by
 have key:∀ g,∃ g',A4J 0 [iV j,.a (F9 k l s p d)] g=A4 (.t [.a [.i .i64 ((32*j:Nat):Int),.sl (g.length+4) 0 32 1],.c o0],g')/\rd g' (g.length+4)=rT (B4 (iS k l s p d)):=by
  intro g;have c1:¬ (j:Int)<0:=by omega
  have c2:¬ (8:Int)<=j:=by omega
  have hP:=λh=>B8v (k:=k) (l:=l) (s:=s) (p:=p) (h:=h) hd
  simp only [c,cond_true] at hP;have hE:(encI d).length=7:=by rw [B7,hd]
  have hz:(E5R 32 (Cell.i .u8 0)).length=32:=E6n;have hB:(B4 (iS k l s p d)).length=32:=by rw [A9,mZ hd]
  have w1:E5U .i64 ((j:Int)*32)=((32*j:Nat):Int):=by rw [wrap_i64 (by omega) (by omega)];omega
  have p1:=mE (h:=g++[rT (F9 k l s p d),rT [o0,.ns],rT (B4 (iS k l s p d)),rT []]) (id:=g.length+3) (jd:=g.length+2) (n:=0) (m:=32) (sz:=1) (cs:=[]) (ys:=B4 (iS k l s p d)) (rw:=A5) (by simp) (by simp) (by simp) (by rw [hB]) rfl (by omega) (by omega);generalize B4 (iS k l s p d)=B at *;simp only [esc] at p1;rw [B9P];generalize E5R 32 (Cell.i .u8 0)=z at *;exact ⟨_,by simp only [esc,esh,Nat.reduceAdd,c1,c2,hE,hP,hz,hB,w1,D4O,p1,D6U,E6r]<;>rfl,by simp⟩
 obtain ⟨g',e,hr⟩:=key (ro h);have hr':=hr;rw [F7] at hr';have hc1:S8 g' h.length [] [.i .i64 ((32*j:Nat):Int),.sl ((ro h).length+4) 0 32 1]=A4 ([.i .i64 ((32*j:Nat):Int),.sl h.length 0 32 1],[h.length+4]):=by
  rw [F7];simp [S8,Cell.low,Cell.flat,A1K hr' (by simp:O5 (B4 (iS k l s p d))=A5)]
 have hc2:S8 g' h.length [h.length+4] [o0]=A4 ([o0],[h.length+4]):=gR (by simp);have:=B5M e (v2:=.t [.a [.i .i64 ((32*j:Nat):Int),.sl h.length 0 32 1],.c o0]) (ids:=[h.length+4]) (by
  simp only [Y8,iK,hc1,hc2,E54,Option.map_some])
 rw [this];simp [hr']
def B4F {j:Nat} {k l s p:Int} {d:List Int} {b:List UInt8} {h:B5} (hb:b.length=256) (hd:d.length=7) (h8:j<8) (c:A2E k l s p d=A5) :
  tO [.a (B4 b),iV j,.a (F9 k l s p d)] h=A4 (.t [.a (B4 (J7 b (32*j) (iS k l s p d))),.c o0],h):=by
 have key:∀ g,∃ g',A7s 0 [.a (B4 b),iV j,.a (F9 k l s p d)] g=A4 (.t [.a (B4 (J7 b (32*j) (iS k l s p d))),.c o0],g'):=by
  intro g;have hB:(B4 b).length=256:=by rw [A9,hb]
  have hE:(encI d).length=7:=by rw [B7,hd]
  have hI:(B4 (iS k l s p d)).length=32:=by rw [A9,mZ hd]
  have hz:(E5R 256 (Cell.i .u8 0)).length=256:=E6n;have hP:=λh=>C8d (h:=h) hd h8 c
  rw [C3j];generalize E5R 256 (Cell.i .u8 0)=z at *;have hL:=B8T (h:=g++[rT (B4 b),rT (F9 k l s p d),rT z,rT (B4 (iS k l s p d)),rT [.i .i64 ((32*j:Nat):Int),.sl (g.length+3) 0 32 1]]) (x:=.sl (g.length+3) 0 32 1) (n:=32) (a:=32*j) (data:=iS k l s p d) (l:=b) (Has.tr (by simp) (by rw [hI]) (G9 _)) (by omega) (by omega) hb;have hR:(B4 (J7 b (32*j) (iS k l s p d))).length=256:=by rw [A9,P9 (by rw [mZ hd];omega),hb]
  exact ⟨_,by simp only [esc,esh,Nat.reduceAdd,hB,hE,hz,hP,hL,hR]<;>rfl⟩
 obtain ⟨g',e⟩:=key (ro h);exact B7E e (by simp)
def fA (b:List UInt8) (j:Nat):List UInt8:=(b.drop (32*j)).take 32
def sA {b:List UInt8} {j:Nat} (hb:b.length=256) (hj:j<8):(fA b j).length=32:=by unfold fA;simp;omega
def D4g {g:B5} {b:List UInt8} {z:List Cell} {j q:Nat} (hb:b.length=256) (hz:z.length=32) (hj:j<8):∀ e i m:Nat,i+e=32->e<m ->
  B9a q m (iV j) (pV g.length 0) (pV (g.length+1) 0) (pV (g.length+2) 0) (iV i) (g++[rT (B4 b),rT z,rT (B4 ((fA b j).take i++zeros (32-i)))]) =
   A4 (.a (B4 (fA b j)),g++[rT (B4 b),rT (B4 (fA b j)),rT (B4 (fA b j))])
 | e,i,0,_,hm=>by omega
 | 0,i,m+1,hi,hm=>by
  have e0:i=32:=by omega
  subst e0;have h1':¬ ((32:Nat):Int)<32:=by omega
  have hR:=sA hb hj;have hl:(B4 (fA b j)).length=32:=by rw [A9,hR]
  have e1:B4 ((fA b j).take 32++zeros (32-32))=B4 (fA b j):=by rw [E53 (by omega)];simp [zeros]
  rw [A9s,e1];simp only [esc,esh,h1',hl,hz]
 | e+1,i,m+1,hi,hm=>by
  have ih:=D4g (g:=g) (q:=q) hb hz hj e (i+1) m (by omega) (by omega);have hR:=sA hb hj;have h1':(i:Int)<32:=by omega
  have w1:E5U .i64 ((j:Int)*32)=((32*j:Nat):Int):=by rw [wrap_i64 (by omega) (by omega)];omega
  have a1:I3 256 1 (pV g.length 0) (iV ((32*j+i:Nat):Int))=A4 (pV g.length (32*j+i)):=by rw [J5 (by omega)];simp
  have a2:I3 32 1 (pV (g.length+2) 0) (iV (i:Int))=A4 (pV (g.length+2) i):=by rw [J5 (by omega)];simp
  have l1:(B4 b)[32*j+i]?=A4 (.i .u8 (fA b j)[i].toNat):=by
   rw [Z0,E5P (by omega)];have:(fA b j)[i]=b[32*j+i]'(by omega):=by simp [fA]
   rw [this];rfl
  have ho:i<(B4 ((fA b j).take i++zeros (32-i))).length:=by rw [A9,E5T,zeros_length,E6l];omega
  have es:(B4 ((fA b j).take i++zeros (32-i))).set i (.i .u8 (fA b j)[i].toNat)=B4 ((fA b j).take (i+1)++zeros (32-(i+1))):=by
   rw [iY];refine congrArg B4 ?_;have h6:((fA b j).take i).length=i:=by simp;omega
   rw [E6u _ _ (by omega),h6,E6D,E58 (by omega),E5Y];refine congrArg ((fA b j).take i ++ ·) ?_;rw [show 32-i=32-(i+1)+1 by omega];unfold zeros;rw [E6k,E6G];rfl
  rw [A9s];simp only [esc,esh,h1',w1,A2O (show 32*j+i<9223372036854775808 by omega),a1,a2,l1,ho,es,D3 (show i+1<9223372036854775808 by omega)];exact ih
def D2C {b:List UInt8} {j:Nat} {h:B5} (hb:b.length=256) (hj:j<8):B0Z [.a (B4 b),iV j] h=A4 (.a (B4 (fA b j)),h):=by
 have key:∀ N,32<N->∀ g,∃ g',B0v N [.a (B4 b),iV j] g=A4 (.a (B4 (fA b j)),g'):=by
  intro N hN g;have c1:¬ (j:Int)<0:=by omega
  have c2:¬ (8:Int)<=j:=by omega
  have hz:(B4 (zeros 32)).length=32:=by rw [A9];exact zeros_length
  have e:=D4g (g:=g) (z:=B4 (zeros 32)) (q:=N) hb hz hj 32 0 N (by omega) (by omega);simp only [E6U,E59,Nat.sub_zero] at e;rw [C5n,I9];generalize zeros 32=zz at *;exact ⟨_,by simp only [esc,esh,Nat.reduceAdd,c1,c2];exact e⟩
 obtain ⟨g',e⟩:=key (h.length+33) (by omega) (ro h);exact C0x e (by simp)
def A0e:(F9 0 0 0 0 (zI 7)).length=11:=rfl
def B8s:[o0,o0,o0,o0,o0,o0,o0,o0,o0,o0,o0]=F9 0 0 0 0 (zI 7):=rfl
def B5T:E6 (F9 0 0 0 0 (zI 7)) []=A4 (F9 0 0 0 0 (zI 7)):=rfl
def D2B {b:List UInt8} {j:Nat} {h:B5} (hb:b.length=256) (hj:j<8):B0Y [.a (B4 b),iV j] h=A4 (.t [.a (eR (fA b j)),.c (.b (iO (fA b j)))],h):=by
 have key:∀ g,∃ g',B0u 0 [.a (B4 b),iV j] g=A4 (.t [.a (eR (fA b j)),.c (.b (iO (fA b j)))],g'):=by
  intro g;have c1:¬ (j:Int)<0:=by omega
  have c2:¬ (8:Int)<=j:=by omega
  have hB:(B4 b).length=256:=by rw [A9,hb]
  have hR:=λh=>D2C (h:=h) hb hj
  have hC:=λh=>C7g (b:=fA b j) (h:=h) (sA hb hj)
  have hl:=A0e;have hcl:=yV (b:=fA b j);rw [C5m,B8s];generalize F9 0 0 0 0 (zI 7)=z at *;exact ⟨_,by simp only [esc,esh,c1,c2,hB,hR,hC,hl,hcl]<;>rfl⟩
 obtain ⟨g',e⟩:=key (ro h);exact C0w e (by simp [A1n])
def A9H (D:Dev) (n i:Int):List UInt8:=fA (blk D (X3 D.length n i)) (cZ D.length n i).toNat
def A2V (D:Dev) (n i:Int):List Cell:=bif S4 D.length n i then eR (A9H D n i) else F9 0 0 0 0 (zI 7)
def kdV (D:Dev) (n i:Int):Int:=bif S4 D.length n i then (bif iO (A9H D n i) then sH (A9H D n i) else 0) else 0
def D7l (D:Dev) (n i:Int):∃ l s p d,A2V D n i=F9 (kdV D n i) l s p d/\d.length=7:=by
 unfold A2V kdV;cases S4 D.length n i with
 | false=>exact ⟨0,0,0,zI 7,rfl,J6⟩
 | true =>
  unfold eR;cases iO (A9H D n i) with
  | false=>exact ⟨0,0,0,zI 7,rfl,J6⟩
  | true=>exact ⟨_,_,_,_,rfl,F8⟩
def C6Y (D:Dev) (n i:Int):O5 (A2V D n i)=A5:=by
 obtain ⟨l,s,p,d,e,hd⟩:=D7l D n i;rw [e];exact B6e (l:=_::_::_::_::d)
def C9J {b n m i:Int} {f:Cell} {h:B5} (hi:S4 b n i=A6):T4 [.a (vwC b n m f),iV i] h=A4 (.a (F9 0 0 0 0 (zI 7)),h):=by
 have key:∀ g,∃ g',kF 0 [.a (vwC b n m f),iV i] g=A4 (.a (F9 0 0 0 0 (zI 7)),g'):=by
  intro g;have l3:=D4D (b:=b) (n:=n) (m:=m) (f:=f);have hW:=λh=>A5m (b:=b) (n:=n) (m:=m) (i:=i) (h:=h)
  simp only [hi] at hW;have hf:=B5T;have hl:=A0e;rw [zL,B8s];generalize vwC b n m f=V at *;generalize F9 0 0 0 0 (zI 7)=z at *;exact ⟨_,by simp only [esc,esh,l3,hW,hf,hl]<;>rfl⟩
 obtain ⟨g',e⟩:=key (ro h);exact tQ e rfl
def pN {n m i:Int} {f:Cell} {D:Dev} {h:B5} (hD:okD D) (hv:IsView h f D):T4 [.a (vwC D.length n m f),iV i] h=A4 (.a (A2V D n i),h):=by
 cases hi:S4 D.length n i with
 | false =>
  rw [C9J hi];unfold A2V;rw [hi];rfl
 | true =>
  have key:∀ g,IsView g f D->∃ g',kF 0 [.a (vwC D.length n m f),iV i] g=A4 (.a (A2V D n i),g'):=by
   intro g hv;have l3:=D4D (b:=D.length) (n:=n) (m:=m) (f:=f);have l4:=E0m (b:=D.length) (n:=n) (m:=m) (f:=f);have hW:=λh=>A5m (b:=D.length) (n:=n) (m:=m) (i:=i) (h:=h)
   simp only [hi] at hW;have hf:=B5T;have hl:=A0e;have hK:∃ j:Nat,cZ D.length n i=j/\j<8:=by
    refine ⟨(cZ D.length n i).toNat,?_,?_⟩<;>unfold cZ<;>rw [hi,cond_true]<;>omega
   obtain ⟨j,hj,hj8⟩:=hK;have hB:=bP (n:=n) (m:=m) (no:=X3 D.length n i) (h:=g++[rT (vwC D.length n m f),rT (F9 0 0 0 0 (zI 7))]) hD (hv.more _);have hG:=λh=>D2B (b:=blk D (X3 D.length n i)) (j:=j) (h:=h) (O9 hD) hj8
   have er:fA (blk D (X3 D.length n i)) j=A9H D n i:=by unfold A9H;rw [hj,E6c]
   simp only [er] at hG;simp only [hj] at hW;have hcl:=yV (b:=A9H D n i);have ei:A2V D n i=eR (A9H D n i):=by unfold A2V;rw [hi];rfl
   rw [zL,B8s,ei];generalize vwC D.length n m f=V at *;generalize F9 0 0 0 0 (zI 7)=z at *;generalize eR (A9H D n i)=y at *;exact ⟨_,by simp only [esc,esh,Nat.reduceAdd,l3,l4,hW,hB,hG,hf,hl,hcl]<;>rfl⟩
  obtain ⟨g',e⟩:=key (ro h) hv.ro;exact tQ e (C6Y D n i)
def C0U (b:List UInt8) (i:Int):Bool:=decide (0<=i)&&decide (i<2048)&&decide ((b.getD (i/8).toNat 0).toNat/2 ^ (i%8).toNat%2=1)
def vR (i:Nat):Nat:=2 ^ (i%8)
def B2a (i:Nat):vR i<256:=by
 have h:i%8<8:=by omega
 unfold vR;generalize i%8=j at *;have:j=0\/j=1\/j=2\/j=3\/j=4\/j=5\/j=6\/j=7:=by omega
 rcases this with rfl | rfl | rfl | rfl | rfl | rfl | rfl | rfl<;>decide
def B1k {i:Nat} {h:B5} (hi:i<2048):pG [iV (i:Int)] h=A4 (.t [.c (.i .i64 ((i/8:Nat):Int)),.c (.i .u8 (vR i:Int)),.c (.b A5)],h):=by
 refine A14 (n:=0) (h2:=ro h) ?_ rfl;have c1:¬ (i:Int)<0:=by omega
 have c2:¬ (2048:Int)<=i:=by omega
 have q1:N4 .quo (iV (i:Int)) (iV 8)=A4 (iV ((i/8:Nat):Int)):=by
  rw [uQ (by omega) (by omega) (by omega)];congr 3
 have r1:N4 .rem (iV (i:Int)) (iV 8)=A4 (iV ((i%8:Nat):Int)):=by
  rw [A2G (by omega) (by omega)];congr 3
 have w1:E5U .u64 ((i%8:Nat):Int)=((i%8:Nat):Int):=wrap_u64 (by omega) (by omega);have s1:N4 .shl (.c (.i .u8 1)) (.c (.i .u64 ((i%8:Nat):Int)))=A4 (.c (.i .u8 (vR i:Int))):=by
  have hm:=B2a i;rw [B7Q (by omega),E6c];have e1:Nat.min (i%8) IntKind.u8.bits=i%8:=by
   have:IntKind.u8.bits=8:=rfl;rw [this];exact E6R (by omega)
  have e2:(1:Int)*2 ^ (i%8)=(vR i:Int):=by unfold vR;rw [Int.natCast_pow];simp
  rw [e1,e2,wrap_u8 (by omega) (by omega)]
 rw [A5E];simp only [esc,c1,c2,q1,r1,w1,s1]
def C3W {i:Int} {h:B5} (hi:i<0\/2048<=i):pG [iV i] h=A4 (.t [.c o0,.c (.i .u8 0),.c (.b A6)],h):=by
 refine A14 (n:=0) (h2:=ro h) ?_ rfl;rw [A5E];by_cases c1:i<0
 ·simp only [esc,c1]
 ·have c2:2048<=i:=by omega
  simp only [esc,c1,c2]
def E2j {a b:Nat} (ha:a<256) (hb:b<256):N4 .and (.c (.i .u8 a)) (.c (.i .u8 b))=A4 (.c (.i .u8 ((a &&& b:Nat):Int))):=by
 have h1:a &&& b<2 ^ 8:=Nat.and_lt_two_pow _ hb;rw [D2Q];have e:(BitVec.ofInt IntKind.u8.bits (a:Int) &&& BitVec.ofInt IntKind.u8.bits (b:Int)).toNat=a &&& b:=by
  have h8:IntKind.u8.bits=8:=rfl;rw [BitVec.toNat_and,BitVec.toNat_ofInt,BitVec.toNat_ofInt,h8];have e1:((a:Int)%(2 ^ 8:Nat)).toNat=a:=by omega
  have e2:((b:Int)%(2 ^ 8:Nat)).toNat=b:=by omega
  rw [e1,e2]
 rw [e,wrap_u8 (by omega) (by omega)]
def E4f {a b:Nat} (ha:a<256) (hb:b<256):N4 .or (.c (.i .u8 a)) (.c (.i .u8 b))=A4 (.c (.i .u8 ((a ||| b:Nat):Int))):=by
 have h1:a ||| b<2 ^ 8:=Nat.or_lt_two_pow ha hb
 rw [D1z];have e:(BitVec.ofInt IntKind.u8.bits (a:Int) ||| BitVec.ofInt IntKind.u8.bits (b:Int)).toNat=a ||| b:=by
  have h8:IntKind.u8.bits=8:=rfl;rw [BitVec.toNat_or,BitVec.toNat_ofInt,BitVec.toNat_ofInt,h8];have e1:((a:Int)%(2 ^ 8:Nat)).toNat=a:=by omega
  have e2:((b:Int)%(2 ^ 8:Nat)).toNat=b:=by omega
  rw [e1,e2]
 rw [e,wrap_u8 (by omega) (by omega)]
def E0y {a j:Nat}:(a &&& 2 ^ j=0)↔¬ a/2 ^ j%2=1:=by
 have h:=Nat.testBit_eq_decide_div_mod_eq (x:=a) (i:=j);constructor
 ·intro h0 h1;rw [decide_eq_true h1] at h;have h2:(a &&& 2 ^ j).testBit j=A5:=by rw [Nat.testBit_and,h,Nat.testBit_two_pow,decide_eq_true rfl];rfl
  rw [h0,Nat.zero_testBit] at h2;cases h2
 ·intro h1;rw [decide_eq_false h1] at h;refine Nat.eq_of_testBit_eq λi=>?_
  rw [Nat.testBit_and,Nat.testBit_two_pow,Nat.zero_testBit];by_cases c:j=i
  ·subst c;rw [h];rfl
  ·rw [decide_eq_false c,E6T]
def D1H {b:List UInt8} {i:Int} {h:B5} (hb:b.length=256):B0B [.a (B4 b),iV i] h=A4 (bV (C0U b i),h):=by
 have key:∀ g,∃ g',A92 0 [.a (B4 b),iV i] g=A4 (bV (C0U b i),g'):=by
  intro g;rw [C4H];by_cases c:0<=i/\i<2048
  ·obtain ⟨k,rfl⟩:∃ k:Nat,i=k:=⟨i.toNat,by omega⟩;have hk:k<2048:=by omega
   have hW:=λh=>B1k (h:=h) hk
   have V7:k/8<b.length:=by omega
   have ad:=J5 (k:=.i64) (id:=g.length) (off:=0) (sz:=1) (j:=k/8) (n:=256) (by omega);rw [Nat.mul_one,E6e] at ad;have l1:(B4 b)[k/8]?=A4 (.i .u8 b[k/8].toNat):=by rw [Z0,E5P V7];rfl
   have a1:=E2j (a:=b[k/8].toNat) (b:=vR k) b[k/8].toNat_lt (B2a k);have e:C0U b k=decide (¬ (((b[k/8].toNat &&& vR k:Nat):Int)=0)):=by
    have h1:(k:Int)/8=((k/8:Nat):Int):=rfl;have h2:(k:Int)%8=((k%8:Nat):Int):=rfl;unfold C0U;rw [decide_eq_true c.1,decide_eq_true c.2,E55,E55,h1,h2,E6c,E6c,E5Z,E5P V7,E6z];have:=E0y (a:=b[k/8].toNat) (j:=k%8);unfold vR;by_cases c:b[k/8].toNat/2 ^ (k%8)%2=1
    ·rw [decide_eq_true c,decide_eq_true];intro h;exact this.1 (by omega) c
    ·rw [decide_eq_false c,decide_eq_false];intro h;exact h (by have:=this.2 c;omega)
   rw [e];generalize B4 b=y at *;exact ⟨_,by simp only [esc,esh,hW,ad,l1,a1]<;>rfl⟩
  ·have hW:=λh=>C3W (i:=i) (h:=h) (by omega)
   have e:C0U b i=A6:=by
    unfold C0U;rw [Bool.and_eq_false_iff,Bool.and_eq_false_iff,decide_eq_false_iff_not,decide_eq_false_iff_not];omega
   rw [e];generalize B4 b=y at *;exact ⟨_,by simp only [esc,esh,hW]<;>rfl⟩
 obtain ⟨g',e⟩:=key (ro h);exact B9R e rfl
def B2z (D:Dev) (n i:Int):Bool:=R7 D.length n&&decide (0<=i)&&decide (i<D.length)&&C0U (blk D 1) i
def D2E {n m i:Int} {f:Cell} {D:Dev} {h:B5} (hD:okD D) (hv:IsView h f D):wU [.a (vwC D.length n m f),iV i] h=A4 (bV (B2z D n i),h):=by
 have key:∀ g,IsView g f D->∃ g',wO 0 [.a (vwC D.length n m f),iV i] g=A4 (bV (B2z D n i),g'):=by
  intro g hv;have l3:=D4D (b:=D.length) (n:=n) (m:=m) (f:=f);have l4:=E0m (b:=D.length) (n:=n) (m:=m) (f:=f);have l0:(vwC D.length n m f)[0]?=A4 (.i .i64 (D.length:Int)):=rfl;have hC:=λh=>cJ (b:=D.length) (n:=n) (m:=m) (h:=h)
  have n10:¬ (1:Int)=0:=by decide
  rw [B3i];unfold B2z;cases c1:R7 D.length n with
  | false =>
   simp only [c1] at hC;generalize vwC D.length n m f=V at *;exact ⟨_,by simp only [esc,esh,l3,hC,n10,E51]<;>rfl⟩
  | true =>
   simp only [c1] at hC;by_cases c2:0<=i
   ·by_cases c3:i<D.length
    ·have hB:=bP (n:=n) (m:=m) (no:=1) (h:=g++[rT (vwC D.length n m f)]) hD (hv.more _);have hH:=λh=>D1H (i:=i) (h:=h) (O9 hD (i:=1))
     generalize vwC D.length n m f=V at *;exact ⟨_,by simp only [esc,esh,l3,l4,l0,hC,eq_self,c2,c3,rV,hB,hH,E55]<;>rfl⟩
    ·generalize vwC D.length n m f=V at *;exact ⟨_,by simp only [esc,esh,l3,l4,l0,hC,eq_self,c2,c3,E55,E51]<;>rfl⟩
   ·generalize vwC D.length n m f=V at *;exact ⟨_,by simp only [esc,esh,l3,l4,hC,eq_self,c2,E55,E51]<;>rfl⟩
 obtain ⟨g',e⟩:=key (ro h) hv.ro;exact A9z e rfl
def D8l {N:Nat} (hN:N<=1073741823):A2T (iV (N:Int)) (iV (N:Int))=A4 N:=by
 have:A6B (iV (N:Int))=A4 N:=by simp only [A6B];rw [if_pos (by omega)];simp
 simp [A2T,this]
def E0c {D:Dev} {i:Nat} {z:List UInt8} (hi:i<D.length):(D.take i++E5R (D.length-i) z).set i D[i]=D.take (i+1)++E5R (D.length-(i+1)) z:=by
 have hl:(D.take i).length=i:=by rw [E6l];omega
 rw [E6u _ _ (by omega),hl,E6D,show D.length-i=D.length-(i+1)+1 by omega,E6k,E6G,E58 hi,E5Y];rfl
def D9E {D:Dev} (hD:okD D) (i:Nat):okD (D.take i++E5R (D.length-i) (zeros 256)):=λb hb=>by
 rcases List.mem_append.1 hb with hb | hb
 ·exact hD.take i b hb
 ·exact C04 _ b hb
def C7b {n m:Int} {f:Cell} {D:Dev} {g:B5} {p q id:Nat} (hD:okD D) (h60:D.length<=1073741823) (h1:rd g p=rT (vwC D.length n m f)) (hv:IsView g f D) (hid:g.length<=id):∀ (e i M:Nat) (h:B5),i+e=D.length->e<M->Low g.length g h ->
  rd h id=rT (D5 (D.take i++E5R (D.length-i) (zeros 256))) ->
  ∃ h',A2N q M (pV p 0) (sV id 0 D.length 256) (iV (D.length:Int)) (iV (i:Int)) h=A4 (sV id 0 D.length 256,h')/\rd h' id=rT (D5 D)
 | e,i,0,h,_,hm,_,_=>by omega
 | 0,i,M+1,h,hi,hm,hlow,hr=>by
  have e0:i=D.length:=by omega
  have c0:¬ (i:Int)<(D.length:Nat):=by omega
  rw [e0,List.take_length,E6D,List.replicate_zero,E6m] at hr;rw [vT];exact ⟨h,by simp only [esc,c0],hr⟩
 | e+1,i,M+1,h,hi,hm,hlow,hr=>by
  have P6:i<D.length:=by omega
  have c0:(i:Int)<(D.length:Nat):=by omega
  have hV:=C7 (h:=h) (id:=p) (hlow.rd h1) (n:=4) rfl;have hB:=bP (n:=n) (m:=m) (no:=(i:Int)) hD (hv.since hlow);rw [B5Z P6] at hB;have ad:D9 256 (sV id 0 D.length 256) (iV (i:Int))=A4 (pV id (i*256)):=by rw [C9 P6,E6e]
  have hl:(D.take i).length=i:=by rw [E6l];omega
  have hs:=A6K (i:=i) (b:=D[i]) hr (D9E hD i) (hD.at P6) (by rw [E5T,hl,E6n];omega);rw [E0c P6] at hs;have V7:=C8 hr;obtain ⟨h',g1,g2⟩:=C7b (q:=q) hD h60 h1 hv hid e (i+1) M (h.set id (rT (D5 (D.take (i+1)++E5R (D.length-(i+1)) (zeros 256))))) (by omega) (by omega) (hlow.set hid _) (C6 V7);refine ⟨h',?_,g2⟩;rw [vT];generalize vwC D.length n m f=V at *;generalize B4 D[i]=y at *;simp only [M9,tX,c0,decide_true,C2i,hV,hB,ad,hs,zR,D3 (show i+1<9223372036854775808 by omega)];exact g1
def C9I {n m:Int} {f:Cell} {D:Dev} {h:B5} (hD:okD D) (hv:IsView h f D) (hm:R7 D.length n=A5):tP [.a (vwC D.length n m f)] h=A4 (sV h.length 0 D.length 256,h++[rT (D5 D)]):=by
 have key:∀ g,IsView g f D->∃ v g',tA (D.length+1) [.a (vwC D.length n m f)] g=A4 (v,g')/\Out g.length g' v 256 D.length (D5 D):=by
  intro g hv;have h60:D.length<=512:=by
   unfold R7 at hm;simp only [E5S,decide_eq_true_eq] at hm;omega
  have l3:=D4D (b:=D.length) (n:=n) (m:=m) (f:=f);have l0:(vwC D.length n m f)[0]?=A4 (.i .i64 (D.length:Int)):=rfl;have hC:=λh=>cJ (b:=D.length) (n:=n) (m:=m) (h:=h)
  simp only [hm] at hC;have mk:=D8l (N:=D.length) (by omega);obtain ⟨h',g1,g2⟩:=C7b (n:=n) (m:=m) (p:=g.length) (q:=D.length+1) (id:=g.length+2) (g:=g++[rT (vwC D.length n m f),rT []]) hD (by omega) (by simp) (hv.more _) (by simp) D.length 0 (D.length+1) (g++[rT (vwC D.length n m f),rT [],rT (D5 (E5R D.length (zeros 256)))]) (by omega) (by omega)
   (by
    have:=(Low.refl (h:=g++[rT (vwC D.length n m f),rT []]) (E5V _)).new [rT (D5 (E5R D.length (zeros 256)))];simpa using this) (by simp)
  rw [B0x];simp only [D4o];refine ⟨_,h',?_,J4 hD,g.length+2,rfl,by omega,g2⟩;generalize vwC D.length n m f=V at *;simp only [esc,esh,Nat.reduceAdd,l3,hC,eq_self,l0,mk];exact g1
 obtain ⟨v,g',e,ho⟩:=key (ro h) hv.ro;exact A9y e (by simpa [F7] using ho) iR
section
variable (n m m2:Nat) (a0 a1 x0 x1 x3 x4 x5 x6:Val) (h:B5)
def Y1:FD A8:=⟨px 0X159f203f590240000027228f4050022e1f03180022a2a2e11d06020695f1040611d4901a27a17a14901a26c16c3d01d183af6050024e3903183cf50190625c3b0318355132702406124901824c13e2d04694203016251111d420355013e35224040411d3c1729045942153121a070240612029711e1b043d4203006051111961820131af3000176b4901a2029770574212481042,[],[],[.tmp 2],[]⟩
def B6X:=Y1.R
def B33:AtH:=Y1.lj 0 n [m] [x0,x3,x4]
def B34:AtH:=Y1.lj 1 n [m,m2] [x0,x3,x4,x5,x6]
def B32:AtH:=Y1.lj 2 n [m] [x0,x3,x4]
def A1g:=tT [⟨2,3,B33⟩,⟨3,5,B34⟩,⟨2,3,B32⟩]
def C21:=mR B6X Y1 A1g n [a0] h
def xH:=mL Y1 A1g 0 n [m] [x0,x3,x4] h
def A6a:=mL Y1 A1g 1 n [m,m2] [x0,x3,x4,x5,x6] h
def A59:=mJ Y1 A1g 2 n [m] [x0,x3,x4] h
def B6I:=Y1.K Tryz.func124
def A7G:=Y1.S
def B9X:pY B6X A7G:=B6I.out
def gG:FD A8:=⟨px 0X13ff2001036e3e03400001721bf4050021c1a031801b22a01a11d040411d5c1715a171824301c1928889014b1a04b1e0414b4f3e4b774b7011042040411d2a171c01c5f42153111a0702406120297146042b4203006051111961820135f3028889288891457e274212481042,[],[],[.tmp 2],[E3 A7G B6I]⟩
def C1F:=gG.R
def B8f:AtH:=gG.lj 0 n [m] [x0,x3,x4]
def D1N:AtH:=gG.lj 1 n [m] [x0,x3,x4]
def B01:=tT [⟨2,3,B8f⟩,⟨2,3,D1N⟩]
def C4S:=mR C1F gG B01 n [a0] h
def A81:=mL gG B01 0 n [m] [x0,x3,x4] h
def C31:=mJ gG B01 1 n [m] [x0,x3,x4] h
def C1k:=gG.K Tryz.func60
def B0N:=gG.S
def C3v:pY C1F B0N:=C1k.out
def vX:FD A8:=⟨px 0X148f4050221901826a3e0440000723bf605002583a03183df501901a25e3c0318153130702406124901825c1482e046b4203006051111d31820132df50068040611d4901a2481728071b601920134012e0000722401b1c1901842a1a04962a1a02a4b72a72a2a70110121c70193f4203340130182,[],[],[.tmp 4],[]⟩
def B4S:=vX.R
def C2p:AtH:=vX.lj 0 n [m] [x1,x5,x6]
def C50:=tT [⟨2,3,C2p⟩]
def C8t:=mR B4S vX C50 n [a0,a1] h
def B1B:=mL vX C50 0 n [m] [x1,x5,x6] h
def C4r:=vX.K Tryz.func127
def B5i:=vX.S
def C3u:F6 B4S B5i:=C4r.flat
end
def uX (b:List UInt8) (i:Nat):List UInt8:=b.set (i/8) (UInt8.ofNat ((b.getD (i/8) 0).toNat ||| vR i))
def C2O {b:List UInt8} {i:Nat}:(uX b i).length=b.length:=by simp [uX]
def C82 {b:List UInt8} {i:Nat} {h:B5} (hb:b.length=256) (hi:i<2048):A7v [.a (B4 b),iV (i:Int),bV A5] h=A4 (.a (B4 (uX b i)),h):=by
 have key:∀ g,∃ g',A7d 0 [.a (B4 b),iV (i:Int),bV A5] g=A4 (.a (B4 (uX b i)),g'):=by
  intro g;have hW:=λh=>B1k (h:=h) hi
  have V7:i/8<b.length:=by omega
  have ad:=J5 (k:=.i64) (id:=g.length) (off:=0) (sz:=1) (j:=i/8) (n:=256) (by omega);rw [Nat.mul_one,E6e] at ad;have l1:(B4 b)[i/8]?=A4 (.i .u8 b[i/8].toNat):=by rw [Z0,E5P V7];rfl
  have a1:=E4f (a:=b[i/8].toNat) (b:=vR i) b[i/8].toNat_lt (B2a i);have hor:b[i/8].toNat ||| vR i<2 ^ 8:=Nat.or_lt_two_pow b[i/8].toNat_lt (B2a i)
  have es:(B4 b).set (i/8) (.i .u8 ((b[i/8].toNat ||| vR i:Nat):Int))=B4 (uX b i):=by
   have ew:(b[i/8].toNat ||| vR i)=(UInt8.ofNat (b[i/8].toNat ||| vR i)).toNat:=by rw [UInt8.toNat_ofNat',E6K hor]
   unfold uX;rw [E5Z,E5P V7,E6z,<-iY,<-ew]
  have hB:(B4 b).length=256:=by rw [A9,hb]
  have hC:(B4 (uX b i)).length=256:=by rw [A9,C2O,hb]
  have s1:=C4n (cs:=B4 b) (off:=i/8) (x:=.i .u8 ((b[i/8].toNat ||| vR i:Nat):Int)) (by omega);rw [es] at s1;have hz:(E5R 256 (Cell.i .u8 0)).length=256:=E6n;rw [C2V];generalize E5R 256 (Cell.i .u8 0)=z at *;generalize B4 b=y at *;generalize B4 (uX b i)=y2 at *;exact ⟨_,by simp only [esc,bQ,R4,fN,U4,W2,M6,xD,B1d,kU,A39,oU,hW,ad,l1,a1,s1,C0J,hC,hz]<;>rfl⟩
 obtain ⟨g',e⟩:=key (ro h);exact B7i e (by simp [Val.flat])
def fW (l:List Nat):List UInt8:=l.foldl uX (zeros 256)
def dN {l:List Nat}:∀ {b:List UInt8},(l.foldl uX b).length=b.length:=by
 induction l with
 | nil=>intro b;rfl
 | cons x l ih=>intro b;rw [List.foldl_cons,ih,C2O]
def C6F {g:B5} {l:List Nat} {q p:Nat} {v:Val} {nv:Nat} (hl:∀ x∈l,x<2048) (h60:l.length<=2048) (hv:Has g v 1 nv (encI (l.map λx:Nat=>(x:Int)))) (hp:p=g.length):∀ (e i m:Nat),i+e=l.length->e<m ->
  B3X q m (pV p 0) (pV (p+1) 0) v (iV (l.length:Int)) (iV (i:Int)) (g++[rT (B4 (zeros 256)),rT (B4 ((l.take i).foldl uX (zeros 256)))]) =
   A4 (.a (B4 (fW l)),g++[rT (B4 (fW l)),rT (B4 (fW l))])
 | e,i,0,_,hm=>by omega
 | 0,i,m+1,hi,hm=>by
  have e0:i=l.length:=by omega
  subst e0 hp;have c0:¬ (l.length:Int)<(l.length:Nat):=by omega
  have hB:(B4 (fW l)).length=256:=by rw [A9];unfold fW;rw [dN];exact zeros_length
  have hz:(B4 (zeros 256)).length=256:=by rw [A9];exact zeros_length
  rw [A5Z,List.take_length];have em:l.foldl uX (zeros 256)=fW l:=rfl;rw [em];generalize B4 (zeros 256)=z at *;generalize B4 (fW l)=y at *;simp only [esc,esh,c0,hB,hz]
 | e+1,i,m+1,hi,hm=>by
  have P6:i<l.length:=by omega
  have ih:=C6F (q:=q) hl h60 hv hp e (i+1) m (by omega) (by omega);subst hp;have c0:(i:Int)<(l.length:Nat):=by omega
  have hnv:l.length=nv:=by
   have:=hv.length;rw [B7,List.length_map] at this;omega
  obtain ⟨id,off,rfl,hid,h1,_⟩:=(hv.more [rT (B4 (zeros 256)),rT (B4 ((l.take i).foldl uX (zeros 256)))]).sl (by omega);have hx:=h1 i (.i .i64 (l[i]:Int)) (by rw [I1,List.getElem?_map,E5P P6];rfl);have ea:D9 1 (sV id off nv 1) (iV (i:Int))=A4 (pV id (off+i)):=by rw [C9 (by omega)];simp
  have hfl:((l.take i).foldl uX (zeros 256)).length=256:=by rw [dN];exact zeros_length
  have hW:=λh=>C82 (h:=h) hfl (hl _ (E6v P6))
  have et:uX ((l.take i).foldl uX (zeros 256)) l[i]=(l.take (i+1)).foldl uX (zeros 256):=by
   rw [E58 P6,List.foldl_append];rfl
  rw [et] at hW;have hB:(B4 ((l.take i).foldl uX (zeros 256))).length=256:=by rw [A9,hfl]
  have hB2:(B4 ((l.take (i+1)).foldl uX (zeros 256))).length=256:=by rw [A9,dN];exact zeros_length
  rw [A5Z];generalize B4 (zeros 256)=z at *;generalize B4 ((l.take i).foldl uX (zeros 256))=y at *;generalize B4 ((l.take (i+1)).foldl uX (zeros 256))=y2 at *;simp only [esc,esh,c0,ea,hx,hW,hB,hB2,D3 (show i+1<9223372036854775808 by omega)];exact ih
def B3W {v:Val} {nv:Nat} {l:List Nat} {h:B5} (hl:∀ x∈l,x<2048) (h60:l.length<=2048) (hv:Has h v 1 nv (encI (l.map λx:Nat=>(x:Int)))):A07 [v] h=A4 (.a (B4 (fW l)),h):=by
 have key:∀ g,Has g v 1 nv (encI (l.map λx:Nat=>(x:Int)))->∃ g',A7c (l.length+1) [v] g=A4 (.a (B4 (fW l)),g'):=by
  intro g hv;have hnv:l.length=nv:=by
   have:=hv.length;rw [B7,List.length_map] at this;omega
  have hL:=C6F (q:=l.length+1) hl h60 hv rfl l.length 0 (l.length+1) (by omega) (by omega);have hlen:=hv.len;rw [<-hnv] at hlen;rw [C2U,I9];rw [E6U,List.foldl_nil] at hL;generalize B4 (zeros 256)=z at *;exact ⟨_,by simp only [esc,hlen];exact hL⟩
 obtain ⟨g',e⟩:=key (ro h) hv.ro;exact B7h e (by simp [Val.flat])
def D0X {i:Nat} {x:Nat} {q:Nat} {h:B5} (hx:x<256) (hi:i<2048):∀ (e k m:Nat),k+e=i%8->e<m ->
  C2p q m (iV (i:Int)) (iV ((x/2 ^ k:Nat):Int)) (iV (k:Int)) h=A4 (bV (decide (x/2 ^ (i%8)%2=1)),h)
 | e,k,0,_,hm=>by omega
 | 0,k,m+1,hk,hm=>by
  have e0:k=i%8:=by omega
  subst e0;have r1:N4 .rem (iV (i:Int)) (iV 8)=A4 (iV ((i%8:Nat):Int)):=by
   rw [A2G (by omega) (by omega)];congr 3
  have c0:¬ ((i%8:Nat):Int)<((i%8:Nat):Int):=by omega
  have r2:N4 .rem (iV ((x/2 ^ (i%8):Nat):Int)) (iV 2)=A4 (iV ((x/2 ^ (i%8)%2:Nat):Int)):=by
   generalize x/2 ^ (i%8)=y;rw [A2G (by omega) (by omega)];congr 3
  have ed:decide (((x/2 ^ (i%8)%2:Nat):Int)=1)=decide (x/2 ^ (i%8)%2=1):=by
   by_cases c:x/2 ^ (i%8)%2=1
   ·rw [decide_eq_true c,decide_eq_true (by omega)]
   ·rw [decide_eq_false c,decide_eq_false (by omega)]
  rw [B1B];simp only [M9,r1,tX,c0,decide_false,B73,r2,tW,ed]
 | e+1,k,m+1,hk,hm=>by
  have ih:=D0X (q:=q) (h:=h) hx hi e (k+1) m (by omega) (by omega);have r1:N4 .rem (iV (i:Int)) (iV 8)=A4 (iV ((i%8:Nat):Int)):=by
   rw [A2G (by omega) (by omega)];congr 3
  have c0:(k:Int)<((i%8:Nat):Int):=by omega
  have dF:x/2 ^ k<=x:=Nat.div_le_self _ _;have q1:N4 .quo (iV ((x/2 ^ k:Nat):Int)) (iV 2)=A4 (iV ((x/2 ^ (k+1):Nat):Int)):=by
   rw [Nat.pow_succ,<-Nat.div_div_eq_div_mul];generalize x/2 ^ k=y at *;rw [uQ (by omega) (by omega) (by omega)];congr 3
  rw [B1B];simp only [M9,r1,tX,c0,decide_true,C2i,q1,zR,D3 (show k+1<9223372036854775808 by omega)];exact ih
def D2m {v:Val} {b:List UInt8} {i:Int} {h:B5} (hv:Has h v 1 256 (B4 b)) (hb:b.length=256):B5i [v,iV i] h=A4 (bV (C0U b i),h):=by
 have key:∀ g,Has g v 1 256 (B4 b)->∃ g',B4S 9 [v,iV i] g=A4 (bV (C0U b i),g'):=by
  intro g hv;have hlen:=hv.len;have w1:E5U .i64 (8*((256:Nat):Int))=2048:=by rw [wrap_i64 (by omega) (by omega)];rfl
  rw [C8t];by_cases c:0<=i/\i<2048
  ·obtain ⟨k,rfl⟩:∃ k:Nat,i=k:=⟨i.toNat,by omega⟩;have hk:k<2048:=by omega
   have V7:k/8<b.length:=by omega
   obtain ⟨id,off,rfl,hid,h1,_⟩:=hv.sl (by omega);have hx:=h1 (k/8) (.i .u8 b[k/8].toNat) (by rw [Z0,E5P V7];rfl);have q1:N4 .quo (iV (k:Int)) (iV 8)=A4 (iV ((k/8:Nat):Int)):=by
    rw [uQ (by omega) (by omega) (by omega)];congr 3
   have ea:D9 1 (sV id off 256 1) (iV ((k/8:Nat):Int))=A4 (pV id (off+k/8)):=by rw [C9 (by omega)];simp
   have E31:=b[k/8].toNat_lt;have w2:E5U .i64 (b[k/8].toNat:Int)=(b[k/8].toNat:Int):=wrap_i64 (by omega) (by omega);have c1:¬ (k:Int)<0:=by omega
   have c2:¬ (2048:Int)<=k:=by omega
   have hL:=D0X (x:=b[k/8].toNat) (q:=9) (h:=g) E31 hk (k%8) 0 9 (by omega) (by omega);rw [Nat.pow_zero,Nat.div_one] at hL;have e:C0U b k=decide (b[k/8].toNat/2 ^ (k%8)%2=1):=by
    have h1:(k:Int)/8=((k/8:Nat):Int):=rfl;have h2:(k:Int)%8=((k%8:Nat):Int):=rfl;unfold C0U;rw [decide_eq_true c.1,decide_eq_true c.2,E55,E55,h1,h2,E6c,E6c,E5Z,E5P V7,E6z]
   rw [e];exact ⟨_,by simp only [esc,B7S,w1,c1,c2,q1,ea,hx,w2];exact hL⟩
  ·have e:C0U b i=A6:=by
    unfold C0U;rw [Bool.and_eq_false_iff,Bool.and_eq_false_iff,decide_eq_false_iff_not,decide_eq_false_iff_not];omega
   rw [e];by_cases c1:i<0
   ·exact ⟨_,by simp only [esc,c1]<;>rfl⟩
   ·have c2:(2048:Int)<=i:=by omega
    exact ⟨_,by simp only [esc,c1,c2,hlen,w1]<;>rfl⟩
 obtain ⟨g',e⟩:=key (ro h) hv.ro;exact C3u e rfl
def D2o {b n m:Int} {h:B5} (hm0:0<=m) (hm1:m<18446744073709551616):B5k [.a (D7 b n m)] h=A4 (sV h.length 0 256 1,h++[rT (B4 (jY b n m))]):=by
 have key:∀ g,∃ v g',B4V 0 [.a (D7 b n m)] g=A4 (v,g')/\Out g.length g' v 1 256 (B4 (jY b n m)):=by
  intro g;have e7:E6 [Cell.i .u8 0,.i .u8 0,.i .u8 0,.i .u8 0,.i .u8 0,.i .u8 0,.i .u8 0,.i .u8 0] [(0,1,.c (.i .u8 101)),(1,1,.c (.i .u8 115)),(2,1,.c (.i .u8 99)),(3,1,.c (.i .u8 104)),(4,1,.c (.i .u8 101)),(5,1,.c (.i .u8 97)),(6,1,.c (.i .u8 116)),(7,1,.c (.i .u8 49))]=A4 (B4 magicB):=rfl;have lm:magicB.length=8:=rfl;obtain ⟨c0,hc0⟩:∃ c0:Option Row,c0=rT (D7 b n m):=⟨_,rfl⟩;have hmk:=D20 (h:=g++[rT (D7 b n m),rT [],rT (B4 magicB)]) (id:=g.length+2) (off:=0) (len:=8) (sz:=1) (cs:=B4 magicB) (by simp) (by omega);have b1:=λh=>eG (w:=2) (v:=b) (h:=h) (by omega)
  have b2:=λh=>eG (w:=2) (v:=n) (h:=h) (by omega)
  have b3:=λh=>A2F (w:=8) (v:=m) (h:=h) (by omega) hm0 hm1
  have E45:=C4k (s:=cY b n m);have b4:=λh=>A2F (w:=4) (v:=(A0D (cY b n m):Nat)) (h:=h) (by omega) (by omega) (by omega)
  have p1:=mE (h:=g++[rT (D7 b n m),rT [],rT (B4 magicB),rT (B4 (C4 2 b))]) (id:=g.length+2) (jd:=g.length+3) (n:=8) (m:=2) (sz:=1) (cs:=B4 magicB) (ys:=B4 (C4 2 b)) (rw:=A5) (by simp) (by simp [A9,lm]) (by simp) (by simp [A9]) rfl (by omega) (by omega);have p2:=mE (h:=g++[rT (D7 b n m),rT [],A7,rT (B4 (C4 2 b)),rT (B4 magicB++B4 (C4 2 b)),rT (B4 (C4 2 n))]) (id:=g.length+4) (jd:=g.length+5) (n:=10) (m:=2) (sz:=1) (cs:=B4 magicB++B4 (C4 2 b)) (ys:=B4 (C4 2 n)) (rw:=A5) (by simp) (by simp [A9,lm]) (by simp) (by simp [A9]) rfl (by omega) (by omega);have p3:=mE (h:=g++[rT (D7 b n m),rT [],A7,rT (B4 (C4 2 b)),A7,rT (B4 (C4 2 n)),rT (B4 magicB++B4 (C4 2 b)++B4 (C4 2 n)),rT (B4 (C4 8 m))]) (id:=g.length+6) (jd:=g.length+7) (n:=12) (m:=8) (sz:=1) (cs:=B4 magicB++B4 (C4 2 b)++B4 (C4 2 n)) (ys:=B4 (C4 8 m)) (rw:=A5) (by simp) (by simp [A9,lm]) (by simp) (by simp [A9]) rfl (by omega) (by omega);have eS:B4 magicB++B4 (C4 2 b)++B4 (C4 2 n)++B4 (C4 8 m)=B4 (cY b n m):=by unfold cY;simp only [N1]
  rw [eS] at p3;have E2P:=(Has.tr (h:=g++[rT (D7 b n m),rT [],A7,rT (B4 (C4 2 b)),A7,rT (B4 (C4 2 n)),A7,rT (B4 (C4 8 m)),rT (B4 (cY b n m))]) (id:=g.length+8) (sz:=1) (n:=20) (cs:=B4 (cY b n m)) (by simp) (by rw [A9,T5]) (G9 _)).str;have hmx:=λh=>C2M (s:=cY b n m) (h:=h) (by rw [T5];omega)
  have p4:=mE (h:=g++[rT (D7 b n m),rT [],A7,rT (B4 (C4 2 b)),A7,rT (B4 (C4 2 n)),A7,rT (B4 (C4 8 m)),rT (B4 (cY b n m)),rT (B4 (C4 4 (A0D (cY b n m):Nat)))]) (id:=g.length+8) (jd:=g.length+9) (n:=20) (m:=4) (sz:=1) (cs:=B4 (cY b n m)) (ys:=B4 (C4 4 (A0D (cY b n m):Nat))) (rw:=A5) (by simp) (by rw [A9,T5]) (by simp) (by simp [A9]) rfl (by omega) (by omega);rw [<-N1] at p4;have mk:A2T (iV 256) (iV 256)=A4 256:=rfl;have rz:=oT 256;have l24:(cY b n m++C4 4 (A0D (cY b n m):Nat)).length=24:=by rw [E5T,T5,Q8]
  have hL:=oS (h:=g++[rT (D7 b n m),rT [],A7,rT (B4 (C4 2 b)),A7,rT (B4 (C4 2 n)),A7,rT (B4 (C4 8 m)),A7,rT (B4 (C4 4 (A0D (cY b n m):Nat))),rT (B4 (cY b n m++C4 4 (A0D (cY b n m):Nat))),rT (B4 (zeros 256))]) (v:=sV (g.length+11) 0 256 1) (nv:=256) (l:=zeros 256) (u:=sV (g.length+10) 0 24 1) (nu:=24) (data:=cY b n m++C4 4 (A0D (cY b n m):Nat)) (Has.tr (by simp) (by rw [A9];exact zeros_length) (G9 _)) (Has.tr (by simp) (by rw [A9,l24]) (G9 _)) (a:=0) (by omega) (by rw [zeros_length];omega);have eL:A9F (zeros 256) 0 (cY b n m++C4 4 (A0D (cY b n m):Nat))=jY b n m:=by
   have h1:=A1H (l:=zeros 256) (xs:=cY b n m++C4 4 (A0D (cY b n m):Nat)) (a:=0) (by rw [l24,zeros_length];omega);have h2:=B2i (l:=[]) (xs:=cY b n m++C4 4 (A0D (cY b n m):Nat)) (a:=0) (by simp) (by rw [l24];omega);rw [show ((0:Nat):Int)=0 from rfl] at h1;rw [h1,<-B8R,h2,E6h,E6D,show zeros 0=[] from rfl,E6m,E59,jY]
  have zl:(zeros 256).length=256:=zeros_length;rw [eL,zl] at hL;simp only [esc,E6r] at p1 p2 p3 p4 hL b1 b2 b3 b4;rw [C8w];generalize zeros 256=z at *;exact ⟨_,_,by simp only [esc,esh,Nat.reduceAdd,e7,hmk,b1,p1,b2,p2,b3,p3,E2P,hmx,b4,p4,mk,rz,hL]<;>rfl,by rw [A9,V0],_,rfl,by omega,by simp⟩
 obtain ⟨v,g',e,ho⟩:=key (ro h);exact C5w e (by simpa [F7] using ho) (by simp)
def D2n {v:Val} {nv:Nat} {b:List UInt8} {h:B5} (hv:Has h v 1 nv (B4 b)) (hb:b.length=256):B5j [v] h=A4 (.t [.a (C00 b),.c (.b (okS b))],h):=by
 have key:∀ g,Has g v 1 nv (B4 b)->∃ g',B4T 0 [v] g=A4 (.t [.a (C00 b),.c (.b (okS b))],g'):=by
  intro g hv;have hv1:=hv.more [rT (D7 0 0 0)];have hg:=B80 hv1 (a:=12) (w:=8) (by omega);have gN:C62 b 12 8=A4 (le ((b.drop 12).take 8)):=by
   unfold C62;rw [hb,if_pos ⟨by omega,by decide⟩];rfl
  rw [gN] at hg;simp only [E6z,E6b] at hg;have e12:((le ((b.drop 12).take 8):Nat):Int)=fieldN b 12 8:=rfl;rw [e12] at hg;have a1:=sC hv1 (a:=8) (w:=2) hb;have a2:=sC hv1 (a:=10) (w:=2) hb;have f1:=B7V (a:=8) (w:=2) hb (by omega) (by omega) (by omega);have f2:=B7V (a:=10) (w:=2) hb (by omega) (by omega) (by omega);simp only [E6r] at f1 f2;rw [f1] at a1;rw [f2] at a2;have ef:∀ x y z:Int,E6 (D7 0 0 0) [(0,1,iV x),(1,1,iV y),(2,1,.c (.i .u64 z))]=A4 (D7 x y z):=λ_ _ _=>rfl
  have ef0:E6 (D7 0 0 0) []=A4 (D7 0 0 0):=rfl;have hm:=λh=>Y2 (b:=fieldN b 8 2) (n:=fieldN b 10 2) (m:=fieldN b 12 8) (h:=h)
  have hp:=λh=>D2o (b:=fieldN b 8 2) (n:=fieldN b 10 2) (m:=fieldN b 12 8) (h:=h) (A1m b).1 (A1m b).2
  have hS:=jO (h:=g++[rT (D7 0 0 0),rT (D7 (fieldN b 8 2) (fieldN b 10 2) (fieldN b 12 8)),rT (B4 (jY (fieldN b 8 2) (fieldN b 10 2) (fieldN b 12 8)))]) (v:=sV (g.length+2) 0 256 1) (nv:=256) (u:=v) (nu:=nv) (l:=jY (fieldN b 8 2) (fieldN b 10 2) (fieldN b 12 8)) (r:=b)
   (Has.tr (by simp) (by rw [A9,V0]) (G9 _)) (hv.more _) (by rw [V0];omega)
  rw [C8u];unfold C00 okS;cases c:R7 (fieldN b 8 2) (fieldN b 10 2) with
  | false =>
   simp only [c] at hm;exact ⟨_,by simp only [esc,esh,Nat.reduceAdd,hg,a1,a2,ef,ef0,hm,E51]<;>rfl⟩
  | true =>
   simp only [c] at hm;cases c2:decide (jY (fieldN b 8 2) (fieldN b 10 2) (fieldN b 12 8)=b) with
   | false =>
    rw [c2] at hS;exact ⟨_,by simp only [esc,esh,Nat.reduceAdd,hg,a1,a2,ef,ef0,hm,hp,hS,E6T]<;>rfl⟩
   | true =>
    rw [c2] at hS;exact ⟨_,by simp only [esc,esh,Nat.reduceAdd,hg,a1,a2,ef,ef0,hm,hp,hS,Bool.and_true]<;>rfl⟩
 obtain ⟨g',e⟩:=key (ro h) hv.ro;refine C3w e ?_;unfold C00;cases okS b<;>simp
section
variable (n m m2:Nat) (a0 a1 x0 x1 x2 x3 x4:Val) (h:B5)
def vY:FD A8:=⟨px 0X126e1b66c1b182112022a1a6a5191b9030373a04202229f40500238280318422a1e0162d45a5190183030590201962481713c2a019181541307024390122c1e023f4203006051111942031df21b63b31b0136121a111e1043b3b1949030371292903037119190303715103037501b7423b21b150182,[],[],[.cellN 2 11],[E3 oC A1B]⟩
def B4W:=vY.R
def C2q:AtH:=vY.lj 0 n [m] [x0,x2,x3,x4]
def C51:=tT [⟨2,4,C2q⟩]
def C8x:=mR B4W vY C51 n [a0] h
def B1D:=mL vY C51 0 n [m] [x0,x2,x3,x4] h
def C4u:=vY.K Tryz.func219
def B5m:=vY.S
def C3A:F6 B4W B5m:=C4u.flat
def B2F:FD A8:=⟨px 0X11bf4030181904191f1a281f771f7011042711800062340130182,[],[],[.tmp 4],[]⟩
def C9W:=B2F.R
def D1j:=mR C9W B2F (tT []) n [a0,a1] h
def C9N:=B2F.K Tryz.func245
def B90:=B2F.S
def C5z:F6 C9W B90:=C9N.flat
def vZ:FD A8:=⟨px 0X15af203018197ffffd02019d2f019d1e1a1f19d1f013018197ffffd02018b2f018b1e31f18b1f0130181949c889020792f0791e278791f013018197ffffd0205f2f05f1e15e5f1f011902030404e2c2b38021df3050022a1c031801320150000722403f7ffffd02030440162d43c52e1e064f421521307024390121e1a022f42030060511174220530119f2003803b3b1c1b18450062241022040642b31d42033103a2342,[],[.eqA A6 ([.i .i64,.i .i64,.i .i64,.i .i64,.i .i64,.i .i64,.i .i64,.i .i64,.i .i64,.i .i64,.i .i64]) (.t 7) (.t 8)],[.tmp 2],[E3 B90 C9N]⟩
def B4X:=vZ.R
def C2r:AtH:=vZ.lj 0 n [m] [x1,x3]
def C52:=tT [⟨2,2,C2r⟩]
def C8y:=mR B4X vZ C52 n [a0] h
def B1E:=mL vZ C52 0 n [m] [x1,x3] h
def C4v:=vZ.K Tryz.func220
def B5n:=vZ.S
def C3B:F6 B4X B5n:=C4v.flat
def wA:FD A8:=⟨px 0X15ef200383f5d0320525cf3001a139019203058041a1f53f4f0710223ef4050026a3d03184ef3001e1390192030580440162d41f5781783f019181531307024390125e3b02794203006051111942033af3001a1390192030580435a54c2d07022cf3001a1390292030580423e5381f07021ef3001a1390192030580412a51c19070218f302b11010218213e0690401852b574214a03a2342,[.c (.i .u8 0)],[.appZ 1 ([.i .u8 0]) (.t 45) (.v (.c (.i .i64 8)))],[.tmp 2],[E3 dK nY]⟩
def B4Y:=wA.R
def C2s:AtH:=wA.lj 0 n [m] [x1,x3,x4]
def C53:=tT [⟨2,3,C2s⟩]
def C8z:=mR B4Y wA C53 n [a0] h
def B1F:=mL wA C53 0 n [m] [x1,x3,x4] h
def B4K:=wA.K Tryz.func59
def A18:=wA.S
def C5A:pY B4Y A18:=B4K.out
def A0S:FD A8:=⟨px 0X11b302481b63c1b2a1c3020133023e1b603b3b3711622401b1c1902c4d04232c2f72c70122c2f1e1b2c3c0103f011361b71c1a49420136f21b63b41b010375041942313b21b250182,[],[],[.cellN 2 11,.tmp 3],[E3 B5m C4u,E3 B5n C4v,E3 A18 B4K,E3 gO lA]⟩
def A7i:=A0S.R
def C23:=mR A7i A0S (tT []) n [a0] h
def B6K:=A0S.K Tryz.func174
def A7I:=A0S.S
def C3z:SOk A8 174 A7I:=B6K.sok
def B7o:F6 A7i A7I:=B6K.flat
def jI:FD A8:=⟨px 0X11ef202e1e0220000721df3050022a13181507024301a190651d1a0288961d1a1a1d771d70118b901201182f42036406050131117421201042,[],[],[.tmp 2],[]⟩
def A4u:=jI.R
def B1C:AtH:=jI.lj 0 n [m] [x0,x3]
def B3P:=tT [⟨2,2,B1C⟩]
def B9t:=mR A4u jI B3P n [a0] h
def A3Y:=mL jI B3P 0 n [m] [x0,x3] h
def B3x:=jI.K Tryz.func108
def A4P:=jI.S
def B5l:F6 A4u A4P:=B3x.flat
end
def inI (n top:Int):Bool:=decide (0<=n)&&decide (n<=top)
def nD {n top:Int} {h:B5}:B90 [iV n,iV top] h=A4 (bV (inI n top),h):=by
 refine C5z (n:=0) (h2:=ro h) ?_ rfl;rw [D1j];unfold inI;by_cases c:0<=n
 ·simp only [esc,c,E55]
 ·simp only [esc,c,E51]
def A1G {n:Int}:inI n 65535=O0 n:=rfl
def A4b {x:Int} {h:B5} {q:Nat}:∀ e i m:Nat,i+e=134->e<m->(i=0\/256*((i:Int)-1)<x) ->
  B1C q m (iV x) (iV i) h=A4 (iV (if x<1 then 0 else if 34304<x then 134 else (x+255)/256),h)
 | e,i,0,_,hm,_=>by omega
 | 0,i,m+1,hi,hm,hx=>by
  have c0:¬ (i:Int)<134:=by omega
  have hv:(if x<1 then 0 else if 34304<x then 134 else (x+255)/256)=(i:Int):=by
   rw [if_neg (by omega)];by_cases c:34304<x
   ·rw [if_pos c];omega
   ·rw [if_neg c];omega
  rw [A3Y,hv];simp only [esc,c0]
 | e+1,i,m+1,hi,hm,hx=>by
  have c0:(i:Int)<134:=by omega
  have e1:E5U .i64 (256*(i:Int))=256*i:=wrap_i64 (by omega) (by omega);rw [A3Y];by_cases c1:256*(i:Int)<x
  ·have ih:=A4b (x:=x) (h:=h) (q:=q) e (i+1) m (by omega) (by omega) (.inr (by omega));simp only [esc,c0,e1,c1,D3 (show i+1<9223372036854775808 by omega)];exact ih
  ·have hv:(if x<1 then 0 else if 34304<x then 134 else (x+255)/256)=(i:Int):=by
    by_cases c:x<1
    ·rw [if_pos c];omega
    ·rw [if_neg c,if_neg (by omega)];omega
   rw [hv];simp only [esc,c0,e1,c1]
def C39 {x:Int} {h:B5}:A4P [iV x] h=A4 (iV (if x<1 then 0 else if 34304<x then 134 else (x+255)/256),h):=by
 have key:∀ N,135<N->∀ g,∃ g',A4u N [iV x] g=A4 (iV (if x<1 then 0 else if 34304<x then 134 else (x+255)/256),g'):=by
  intro N hN g;have:=A4b (x:=x) (h:=g) (q:=N) 134 0 N (by omega) (by omega) (.inl rfl);rw [B9t];exact ⟨_,this⟩
 obtain ⟨g',e⟩:=key (h.length+136) (by omega) (ro h);exact B5l e rfl
def B2s {g:B5} {k l s p:Int} {d:List Int} {q:Nat} (hd:d.length=7) (hk:k≠0):∀ e i m:Nat,i+e=6->e<m ->
  C2r q m (pV g.length 0) (iV i) (g++[rT (F9 k l s p d)])=A4 (bV ((d.drop i).all O0&&A4c k l s p []),g++[rT (F9 k l s p d)])
 | e,i,0,_,hm=>by omega
 | 0,i,m+1,hi,hm=>by
  have e0:i=6:=by omega
  subst e0;have c0:¬ ((6:Nat):Int)<6:=by omega
  have l1:(encI d)[6]?=A4 (.i .i64 d[6]):=by rw [I1,E5P (by omega)];rfl
  have e1:(d.drop 6).all O0=O0 d[6]:=by
   rw [E5X (by omega),E56 (by omega)];simp
  have e2:A4c k l s p []=(inI k 2&&(O0 l&&(O0 p&&inI s 34304))):=by
   unfold A4c inI;by_cases a:0<=k<;>by_cases b:k<=2<;>by_cases c:0<=s<;>by_cases f:s<=34304<;>simp [a,b,c,f]
  rw [B1E,e1,e2];cases h1:inI k 2 with
  | false=>simp only [esc,esh,c0,nD,h1,E51,E6T]
  | true =>
   cases h2:O0 l with
   | false=>simp only [esc,esh,c0,nD,h1,A1G,h2,E51,E6T]
   | true =>
    cases h3:inI s 34304 with
    | false=>simp only [esc,esh,c0,nD,h1,A1G,h2,h3,E6T]
    | true =>
     cases h4:O0 p with
     | false=>simp only [esc,esh,c0,nD,h1,A1G,h2,h3,h4,E6T]
     | true=>simp only [esc,esh,c0,nD,h1,A1G,h2,h3,h4,l1,Bool.and_true]
 | e+1,i,m+1,hi,hm=>by
  have ih:=B2s (g:=g) (l:=l) (s:=s) (p:=p) (q:=q) hd hk e (i+1) m (by omega) (by omega);have c0:(i:Int)<6:=by omega
  have a1:I3 6 1 (pV g.length 4) (iV (i:Int))=A4 (pV g.length (i+1+1+1+1)):=by rw [J5 (by omega)];congr 3;omega
  have l1:(encI d)[i]?=A4 (.i .i64 d[i]):=by rw [I1,E5P (by omega)];rfl
  rw [B1E,E5X (by omega),E6B];cases c1:O0 d[i] with
  | true =>
   simp only [esc,esh,c0,a1,l1,nD,A1G,c1,E55,D3 (show i+1<9223372036854775808 by omega)];exact ih
  | false=>simp only [esc,esh,c0,a1,l1,nD,A1G,c1,E51]
def D2q {k l s p:Int} {d:List Int} {h:B5} (hd:d.length=7):B5n [.a (F9 k l s p d)] h=A4 (bV (A2E k l s p d),h):=by
 have hlen:(F9 k l s p d).length=11:=by simp [B7,hd]
 have key:∀ N,7<N->∀ g,∃ g',B4X N [.a (F9 k l s p d)] g=A4 (bV (A2E k l s p d),g'):=by
  intro N hN g;rw [C8y];unfold A2E;by_cases k0:k=0
  ·subst k0;rw [if_pos rfl];have hq:=D5Y (k:=0) (l:=l) (s:=s) (p:=p) (k':=0) (l':=0) (s':=0) (p':=0) (neg:=A6) hd (J6 (n:=7));simp only [cond_false,D4G] at hq;exact ⟨_,by simp only [esc,esh,hlen,A5T,hq]<;>rfl⟩
  ·rw [if_neg k0];have:=B2s (g:=g) (l:=l) (s:=s) (p:=p) (q:=N) hd k0 6 0 N (by omega) (by omega);have e1:((d.drop 0).all O0&&A4c k l s p [])=A4c k l s p d:=by
    unfold A4c;simp only [E6a,List.all_nil,Bool.and_true];cases d.all O0<;>simp
   rw [e1] at this;exact ⟨_,by simp only [esc,esh,k0];exact this⟩
 obtain ⟨g',e⟩:=key (h.length+8) (by omega) (ro h);exact C3B e rfl
def B2t {g:B5} {k l s p:Int} {d:List Int} {q:Nat} (hd:d.length=7):∀ e i m h id,i+e=6->e<m->Low (g++[rT (F9 k l s p d)]).length (g++[rT (F9 k l s p d)]) h->(g++[rT (F9 k l s p d)]).length<=id->rd h id=rT (B4 (uW k l s p++uN (d.take i))) ->
  ∃ v' h',C2s q m (pV g.length 0) (sV id 0 (10+2*i) 1) (iV i) h=A4 (v',h')/\Out g.length h' v' 1 32 (B4 (iS k l s p d))
 | e,i,0,h,id,_,hm,_,_,_=>by omega
 | 0,i,m+1,h,id,hi,hm,hlow,hb,hr=>by
  have e0:i=6:=by omega
  subst e0;have c0:¬ ((6:Nat):Int)<6:=by omega
  have hrow:rd h g.length=rT (F9 k l s p d):=hlow.rd U5;have l1:=B9 (off:=10) (c:=.i .i64 d[6]) hrow (by
   have:(encI d)[6]?=A4 (.i .i64 d[6]):=by rw [I1,E5P (by omega)];rfl
   exact this) rfl
  have eb:=eG (w:=2) (v:=d[6]) (h:=h) (by omega);rw [show ((2:Nat):Int)=2 from rfl] at eb;have hlen:(B4 (uW k l s p++uN (d.take 6))).length=(10+2*6)*1:=by rw [A9,E5T,gU,nA,E6l];omega
  obtain ⟨h1,a1,a2,a3,a4,a5⟩:=D6y (ys:=B4 (C4 2 d[6])) (m:=2) (sz:=1) (n:=10+2*6) hlow hr hlen hb (by simp [A9]) (by omega) (by omega);obtain ⟨h2,b1,b2,b3,b4⟩:=E4h (m:=8) (n:=24) a3 a2 (by rw [a5]) a4 (by omega);rw [show ((8:Nat):Int)=8 from rfl] at b1;have eB:B4 (uW k l s p++uN (d.take 6))++B4 (C4 2 d[6])++B4 (zeros 8)=B4 (iS k l s p d):=by
   rw [<-N1,<-N1];unfold iS;refine congrArg (λx=>B4 (x++zeros 8)) ?_;rw [E5Y];refine congrArg (uW k l s p ++ ·) ?_;rw [<-C0Y,<-E58 (by omega),E53 (by omega)]
  rw [eB] at b2;simp only [Nat.reduceMul,Nat.reduceAdd] at a1 b1;rw [B1F];have hg:g.length<=h1.length:=by simp at b4;omega
  exact ⟨_,_,by simp only [esc,c0,l1,eb,Nat.reduceMul,a1,b1]<;>rfl,by rw [A9,mZ hd],_,rfl,hg,b2⟩
 | e+1,i,m+1,h,id,hi,hm,hlow,hb,hr=>by
  have c0:(i:Int)<6:=by omega
  have hrow:rd h g.length=rT (F9 k l s p d):=hlow.rd U5;have ea:I3 6 1 (pV g.length 4) (iV (i:Int))=A4 (pV g.length (i+1+1+1+1)):=by rw [J5 (by omega)];congr 3;omega
  have l1:=B9 (off:=i+1+1+1+1) (c:=.i .i64 d[i]) hrow (by
   have:(encI d)[i]?=A4 (.i .i64 d[i]):=by rw [I1,E5P (by omega)];rfl
   exact this) rfl
  have eb:=eG (w:=2) (v:=d[i]) (h:=h) (by omega);rw [show ((2:Nat):Int)=2 from rfl] at eb;have hlen:(B4 (uW k l s p++uN (d.take i))).length=(10+2*i)*1:=by rw [A9,E5T,gU,nA,E6l];omega
  obtain ⟨h1,a1,a2,a3,a4,a5⟩:=D6y (ys:=B4 (C4 2 d[i])) (m:=2) (sz:=1) (n:=10+2*i) hlow hr hlen hb (by simp [A9]) (by omega) (by omega);have eB:B4 (uW k l s p++uN (d.take i))++B4 (C4 2 d[i])=B4 (uW k l s p++uN (d.take (i+1))):=by
   rw [<-N1,E5Y,<-C0Y,<-E58 (by omega)]
  rw [eB] at a2;obtain ⟨v',h',b1,b2⟩:=B2t (q:=q) hd e (i+1) m h1 (h.length+1) (by omega) (by omega) a3 a4 a2;rw [show 10+2*(i+1)=10+2*i+2 by omega] at b1;rw [B1F];exact ⟨v',h',by simp only [esc,c0,ea,l1,eb,a1,D3 (show i+1<9223372036854775808 by omega)];exact b1,b2⟩
def B81 {k l s p:Int} {d:List Int} {h:B5} (hd:d.length=7):A18 [.a (F9 k l s p d)] h=A4 (sV h.length 0 32 1,h++[rT (B4 (iS k l s p d))]):=by
 have key:∀ N,7<N->∀ g,∃ v g',B4Y N [.a (F9 k l s p d)] g=A4 (v,g')/\Out g.length g' v 1 32 (B4 (iS k l s p d)):=by
  intro N hN g;have e0:E5U .u8 k=((byI k 0).toNat:Int):=by rw [sE,A1h];simp
  have ef:E6 [Cell.i .u8 0,.i .u8 0] [(0,1,.c (.i .u8 (byI k 0).toNat)),(1,1,.c (.i .u8 0))]=A4 (B4 (C4 1 k++zeros 1)):=rfl;have b1:=eG (w:=2) (v:=l) (h:=g++[rT (F9 k l s p d),rT [],rT (B4 (C4 1 k++zeros 1))]) (by omega);have p1:=mE (h:=g++[rT (F9 k l s p d),rT [],rT (B4 (C4 1 k++zeros 1)),rT (B4 (C4 2 l))]) (id:=g.length+2) (jd:=g.length+3) (n:=2) (m:=2) (sz:=1) (cs:=B4 (C4 1 k++zeros 1)) (ys:=B4 (C4 2 l)) (rw:=A5) (by simp) (by simp [A9]) (by simp) (by simp [A9]) rfl (by omega) (by omega);have b2:=eG (w:=4) (v:=s) (h:=g++[rT (F9 k l s p d),rT [],A7,rT (B4 (C4 2 l)),rT (B4 (C4 1 k++zeros 1)++B4 (C4 2 l))]) (by omega);have p2:=mE (h:=g++[rT (F9 k l s p d),rT [],A7,rT (B4 (C4 2 l)),rT (B4 (C4 1 k++zeros 1)++B4 (C4 2 l)),rT (B4 (C4 4 s))]) (id:=g.length+4) (jd:=g.length+5) (n:=4) (m:=4) (sz:=1) (cs:=B4 (C4 1 k++zeros 1)++B4 (C4 2 l)) (ys:=B4 (C4 4 s)) (rw:=A5) (by simp) (by simp [A9]) (by simp) (by simp [A9]) rfl (by omega) (by omega);have b3:=eG (w:=2) (v:=p) (h:=g++[rT (F9 k l s p d),rT [],A7,rT (B4 (C4 2 l)),A7,rT (B4 (C4 4 s)),rT (B4 (C4 1 k++zeros 1)++B4 (C4 2 l)++B4 (C4 4 s))]) (by omega);have p3:=mE (h:=g++[rT (F9 k l s p d),rT [],A7,rT (B4 (C4 2 l)),A7,rT (B4 (C4 4 s)),rT (B4 (C4 1 k++zeros 1)++B4 (C4 2 l)++B4 (C4 4 s)),rT (B4 (C4 2 p))]) (id:=g.length+6) (jd:=g.length+7) (n:=8) (m:=2) (sz:=1) (cs:=B4 (C4 1 k++zeros 1)++B4 (C4 2 l)++B4 (C4 4 s)) (ys:=B4 (C4 2 p)) (rw:=A5) (by simp) (by simp [A9]) (by simp) (by simp [A9]) rfl (by omega) (by omega);have eh:B4 (C4 1 k++zeros 1)++B4 (C4 2 l)++B4 (C4 4 s)++B4 (C4 2 p)=B4 (uW k l s p++uN (d.take 0)):=by
   rw [<-N1,<-N1,<-N1];simp [uW,uN]
  rw [eh] at p3;obtain ⟨v',h',f1,f2⟩:=B2t (g:=g) (k:=k) (l:=l) (s:=s) (p:=p) (q:=N) hd 6 0 N (g++[rT (F9 k l s p d),rT [],A7,rT (B4 (C4 2 l)),A7,rT (B4 (C4 4 s)),A7,rT (B4 (C4 2 p)),rT (B4 (uW k l s p++uN (d.take 0)))]) (g.length+8) (by omega) (by omega)
   (by have:=(Low.refl (h:=g++[rT (F9 k l s p d)]) (E5V _)).new [rT [],A7,rT (B4 (C4 2 l)),A7,rT (B4 (C4 4 s)),A7,rT (B4 (C4 2 p)),rT (B4 (uW k l s p++uN (d.take 0)))];simpa using this) (by simp) (by simp)
  simp only [esc,E6r] at b1 b2 b3 p1 p2 p3;rw [C8z];exact ⟨v',h',by simp only [esc,esh,Nat.reduceAdd,e0,ef,b1,p1,b2,p2,b3,p3];exact f1,f2⟩
 obtain ⟨v,g',e,ho⟩:=key (h.length+8) (by omega) (ro h);exact C5A e (by simpa [F7] using ho) (by simp)
def D6X {b:List UInt8} {a w:Nat} (h1:a+w<=b.length) (hw:1<=w) (hw4:w<=4):((atG b a w:Nat):Int)=fieldN b a w:=by
 unfold atG fieldN;rw [if_pos ⟨by omega,O7.2 (by omega)⟩];simp only [E6c]
def A6H {v:Val} {nv:Nat} {b:List UInt8} {h:B5} (hv:Has h v 1 nv (B4 b)) (hb:b.length=32) (a w:Nat) (h1:a+w<=32) (hw:1<=w) (hw4:w<=4) :
  oC [v,iV a,iV w] h=A4 (iV (fieldN b a w),h):=by
 rw [D0W hv (by omega),D6X (by omega) hw hw4]
def B2r {g:B5} {v:Val} {nv:Nat} {b:List UInt8} {k l s p:Int} {z:List Cell} {q:Nat} (hv:Has g v 1 nv (B4 b)) (hb:b.length=32) (hz:z.length=11):∀ e i m:Nat,i+e=6->e<m ->
  C2q q m v (pV g.length 0) (pV (g.length+1) 0) (iV i) (g++[rT z,rT (F9 k l s p ((N5 b).take i++zI (7-i)))]) =
   A4 (.a (F9 k l s p (N5 b)),g++[rT (F9 k l s p (N5 b)),rT (F9 k l s p (N5 b))])
 | e,i,0,_,hm=>by omega
 | 0,i,m+1,hi,hm=>by
  have e0:i=6:=by omega
  subst e0;have h1':¬ ((6:Nat):Int)<6:=by omega
  have ha:=A6H (hv.more [rT z,rT (F9 k l s p ((N5 b).take 6++zI (7-6)))]) hb 22 2 (by omega) (by omega) (by omega);simp only [E6r] at ha;have ho:(encI ((N5 b).take 6++zI (7-6))).length=7:=by simp [B7,F8,J6]
  have hg6:(N5 b)[6]'(by rw [F8];omega)=fieldN b 22 2:=by
   have:=B2Z (b:=b) (i:=6) (by omega);rw [E5P (by rw [F8];omega)] at this;exact Option.some.inj this
  have es:(F9 k l s p ((N5 b).take 6++zI (7-6))).set 10 (.i .i64 (fieldN b 22 2))=F9 k l s p (N5 b):=by
   have h1:=B8t (k:=k) (l:=l) (s:=s) (p:=p) (x:=fieldN b 22 2) (d:=(N5 b).take 6++zI (7-6)) (i:=6);rw [show 4+6=10 from rfl] at h1;rw [h1,<-hg6,A1u F8 (by omega)];have:(N5 b).take (6+1)++zI (7-(6+1))=N5 b:=by rw [E53 (by rw [F8];omega)];simp [zI]
   rw [this]
  rw [B1D];simp only [esc,esh,Nat.reduceAdd,Nat.reduceLT,h1',ha,ho,es,hz,B7,F8]
 | e+1,i,m+1,hi,hm=>by
  have ih:=B2r (k:=k) (l:=l) (s:=s) (p:=p) (q:=q) hv hb hz e (i+1) m (by omega) (by omega);have h1':(i:Int)<6:=by omega
  have e2:E5U .i64 (2*(i:Int))=((2*i:Nat):Int):=by rw [wrap_i64 (by omega) (by omega)];omega
  have e3:E5U .i64 (10+((2*i:Nat):Int))=((10+2*i:Nat):Int):=by rw [wrap_i64 (by omega) (by omega)];omega
  have ha:=A6H (hv.more [rT z,rT (F9 k l s p ((N5 b).take i++zI (7-i)))]) hb (10+2*i) 2 (by omega) (by omega) (by omega);rw [show ((2:Nat):Int)=2 from rfl] at ha;have a1:I3 6 1 (pV (g.length+1) 4) (iV (i:Int))=A4 (pV (g.length+1) (4+i)):=by rw [J5 (by omega)];simp
  have ho:(encI ((N5 b).take i++zI (7-i))).length=7:=by simp [B7,F8,J6];omega
  have ho2:4+i<11:=by omega
  have hgi:(N5 b)[i]'(by rw [F8];omega)=fieldN b (10+2*i) 2:=by
   have:=B2Z (b:=b) (i:=i) (by omega);rw [E5P (by rw [F8];omega)] at this;exact Option.some.inj this
  have es:(F9 k l s p ((N5 b).take i++zI (7-i))).set (4+i) (.i .i64 (fieldN b (10+2*i) 2))=F9 k l s p ((N5 b).take (i+1)++zI (7-(i+1))):=by
   rw [B8t,<-hgi,A1u F8 (by omega)]
  rw [B1D];simp only [esc,esh,Nat.reduceAdd,h1',e2,e3,ha,a1,ho,ho2,es,D3 (show i+1<9223372036854775808 by omega)];exact ih
def D2p {v:Val} {nv:Nat} {b:List UInt8} {h:B5} (hv:Has h v 1 nv (B4 b)) (hb:b.length=32):B5m [v] h=A4 (.a (F9 (sH b) (uK b) (uM b) (uL b) (N5 b)),h):=by
 have key:∀ N,7<N->∀ g,Has g v 1 nv (B4 b)->∃ g',B4W N [v] g=A4 (.a (F9 (sH b) (uK b) (uM b) (uL b) (N5 b)),g'):=by
  intro N hN g hv;have z11:[o0,o0,o0,o0,o0,o0,o0,o0,o0,o0,o0]=F9 0 0 0 0 (zI 7):=rfl;have l11:(F9 0 0 0 0 (zI 7)).length=11:=rfl;have hv1:=hv.more [rT (F9 0 0 0 0 (zI 7))];have a1:=A6H hv1 hb 0 1 (by omega) (by omega) (by omega);have a2:=A6H hv1 hb 2 2 (by omega) (by omega) (by omega);have a3:=A6H hv1 hb 4 4 (by omega) (by omega) (by omega);have a4:=A6H hv1 hb 8 2 (by omega) (by omega) (by omega);simp only [E6r] at a1 a2 a3 a4;have ef:E6 (F9 0 0 0 0 (zI 7)) [(0,1,iV (fieldN b 0 1)),(1,1,iV (fieldN b 2 2)),(2,1,iV (fieldN b 4 4)),(3,1,iV (fieldN b 8 2))]=A4 (F9 (sH b) (uK b) (uM b) (uL b) (zI 7)):=rfl;have lf:(F9 (sH b) (uK b) (uM b) (uL b) (zI 7)).length=11:=rfl;have:=B2r (k:=sH b) (l:=uK b) (s:=uM b) (p:=uL b) (z:=F9 0 0 0 0 (zI 7)) (q:=N) hv hb l11 6 0 N (by omega) (by omega);simp only [E6U,E59,Nat.sub_zero] at this;rw [C8x,z11];generalize F9 0 0 0 0 (zI 7)=y at *;exact ⟨_,by simp only [esc,esh,a1,a2,a3,a4,ef,l11,lf];exact this⟩
 obtain ⟨g',e⟩:=key (h.length+8) (by omega) (ro h) hv.ro;exact C3A e (by simp)
def C7W {v:Val} {nv:Nat} {b:List UInt8} {h:B5} (hv:Has h v 1 nv (B4 b)) (hb:b.length=32):A7I [v] h=A4 (.t [.a (eR b),.c (.b (iO b))],h):=by
 have key:∀ g,Has g v 1 nv (B4 b)->∃ g',A7i 0 [v] g=A4 (.t [.a (eR b),.c (.b (iO b))],g'):=by
  intro g hv;have hI:(F9 (sH b) (uK b) (uM b) (uL b) (N5 b)).length=11:=by simp [B7,F8]
  have z11:[o0,o0,o0,o0,o0,o0,o0,o0,o0,o0,o0]=F9 0 0 0 0 (zI 7):=rfl;have l11:(F9 0 0 0 0 (zI 7)).length=11:=rfl;have af:=A5T;rw [z11] at af;have hg:=D2p (hv.more [rT (F9 0 0 0 0 (zI 7))]) hb;have hm:=λh=>D2q (h:=h) (k:=sH b) (l:=uK b) (s:=uM b) (p:=uL b) (d:=N5 b) F8
  have hp:=λh=>B81 (h:=h) (k:=sH b) (l:=uK b) (s:=uM b) (p:=uL b) (d:=N5 b) F8
  have hB:(iS (sH b) (uK b) (uM b) (uL b) (N5 b)).length=32:=mZ F8;rw [C23,z11];unfold eR iO;cases c:A2E (sH b) (uK b) (uM b) (uL b) (N5 b) with
  | false =>
   simp only [c] at hm;generalize F9 0 0 0 0 (zI 7)=y at *;exact ⟨_,by simp only [esc,esh,hg,hI,l11,hm,af,E51]<;>rfl⟩
  | true =>
   simp only [c] at hm;have hS:=jO (h:=g++[rT (F9 0 0 0 0 (zI 7)),rT (F9 (sH b) (uK b) (uM b) (uL b) (N5 b)),rT (B4 (iS (sH b) (uK b) (uM b) (uL b) (N5 b)))]) (v:=sV (g.length+2) 0 32 1) (nv:=32) (u:=v) (nu:=nv) (l:=iS (sH b) (uK b) (uM b) (uL b) (N5 b)) (r:=b)
    (Has.tr (by simp) (by rw [A9,hB]) (G9 _)) (hv.more _) (by rw [hB];omega)
   generalize F9 0 0 0 0 (zI 7)=y at *;cases c2:decide (iS (sH b) (uK b) (uM b) (uL b) (N5 b)=b) with
   | false =>
    rw [c2] at hS;exact ⟨_,by simp only [esc,esh,Nat.reduceAdd,hg,hI,l11,hm,hp,hS,af,E6T]<;>rfl⟩
   | true =>
    rw [c2] at hS;exact ⟨_,by simp only [esc,esh,Nat.reduceAdd,hg,hI,l11,hm,hp,hS,Bool.and_true]<;>rfl⟩
 obtain ⟨g',e⟩:=key (ro h) hv.ro;exact B7o e (by simp [A1n])
section
variable (n m m2:Nat) (a0 a1:Val) (h:B5)
def A6T:FD A8:=⟨px 0X11ef40289063030289622e171b050201144811c0000722401b6193d051e1a1e1e701101218162d42031448130182,[],[],[.tmp 4],[E3 A7E B4I]⟩
def B40:=A6T.R
def C8B:=mR B40 A6T (tT []) n [a0,a1] h
def C4x:=A6T.K Tryz.func175
def B5p:=A6T.S
def C5B:pY B40 B5p:=C4x.out
def A6S:FD A8:=⟨px 0X12af5003c1b6142800280113042033a171d01802013502281b603b3b31c1000722401b6193d05281a282870110121a162f4203313b41b219301c2,[],[],[.cellN 4 11,.tmp 5],[E3 B5p C4x,cal C3z]⟩
def B4Z:=A6S.R
def C8A:=mR B4Z A6S (tT []) n [a0,a1] h
def C4w:=A6S.K Tryz.func107
def B5o:=A6S.S
def C8P:SOk A8 107 B5o:=C4w.sok
def C3C:F6 B4Z B5o:=C4w.flat
end
def E0P {b:List UInt8} {j:Nat}:cV b ((32*j:Nat):Int) 32=fA b j:=by
 unfold cV fA;rw [if_pos (by omega)];rfl
def D2s {x:Val} {n j:Nat} {b:List UInt8} {h:B5} (hv:Has h x 1 n (B4 b)) (hb:b.length=256) (hj:j<8):B5p [x,iV j] h=A4 (sV h.length 0 32 1,h++[rT (B4 (fA b j))]):=by
 have hR:=sA hb hj;have key:∀ g,Has g x 1 n (B4 b)->∃ v g',B40 0 [x,iV j] g=A4 (v,g')/\Out g.length g' v 1 32 (B4 (fA b j)):=by
  intro g hv;have c1:¬ (j:Int)<0:=by omega
  have c2:¬ (7:Int)<j:=by omega
  have w1:E5U .i64 (32*(j:Int))=((32*j:Nat):Int):=by rw [wrap_i64 (by omega) (by omega)];omega
  have hC:=A8u (h:=g++[rT []]) (hv.more _) (a:=((32*j:Nat):Int)) (n:=32) (by omega) (by omega);rw [E0P,hR] at hC;simp only [esc] at hC;rw [C8B];exact ⟨_,_,by simp only [esc,esh,c1,c2,w1,hC]<;>rfl,by rw [A9,hR],_,rfl,by omega,by simp⟩
 obtain ⟨v,g',e,ho⟩:=key (ro h) hv.ro;exact C5B e (by simpa [F7] using ho) (by simp)
def D2r {x:Val} {n j:Nat} {b:List UInt8} {h:B5} (hv:Has h x 1 n (B4 b)) (hb:b.length=256) (hj:j<8):B5o [x,iV j] h=A4 (.t [.a (eR (fA b j)),.c (.b (iO (fA b j)))],h):=by
 have key:∀ g,Has g x 1 n (B4 b)->∃ g',B4Z 0 [x,iV j] g=A4 (.t [.a (eR (fA b j)),.c (.b (iO (fA b j)))],g'):=by
  intro g hv;have c1:¬ (j:Int)<0:=by omega
  have c2:¬ (7:Int)<j:=by omega
  have hl:=A0e;have hcl:=yV (b:=fA b j);rw [C8A,B8s];generalize F9 0 0 0 0 (zI 7)=z at *;have hR:=D2s (h:=g++[rT z]) (hv.more _) hb hj;have hC:=C7W (h:=g++[rT z,rT (B4 (fA b j))]) (v:=sV (g.length+1) 0 32 1) (nv:=32) (b:=fA b j) (Has.tr (by simp) (by rw [A9,sA hb hj]) (G9 _)) (sA hb hj);simp only [esc] at hR;exact ⟨_,by simp only [esc,esh,c1,c2,hR,hC,hl,hcl]<;>rfl⟩
 obtain ⟨g',e⟩:=key (ro h) hv.ro;exact C3C e (by simp [A1n])
section
variable (n m m2:Nat) (a0 a1 a2:Val) (h:B5)
def yF:FD A8:=⟨px 0X11b3026a365e33b1c302013302683602a3b3711622401b1c190634e1a04e4b74e704e1e0484e1f0103f38290196b42202328f11ff2362a41b11c2801a1f2c1ef1a00103038104881d71b01a1b19611d20133021e3602a3b3710622410220297603294203312a21b250182,[],[.slA 256 1 (.t 12) A7 A7],[.cellN 2 3,.tmp 3],[E3 B5j C4s]⟩
def A4v:=yF.R
def B9v:=mR A4v yF (tT []) n [a0] h
def B3y:=yF.K Tryz.func14
def A4Q:=yF.S
def B5v:F6 A4v A4Q:=B3y.flat
def A0U:FD A8:=⟨px 0X127e1b66e1b4d1c21124cf14bf21b63b1a1b1282801e4b2c4af3c0042136a1038044881d5e173d01c4a420125a1b603b3b211101322401b1a190645a1a05a4b75a73e5a70103f2c2b0186d424132af129f128f7021c2811a28018282c1ff1c0042033812a31d1c1a2b291f111e23b61b642e21d1950282,[],[.slA 256 1 (.t 31) A7 A7],[.cellN 6 11],[cal C3y,cal C8P]⟩
def A7l:=A0U.R
def C27:=mR A7l A0U (tT []) n [a0,a1,a2] h
def nZ:=A0U.K Tryz.func48
def iG:=A0U.S
def B7r:F6 A7l iG:=nZ.flat
def A25:FD A8:=⟨px 0X118f4029022042031a16318500062340422e253182,[],[],[.tmp 4],[cal C5x]⟩
def B0d:=A25.R
def C40:=mR B0d A25 (tT []) n [a0,a1] h
def C1n:=A25.K Tryz.func176
def B0P:=A25.S
def B98:F6 B0d B0P:=C1n.flat
def A26:FD A8:=⟨px 0X12bf40301c1904203b2f483b703b4e504883b4f73b701301a190611f1a01f4b71f71e1f70110421812800062340130182,[],[.slA 256 1 (.t 15) A7 A7],[.tmp 4],[E3 B5i C4r]⟩
def B0e:=A26.R
def C41:=mR B0e A26 (tT []) n [a0,a1] h
def C1o:=A26.K Tryz.func63
def B0Q:=A26.S
def B99:F6 B0e B0Q:=C1o.flat
end
def C4j {h:B5} {v:Val} {D:Dev} (hv:Has h v 256 D.length (D5 D)) (hD:okD D) {i:Nat} (hi:i<D.length) :
  ∃ a u,D9 256 v (iV (i:Int))=A4 a/\B5X h 256 1 a A7 A7=A4 u/\Has h u 1 256 (B4 D[i]):=by
 rcases hv with ⟨_,h0,_⟩ | ⟨id,off,r,rfl,hr,h1,h2,h3,h4⟩
 ·omega
 ·have dF:off+i*256+256*1<=r.cells.length:=by omega
  refine ⟨pV id (off+i*256),sV id (off+i*256) 256 1,C9 hi,?_,?_⟩
  ·simp only [B5X,hr,E54,bound];rw [if_pos ⟨by omega,by omega,dF,D2y h3 h4 (show i*256<D.length*256 by omega) h2⟩];simp
  ·refine Has.part (cs:=r.cells) (rw:=r.rw) hr dF ?_ (G9 _);rw [<-dD hD hi,<-h3,List.drop_take,List.take_take,E6P]
   congr 1
   omega
def D8K:A2U []=A6:=by decide +kernel
def A9q {v:Val} {D:Dev} {h:B5} (hv:Has h v 256 D.length (D5 D)) (hD:okD D) :
  A4Q [v] h=A4 (.t [.a (bif A2U D then D7 D.length (A76 D) (D3w D) else D7 0 0 0),.c (.b (A2U D))],h):=by
 have key:∀ g,Has g v 256 D.length (D5 D)->∃ g',A4v 0 [v] g=A4 (.t [.a (bif A2U D then D7 D.length (A76 D) (D3w D) else D7 0 0 0),.c (.b (A2U D))],g'):=by
  intro g hv;have hl:=hv.len;have ef:E6 [o0,o0,.i .u64 0] []=A4 [o0,o0,.i .u64 0]:=rfl;rw [B9v];cases D with
  | nil =>
   rw [D8K];have z0:((([]:Dev).length:Nat):Int)=0:=rfl;exact ⟨_,by simp only [esc,esh,Nat.reduceAdd,hl,eq_self,ef,D7]<;>rfl⟩
  | cons b E =>
   have h0:0<(b::E).length:=by simp
   have c0:¬ (((b::E).length:Nat):Int)=0:=by omega
   have hv2:=hv.more [rT [o0,o0,.i .u64 0]];obtain ⟨a,u,a1,s1,hu⟩:=C4j hv2 hD h0;have z0:((0:Nat):Int)=0:=rfl;rw [z0] at a1;have hG:=D2n (h:=g++[rT [o0,o0,.i .u64 0]]) hu (hD.at h0);rw [List.getElem_cons_zero] at hG
   clear hu
   have ed:A2U (b::E)=(okS b&&decide (fieldN b 8 2=(((b::E).length:Nat):Int))):=rfl;have en:A76 (b::E)=fieldN b 10 2:=rfl;have em:D3w (b::E)=fieldN b 12 8:=rfl;rw [ed,en,em];generalize hN:(b::E).length=N at *;cases ho:okS b with
   | false =>
    rw [ho,D6n ho] at hG;unfold D7 at *;exact ⟨_,by simp only [esc,esh,Nat.reduceAdd,hl,c0,a1,s1,hG,ef,E51]<;>rfl⟩
   | true =>
    rw [ho,D13 ho] at hG;by_cases c1:fieldN b 8 2=(N:Int)
    ·unfold D7 at *;rw [c1] at hG ⊢;exact ⟨_,by simp only [esc,esh,Nat.reduceAdd,hl,c0,a1,s1,hG,ef,eq_self]<;>rfl⟩
    ·unfold D7 at *;exact ⟨_,by simp only [esc,esh,Nat.reduceAdd,hl,c0,a1,s1,hG,ef,c1,E55]<;>rfl⟩
 obtain ⟨g',e⟩:=key (ro h) hv.ro;refine B5v e ?_;cases A2U D<;>rfl
def D8b {D:Dev} {n i:Int} (hi:S4 D.length n i=A5):∃ k:Nat,X3 D.length n i=k/\k<D.length:=by
 have h:=hi;unfold S4 R7 at h;simp only [E5S,decide_eq_true_eq] at h;have e:X3 D.length n i=2+(i-1)/8:=by unfold X3;rw [hi];rfl
 refine ⟨(X3 D.length n i).toNat,?_,?_⟩<;>rw [e]<;>omega
def nE {v:Val} {D:Dev} {n m i:Int} {h:B5} (hv:Has h v 256 D.length (D5 D)) (hD:okD D):iG [v,.a (D7 D.length n m),iV i] h=A4 (.a (A2V D n i),h):=by
 have key:∀ g,Has g v 256 D.length (D5 D)->∃ g',A7l 0 [v,.a (D7 D.length n m),iV i] g=A4 (.a (A2V D n i),g'):=by
  intro g hv;have hlen:=hv.len;have l3:(D7 D.length n m).length=3:=rfl;have hW:=λh=>C7V (b:=D.length) (n:=n) (m:=m) (i:=i) (h:=h)
  have hf:=B5T;have hl:=A0e;rw [C27,B8s];cases hi:S4 D.length n i with
  | false =>
   have ei:A2V D n i=F9 0 0 0 0 (zI 7):=by unfold A2V;rw [hi];rfl
   rw [ei];simp only [hi] at hW;generalize D7 D.length n m=L at *;generalize F9 0 0 0 0 (zI 7)=z at *;exact ⟨_,by simp only [esc,esh,l3,hW,hf,hl]<;>rfl⟩
  | true =>
   simp only [hi] at hW;obtain ⟨k,hk,hkl⟩:=D8b hi;have hK:∃ j:Nat,cZ D.length n i=j/\j<8:=by
    refine ⟨(cZ D.length n i).toNat,?_,?_⟩<;>unfold cZ<;>rw [hi,cond_true]<;>omega
   obtain ⟨j,hj,hj8⟩:=hK;have er:fA D[k] j=A9H D n i:=by unfold A9H;rw [hj,hk,E6c,B5Z hkl]
   have ei:A2V D n i=eR (fA D[k] j):=by unfold A2V;rw [hi,er];rfl
   have hcl:=yV (b:=fA D[k] j);have hv2:=hv.more [rT (D7 D.length n m),rT (F9 0 0 0 0 (zI 7))];obtain ⟨a,u,a1,s1,hu⟩:=C4j hv2 hD hkl;have hG:=D2r hu (hD.at hkl) hj8;have c1:¬ ((D.length:Nat):Int)<=(k:Int):=by omega
   simp only [hk,hj] at hW;rw [ei];generalize D7 D.length n m=L at *;generalize F9 0 0 0 0 (zI 7)=z at *;generalize eR (fA D[k] j)=y at *;exact ⟨_,by simp only [esc,esh,Nat.reduceAdd,l3,hW,hlen,c1,a1,s1,hG,hl,hcl]<;>rfl⟩
 obtain ⟨g',e⟩:=key (ro h) hv.ro;exact B7r e (C6Y D n i)
def C9F {v:Val} {D:Dev} {n i:Int} {h:B5} (hv:Has h v 256 D.length (D5 D)) (hD:okD D) (hm:R7 D.length n=A5):B0Q [v,iV i] h=A4 (bV (B2z D n i),h):=by
 have h16:1<D.length:=by
  unfold R7 at hm;simp only [E5S,decide_eq_true_eq] at hm;omega
 have key:∀ g,Has g v 256 D.length (D5 D)->∃ g',B0e 0 [v,iV i] g=A4 (bV (B2z D n i),g'):=by
  intro g hv;have hlen:=hv.len;obtain ⟨a,u,a1,s1,hu⟩:=C4j hv hD h16;have z1:((1:Nat):Int)=1:=rfl;rw [z1] at a1;have hH:=D2m (i:=i) hu (hD.at h16);have eb:blk D 1=D[1]:=B5Z h16;rw [C41];unfold B2z;rw [hm,eb];by_cases c1:0<=i
  ·by_cases c2:i<D.length
   ·exact ⟨_,by simp only [esc,c1,c2,hlen,a1,s1,hH,E55]<;>rfl⟩
   ·exact ⟨_,by simp only [esc,c1,c2,hlen,E55,E51]<;>rfl⟩
  ·exact ⟨_,by simp only [esc,c1,E55,E51]<;>rfl⟩
 obtain ⟨g',e⟩:=key (ro h) hv.ro;exact B99 e rfl
def B4C {n:Int} {h:B5}:A3z [iV n] h=A4 (bV (xQ n),h):=by
 refine B95 (n:=0) (h2:=ro h) ?_ rfl;rw [C4Y];unfold xQ;by_cases c:0<=n
 ·simp only [esc,c,E55]
 ·simp only [esc,c,E51]
def E0C {h:B5} {id n m:Nat} {cs:List Cell} (hr:rd h id=rT cs) (hl:cs.length=n) (hn:n+m<=1073741824) :
  B7O h 1 [.i .u8 0] (sV id 0 n 1) (iV (m:Int))=A4 (sV h.length 0 (n+m) 1,h.set id A7++[rT (cs++B4 (zeros m))]):=by
 have hm:A6B (iV (m:Int))=A4 m:=by simp only [A6B];rw [if_pos (by omega)];simp
 have hz:=oT m;simp only [B7O,hm,E54,hr,hz];rw [if_pos ⟨trivial,trivial,by omega,trivial,hn⟩]
def D01 {d:Int} {t:List Int} {g:B5} {q:Nat} (ht:t.length=32):∀ (e i m:Nat) (h:B5) (id:Nat),i+e=32->e<m->Low (g++[rT (encI (d::t))]).length (g++[rT (encI (d::t))]) h->(g++[rT (encI (d::t))]).length<=id->rd h id=rT (B4 (A0B d++uO (t.take i))) ->
  ∃ j h',C2w q m (pV g.length 0) (sV id 0 (32+2*i) 1) (iV (i:Int)) h=A4 (.t [.c (.sl j 0 (bif (t.drop i).all xQ then 256 else 0) 1),.c (.b ((t.drop i).all xQ))],h') /\
   Out g.length h' (sV j 0 (bif (t.drop i).all xQ then 256 else 0) 1) 1 (bif (t.drop i).all xQ then 256 else 0) (B4 (bif (t.drop i).all xQ then gE d t else []))
 | e,i,0,h,id,_,hm,_,_,_=>by omega
 | 0,i,m+1,h,id,hi,hm,hlow,hid,hr=>by
  have e0:i=32:=by omega
  subst e0;have c0:¬ ((32:Nat):Int)<32:=by omega
  have mk:A2T (iV 256) (iV 256)=A4 256:=rfl;have rz:=oT 256;have zl:(zeros 256).length=256:=zeros_length;rw [E53 (by omega)] at hr;have hnl:(A0B d++uO t).length=96:=by rw [E5T,rW,rY];omega
  have hL:=oS (h:=h++[rT (B4 (zeros 256))]) (v:=sV h.length 0 256 1) (nv:=256) (l:=zeros 256) (u:=sV id 0 (32+2*32) 1) (nu:=32+2*32) (data:=A0B d++uO t) (Has.tr (by simp) (by rw [A9];exact zeros_length) (G9 _)) (Has.tr (C5 hr) (by rw [A9,hnl]) (G9 _)) (a:=0) (by omega) (by omega);have eL:A9F (zeros 256) 0 (A0B d++uO t)=gE d t:=by
   have h1:=A1H (l:=zeros 256) (xs:=A0B d++uO t) (a:=0) (by omega);have h2:=B2i (l:=[]) (xs:=A0B d++uO t) (a:=0) (by simp) (by omega);rw [show ((0:Nat):Int)=0 from rfl] at h1;rw [h1,<-B8R,h2,E6h,E6D,show zeros 0=[] from rfl,E6m,E59];rfl
  rw [eL,zl] at hL;have P6:=mY (d:=d) ht;rw [B1K,E56 (by omega),List.all_nil];simp only [cond_true];rw [E5T] at hid;have hll:=hlow.2.1;rw [E5T] at hll;simp only [E52,E6h] at hll hid;refine ⟨h.length+1,h++[rT (B4 (zeros 256)),rT (B4 (gE d t))],?_,by rw [A9,P6],_,rfl,by omega,by simp⟩;generalize gE d t=P at *;generalize zeros 256=z at *;simp only [esc] at hL;simp only [esc,esh,Nat.reduceAdd,Nat.reduceMul,c0,mk,rz,hL]
 | e+1,i,m+1,h,id,hi,hm,hlow,hid,hr=>by
  have c0:(i:Int)<32:=by omega
  have hrd:rd h g.length=rT (encI (d::t)):=hlow.rd (by simp);have a1:=adX (id:=g.length) (i:=i) (by omega);have l1:=ldX (h:=h) (id:=g.length) hrd ht (i:=i) (by omega);have et:toX t i=t[i]:=by unfold toX;rw [E5Z,E5P (by omega)];rfl
  rw [et] at l1;have hF:=λh=>B4C (n:=t[i]) (h:=h)
  rw [B1K,E5X (by omega:i<t.length),E6B];have hll:=hlow.2.1;rw [E5T] at hll;simp only [E52,E6h] at hll;cases c:xQ t[i] with
  | false =>
   rw [c] at hF;rw [E51];simp only [cond_false];refine ⟨h.length,h++[rT []],?_,rfl,_,rfl,by omega,by simp [B4]⟩;generalize encI (d::t)=y at *;simp only [esc,c0,a1,l1,hF]
  | true =>
   rw [c] at hF;rw [E55];have hnl:(A0B d++uO (t.take i)).length=32+2*i:=by rw [E5T,rW,rY,E6l];omega
   have hb:=λh=>eG (w:=2) (v:=t[i]) (h:=h) (by omega)
   simp only [E6r] at hb;obtain ⟨h1',b1,b2,b3,b4,b5⟩:=D6y (ys:=B4 (C4 2 t[i])) (m:=2) (sz:=1) (n:=32+2*i) hlow hr (by rw [A9,hnl];omega) hid (by simp [A9]) (by omega) (by omega);rw [<-N1,E5Y,<-D0L,<-E58 (by omega)] at b2;obtain ⟨j,h',f1,f2⟩:=D01 (q:=q) ht e (i+1) m h1' (h.length+1) (by omega) (by omega) b3 b4 b2;rw [show 32+2*(i+1)=32+2*i+2 by omega] at f1;refine ⟨j,h',?_,f2⟩;generalize encI (d::t)=y at *;simp only [esc,c0,a1,l1,hF,hb,b1,D3 (show i+1<9223372036854775808 by omega)];exact f1
def B82 {d:Int} {t:List Int} {h:B5} (ht:t.length=32):A7K [.a (encI (d::t))] h=A4 (.t [.c (.sl h.length 0 (bif okX d t then 256 else 0) 1),.c (.b (okX d t))],h++[rT (B4 (bif okX d t then gE d t else []))]):=by
 have key:∀ N,32<N->∀ g,∃ j g',B44 N [.a (encI (d::t))] g=A4 (.t [.c (.sl j 0 (bif okX d t then 256 else 0) 1),.c (.b (okX d t))],g')/\Out g.length g' (sV j 0 (bif okX d t then 256 else 0) 1) 1 (bif okX d t then 256 else 0) (B4 (bif okX d t then gE d t else [])):=by
  intro N hN g;have l0:(encI (d::t))[0]?=A4 (.i .i64 d):=rfl;rw [C8G];unfold okX;by_cases c1:d<0
  ·rw [decide_eq_false (show ¬ 0<=d by omega),E51];simp only [cond_false];refine ⟨g.length+2,g++[rT (encI (d::t)),rT [],rT []],?_,rfl,_,rfl,by omega,by simp [B4]⟩;generalize encI (d::t)=y at *;simp only [esc,esh,Nat.reduceAdd,l0,c1]
  ·rw [decide_eq_true (show 0<=d by omega),E55];by_cases c2:5<d
   ·rw [decide_eq_false (show ¬ d<=5 by omega),E51];simp only [cond_false];refine ⟨g.length+2,g++[rT (encI (d::t)),rT [],rT []],?_,rfl,_,rfl,by omega,by simp [B4]⟩;generalize encI (d::t)=y at *;simp only [esc,esh,Nat.reduceAdd,l0,c1,c2]
   ·rw [decide_eq_true (show d<=5 by omega),E55];have ef:E6 [Cell.i .u8 0,.i .u8 0,.i .u8 0,.i .u8 0] [(0,1,.c (.i .u8 105)),(1,1,.c (.i .u8 100)),(2,1,.c (.i .u8 120)),(3,1,.c (.i .u8 33))]=A4 (B4 magX):=rfl;have b0:E5U .u8 d=((byI d 0).toNat:Int):=by rw [sE,A1h];simp
    have ef1:E6 [Cell.i .u8 0] [(0,1,.c (.i .u8 ((byI d 0).toNat:Int)))]=A4 (B4 (C4 1 d)):=rfl;have hM:A0J (g++[rT (encI (d::t)),rT [],rT (B4 magX)]) (sV (g.length+2) 0 4 1)=A4 (sV (g.length+2) 0 4 1):=by simp [A0J]
    have hA:=mE (h:=g++[rT (encI (d::t)),rT [],rT (B4 magX),rT (B4 (C4 1 d))]) (id:=g.length+2) (jd:=g.length+3) (n:=4) (m:=1) (sz:=1) (cs:=B4 magX) (ys:=B4 (C4 1 d)) (rw:=A5) (by simp) rfl (by simp) (by simp [A9]) rfl (by omega) (by omega);simp only [E5T,E52,E6h,E6e,E5Y,E6q,E59,nF,E6H,E6G,Nat.reduceAdd,<-N1] at hA;have hZ:=E0C (h:=g++[rT (encI (d::t)),rT [],A7,rT (B4 (C4 1 d)),rT (B4 (magX++C4 1 d))]) (id:=g.length+4) (n:=5) (m:=27) (cs:=B4 (magX++C4 1 d)) (by simp) (by rw [A9];simp [magX]) (by omega);simp only [E5T,E52,E6h,E6e,E5Y,E6q,E59,nF,E6H,E6G,Nat.reduceAdd,<-N1] at hZ;rw [show ((27:Nat):Int)=27 from rfl] at hZ;obtain ⟨j,g',f1,f2⟩:=D01 (g:=g) (d:=d) (t:=t) (q:=N) ht 32 0 N (g++[rT (encI (d::t)),rT [],A7,rT (B4 (C4 1 d)),A7,rT (B4 (magX++(C4 1 d++zeros 27)))]) (g.length+5) (by omega) hN
     (by have:=(Low.refl (h:=g++[rT (encI (d::t))]) (E5V _)).new [rT [],A7,rT (B4 (C4 1 d)),A7,rT (B4 (magX++(C4 1 d++zeros 27)))];simpa using this) (by simp) (by simp [A0B,uO])
    rw [E6a] at f1 f2;refine ⟨j,g',?_,f2⟩;generalize magX++(C4 1 d++zeros 27)=P3 at *;generalize magX++C4 1 d=P2 at *;generalize B4 (C4 1 d)=P1 at *;generalize B4 magX=mg at *;generalize encI (d::t)=y at *;simp only [esc,esh,Nat.reduceAdd,l0,c1,c2,ef,hM,b0,ef1,hA,hZ];exact f1
 obtain ⟨j,g',e,ho⟩:=key (h.length+33) (by omega) (ro h);exact C3J e (by simpa [F7] using ho) (by simp) rfl
def D6C {d:Int} {t:List Int} {ix iz q:Nat} {h:B5} (ht:t.length=32) (hx:rd h ix=rT (encI (d::t))) (hz:rd h iz=rT (encI (0::zI 32))):∀ e i m:Nat,i+e=32->e<m ->
  ∃ h',C2u q m (pV iz 0) (pV ix 0) (iV (i:Int)) h=A4 (.t [.a (encI (bif A2H t i e then d::t else 0::zI 32)),.c (.b (A2H t i e))],h')
 | e,i,0,_,hm=>by omega
 | 0,i,m+1,hi,hm=>by
  have e0:i=32:=by omega
  subst e0;have c0:¬ ((32:Nat):Int)<32:=by omega
  have hX:=E4 (d:=d) ht;have hZ:(encI (0::zI 32)).length=33:=E4 (d:=0) J6;have s1:=C7 (h:=h) (id:=ix) hx hX;have s2:=storeAll (h:=h) (id:=iz) (xs:=encI (d::t)) hz hZ hX;have s3:=C7 (h:=h.set iz (rT (encI (d::t)))) (id:=iz) (C6 (C8 hz)) hX;have er:A2H t 32 0=A5:=rfl;rw [B1I,er,cond_true];generalize encI (d::t)=y at *;exact ⟨_,by simp only [esc,c0,s1,s2,s3]<;>rfl⟩
 | e+1,i,m+1,hi,hm=>by
  obtain ⟨h',ih⟩:=D6C (q:=q) ht hx hz e (i+1) m (by omega) (by omega);have c0:(i:Int)<32:=by omega
  have hZ:(encI (0::zI 32)).length=33:=E4 (d:=0) J6;have a1:=adX (id:=ix) (i:=i) (by omega);have l1:=ldX (h:=h) (id:=ix) hx ht (i:=i) (by omega);have haf:E6 (encI (0::zI 32)) []=A4 (encI (0::zI 32)):=rfl;have s2:=storeAll (h:=h) (id:=iz) (xs:=encI (0::zI 32)) hz hZ hZ;have s3:=C7 (h:=h.set iz (rT (encI (0::zI 32)))) (id:=iz) (C6 (C8 hz)) hZ;have er:A2H t i (e+1)=(decide (toX t i=0)&&A2H t (i+1) e):=by unfold A2H;rw [List.range'_succ,E6B]
  rw [B1I,er,B2B];by_cases c:toX t i=0
  ·rw [decide_eq_true c,E55];rw [c] at l1;generalize encI (0::zI 32)=z at *;exact ⟨h',by simp only [esc,c0,a1,l1,D3 (show i+1<9223372036854775808 by omega)];exact ih⟩
  ·rw [decide_eq_false c,E51,cond_false];generalize encI (0::zI 32)=z at *;exact ⟨_,by simp only [esc,c0,a1,l1,c,haf,s2,s3]<;>rfl⟩
def D7D {d:Int} {t:List Int} (h:okX d t=A5):0<=d/\d<=5:=by
 unfold okX at h;simp only [E5S,decide_eq_true_eq] at h;exact ⟨h.1,h.2.1⟩
def D6B {v:Val} {nv:Nat} {b:List UInt8} {g:B5} {q:Nat} (hb:b.length=256) (hv:Has g v 1 nv (B4 b)) (hq:32<q):∀ e i m:Nat,i+e=32->e<m ->
  ∃ h',C2t q m v (pV g.length 0) (pV (g.length+1) 0) (iV (i:Int)) (g++[rT (encI (0::zI 32)),rT (encI (getD b::O4 b i))]) =
   A4 (.t [.a (encI (bif V6 b then getD b::O4 b 32 else 0::zI 32)),.c (.b (V6 b))],h')
 | e,i,0,_,hm=>by omega
 | 0,i,m+1,hi,hm=>by
  have e0:i=32:=by omega
  subst e0;have c0:¬ ((32:Nat):Int)<32:=by omega
  have ht:=mW (b:=b) (n:=32) (E5V _);have hX:=E4 (d:=getD b) ht;have hZ:(encI (0::zI 32)).length=33:=E4 (d:=0) J6;have hP:=B82 (d:=getD b) (t:=O4 b 32) (h:=g++[rT (encI (0::zI 32)),rT (encI (getD b::O4 b 32))]) ht;simp only [E5T,E52,E6h,E6e,E5Y,E6q,E59] at hP;have haf:E6 (encI (0::zI 32)) []=A4 (encI (0::zI 32)):=rfl;have C67:=P5 (getD b);unfold V6;rw [B1H,B2B];cases co:okX (getD b) (O4 b 32) with
  | false =>
   rw [co] at hP;simp only [cond_false] at hP;rw [E51,cond_false];generalize encI (0::zI 32)=z at *;generalize encI (getD b::O4 b 32)=y at *;exact ⟨_,by simp only [esc,esh,Nat.reduceAdd,c0,hX,hP,haf,hZ]<;>rfl⟩
  | true =>
   rw [co] at hP;simp only [cond_true] at hP;rw [E55];have P6:=mY (d:=getD b) ht;have l0:(encI (getD b::O4 b 32))[0]?=A4 (.i .i64 (getD b)):=rfl;have hS:=jO (l:=gE (getD b) (O4 b 32)) (r:=b) (h:=g++[rT (encI (0::zI 32)),rT (encI (getD b::O4 b 32)),rT (B4 (gE (getD b) (O4 b 32)))]) (v:=sV (g.length+2) 0 256 1) (u:=v) (nv:=256) (nu:=nv) (Has.row (rw:=A5) (by simp) (by rw [A9,P6]) (G9 _)) (hv.more _) (by omega);by_cases ce:gE (getD b) (O4 b 32)=b
   ·rw [decide_eq_true ce,E55];rw [decide_eq_true ce] at hS;have hd:=D7D co;have hPw:=λh=>A8v (k:=W9 (getD b)) (h:=h) (by have:=uF (getD b);omega)
    rw [B2U hd.1 hd.2] at hPw;rw [show 2 ^ W9 (getD b)=D1 (getD b) from rfl] at hPw;obtain ⟨h',e⟩:=D6C (d:=getD b) (t:=O4 b 32) (ix:=g.length+1) (iz:=g.length) (q:=q) (h:=g++[rT (encI (0::zI 32)),rT (encI (getD b::O4 b 32)),rT (B4 (gE (getD b) (O4 b 32)))]) ht (by simp) (by simp) (32-D1 (getD b)) (D1 (getD b)) q (by omega) (by omega);refine ⟨h',?_⟩;generalize A2H (O4 b 32) (D1 (getD b)) (32-D1 (getD b))=R at *;generalize encI (getD b::O4 b 32)=Y at *;generalize gE (getD b) (O4 b 32)=I at *;generalize encI (0::zI 32)=z at *;simp only [esc,esh,Nat.reduceAdd,c0,hX,hP,hS,l0,hPw];exact e
   ·rw [decide_eq_false ce,E51,cond_false];rw [decide_eq_false ce] at hS;generalize gE (getD b) (O4 b 32)=I at *;generalize encI (0::zI 32)=z at *;generalize encI (getD b::O4 b 32)=y at *;exact ⟨_,by simp only [esc,esh,Nat.reduceAdd,c0,hX,hP,hS,haf,hZ]<;>rfl⟩
 | e+1,i,m+1,hi,hm=>by
  obtain ⟨h',ih⟩:=D6B (q:=q) hb hv hq e (i+1) m (by omega) (by omega);have c0:(i:Int)<32:=by omega
  have ht:=mW (b:=b) (n:=i) (by omega);have hX:=E4 (d:=getD b) ht;have hA:=λl=>sC (hv.more l) hb (a:=((32+2*i:Nat):Int)) (w:=2)
  have ea:=D1F (b:=b) (a:=32+2*i) (w:=2) (by omega) (by omega) (by omega);rw [show ((2:Nat):Int)=2 from rfl] at ea;rw [ea] at hA;have w1:E5U .i64 (2*(i:Int))=((2*i:Nat):Int):=by rw [wrap_i64 (by omega) (by omega)];omega
  have w2:E5U .i64 (32+((2*i:Nat):Int))=((32+2*i:Nat):Int):=by rw [wrap_i64 (by omega) (by omega)];omega
  have a1:=adX (id:=g.length+1) (i:=i) (by omega);have hs:(encI (getD b::O4 b i)).set (1+i) (.i .i64 (fieldN b (32+2*i) 2))=encI (getD b::O4 b (i+1)):=by rw [B76,D0y (by omega)];rfl
  have V7:1+i<(encI (getD b::O4 b i)).length:=by rw [hX];omega
  rw [B1H];generalize V6 b=G at *;generalize getD b::O4 b 32=Y at *;generalize encI (getD b::O4 b (i+1))=y1 at *;generalize encI (getD b::O4 b i)=y at *;generalize encI (0::zI 32)=z at *;refine ⟨h',?_⟩;simp only [esc,esh,c0,w1,w2,hA,a1,V7,hs,D3 (show i+1<9223372036854775808 by omega)];exact ih
def D2v {v:Val} {nv:Nat} {b:List UInt8} {h:B5} (hb:b.length=256) (hv:Has h v 1 nv (B4 b)):B5t [v] h=A4 (.t [.a (encI (bif V6 b then getD b::O4 b 32 else 0::zI 32)),.c (.b (V6 b))],h):=by
 have key:∀ N,32<N->∀ g,Has g v 1 nv (B4 b)->∃ g',B43 N [v] g=A4 (.t [.a (encI (bif V6 b then getD b::O4 b 32 else 0::zI 32)),.c (.b (V6 b))],g'):=by
  intro N hN g hv;have hZ:(encI (0::zI 32)).length=33:=E4 (d:=0) J6;have hA:=λl=>sC (hv.more l) hb (a:=4) (w:=1)
  have ea:=D1F (b:=b) (a:=4) (w:=1) (by omega) (by omega) (by omega);rw [show ((4:Nat):Int)=4 from rfl,show ((1:Nat):Int)=1 from rfl] at ea;rw [ea] at hA;have ef:E6 (encI (0::zI 32)) [(0,1,iV (fieldN b 4 1))]=A4 (encI (getD b::O4 b 0)):=by
   have e1:(0+1<=(encI (0::zI 32)).length):=by rw [hZ];omega
   simp only [E6,cells?];rw [if_pos ⟨rfl,e1⟩];rfl
  have hX:=E4 (d:=getD b) (mW (b:=b) (n:=0) (by omega));obtain ⟨h',e⟩:=D6B (g:=g) (q:=N) hb hv hN 32 0 N (by omega) hN;rw [C8E,B2B];generalize V6 b=G at *;generalize getD b::O4 b 32=Y at *;generalize encI (getD b::O4 b 0)=y at *;generalize encI (0::zI 32)=z at *;exact ⟨h',by simp only [esc,esh,hZ,hA,ef,hX];exact e⟩
 obtain ⟨g',e⟩:=key (h.length+33) (by omega) (ro h) hv.ro;refine C3H e ?_;cases V6 b<;>simp
def D9p:∀ {l m:List UInt8},l.length=m.length->le l=le m->l=m
 | [],[],_,_=>rfl
 | [],_::_,h,_=>by simp at h
 | _::_,[],h,_=>by simp at h
 | x::r,y::s,h,e=>by
  have h1:=x.toNat_lt;have h2:=y.toNat_lt;simp only [le] at e;have e1:x.toNat=y.toNat:=by omega
  have e2:le r=le s:=by omega
  rw [UInt8.toNat_inj.1 e1,D9p (by simpa using h) e2]
def D8y {b:List UInt8} {i:Nat} (hb:b.length=256) (hi:i<128):C4 2 (ptP b i)=(b.drop (2*i)).take 2:=by
 have hr:=D7M b i;refine D9p (by simp;omega) ?_;have h1:=D0F 2 (ptP b i);have h2:ptP b i%256 ^ 2=ptP b i:=Int.emod_eq_of_lt hr.1 (by omega);rw [h2] at h1;have h3:ptP b i=((le ((b.drop (2*i)).take 2):Nat):Int):=rfl;omega
def bM (b:List UInt8):Nat->List Int
 | 0=>[]
 | i+1=>bM b i++[ptP b i]
def uJ {b:List UInt8}:∀ i,(bM b i).length=i
 | 0=>rfl
 | i+1=>by rw [bM,E5T,uJ i];rfl
def C2x {b:List UInt8} (hb:b.length=256):∀ i,i<=128->pA (bM b i)=b.take (2*i)
 | 0,_=>by simp [bM,pA]
 | i+1,h=>by
  rw [bM,C7E,C2x hb i (by omega),D8y hb (by omega),show 2*(i+1)=2*i+2 by omega,List.take_add]
def D7g {b:List UInt8} (hb:b.length=256):P7 256 (pA (bM b 128))=b:=by
 rw [C2x hb 128 (by omega),E53 (by omega)];unfold P7;rw [hb,E6D,show zeros 0=[] from rfl,E6m]
def B2Y {b:List UInt8}:∀ n,bM b n=(E6p n).map (ptP b)
 | 0=>rfl
 | n+1=>by rw [bM,B2Y n,List.range_succ,E6N];rfl
def C7m {l xs:List UInt8} {a c n:Nat} (h:a+xs.length<=l.length) (hd:c+n<=a\/a+xs.length<=c):((J7 l a xs).drop c).take n=(l.drop c).take n:=by
 apply List.ext_getElem?;intro j;by_cases hj:j<n
 ·rw [E6s hj,E6s hj,E6J,E6J,D9m h,if_neg (by omega)]
 ·rw [E6x (by simp;omega),E6x (by simp;omega)]
def E0o {b:List UInt8} {n:Nat} {v:Int} (hn:n<128):jG b ((2*n:Nat):Int) 2 v=J7 b (2*n) (C4 2 v):=by
 unfold jG;rw [if_pos ⟨by omega,O7.2 (by omega)⟩,E6c];rfl
def C4l {b:List UInt8} {n i:Nat} {v:Int} (hb:b.length=256) (hn:n<128) (hi:i<128):ptP (J7 b (2*n) (C4 2 v)) i=if i=n then v%65536 else ptP b i:=by
 unfold ptP fieldN;by_cases c:i=n
 ·subst c;rw [if_pos rfl];have:=D9l (l:=b) (xs:=C4 2 v) (a:=2*i) (by simp;omega);rw [Q8] at this;rw [this,D0F];rfl
 ·rw [if_neg c,C7m (by simp;omega) (by simp;omega)]
section
variable (n m m2:Nat) (a0 x0 x3 x4:Val) (h:B5)
def fH:FD A8:=⟨px 0X128f203a2802400007218f4050026703181ff3001c13901011113e1906303019621e1711c1901818153130702418890120121d42030060511119618201314a174212481042,[],[],[.tmp 2],[E3 oC A1B]⟩
def A1W:=fH.R
def A83:AtH:=fH.lj 0 n [m] [x0,x3,x4]
def B02:=tT [⟨2,3,A83⟩]
def B60:=mR A1W fH B02 n [a0] h
def A2u:=mL fH B02 0 n [m] [x0,x3,x4] h
def A9N:=fH.K Tryz.func110
def A2a:=fH.S
def B7q:SOk A8 110 A2a:=A9N.sok
def B5u:pY A1W A2a:=A9N.out
def nS:FD A8:=⟨px 0X12df200143134a128892889172b7e440000721af4050021a1903182af3001e139019203058040411d2a171281b0191815313070240612029710142942030060511119618201314a174212481042,[],[],[.tmp 2],[E3 dK nY,E3 lZ pX]⟩
def A7k:=nS.R
def B39:AtH:=nS.lj 0 n [m] [x0,x3,x4]
def B7K:=tT [⟨2,3,B39⟩]
def C26:=mR A7k nS B7K n [a0] h
def A6g:=mL nS B7K 0 n [m] [x0,x3,x4] h
def B6M:=nS.K Tryz.func113
def A7L:=nS.S
def C3K:SOk A8 113 A7L:=B6M.sok
def B97:pY A7k A7L:=B6M.out
end
def sE {a:Int}:E5U .u8 a=a%256:=by
 simp only [E5U,IntKind.bits,IntKind.signed,E51];rfl
def C6n {v:Val} {nv:Nat} {l:List Int} {g:B5} {q:Nat} (hv:Has g v 1 nv (encI l)) (hn:l.length=nv) (hl:nv<=128):∀ (e i m:Nat) (h:B5) (id:Nat),i+e=nv->e<m->Low g.length g h->g.length<=id->rd h id=rT (B4 (pA (l.take i))) ->
  ∃ w h',B39 q m v (sV id 0 (2*i) 1) (iV i) h=A4 (w,h')/\Out g.length h' w 1 256 (B4 (P7 256 (pA l)))
 | e,i,0,h,id,_,hm,_,_,_=>by omega
 | 0,i,m+1,h,id,hi,hm,hlow,hid,hr=>by
  have e0:i=nv:=by omega
  subst e0;have c0:¬ (i:Int)<i:=by omega
  have hlen:=hv.len;have mk:A2T (iV 256) (iV 256)=A4 256:=rfl;have rz:=oT 256;have zl:(zeros 256).length=256:=zeros_length;rw [E53 (by omega)] at hr;have hnl:(pA l).length=2*i:=by rw [B8O];omega
  have hL:=oS (h:=h++[rT (B4 (zeros 256))]) (v:=sV h.length 0 256 1) (nv:=256) (l:=zeros 256) (u:=sV id 0 (2*i) 1) (nu:=2*i) (data:=pA l) (Has.tr (by simp) (by rw [A9];exact zeros_length) (G9 _)) (Has.tr (C5 hr) (by rw [A9,hnl];omega) (G9 _)) (a:=0) (by omega) (by omega);have eL:A9F (zeros 256) 0 (pA l)=P7 256 (pA l):=by
   have h1:=A1H (l:=zeros 256) (xs:=pA l) (a:=0) (by omega);have h2:=B2i (l:=[]) (xs:=pA l) (a:=0) (by simp) (by omega);rw [show ((0:Nat):Int)=0 from rfl] at h1;rw [h1,<-B8R,h2,E6h,E6D,show zeros 0=[] from rfl,E6m,E59]
  rw [eL,zl] at hL;have hp:(B4 (P7 256 (pA l))).length=256:=by rw [A9,I6 (by omega)]
  rw [A6g];generalize P7 256 (pA l)=P at *;generalize zeros 256=z at *;simp only [esc] at hL;exact ⟨_,_,by simp only [esc,esh,hlen,c0,mk,rz,hL]<;>rfl,by omega,_,rfl,by have:=hlow.2.1;omega,by simp⟩
 | e+1,i,m+1,h,id,hi,hm,hlow,hid,hr=>by
  obtain ⟨jd,off,ev,hjd,h1,h2⟩:=(hv.since hlow).sl (by omega);have hlen:=hv.len;have c0:(i:Int)<nv:=by omega
  have hx:=h1 i (.i .i64 l[i]) (by rw [I1,E5P (by omega)];rfl);have eb:D9 1 v (iV (i:Int))=A4 (pV jd (off+i)):=by rw [ev,C9 (by omega)];simp
  have hb:=λh=>eG (w:=2) (v:=l[i]) (h:=h) (by omega)
  have hnl:(pA (l.take i)).length=2*i:=by rw [B8O,E6l];omega
  obtain ⟨h1',a1,a2,a3,a4,a5⟩:=D6y (ys:=B4 (C4 2 l[i])) (m:=2) (sz:=1) (n:=2*i) hlow hr (by rw [A9,hnl];omega) hid (by simp [A9]) (by omega) (by omega);rw [<-N1,<-C7E,<-E58 (by omega)] at a2;obtain ⟨w,h',f1,f2⟩:=C6n (q:=q) hv hn hl e (i+1) m h1' (h.length+1) (by omega) (by omega) a3 a4 a2;rw [show 2*(i+1)=2*i+2 by omega] at f1;simp only [E6r] at hb;rw [A6g];refine ⟨w,h',?_,f2⟩;simp only [esc,hlen,c0,eb,hx,hb,a1,D3 (show i+1<9223372036854775808 by omega)];exact f1
def C7Y {v:Val} {nv:Nat} {l:List Int} {h:B5} (hv:Has h v 1 nv (encI l)) (hl:nv<=128):A7L [v] h=A4 (sV h.length 0 256 1,h++[rT (B4 (P7 256 (pA l)))]):=by
 have hn:l.length=nv:=by simpa [B7] using hv.length
 have key:∀ N,nv<N->∀ g,Has g v 1 nv (encI l)->∃ w g',A7k N [v] g=A4 (w,g')/\Out g.length g' w 1 256 (B4 (P7 256 (pA l))):=by
  intro N hN g hv;obtain ⟨w,g',f1,f2⟩:=C6n (g:=g) (q:=N) hv hn hl nv 0 N (g++[rT [],rT []]) (g.length+1) (by omega) (by omega) ((Low.refl (E5V _)).new _) (by omega) (by simp [pA,B4]);rw [C26];exact ⟨w,g',by simp only [esc,esh];exact f1,f2⟩
 obtain ⟨w,g',e,ho⟩:=key (nv+1) (by omega) (ro h) hv.ro;exact B97 e (by simpa [F7] using ho) (by simp)
def B4A {v:Val} {nv:Nat} {b:List UInt8} {g:B5} {q:Nat} (hv:Has g v 1 nv (B4 b)) (hb:b.length=256):∀ (e i m:Nat) (h:B5) (id:Nat),i+e=128->e<m->Low g.length g h->g.length<=id->rd h id=rT (encI (bM b i)) ->
  ∃ v2 h',A83 q m v (sV id 0 i 1) (iV (i:Int)) h=A4 (v2,h')/\Out g.length h' v2 1 128 (encI (bM b 128))
 | e,i,0,h,id,_,hm,_,_,_=>by omega
 | 0,i,m+1,h,id,hi,hm,hlow,hid,hr=>by
  have e0:i=128:=by omega
  subst e0;have c0:¬ ((128:Nat):Int)<128:=by omega
  rw [A2u];exact ⟨_,_,by simp only [esc,c0]<;>rfl,by rw [B7,uJ],_,rfl,hid,hr⟩
 | e+1,i,m+1,h,id,hi,hm,hlow,hid,hr=>by
  have c0:(i:Int)<128:=by omega
  have hA:=sC (hv.since hlow) (a:=((2*i:Nat):Int)) (w:=2) hb;rw [E1W hb (by omega)] at hA;obtain ⟨h1,a1,a2,a3,a4,a5⟩:=push (ys:=[.i .i64 (ptP b i)]) (sz:=1) (n:=i) hlow hr (by rw [B7,uJ];omega) hid rfl (by omega) (by omega);have he:encI (bM b i)++[.i .i64 (ptP b i)]=encI (bM b (i+1)):=by rw [bM];simp [encI]
  rw [he] at a2;obtain ⟨v2,h',f1,f2⟩:=B4A (q:=q) hv hb e (i+1) m h1 (h.length+1) (by omega) (by omega) a3 a4 a2;have ef:E6 [o0] [(0,1,iV (ptP b i))]=A4 [.i .i64 (ptP b i)]:=rfl;rw [A2u];refine ⟨v2,h',?_,f2⟩;simp only [esc,c0,D5S (show i<128 by omega),hA,ef,a1,D3 (show i+1<9223372036854775808 by omega)];exact f1
def C07 {v:Val} {nv:Nat} {b:List UInt8} {h:B5} (hv:Has h v 1 nv (B4 b)) (hb:b.length=256):A2a [v] h=A4 (sV h.length 0 128 1,h++[rT (encI (bM b 128))]):=by
 have key:∀ N,128<N->∀ g,Has g v 1 nv (B4 b)->∃ v2 g',A1W N [v] g=A4 (v2,g')/\Out g.length g' v2 1 128 (encI (bM b 128)):=by
  intro N hN g hv;obtain ⟨v2,g',f1,f2⟩:=B4A (q:=N) hv hb 128 0 N ((g++[rT []])++[rT []]) (g.length+1) (by omega) hN (((Low.refl (E5V _)).new _).new _) (by omega) (by simp [bM,encI]);rw [B60];refine ⟨v2,g',?_,f2⟩;simpa using f1
 obtain ⟨v2,g',e,ho⟩:=key (h.length+129) (by omega) (ro h) hv.ro;exact B5u e (by simpa [F7] using ho) (by simp)
section
variable (n m m2:Nat) (a0 a1:Val) (h:B5)
def A0V:FD A8:=⟨px 0X129f40038044881d3c171e0502011df4028892889176b2280000722401b1a190641e1a01e4b71e71e1e7011012181183942031448130182,[],[.slA 256 1 (.t 16) A7 A7],[.tmp 4],[]⟩
def A04:=A0V.R
def A8P:=mR A04 A0V (tT []) n [a0,a1] h
def A63:=A0V.K Tryz.func111
def tH:=A0V.S
def pU:SOk A8 111 tH:=A63.sok
def C0a:E2e A04 tH:=A63.low
def C0b:pY A04 tH:=A63.out
end
def D27 {b n i:Int}:decide (vK b n i=4)=jW b n i:=by
 unfold jW vK mS uY A2M;cases c:R7 b n with
 | false =>
  rw [if_neg (by simp),E51,E51];rfl
 | true =>
  have h:=c;unfold R7 at h;simp only [E5S,decide_eq_true_eq] at h;simp only [cond_true,E55,true_and];by_cases c1:2+n/8<=i
  ·by_cases c2:i<b
   ·rw [if_pos (by omega),if_neg (by omega),if_neg (by omega),decide_eq_true c1,decide_eq_true c2];rfl
   ·rw [if_neg (by omega),decide_eq_true c1,decide_eq_false c2];rfl
  ·rw [decide_eq_false c1,E51];split
   ·split
    ·exact decide_eq_false (by omega)
    ·rw [if_pos (by omega)];rfl
   ·rfl
def C9E {b n m i:Int} {h:B5}:B0P [.a (D7 b n m),iV i] h=A4 (bV (jW b n i),h):=by
 have key:∀ g,∃ g',B0d 0 [.a (D7 b n m),iV i] g=A4 (bV (jW b n i),g'):=by
  intro g;have l3:(D7 b n m).length=3:=rfl;have hA:=λh=>A5u (b:=b) (n:=n) (m:=m) (no:=i) (h:=h)
  rw [C40,<-D27];generalize D7 b n m=L at *;exact ⟨_,by simp only [esc,esh,l3,hA]<;>rfl⟩
 obtain ⟨g',e⟩:=key (ro h);exact B98 e rfl
def C7Z {h:B5} {v:Val} {D:Dev} (hv:Has h v 256 D.length (D5 D)) (hD:okD D) {i:Nat} (hi:i<D.length):∃ u,tH [v,iV (i:Int)] h=A4 (u,h)/\Has h u 1 256 (B4 D[i]):=by
 have hlen:=hv.len;rcases hv with ⟨_,h0,_⟩ | ⟨id,off,r,rfl,hr,h1,h2,h3,h4⟩
 ·omega
 ·have dF:off+i*256+256*1<=r.cells.length:=by omega
  have V7:=C8 hr;refine ⟨sV id (off+i*256) 256 1,?_,?_⟩
  ·have c1:¬ (i:Int)<0:=by omega
   have c2:¬ ((D.length:Nat):Int)<=(i:Int):=by omega
   have a1:D9 256 (sV id off D.length 256) (iV (i:Int))=A4 (pV id (off+i*256)):=C9 hi;have hr2:rd (ro h++[rT []]) id=A4 ⟨r.dim,A6⟩:=C5 (by rw [D0U,hr];rfl);have E5B:=D2y h3 h4 (show i*256<D.length*256 by omega) h2;have E3R:r.dim=r.cells:=by
    unfold Row.dim;cases hh:r.head with
    | false=>rfl
    | true =>
     exfalso;have A0d:r.cells[off+i*256]?=A4 r.cells[off+i*256]:=E5P (by omega);have hxx:=Row.head_isX hh _ (E6j A0d);have h5:=List.all_eq_true.1 h4 r.cells[off+i*256] (by
      rw [<-h3];have:((r.cells.drop off).take (D.length*256))[i*256]?=A4 r.cells[off+i*256]:=by rw [E6s (by omega),E6J];exact A0d
      exact E6j this)
     rw [hxx] at h5;cases h5
   have hdl:r.dim.length=r.cells.length:=by rw [E3R]
   have E5f:((A6:Bool)||(r.dim[off+i*256]?).any λc=>!c.isX)=A5:=by
    rw [E3R,Bool.false_or];have A0d:r.cells[off+i*256]?=A4 r.cells[off+i*256]:=E5P (by omega);have h5:=List.all_eq_true.1 h4 r.cells[off+i*256] (by
      rw [<-h3];have:((r.cells.drop off).take (D.length*256))[i*256]?=A4 r.cells[off+i*256]:=by rw [E6s (by omega),E6J];exact A0d
      exact E6j this)
    rw [A0d];simp only [Option.any_some,h5]
   have s1:B5X (ro h++[rT []]) 256 1 (pV id (off+i*256)) A7 A7=A4 (sV id (off+i*256) 256 1):=by
    simp only [B5X,hr2,E54,bound];rw [if_pos ⟨by omega,by omega,by rw [hdl];exact dF,E5f⟩];simp
   refine C0a (n:=0) (h2:=ro h++[rT []]) ?_ (by simp [Val.low,Cell.low,V7]);rw [A8P];simp only [M9,tX,c1,decide_false,E1Z,hlen,C59,c2,D54,cond_false,B73,a1,s1]
  ·refine Has.part (cs:=r.cells) (rw:=r.rw) hr dF ?_ (G9 _);rw [<-dD hD hi,<-h3,List.drop_take,List.take_take,E6P]
   congr 1
   omega
section
variable {v:Val} {D:Dev} {n m k l s p:Int} {d:List Int} {h:B5}
end
def C3X (D:Dev) (n i:Int):Bool:=S4 D.length n i&&iO (A9H D n i)
def lnV (D:Dev) (n i:Int):Int:=bif C3X D n i then uK (A9H D n i) else 0
def szV (D:Dev) (n i:Int):Int:=bif C3X D n i then uM (A9H D n i) else 0
def paV (D:Dev) (n i:Int):Int:=bif C3X D n i then uL (A9H D n i) else 0
def drV (D:Dev) (n i:Int):List Int:=bif C3X D n i then N5 (A9H D n i) else zI 7
def xE {D:Dev} {n i:Int}:(drV D n i).length=7:=by
 unfold drV;cases C3X D n i with
 | false=>exact J6
 | true=>exact F8
def D6l {D:Dev} {n i:Int}:kdV D n i=bif C3X D n i then sH (A9H D n i) else 0:=by
 unfold kdV C3X;cases S4 D.length n i<;>rfl
def A8l (D:Dev) (n i:Int):A2V D n i=F9 (kdV D n i) (lnV D n i) (szV D n i) (paV D n i) (drV D n i):=by
 rw [D6l];unfold A2V lnV szV paV drV C3X;cases S4 D.length n i with
 | false=>rfl
 | true =>
  rw [E55,cond_true];unfold eR;cases iO (A9H D n i)<;>rfl
def D5f {D:Dev} {n i:Int} (h:kdV D n i≠0):R7 D.length n=A5/\1<=i/\i<=n:=by
 rw [<-nB];unfold kdV at h;cases hi:S4 D.length n i with
 | false=>rw [hi] at h;exact absurd rfl h
 | true=>rfl
def B86 {R:List Int} (hn:R.Nodup) (hr:∀ a∈R,1<=a/\a<=128):R.length<=128:=by
 have:(R.map Int.toNat).Nodup:=by
  rw [List.Nodup,List.pairwise_map];refine hn.imp_of_mem λ{a b} ha hb hab e=>?_
  have:=hr a ha;have:=hr b hb;omega
 have hs:∀ x∈R.map Int.toNat,x∈E6y 1 128:=by
  intro x hx;rw [List.mem_map] at hx;obtain ⟨a,ha,rfl⟩:=hx;have:=hr a ha;rw [List.mem_range'_1];omega
 have:=List.Nodup.length_le_of_subset this hs;simpa using this
def B2W {l:List Ent}:(W3 l).length=l.length*2:=by
 induction l with
 | nil=>rfl
 | cons x l ih=>simp only [W3,E6X,List.flatten_cons,E5T,E52,X1,E6h] at ih ⊢;omega
def D44 {l:List Ent}:O5 (W3 l)=A5:=by
 induction l with
 | nil=>rfl
 | cons x l ih =>
  have:W3 (x::l)=X1 (A4 x)++W3 l:=rfl;rw [this,uI,ih];rfl
def D69 {l:List Ent}:noX (W3 l)=A5:=by
 induction l with
 | nil=>rfl
 | cons x l ih =>
  have:W3 (x::l)=[.s x.1,.i .i64 x.2]++W3 l:=rfl;rw [this];simp [noX,Cell.isX] at ih ⊢;exact ih
def D7a {h:B5} {y:Cell} {l:List Ent} (hy:Has h (.c y) 2 l.length (W3 l)) {i:Nat} (hi:i<l.length):∃ a,D9 2 (.c y) (.c (.i .i64 (i:Int)))=A4 a/\D4 h 2 a=A4 (.a (X1 (A4 l[i]))):=by
 obtain ⟨id,off,e,hid,_,hB⟩:=hy.sl (by omega);cases e;refine ⟨.c (.p id (off+i*2)),C9 hi,?_⟩;rw [hB (i*2) 2 (by rw [B2W];omega),B78 l i hi]
def E3v {h:B5} {x:Ent}:E5 (h++[rT [.s [],o0]]) 2 (.c (.p h.length 0)) (.a (X1 (A4 x)))=A4 (h++[rT (X1 (A4 x))]):=by rw [M6];rfl
def HeldX (h:B5) (x:Cell) (cs:List Cell) (n sz r:Nat):Prop:=(n=0/\cs=[]/\x=.ns)\/∃ id,x=.sl id 0 n sz/\rd h id=rT cs/\cs.length=n*sz/\id≠r
def HeldX.keep {h h':B5} {x:Cell} {cs:List Cell} {n sz r:Nat} (hx:HeldX h x cs n sz r) (hk:∀ id m,x=.sl id 0 m sz->rd h' id=rd h id):HeldX h' x cs n sz r:=by
 rcases hx with hx | ⟨id,e,hr,hl,T1⟩
 ·exact .inl hx
 ·exact .inr ⟨id,e,by rw [hk id n e];exact hr,hl,T1⟩
def E3I {h:B5} {x:Cell} {cs0 cs ys:List Cell} {r off n sz:Nat} (hr:rd h r=rT cs0) (hx:cs0[off]?=A4 x) (hd:HeldX h x cs n sz r) (hl:n<=100000) (hy:ys.length=sz) (hsz:0<sz) :
  ∃ id h2 h3,B8 h (pV r off)=A4 (.c x)/\kV (h++[rT ys]) sz (.c x) (sV h.length 0 1 sz)=A4 (sV id 0 (n+1) sz,h2)/\I5 h2 (pV r off) (sV id 0 (n+1) sz)=A4 h3 /\
   rd h3 r=rT (cs0.set off (.sl id 0 (n+1) sz))/\h.length<id/\rd h3 id=rT (cs++ys)/\(cs++ys).length=(n+1)*sz/\(∀ j,j<h.length->j≠r->(∀ m,x≠.sl j 0 m sz)->rd h3 j=rd h j)/\h.length<h3.length:=by
 have hrl:=C8 hr;have l1:B8 h (pV r off)=A4 (.c x):=B9 hr hx (by simp);have hof:off<cs0.length:=(List.getElem?_eq_some_iff.1 hx).1;have e1:(h++[rT ys]).length=h.length+1:=by simp
 rcases hd with ⟨rfl,rfl,rfl⟩ | ⟨id,rfl,hi,hcl,T1⟩
 ·have hA:=E0E (h:=h++[rT ys]) (jd:=h.length) (m:=1) (sz:=sz) (ys:=ys) (by simp) (by omega) hsz (by omega);rw [e1] at hA;have hr2:rd (h++[rT ys]++[rT ys]) r=rT cs0:=C5 (C5 hr);have s1:=G8 (x:=.sl (h.length+1) 0 1 sz) (off:=off) hr2 hof;refine ⟨h.length+1,_,_,l1,hA,s1,C6 (C8 hr2),by omega,?_,by simp [hy],λj hj hjr _=>?_,by simp⟩
  ·rw [B6 (by omega)];have:=U5 (h:=h++[rT ys]) (r:=⟨ys,A5⟩);rw [e1] at this;exact this
  ·rw [B6 (Ne.symm hjr),E1 (by simp;omega),E1 hj]
 ·have P6:=C8 hi;have hA:=mE (h:=h++[rT ys]) (id:=id) (jd:=h.length) (n:=n) (m:=1) (sz:=sz) (cs:=cs) (ys:=ys) (rw:=A5) (C5 hi) hcl (by simp) (by omega) rfl hsz (by omega);rw [e1] at hA;have hr2:rd ((h++[rT ys]).set id A7++[rT (cs++ys)]) r=rT cs0:=by
   refine C5 ?_;rw [B6 T1];exact C5 hr
  have s1:=G8 (x:=.sl (h.length+1) 0 (n+1) sz) (off:=off) hr2 hof;refine ⟨h.length+1,_,_,l1,hA,s1,C6 (C8 hr2),by omega,?_,by simp [hcl,hy,E6W],λj hj hjr hjx=>?_,by simp;omega⟩
  ·rw [B6 (by omega)];have:=U5 (h:=(h++[rT ys]).set id A7) (r:=⟨cs++ys,A5⟩);rw [E6o,e1] at this;exact this
  ·have hji:j≠id:=λe=>hjx n (by rw [e])
   rw [B6 (Ne.symm hjr),E1 (by simp;omega),B6 (Ne.symm hji),E1 hj]
def nmC:Cell->Option Nat
 | .sl id _ _ _=>A4 id
 | .m id=>A4 id
 | _=>A7
def Nam (h:B5) (r id:Nat):Prop:=∃ R x,rd h r=A4 R/\x∈R.cells/\nmC x=A4 id
structure Fr (r:Nat) (h h':B5):Prop where
 size:h.length<=h'.length
 keep:∀ id,id<h.length->id≠r->¬ Nam h r id->rd h' id=rd h id
 nam:∀ id,Nam h' r id->Nam h r id\/h.length<=id
def Fr.refl (r:Nat) (h:B5):Fr r h h:=⟨E5V _,λ_ _ _ _=>rfl,λ_ hn=>.inl hn⟩
def Fr.trans {r:Nat} {h h' h'':B5} (a:Fr r h h') (b:Fr r h' h''):Fr r h h'':=by
 refine ⟨E6w a.size b.size,λid hid hr hn=>?_,λid hn=>?_⟩
 ·rw [b.keep id (by have:=a.size;omega) hr λhm=>?_,a.keep id hid hr hn];rcases a.nam id hm with h1 | h1
  ·exact hn h1
  ·omega
 ·rcases b.nam id hn with h1 | h1
  ·exact a.nam id h1
  ·exact .inr (by have:=a.size;omega)
def Nam.same {h h':B5} {r id:Nat} (e:rd h' r=rd h r):Nam h' r id↔Nam h r id:=by unfold Nam;rw [e]
def Fr.low {r:Nat} {h h':B5} (hl:Low h.length h h') (hr:r<h.length):Fr r h h' :=
 ⟨hl.2.1,λid hid _ _=>hl.2.2 id hid,λid hn=>.inl ((Nam.same (hl.2.2 r hr)).1 hn)⟩
def Loc (h:B5) (r id:Nat):Prop:=id<h.length/\id≠r/\¬ Nam h r id
def Fr.loc {r id:Nat} {h h':B5} (a:Fr r h h') (hl:Loc h r id):Loc h' r id/\rd h' id=rd h id:=by
 refine ⟨⟨Nat.lt_of_lt_of_le hl.1 a.size,hl.2.1,λhn=>?_⟩,a.keep id hl.1 hl.2.1 hl.2.2⟩;rcases a.nam id hn with h1 | h1
 ·exact hl.2.2 h1
 ·have:=hl.1;omega
def Apt (cs:List Cell) (r:Nat):Prop:=(∀ (i j a:Nat) (x y:Cell),cs[i]?=A4 x->cs[j]?=A4 y->nmC x=A4 a->nmC y=A4 a->i=j)/\∀ x∈cs,nmC x≠A4 r
def Apt.set {cs:List Cell} {r:Nat} (ha:Apt cs r) (off:Nat) {x:Cell} (hx:∀ id,nmC x=A4 id->id≠r/\∀ (j:Nat) y,j≠off->cs[j]?=A4 y->nmC y≠A4 id):Apt (cs.set off x) r:=by
 have look:∀ (j:Nat) (y:Cell),(cs.set off x)[j]?=A4 y->(j=off/\y=x)\/(j≠off/\cs[j]?=A4 y):=by
  intro j y hj;by_cases e:j=off
  ·subst e
   left
   rw [List.getElem?_set] at hj;simp only [if_true] at hj;split at hj
   ·cases hj;exact ⟨rfl,rfl⟩
   ·cases hj
  ·right
   rw [List.getElem?_set_ne (Ne.symm e)] at hj;exact ⟨e,hj⟩
 refine ⟨λi j a y z hi hj hy hz=>?_,λy hy=>?_⟩
 ·rcases look i y hi with ⟨e1,e2⟩ | ⟨e1,e2⟩<;>rcases look j z hj with ⟨e3,e4⟩ | ⟨e3,e4⟩
  ·rw [e1,e3]
  ·subst e2;exact absurd hz ((hx a hy).2 j z e3 e4)
  ·subst e4;exact absurd hy ((hx a hz).2 i y e1 e2)
  ·exact ha.1 i j a y z e2 e4 hy hz
 ·obtain ⟨j,hj⟩:=List.mem_iff_getElem?.1 hy;rcases look j y hj with ⟨e1,e2⟩ | ⟨e1,e2⟩
  ·subst e2;intro e;exact (hx r e).1 rfl
  ·exact ha.2 y (E6j e2)
def Apt.ne {cs:List Cell} {r:Nat} (ha:Apt cs r) {i j a b:Nat} {x y:Cell} (hi:cs[i]?=A4 x) (hj:cs[j]?=A4 y) (hx:nmC x=A4 a) (hy:nmC y=A4 b) (T1:i≠j):a≠b:=by
 intro e;subst e;exact T1 (ha.1 i j a x y hi hj hx hy)
def HeldX.nm {h:B5} {x:Cell} {cs:List Cell} {n sz r:Nat} (hx:HeldX h x cs n sz r) {id:Nat} (e:nmC x=A4 id):x=.sl id 0 n sz/\rd h id=rT cs/\cs.length=n*sz/\id≠r:=by
 rcases hx with ⟨_,_,e2⟩ | ⟨bT,e2,h1,h2,h3⟩
 ·rw [e2] at e;cases e
 ·subst e2;cases e;exact ⟨rfl,h1,h2,h3⟩
def HeldX.kept {h h':B5} {x:Cell} {cs:List Cell} {n sz r:Nat} (hx:HeldX h x cs n sz r) (hk:∀ id,nmC x=A4 id->rd h' id=rd h id):HeldX h' x cs n sz r :=
 hx.keep λid m e=>hk id (by rw [e];rfl)
structure Cl where
 row:List Int
 ino:List (List Int)
 taken:List Bool
 blocks:List Int
 made:List (List UInt8)
 lost:Int
 lnk:Int->Option Int
 par:Int->Option Int
def MapI (es:Y0) (F:Int->Option Int):Prop:=(∀ e∈es,∃ i,e.1=Cell.i .i64 i)/\∀ i,(B2c (.i .i64 i) es).map (·.2)=(F i).map λv=>Part.c (.i .i64 v)
def xY (F:Int->Option Int) (a v:Int):Int->Option Int:=λi=>if i=a then A4 v else F i
def E16 {es:Y0} {a:Int} (h:∀ e∈es,∃ i,e.1=Cell.i .i64 i):A5n (A4 .i64) (.i .i64 a) es=A5:=by
 simp only [A5n,vQ,decide_true,E55,E6M];intro e he;obtain ⟨x,hx⟩:=h e he;rw [hx];simp
def MapI.nil:MapI [] λ_=>A7:=⟨λe he=>by simp at he,λi=>rfl⟩
def MapI.put {es:Y0} {F:Int->Option Int} (hm:MapI es F) (a v:Int):MapI (A9G (.i .i64 a) (.c (.i .i64 v)) es) (xY F a v):=by
 refine ⟨C01 (Q:=λc=>∃ i,c=.i .i64 i) ⟨a,rfl⟩ hm.1,λi=>?_⟩;unfold xY;by_cases c:i=a
 ·subst c;rw [if_pos rfl,(A1J (k':=.mh)).1];rfl
 ·rw [if_neg c,(A1J (k:=.i .i64 a) (k':=.i .i64 i)).2 (by simpa using c)];exact hm.2 i
def E17 {h:B5} {mid:Nat} {es:Y0} {F:Int->Option Int} {a:Int} {ok:Bool} (hr:rd h mid=A4 (T8 es)) (hm:MapI es F):A8T h (A4 .i64) (.c o0) ok (.c (.m mid)) (.c (.i .i64 a))=A4 (A6E ok (.c (.i .i64 ((F a).getD 0))) (F a).isSome):=by
 simp only [A8T,C7l,D7w,hr,E54,A1I];rw [if_pos (E16 hm.1)];have h2:=hm.2 a;cases hg:B2c (.i .i64 a) es with
 | none =>
  rw [hg] at h2;cases hF:F a with
  | none=>rfl
  | some v=>rw [hF] at h2;cases h2
 | some ip =>
  obtain ⟨i,p⟩:=ip;rw [hg] at h2;cases hF:F a with
  | none=>rw [hF] at h2;cases h2
  | some v=>rw [hF] at h2;simp at h2;subst h2;rfl
def E3g {h:B5} {mid:Nat} {es:Y0} {F:Int->Option Int} {a x:Int} (hr:rd h mid=A4 (T8 es)) (hm:MapI es F):A3O h (A4 .i64) (.c (.m mid)) (.c (.i .i64 a)) (.c (.i .i64 x))=A4 (h.set mid (A4 (T8 (A9G (.i .i64 a) (.c (.i .i64 x)) es)))):=by
 simp only [A3O,C7l,C7R,hr,E54,A1I];rw [if_pos (E16 hm.1)]
def wkC (D:Dev) (n m:Int) (f xr xi xt xb xm:Cell) (lost:Int) (ml mp:Nat):List Cell:=[.i .i64 D.length,.i .i64 n,.i .u64 m,f,xr,xi,xt,xb,xm,.i .i64 lost,.m ml,.m mp]
def U8 (l:List (List Int)):List Cell:=(l.map encI).flatten
def J9 (l:List Bool):List Cell:=l.map .b
structure WP (D:Dev) (n m:Int) (f:Cell) (g:B5) (r:Nat) (c:Cl) (h:B5):Prop where
 lo:Low g.length g h
 ge:g.length<=r
 low:∀ id,Nam h r id->g.length<=id
 il:∀ x∈c.ino,x.length=11
 ilen:c.ino.length=(n+1).toNat
 tlen:c.taken.length=D.length
 row:∃ xr xi xt xb xm ml mp es1 es2,rd h r=rT (wkC D n m f xr xi xt xb xm c.lost ml mp)/\Apt (wkC D n m f xr xi xt xb xm c.lost ml mp) r /\
  HeldX h xr (encI c.row) c.row.length 1 r/\HeldX h xi (U8 c.ino) c.ino.length 11 r/\HeldX h xt (J9 c.taken) c.taken.length 1 r /\
  HeldX h xb (encI c.blocks) c.blocks.length 1 r/\HeldX h xm (D5 c.made) c.made.length 256 r /\
  rd h ml=A4 (T8 es1)/\MapI es1 c.lnk/\rd h mp=A4 (T8 es2)/\MapI es2 c.par
section
variable {D:Dev} {n m:Int} {f:Cell} {g:B5} {r:Nat} {c:Cl} {h:B5}
def WP.rlt (P:WP D n m f g r c h):r<h.length:=by
 obtain ⟨_,_,_,_,_,_,_,_,_,h1,_⟩:=P.row;exact C8 h1
def B6k {R:Row} {i id:Nat} {x:Cell} (hr:rd h r=A4 R) (hi:R.cells[i]?=A4 x) (hx:nmC x=A4 id):Nam h r id:=⟨R,x,hr,E6j hi,hx⟩
def C02 (hv:∃ id cs,f=.f id cs) (P:WP D n m f g r c h) {id:Nat} (hn:Nam h r id):id<h.length:=by
 obtain ⟨xr,xi,xt,xb,xm,ml,mp,es1,es2,h1,h2,h3,h4,h5,h6,h7,h8,h9,h10,h11⟩:=P.row;obtain ⟨R,x,hR,hx,hnm⟩:=hn;rw [h1] at hR;cases hR;obtain ⟨fi,fc,rfl⟩:=hv;simp only [wkC,List.mem_cons,List.not_mem_nil,or_false] at hx;rcases hx with rfl | rfl | rfl | rfl | rfl | rfl | rfl | rfl | rfl | rfl | rfl | rfl
 ·cases hnm
 ·cases hnm
 ·cases hnm
 ·cases hnm
 ·exact C8 (h3.nm hnm).2.1
 ·exact C8 (h4.nm hnm).2.1
 ·exact C8 (h5.nm hnm).2.1
 ·exact C8 (h6.nm hnm).2.1
 ·exact C8 (h7.nm hnm).2.1
 ·cases hnm
 ·cases hnm;exact C8 h8
 ·cases hnm;exact C8 h10
def WP.keep {h':B5} (P:WP D n m f g r c h) (hlo:Low g.length g h') (hr:rd h' r=rd h r) (hk:∀ id,Nam h r id->rd h' id=rd h id):WP D n m f g r c h':=by
 obtain ⟨xr,xi,xt,xb,xm,ml,mp,es1,es2,h1,h2,h3,h4,h5,h6,h7,h8,h9,h10,h11⟩:=P.row;have k:∀ (i:Nat) (x:Cell) (id:Nat),(wkC D n m f xr xi xt xb xm c.lost ml mp)[i]?=A4 x->nmC x=A4 id->rd h' id=rd h id:=λi x id hi hx=>hk id (B6k h1 hi hx)
 refine ⟨hlo,P.ge,λid hn=>P.low id ((Nam.same hr).1 hn),P.il,P.ilen,P.tlen,xr,xi,xt,xb,xm,ml,mp,es1,es2,by rw [hr];exact h1,h2,h3.kept λid e=>k 4 _ _ rfl e,h4.kept λid e=>k 5 _ _ rfl e,h5.kept λid e=>k 6 _ _ rfl e,h6.kept λid e=>k 7 _ _ rfl e,h7.kept λid e=>k 8 _ _ rfl e,?_,h9,?_,h11⟩
 ·rw [k 10 (.m ml) ml rfl rfl];exact h8
 ·rw [k 11 (.m mp) mp rfl rfl];exact h10
def WP.since {h':B5} (hv:∃ id cs,f=.f id cs) (P:WP D n m f g r c h) (hl:Low h.length h h'):WP D n m f g r c h' :=
 P.keep ⟨P.lo.1,E6w P.lo.2.1 hl.2.1,λid hid=>by rw [hl.2.2 id (by have:=P.lo.2.1;omega)];exact P.lo.2.2 id hid⟩ (hl.2.2 r P.rlt) λid hn=>hl.2.2 id (C02 hv P hn)
def WP.more (hv:∃ id cs,f=.f id cs) (P:WP D n m f g r c h) (t:B5):WP D n m f g r c (h++t):=P.since hv ((Low.refl (E5V _)).new t)
def WP.set {id:Nat} {x:Option Row} (P:WP D n m f g r c h) (hl:Loc h r id) (hg:g.length<=id):WP D n m f g r c (h.set id x):=by
 refine P.keep (P.lo.set hg x) (B6 hl.2.1) λj hj=>B6 λe=>hl.2.2 (by rw [e];exact hj)
def Fr.set {id:Nat} {x:Option Row} {h0:B5} (a:Fr r h0 h) (hl:Loc h r id) (h0l:h0.length<=id):Fr r h0 (h.set id x):=by
 have e:rd (h.set id x) r=rd h r:=B6 hl.2.1;exact ⟨by simpa using a.size,λj hj h1 h2=>by rw [B6 (by omega)];exact a.keep j hj h1 h2,λj hj=>a.nam j ((Nam.same e).1 hj)⟩
end
section
variable (n m m2:Nat) (a0 a1 a2 a3 x0 x1 x2 x3 x4 x5 x6 x7 x8 x9 x10 x11 x12 x13 x17 x18 x19 x20 x21 x22 x27 x28 x29 x30 x31 x32 x37 x38 x39 x72 x73 x74 x75 x76 x77 x78 x79 x88 x89 x90 E4u E4v E4w E1P E1Q E1R:Val) (h:B5)
def kA:FD A8:=⟨px 0X13ef407a126a0521b22a0411d6e10420540503d72f01860520114014c0000722401b2a1903a1e0413a4f4c3a703a1e203a1f403a1f03a6c73a70103f042032a1031800500503d712a5d4203140130182,[],[],[.tmp 4],[E3 A4R B3z]⟩
def A3p:=kA.R
def lC:=mR A3p kA (tT []) n [a0,a1] h
def dI:=kA.K Tryz.func95
def V9:=kA.Q
def lO:OfT A3p V9:=dI.of
def fE:FD A8:=⟨px 0X128f60301a191032f1a04202f2f382f72a2f1e0104121e439002711b0000017236017530282,[],[],[.tmp 6],[iJ V9 dI]⟩
def A0G:=fE.R
def sT:=mR A0G fE (tT []) n [a0,a1,a2,a3] h
def A0E:=fE.K Tryz.func98
def fG:=fE.Q
def tD:OfT A0G fG:=A0E.of
def N0:FD A8:=⟨px 0X126e48867a4883f1c2111002323ef7055e02218026e488611906413019625c1684881851824301c1904f4d04264f6e484f7484f74e4f7013061903f4e3e3f70110321e1d01d6b4521cf60042031c1284881a1c41d4219f5041264215011a070244131889012129420060517011f61820131c41b422e219531c2,[],[.eqN A5 A5 (.t 16)],[.cellN 4 256],[cal C3U,E3 qJ A1Q,iJ fG A0E]⟩
def vH:=N0.R
def vB:O3:=N0.E
def uP:AtH:=N0.lj 0 n [m] [x1,x2,x4,x7]
def A8s:AtH:=N0.lj 1 n [m] [x1,x2,x4,x7]
def jT:TT:=⟨vB,[⟨2,4,uP⟩,⟨2,4,A8s⟩]⟩
def A4H:=mR vH N0 jT n [a0,a1] h
def pB:=mL N0 jT 0 n [m] [x1,x2,x4,x7] h
def cX:=mJ N0 jT 1 n [m] [x1,x2,x4,x7] h
def vE:=N0.K Tryz.func97
def jS:=N0.Q
def A40:OfT vH jS:=vE.of
def kB:FD A8:=⟨px 0X622a4054052a3d4006488390488011c148807f4e488180440540503d71711811b622a3054052a3d0613901011113e2e10430540503d71711d112652e11b301c2,[],[],[],[]⟩
def A3q:=kB.R
def A95:=mR A3q kB (tT []) n [a0,a1,a2] h
def sS:=kB.K Tryz.func96
def kK:=kB.Q
def B0D:OfT A3q kK:=sS.of
def T2:FD A8:=⟨px 0X2c3835312c16f2f16d2042432f6f21ca5e06233041a5f5041800503d2f4041a5f52f41b01b01241022041a5f531d94203021b6461b1d25f1b181f10410540503d2f470193100330022a1a5f506223041a4f52f461824390527a4b5921994c18244421311a4af2e053802218422a280164918c2001a223f5c46e482b0440162d46855816844c390701b38f704124842150307024713401215f4200605110383c2c5935d5b182032bf22a161b01130423a292b51d4228f21b63b51b01251151033b3b0422c1e2b51b421df21b63b41b042032e1041800503d1c1859181942422e153182,[],[.min (.t 20) (.v (.c (.i .i64 6)))],[],[E3 T4 aC,E3 A2e A9S,iJ V9 dI,E3 J3 L7,iJ jS vE,iJ kK sS]⟩
def A3o:=T2.R
def iM:AtH:=T2.lj 0 n [m] [x1,x2,x4,x5,x6,x21,x22]
def qM:AtH:=T2.lj 1 n [] [x1,x2,x5,x6]
def tS:=tT [⟨2,7,iM⟩,⟨1,4,qM⟩]
def A93:=mR A3o T2 tS n [a0,a1] h
def jU:=mL T2 tS 0 n [m] [x1,x2,x4,x5,x6,x21,x22] h
def vO:=mJ T2 tS 1 n [] [x1,x2,x5,x6] h
def A3g:=T2.K Tryz.func45
def kI:=T2.Q
def B0C:OfT A3o kI:=A3g.of
def J2:FD A8:=⟨px 0X127e4963f494b1c21111111006324af1d055a04a4921849f2d0538022180122a401482d17855e14182404225c104401482d15c54a38067b422ff704123e4235031a27024181328901215d42026251115b752017241032042233817290459420328f600441811d3284215011a07024613401213d42006051102901131e491843b392f128201321c49601031a49181c3021f4c432e219701c2,[],[],[.cellN 4 33],[cal C5N,cal qH,iJ V9 dI]⟩
def zJ:=J2.R
def vM:AtH:=J2.lj 0 n [m] [x0,x3,x4,x11,x12,x13]
def vL:AtH:=J2.lj 1 n [m] [x0,x3,x4,x11,x12,x13]
def vN:AtH:=J2.lj 2 n [m,m2] [x0,x3,x4,x6,x11,x12,x13,x21]
def A9A:AtH:=J2.lj 3 n [m,m2] [x0,x3,x4,x6,x11,x12,x13,x21]
def Y6:=tT [⟨2,6,vM⟩,⟨2,6,vL⟩,⟨3,8,vN⟩,⟨3,8,A9A⟩]
def A5F:=mR zJ J2 Y6 n [a0,a1] h
def eH:=mL J2 Y6 0 n [m] [x0,x3,x4,x11,x12,x13] h
def pI:=mJ J2 Y6 1 n [m] [x0,x3,x4,x11,x12,x13] h
def eJ:=mL J2 Y6 2 n [m,m2] [x0,x3,x4,x6,x11,x12,x13,x21] h
def pJ:=mJ J2 Y6 3 n [m,m2] [x0,x3,x4,x6,x11,x12,x13,x21] h
def zF:=J2.K Tryz.func100
def dJ:=J2.Q
def A5J:OfT zJ dJ:=zF.of
def jZ:FD A8:=⟨px 0X14bf7007a466a103141022f3b6831868480661110723ff13ef2362c191b12c2802a3e2c3df2d0042336c1042234c1041800503d72e01e2d2b2911d20137023c4602f3b33811001722410222c2a024f420329f18004401482d312e50621301032c11e491b1c501929253312f61b642e31d1950282,[],[],[.cellN 6 4,.tmp 7],[E3 B7y C4E,cal C0h,E3 J3 L7,cal B9Q]⟩
def sU:=jZ.R
def A94:=mR sU jZ (tT []) n [a0,a1,a2] h
def sR:=jZ.K Tryz.func166
def kJ:=jZ.S
def A7y:F6 sU kJ:=sR.flat
def L8:FD A8:=⟨px 0X11b9f402b81b902190000003721b8f19c053801b8492181aff1d001e239020129123e01118102293b33829815f128c128e1a80191819ff1f00441811d33f42550347024513401212bb42026451102901436f199042b92af2ad28282002321d4811e2222222200772198f2c051d801984921818ff480519e018f49218018ef6001a13901013113e0400511e856f171826f0410511d850400511ca55f1181c1224301a1911d94e1ba31d93c031d93c11ac1d91f01301a190421bd1a1aa1bd701bd1e01981bd1f0118a5d01d1eb66625cf15bf2462f1b1b1282801e5b2c5af4c00181a3330400517a53f491874d01c392f1824bf2362c1a1b031841831d45e4235031a270241b134012118b420162511029012304213581041800503d7380191897f7d1c22ff1800441811d33a42150307024713401215b42006051102901033c49291c4594f4d612c2002314a11d4228f500287d21b4224a432e270182,[],[.mkMap,.eqA A6 ([.i .i64,.s,.i .i64]) (.t 54) (.t 55),.mput A7 (.t 58) (.t 61) (.t 64),.look A7 (.c o0) A6 (.t 82) (.t 83)],[.tmp 4],[cal qH,E3 J3 L7,cal A5I,E3 kJ sR,cal C5S]⟩
def qF:=L8.R
def aX:AtH:=L8.lj 0 n [m] [x0,x3,x5,x6,x18,x19,x20]
def aZ:AtH:=L8.lj 1 n [m,m2] [x0,x3,x5,x6,x8,x18,x19,x20,x30,x31,x32]
def A0L:AtH:=L8.lj 2 n [m] [x5,x13,x74,x75,x76]
def B3t:AtH:=L8.lj 3 n [m,m2] [x0,x3,x5,x6,x8,x18,x19,x20,x30,x31,x32]
def bY:=tT [⟨2,7,aX⟩,⟨3,11,aZ⟩,⟨2,5,A0L⟩,⟨3,11,B3t⟩]
def A9t:=mR qF L8 bY n [a0,a1] h
def uC:=mL L8 bY 0 n [m] [x0,x3,x5,x6,x18,x19,x20] h
def iN:=mL L8 bY 1 n [m,m2] [x0,x3,x5,x6,x8,x18,x19,x20,x30,x31,x32] h
def uD:=mL L8 bY 2 n [m] [x5,x13,x74,x75,x76] h
def bG:=mJ L8 bY 3 n [m,m2] [x0,x3,x5,x6,x8,x18,x19,x20,x30,x31,x32] h
def A1N:=L8.K Tryz.func101
def iE:=L8.S
def A7z:pY qF iE:=A1N.out
def Z6:FD A8:=⟨px 0X11b6011d00620622a0054052a3d0613901011113e2f10400540503d71711d1836f1f12f1041b0503d71721222403f19a121bf53128200001301a26f50021382f1041a0503d74f0182b53102920136011d000002722401b1c193041887b6e18f70188719021881a6c18870101b619102781a5c787015022683a01d19d4231339f138f1801282801e382c2ff290038581041b0503d72a01b2b4228f70007904203381041800503d71a0181f4236015301c2,[],[.look (A4 .i64) (.c o0) A5 (.t 21) (.t 22),.look (A4 .i64) (.c o0) A6 (.t 42) (.t 43),.mput (A4 .i64) (.t 42) (.t 43) (.t 45),.mput (A4 .i64) (.t 51) (.t 52) (.t 53)],[.tmp 6],[E3 T4 aC]⟩
def A3r:=Z6.R
def B54:AtH:=Z6.lj 0 n [] []
def A3K:=tT [⟨1,0,B54⟩]
def lD:=mR A3r Z6 A3K n [a0,a1,a2] h
def jV:=mJ Z6 A3K 0 n [] [] h
def A3h:=Z6.K Tryz.func102
def kL:=Z6.Q
def lU:OfT A3r kL:=A3h.of
def P8:FD A8:=⟨px 0X122c848862be4881b81c21111100006321aff3d051ec0221822ba48860425329c2182ae4881ac1c4181abf11aaf2262d1f1b11e2801c1aa2c1a9f19c0062430218128e504028a19d2b1b3f42017622a5054051c3d50020450540503d711a196222401b2c1901831e81a01e81e101e81f11cc1e81f11e84e01e81e001e81f11bc1e81f3f1e870101b1a1901cc4e1aa31cc3c031cc3c119c1cc1f0101b1a190431b81a2f1b8701b81e01881b81f0103f785a03928d42772359f158f2462f1d1b1282801e582c4ff4900181a3330400516857c491874a01c3d3b18248f2362c1c1b031841831d44c4215011a070241913401217d4200605110290123042135e1041800503d72d0197b796f1a7513c200001332cf12bf248861c191b1628042b2c2af2902b102a5c72b421c181b1852e2291b7502c2,[.c .ns],[.eqA A5 ([.i .i64,.s,.i .i64]) (.t 52) (.t 53),.look A7 (.c o0) A6 (.t 57) (.t 60)],[.cellN 8 256],[cal C3k,E3 J3 L7,cal A5I,E3 kJ sR,cal C3l,E3 A3G A9X]⟩
def zK:=P8.R
def cK:AtH:=P8.lj 0 n [m] [x0,x2,x3,x5,x8,x9,x27,x28,x29]
def A9B:AtH:=P8.lj 1 n [m] [x0,x2,x3,x5,x8,x9,x27,x28,x29]
def mB:=tT [⟨2,9,cK⟩,⟨2,9,A9B⟩]
def A5G:=mR zK P8 mB n [a0,a1,a2,a3] h
def eQ:=mL P8 mB 0 n [m] [x0,x2,x3,x5,x8,x9,x27,x28,x29] h
def T6:=mJ P8 mB 1 n [m] [x0,x2,x3,x5,x8,x9,x27,x28,x29] h
def zG:=P8.K Tryz.func105
def lM:=P8.Q
def A5K:OfT zK lM:=zG.of
def N6:FD A8:=⟨px 0X1ebf1cf05380221801c1e31830461841a33a8138a16f4918712fc171db018181daf1e00441811d33d42350327024613401213a9420362511029011936f4918439f39d39b1c2041a31832de488180410162d44f571be0631221bdf11bcf248861c1b1b11828061bc2c1bbf1b9001736f491ba1c182f4444413721b8f19a053c02218026f0412b850402ac52ae161824061836304129c51f1719e052cd4219df226291a1b021841821d42d4215021a070241813401212af420160511029042536f4918718e052ad2ab2a9328211318df1801382294226f496042436f4918714412012410220410162d44f5428b4203021b6461b1d24f1b181f10410540503d71701943230422a10162d44f50182330410162d45f571181824306191021af1a7f1af701190220405f582b71bd418243201a4ff1104ef24961f065a12e2802c4e2c4df3c001230182130410162d4785041800503d73d01d11b1f1d1833bf21b63b51b042036a1041800503d72e0181b422df21b63b41b013511191033b3b0384c1041b0503d71f01919301c2,[],[.look (A4 .i64) (.c o0) A6 (.t 18) (.t 19),.mkMap,.mput A7 (.t 83) (.t 85) (.t 87)],[],[E3 T4 aC,E3 J3 L7,cal C5O,iJ V9 dI,iJ dJ zF,E3 iE A1N,iJ kL A3h,cal C5P,iJ kK sS,cal qH,iJ lM zG]⟩
def A5H:=N6.R
def kP:AtH:=N6.lj 0 n [] [x0,x1,x4,x6]
def kQ:AtH:=N6.lj 1 n [m] [x0,x1,x4,x6,x8,x72,x73,x74]
def B71:AtH:=N6.lj 2 n [m] [x0,x1,x4,x6,x8,x72,x73,x74]
def A3U:AtH:=N6.lj 3 n [m] [x0,x6,x8,E4u,E4v,E4w]
def fM:=tT [⟨1,4,kP⟩,⟨2,8,kQ⟩,⟨2,8,B71⟩,⟨2,6,A3U⟩]
def B3f:=mR A5H N6 fM n [a0,a1] h
def B1v:=mJ N6 fM 0 n [] [x0,x1,x4,x6] h
def mQ:=mL N6 fM 1 n [m] [x0,x1,x4,x6,x8,x72,x73,x74] h
def zV:=mJ N6 fM 2 n [m] [x0,x1,x4,x6,x8,x72,x73,x74] h
def zW:=mL N6 fM 3 n [m] [x0,x6,x8,E4u,E4v,E4w] h
def A5A:=N6.K Tryz.func46
def oA:=N6.Q
def B3k:OfT A5H oA:=A5A.of
def V8:FD A8:=⟨px 0X122f66061840503d3f1ef051111113321eef1ba0578022180422a1051e281b1d33383aa1041a0503d3f139810410540503d3f11c01924502204005041b1d2ec10410540503d3f1be01a39f421bdf1900441811d32b4255041a47024513401212ef4203645110290400540503d3f1ac072ed2eb2e91c222201337cf6050026f7b0318042437f13f1318042337f13f131824301c1950229f1a0029f188042229f2f7f29f71f429f3c0150327f18d0192bb4218cf70040411d6f10400540503d3f7d0191f42354121a2702401e120290400540503d3f16f6b0181ed42030162516011d3182222202336af4f052e022181b22a0411d5f10420540503d3f5b018185af500441811d31b42150307024613401211a94200605110290113031801f5519f19d19b1c2034266405383d30121a112c1033e3b001427c0400506e5001b3b17c50020410505c5510111107f4c2d01c319032cf3003a2380116f0380383c4181873182012386603e3b210222410320103031802a1a2b43b42033e4c03a253182,[],[.mkMap,.mput (A4 .i64) (.t 17) (.v (.c (.i .i64 1))) (.v (.c (.i .i64 1))),.build ([o0,o0,.i .u64 0,.nf,.ns,.ns,.ns,.ns,.ns,o0,.nm,.nm]) [(0,4,(.t 15)),(10,1,(.t 16)),(11,1,(.t 18))],.look (A4 .i64) (.c o0) A6 (.t 113) (.t 114)],[.cellN 2 6],[E3 dY jM,E3 A7P B4M,E3 T4 aC,iJ kI A3g,iJ oA A5A]⟩
def B4P:=V8.R
def C2d:AtH:=V8.lj 0 n [m] [x1,x2,x3,x37,x38,x39]
def rQ:AtH:=V8.lj 1 n [m] [x1,x2,x3,x6]
def D3o:AtH:=V8.lj 2 n [m] [x1,x2,x3,x6]
def B1t:AtH:=V8.lj 3 n [m] [x2,x3,x88,x89,x90]
def D3p:AtH:=V8.lj 4 n [m] [x2,x3,x88,x89,x90]
def wW:=tT [⟨2,6,C2d⟩,⟨2,4,rQ⟩,⟨2,4,D3o⟩,⟨2,5,B1t⟩,⟨2,5,D3p⟩]
def C8n:=mR B4P V8 wW n [a0] h
def B1r:=mL V8 wW 0 n [m] [x1,x2,x3,x37,x38,x39] h
def B1s:=mL V8 wW 1 n [m] [x1,x2,x3,x6] h
def A2p:=mJ V8 wW 2 n [m] [x1,x2,x3,x6] h
def B1u:=mL V8 wW 3 n [m] [x2,x3,x88,x89,x90] h
def B1q:=mJ V8 wW 4 n [m] [x2,x3,x88,x89,x90] h
def B4G:=V8.K Tryz.func15
def A7x:=V8.S
def C3m:D5X B4P A7x:=B4G.tidy
def pP:FD A8:=⟨px 0X24886464881d2e48818712e451824301a190611f1a01f4b1e1f1e71f701104271183942642e119501c2,[],[],[],[]⟩
def A8O:=pP.R
def pZ:=mR A8O pP (tT []) n [a0,a1,a2] h
def A8J:=pP.K Tryz.func52
def pT:=pP.Q
def qG:OfT A8O pT:=A8J.of
def E7:FD A8:=⟨px 0X128cf405f4219052062185f01533c810436f1ff0511111114321fef1ec052c01fe4921801fdf2900613901011113e3aa13aa15182439c1f9013eb4521f8f11eef2a00461a11d4154f4d18275061a67024613401213db4205665110290423f1e92b43d93cf3cd1c20131294814b333333305721e8f19f0518a022180004248862c2e4881d12e2802c1dd2c1dcf1cb00463332fc1b182ee1048818044881d2ea15f42de15f1cc591d01b24301a190612fb1a02fb4b5f2fb1e2c82fb7012b81bc0738d7521bbf11baf11b9f1e021e2811c2801a1b92c1b8f1ac0042232ae1031802f1ad2b1b493f3d41d21abf1df1b61a9f1c03b1d1b01b1861a1b1d4163b3918255041a47024713401212c94203645110290413f19c2b42bf2bd2bb5282333013318ff1b050021ee18e031804265f01c3b1fc16f198041835713270240181204021ea11ea11dc1890529b420302625188f1b01de188022f021c244237ff17ef19011a280187e2c7df7a00113031802f7b2b187a7c44444431b279f4f054c02218001c21e5f048818044881d7f10443f51ac16f1181824018120290443f57f5c051c9425bf159f700461a11d415291f18215011a07024713401211a94200605110290433f4c2b419f19d19b1c2034bf607c16c4b18921d424af22a251b01037e4491c41b2401d2014884481780000722401b28190183681a0681e00681f06c681f0684b0681e25c681f0110220290404a2c2b1d18942034884a43a422e375182,[],[],[.tmp 4],[E3 tP A3m,E3 tJ A03,E3 A1b A64,E3 tO A68,E3 wR A1O,E3 A07 A6Y,iJ pT A8J]⟩
def iD:=E7.R
def sJ:O3:=E7.E
def fO:AtH:=E7.lj 0 n [m] [x2,x3,x5,x6,x37,x38,x39]
def A51:AtH:=E7.lj 1 n [m] [x2,x3,x5,x6,x37,x38,x39]
def fP:AtH:=E7.lj 2 n [m] [x2,x3,x5,x6,x9,x10,x11]
def fQ:AtH:=E7.lj 3 n [m] [x2,x3,x5,x6,x77,x78,x79]
def A52:AtH:=E7.lj 4 n [m] [x2,x3,x5,x6,x77,x78,x79]
def rP:AtH:=E7.lj 5 n [m] [x5,x6,x17,E1P,E1Q,E1R]
def A53:AtH:=E7.lj 6 n [m] [x5,x6,x17,E1P,E1Q,E1R]
def N7:TT:=⟨sJ,[⟨2,7,fO⟩,⟨2,7,A51⟩,⟨2,7,fP⟩,⟨2,7,fQ⟩,⟨2,7,A52⟩,⟨2,6,rP⟩,⟨2,6,A53⟩]⟩
def A2S:=mR iD E7 N7 n [a0,a1] h
def mO:=mL E7 N7 0 n [m] [x2,x3,x5,x6,x37,x38,x39] h
def A2o:=mJ E7 N7 1 n [m] [x2,x3,x5,x6,x37,x38,x39] h
def mP:=mL E7 N7 2 n [m] [x2,x3,x5,x6,x9,x10,x11] h
def cC:=mL E7 N7 3 n [m] [x2,x3,x5,x6,x77,x78,x79] h
def mM:=mJ E7 N7 4 n [m] [x2,x3,x5,x6,x77,x78,x79] h
def cD:=mL E7 N7 5 n [m] [x5,x6,x17,E1P,E1Q,E1R] h
def mN:=mJ E7 N7 6 n [m] [x5,x6,x17,E1P,E1Q,E1R] h
def sQ:=E7.K Tryz.func21
def bD:=E7.S
def A15:pY iD bD:=sQ.out
def nM:FD A8:=⟨px 0X134010229f1a051e02949218011b40138000002722404223c1281e03491521df600441811d31a42150307024413401212f4200605110290401a72b42d2b2962820023340422e253182,[],[],[.tmp 4],[]⟩
def A7e:=nM.R
def B3Y:AtH:=nM.lj 0 n [m] [x1,x8,x9,x10]
def B7H:=tT [⟨2,4,B3Y⟩]
def C2W:=mR A7e nM B7H n [a0,a1] h
def A54:=mL nM B7H 0 n [m] [x1,x8,x9,x10] h
def B6G:=nM.K Tryz.func18
def A7w:=nM.S
def B7j:F6 A7e A7w:=B6G.flat
end
def B56 (D:Dev) (n:Int) (c:Cl) (no:Int):Bool:=jW D.length n no && !(c.taken.getD no.toNat A5)
def U7 (D:Dev) (n:Int) (c:Cl) (no:Int):Int:=bif B56 D n c no then no else 0
def eU (D:Dev) (n:Int) (c:Cl) (no:Int):Cl:=bif B56 D n c no then { c with taken:=c.taken.set no.toNat A5 } else c
def C7i {b n i:Int} (h:jW b n i=A5):0<=i/\i<b:=by
 unfold jW at h;simp only [E5S,decide_eq_true_eq] at h;have:=A2q (b:=b) (n:=n);omega
section
variable {D:Dev} {n m:Int} {f:Cell} {g:B5} {r:Nat} {c:Cl} {h:B5}
def WP.take (P:WP D n m f g r c h) {k:Nat} {v:Bool} {xr xi xt xb xm:Cell} {ml mp:Nat} (h1:rd h r=rT (wkC D n m f xr xi xt xb xm c.lost ml mp)) (h0:D.length≠0) :
  ∃ t,xt=.sl t 0 D.length 1/\rd h t=rT (J9 c.taken)/\WP D n m f g r { c with taken:=c.taken.set k v } (h.set t (rT (J9 (c.taken.set k v))))/\Fr r h (h.set t (rT (J9 (c.taken.set k v)))):=by
 obtain ⟨xr',xi',xt',xb',xm',ml',mp',es1,es2,g1,g2,g3,g4,g5,g6,g7,g8,g9,g10,g11⟩:=P.row;have:=h1.symm.trans g1;simp only [E5W,Row.mk.injEq,and_true,wkC,List.cons.injEq,true_and,Cell.m.injEq] at this;obtain ⟨rfl,rfl,rfl,rfl,rfl,rfl,rfl⟩:=this;rcases g5 with ⟨e,_,_⟩ | ⟨t,rfl,t1,t2,t3⟩
 ·rw [P.tlen] at e;exact absurd e h0
 ·rw [P.tlen] at t2 ⊢;have nt:Nam h r t:=B6k (i:=6) g1 rfl rfl;have tg:=P.low t nt;have hr':rd (h.set t (rT (J9 (c.taken.set k v)))) r=rd h r:=B6 t3;have oth:∀ (i:Nat) (x:Cell) (id:Nat),(wkC D n m f xr xi (.sl t 0 c.taken.length 1) xb xm c.lost ml mp)[i]?=A4 x->nmC x=A4 id->i≠6->rd (h.set t (rT (J9 (c.taken.set k v)))) id=rd h id:=by
   intro i x id hi hx T1;exact B6 (λe=>(g2.ne hi (show (wkC D n m f xr xi (.sl t 0 c.taken.length 1) xb xm c.lost ml mp)[6]?=A4 (.sl t 0 c.taken.length 1) from rfl) hx rfl T1) e.symm)
  refine ⟨t,rfl,t1,⟨P.lo.set tg _,P.ge,λid hn=>P.low id ((Nam.same hr').1 hn),P.il,P.ilen,by simpa using P.tlen,xr,xi,.sl t 0 c.taken.length 1,xb,xm,ml,mp,es1,es2,by rw [hr'];exact g1,g2,g3.kept λid e=>oth 4 _ _ rfl e (by decide),g4.kept λid e=>oth 5 _ _ rfl e (by decide),.inr ⟨t,by simp,C6 (C8 t1),by simp [J9],t3⟩,g6.kept λid e=>oth 7 _ _ rfl e (by decide),g7.kept λid e=>oth 8 _ _ rfl e (by decide),?_,g9,?_,g11⟩,by simp,λid hid h1 h2=>B6 λe=>h2 (by rw [<-e];exact nt),λid hn=>.inl ((Nam.same hr').1 hn)⟩
  ·rw [oth 10 (.m ml) ml rfl rfl (by decide)];exact g8
  ·rw [oth 11 (.m mp) mp rfl rfl (by decide)];exact g10
def B8z {no:Int} (P:WP D n m f g r c h):∃ h',V9 [pV r 0,iV no] h=A4 (iV (U7 D n c no),h')/\WP D n m f g r (eU D n c no) h'/\Fr r h h':=by
 obtain ⟨xr,xi,xt,xb,xm,ml,mp,es1,es2,g1,g2,g3,g4,g5,g6,g7,g8,g9,g10,g11⟩:=id P.row;have lL:D4 h 3 (pV r 0)=A4 (.a (D7 D.length n m)):=dR g1 (by simp [wkC]) rfl;have lT:B8 h (pV r 6)=A4 (.c xt):=B9 g1 rfl rfl;have hD:=C60 (b:=D.length) (n:=n) (m:=m) (i:=no) (h:=h);unfold U7 eU B56;cases hd:jW D.length n no with
 | false =>
  rw [hd] at hD;refine ⟨h,lO (n:=0) ?_,P,Fr.refl r h⟩;rw [lC];simp only [esc,Nat.reduceAdd,lL,hD,E51,cond_false]
 | true =>
  rw [hd] at hD;obtain ⟨i0,i1⟩:=C7i hd;obtain ⟨k,rfl⟩:=E6C i0;have hk:k<D.length:=by omega
  obtain ⟨t,rfl,t1,t2,t3⟩:=P.take (k:=k) (v:=A5) g1 (by omega);have hkt:k<c.taken.length:=by rw [P.tlen];exact hk
  have ad:=C9 (sz:=1) (id:=t) (off:=0) (k:=.i64) hk;have l1:B8 h (pV t (0+k*1))=A4 (bV c.taken[k]):=B9 t1 (by simp [J9,hkt]) rfl;have s1:I5 h (pV t (0+k*1)) (bV A5)=A4 (h.set t (rT (J9 (c.taken.set k A5)))):=by
   rw [G8 t1 (by simp [J9,hkt])];simp [J9,List.map_set]
  rw [E6e,Nat.mul_one] at ad l1 s1;have eg:c.taken.getD (Int.toNat (k:Int)) A5=c.taken[k]:=by simp [List.getD,hkt]
  rw [eg,E6c];cases hb:c.taken[k] with
  | true =>
   rw [hb] at l1;refine ⟨h,lO (n:=0) ?_,P,Fr.refl r h⟩;rw [lC];simp only [esc,Nat.reduceAdd,lL,lT,ad,l1,hD,E6V,E6T,cond_false]
  | false =>
   rw [hb] at l1;refine ⟨_,lO (n:=0) ?_,t2,t3⟩;rw [lC];simp only [esc,Nat.reduceAdd,lL,lT,ad,l1,s1,hD,E6V,E6Q,Bool.and_true,cond_true]
end
section
variable {D:Dev} {n m:Int} {f:Cell} {g:B5} {r:Nat} {c:Cl} {h:B5}
def WP.apt (P:WP D n m f g r c h) {cs:List Cell} (g1:rd h r=rT cs):Apt cs r:=by
 obtain ⟨xr,xi,xt,xb,xm,ml,mp,es1,es2,h1,h2,_⟩:=P.row;rw [h1] at g1;cases g1;exact h2
def WP.pushed {off:Nat} {x y:Cell} {cs:List Cell} {h3:B5} (hv:∃ id cs,f=.f id cs) (P:WP D n m f g r c h) (g1:rd h r=rT cs) (hx:cs[off]?=A4 x) (r3:rd h3 r=rT (cs.set off y))
  (hid:∀ id,nmC y=A4 id->h.length<=id) (hk:∀ j,j<h.length->j≠r->nmC x≠A4 j->rd h3 j=rd h j) (hl:h.length<=h3.length) :
  Fr r h h3/\Low g.length g h3/\Apt (cs.set off y) r/\(∀ id,Nam h3 r id->g.length<=id)/\∀ (i:Nat) (z:Cell) (j:Nat),i≠off->cs[i]?=A4 z->nmC z=A4 j->rd h3 j=rd h j:=by
 have ha:=P.apt g1;have lt:∀ (i:Nat) (z:Cell) (j:Nat),cs[i]?=A4 z->nmC z=A4 j->j<h.length:=λi z j hi hz=>C02 hv P (B6k g1 hi hz)
 have nam3:∀ id,Nam h3 r id->Nam h r id\/h.length<=id:=by
  intro id hn;obtain ⟨R,z,hR,hz,hnm⟩:=hn;rw [r3] at hR;cases hR;rcases E6A hz with h1 | h1
  ·exact .inl ⟨_,z,g1,h1,hnm⟩
  ·subst h1;exact .inr (hid id hnm)
 have lg:=P.lo.2.1;refine ⟨⟨hl,λid hid hr hn=>hk id hid hr λe=>hn (B6k g1 hx e),nam3⟩,⟨P.lo.1,by omega,λid hid=>?_⟩,ha.set off λid e=>?_,λid hn=>?_,λi z j hi hz hj=>?_⟩
 ·rw [hk id (by omega) (by have:=P.ge;omega) λe=>?_]
  ·exact P.lo.2.2 id hid
  ·have:=P.low id (B6k g1 hx e);omega
 ·have h1:=hid id e;exact ⟨by have:=P.rlt;omega,λj z _ hz hj=>by have:=lt j z id hz hj;omega⟩
 ·rcases nam3 id hn with h1 | h1
  ·exact P.low id h1
  ·omega
 ·exact hk j (lt i z j hz hj) (λe=>ha.2 z (E6j hz) (by rw [hj,e])) λe=>ha.ne hz hx hj e hi rfl
def WP.mod {off t:Nat} {x:Cell} {cs:List Cell} (P:WP D n m f g r c h) (hv:∃ id cs,f=.f id cs) (g1:rd h r=rT cs) (hx:cs[off]?=A4 x) (hn:nmC x=A4 t) (R:Option Row) :
  Fr r h (h.set t R)/\Low g.length g (h.set t R)/\rd (h.set t R) r=rd h r/\(∀ (i:Nat) (z:Cell) (j:Nat),i≠off->cs[i]?=A4 z->nmC z=A4 j->rd (h.set t R) j=rd h j)/\rd (h.set t R) t=R:=by
 have nt:=B6k g1 hx hn;have tne:t≠r:=λe=>(P.apt g1).2 x (E6j hx) (by rw [hn,e])
 have hr':rd (h.set t R) r=rd h r:=B6 tne;exact ⟨⟨by simp,λid hid h1 h2=>B6 λe=>h2 (by rw [<-e];exact nt),λid hn=>.inl ((Nam.same hr').1 hn)⟩,P.lo.set (P.low t nt) _,hr',λi z j hi hz hj=>B6 λe=>(P.apt g1).ne hx hz hn hj (Ne.symm hi) e,C6 (C02 hv P nt)⟩
def WP.push (hv:∃ id cs,f=.f id cs) (P:WP D n m f g r c h) {off nn sz:Nat} {x:Cell} {cs l ys:List Cell} (g1:rd h r=rT cs) (hx:cs[off]?=A4 x) (hd:HeldX h x l nn sz r) (hl:nn<=100000) (hy:ys.length=sz) (hsz:0<sz) :
  ∃ id h2 h3,B8 h (pV r off)=A4 (.c x)/\kV (h++[rT ys]) sz (.c x) (sV h.length 0 1 sz)=A4 (sV id 0 (nn+1) sz,h2)/\I5 h2 (pV r off) (sV id 0 (nn+1) sz)=A4 h3 /\
   rd h3 r=rT (cs.set off (.sl id 0 (nn+1) sz))/\HeldX h3 (.sl id 0 (nn+1) sz) (l++ys) (nn+1) sz r /\
   Fr r h h3/\Low g.length g h3/\Apt (cs.set off (.sl id 0 (nn+1) sz)) r/\(∀ id,Nam h3 r id->g.length<=id)/\∀ (i:Nat) (z:Cell) (j:Nat),i≠off->cs[i]?=A4 z->nmC z=A4 j->rd h3 j=rd h j:=by
 obtain ⟨id,h2,h3,p1,p2,p3,p4,p5,p6,p7,p8,p9⟩:=E3I g1 hx hd hl hy hsz;obtain ⟨q1,q2,q3,q4,q5⟩:=P.pushed (h3:=h3) (y:=.sl id 0 (nn+1) sz) hv g1 hx p4 (λj e=>by cases e;omega) (λj hj hr hn=>p8 j hj hr λmm e=>hn (by rw [e];rfl)) (by omega);exact ⟨id,h2,h3,p1,p2,p3,p4,.inr ⟨id,rfl,p6,p7,by have:=P.rlt;omega⟩,q1,q2,q3,q4,q5⟩
def WP.pushRow (hv:∃ id cs,f=.f id cs) (P:WP D n m f g r c h) (a:Int) (hl:c.row.length<=100000) :
  ∃ x id h2 h3,B8 h (pV r 4)=A4 (.c x)/\kV (h++[rT [.i .i64 a]]) 1 (.c x) (sV h.length 0 1 1)=A4 (sV id 0 (c.row.length+1) 1,h2)/\I5 h2 (pV r 4) (sV id 0 (c.row.length+1) 1)=A4 h3 /\
   WP D n m f g r { c with row:=c.row++[a] } h3/\Fr r h h3:=by
 obtain ⟨xr,xi,xt,xb,xm,ml,mp,es1,es2,g1,g2,g3,g4,g5,g6,g7,g8,g9,g10,g11⟩:=id P.row;obtain ⟨id,h2,h3,p1,p2,p3,p4,p5,q1,q2,q3,q4,q5⟩:=P.push (off:=4) (ys:=[.i .i64 a]) hv g1 rfl g3 hl rfl (by decide);refine ⟨xr,id,h2,h3,p1,p2,p3,⟨q2,P.ge,q4,P.il,P.ilen,P.tlen,_,xi,xt,xb,xm,ml,mp,es1,es2,p4,q3,?_,g4.kept λid e=>q5 5 _ _ (by decide) rfl e,g5.kept λid e=>q5 6 _ _ (by decide) rfl e,g6.kept λid e=>q5 7 _ _ (by decide) rfl e,g7.kept λid e=>q5 8 _ _ (by decide) rfl e,?_,g9,?_,g11⟩,q1⟩
 ·have e1:encI (c.row++[a])=encI c.row++[.i .i64 a]:=A3X _ _;rw [e1,E5T];exact p5
 ·rw [q5 10 (.m ml) ml (by decide) rfl rfl];exact g8
 ·rw [q5 11 (.m mp) mp (by decide) rfl rfl];exact g10
def WP.pushBlk (hv:∃ id cs,f=.f id cs) (P:WP D n m f g r c h) (a:Int) (hl:c.blocks.length<=100000) :
  ∃ x id h2 h3,B8 h (pV r 7)=A4 (.c x)/\kV (h++[rT [.i .i64 a]]) 1 (.c x) (sV h.length 0 1 1)=A4 (sV id 0 (c.blocks.length+1) 1,h2)/\I5 h2 (pV r 7) (sV id 0 (c.blocks.length+1) 1)=A4 h3 /\
   WP D n m f g r { c with blocks:=c.blocks++[a] } h3/\Fr r h h3:=by
 obtain ⟨xr,xi,xt,xb,xm,ml,mp,es1,es2,g1,g2,g3,g4,g5,g6,g7,g8,g9,g10,g11⟩:=id P.row;obtain ⟨id,h2,h3,p1,p2,p3,p4,p5,q1,q2,q3,q4,q5⟩:=P.push (off:=7) (ys:=[.i .i64 a]) hv g1 rfl g6 hl rfl (by decide);refine ⟨xb,id,h2,h3,p1,p2,p3,⟨q2,P.ge,q4,P.il,P.ilen,P.tlen,xr,xi,xt,_,xm,ml,mp,es1,es2,p4,q3,g3.kept λid e=>q5 4 _ _ (by decide) rfl e,g4.kept λid e=>q5 5 _ _ (by decide) rfl e,g5.kept λid e=>q5 6 _ _ (by decide) rfl e,?_,g7.kept λid e=>q5 8 _ _ (by decide) rfl e,?_,g9,?_,g11⟩,q1⟩
 ·have e1:encI (c.blocks++[a])=encI c.blocks++[.i .i64 a]:=A3X _ _;rw [e1,E5T];exact p5
 ·rw [q5 10 (.m ml) ml (by decide) rfl rfl];exact g8
 ·rw [q5 11 (.m mp) mp (by decide) rfl rfl];exact g10
def WP.pushMade (hv:∃ id cs,f=.f id cs) (P:WP D n m f g r c h) {b:List UInt8} (hb:b.length=256) (hl:c.made.length<=100000) :
  ∃ x id h2 h3,B8 h (pV r 8)=A4 (.c x)/\kV (h++[rT (B4 b)]) 256 (.c x) (sV h.length 0 1 256)=A4 (sV id 0 (c.made.length+1) 256,h2)/\I5 h2 (pV r 8) (sV id 0 (c.made.length+1) 256)=A4 h3 /\
   WP D n m f g r { c with made:=c.made++[b] } h3/\Fr r h h3:=by
 obtain ⟨xr,xi,xt,xb,xm,ml,mp,es1,es2,g1,g2,g3,g4,g5,g6,g7,g8,g9,g10,g11⟩:=id P.row;obtain ⟨id,h2,h3,p1,p2,p3,p4,p5,q1,q2,q3,q4,q5⟩:=P.push (off:=8) (ys:=B4 b) hv g1 rfl g7 hl (by rw [A9,hb]) (by decide);refine ⟨xm,id,h2,h3,p1,p2,p3,⟨q2,P.ge,q4,P.il,P.ilen,P.tlen,xr,xi,xt,xb,_,ml,mp,es1,es2,p4,q3,g3.kept λid e=>q5 4 _ _ (by decide) rfl e,g4.kept λid e=>q5 5 _ _ (by decide) rfl e,g5.kept λid e=>q5 6 _ _ (by decide) rfl e,g6.kept λid e=>q5 7 _ _ (by decide) rfl e,?_,?_,g9,?_,g11⟩,q1⟩
 ·have e1:D5 (c.made++[b])=D5 c.made++B4 b:=by simp [D5]
  rw [e1,E5T];exact p5
 ·rw [q5 10 (.m ml) ml (by decide) rfl rfl];exact g8
 ·rw [q5 11 (.m mp) mp (by decide) rfl rfl];exact g10
def S9 (c:Cl) (no:Int) (b:List UInt8):Cl:={ c with blocks:=c.blocks++[no],made:=c.made++[b] }
def D14 {no:Int} {b:List UInt8} (hv:∃ id cs,f=.f id cs) (P:WP D n m f g r c h) (hb:b.length=256) (h1:c.blocks.length<=100000) (h2:c.made.length<=100000) :
  ∃ h',kK [pV r 0,iV no,.a (B4 b)] h=A4 (.t [],h')/\WP D n m f g r (S9 c no b) h'/\Fr r h h':=by
 have hbl:(B4 b).length=256:=by rw [A9,hb]
 have P1:=P.more hv [rT (B4 b)];have F1:Fr r h (h++[rT (B4 b)]):=Fr.low ((Low.refl (E5V _)).new _) P.rlt;obtain ⟨G,hG⟩:∃ G,G=h++[rT (B4 b)]:=⟨_,rfl⟩;have hl0:Loc G r h.length:=by
  rw [hG];refine ⟨by simp,by have:=P.rlt;omega,λhn=>?_⟩;have:=C02 hv P ((Nam.same (E1 P.rlt)).1 hn);omega
 have hr0:rd G h.length=rT (B4 b):=by rw [hG];exact U5
 rw [<-hG] at P1 F1;obtain ⟨x,id,g2,g3,a1,a2,a3,a4,a5⟩:=P1.pushBlk hv no h1;obtain ⟨l1,l2⟩:=a5.loc hl0;rw [hr0] at l2;have lB:D4 g3 256 (pV h.length 0)=A4 (.a (B4 b)):=C7 l2 hbl;obtain ⟨x',bT,g4,g5,b1,b2,b3,b4,b5⟩:=a4.pushMade hv hb h2;refine ⟨g5,B0D (n:=0) ?_,b4,F1.trans (a5.trans b5)⟩;rw [A95];have ef:E6 (E5R 256 (Cell.i .u8 0)) [(0,256,.a (B4 b))]=A4 (B4 b):=C97 hb;have ef0:E6 [o0] [(0,1,iV no)]=A4 [.i .i64 no]:=rfl;have es:(g3++[A7]).set g3.length (rT (B4 b))=g3++[rT (B4 b)]:=by simp
 rw [hG] at a1 a2;simp only [E5Y,E6q,E59,E5T,E52,E6h,E6e] at a2;generalize B4 b=B at *;generalize E5R 256 (Cell.i .u8 0)=Z at *;simp only [esc,Nat.reduceAdd,E6E,ef0,a1,a2,a3,lB,ef,b1,b2,b3];rfl
end
def jF (D:Dev) (n:Int) (c:Cl) (ino:Int):Bool:=!(decide (ino=1)||decide (kdV D n ino=0)||decide (kdV D n ino=2)&&(c.par ino).isSome)
def B18 (c:Cl) (ino:Int):Cl:={ c with lnk:=xY c.lnk ino ((c.lnk ino).getD 0+1) }
def D5v (c:Cl) (dir ino:Int):Cl:={ c with par:=xY c.par ino dir,row:=c.row++[ino] }
def dU (D:Dev) (n:Int) (c:Cl) (dir ino:Int):Cl:=bif jF D n c ino then (bif (c.par ino).isSome then B18 c ino else D5v (B18 c ino) dir ino) else c
section
variable {D:Dev} {n m:Int} {f:Cell} {g:B5} {r:Nat} {c:Cl} {h:B5}
def WP.setLnk (hv:∃ id cs,f=.f id cs) (P:WP D n m f g r c h) (a v:Int):∃ ml h',B8 h (.c (.p r 10))=A4 (.c (.m ml))/\(∀ ok i,A8T h (A4 .i64) (.c o0) ok (.c (.m ml)) (.c (.i .i64 i))=A4 (A6E ok (.c (.i .i64 ((c.lnk i).getD 0))) (c.lnk i).isSome)) /\
  A3O h (A4 .i64) (.c (.m ml)) (.c (.i .i64 a)) (.c (.i .i64 v))=A4 h'/\WP D n m f g r { c with lnk:=xY c.lnk a v } h'/\Fr r h h':=by
 obtain ⟨xr,xi,xt,xb,xm,ml,mp,es1,es2,g1,g2,g3,g4,g5,g6,g7,g8,g9,g10,g11⟩:=id P.row;have l1:B8 h (.c (.p r 10))=A4 (.c (.m ml)):=B9 g1 rfl rfl;obtain ⟨q1,q2,q3,q4,q5⟩:=P.mod (off:=10) (x:=.m ml) hv g1 rfl rfl (A4 (T8 (A9G (.i .i64 a) (.c (.i .i64 v)) es1)));refine ⟨ml,_,l1,λok i=>E17 g8 g9,E3g g8 g9,⟨q2,P.ge,λid hn=>P.low id ((Nam.same q3).1 hn),P.il,P.ilen,P.tlen,xr,xi,xt,xb,xm,ml,mp,_,es2,by rw [q3];exact g1,g2,g3.kept λid e=>q4 4 _ _ (by decide) rfl e,g4.kept λid e=>q4 5 _ _ (by decide) rfl e,g5.kept λid e=>q4 6 _ _ (by decide) rfl e,g6.kept λid e=>q4 7 _ _ (by decide) rfl e,g7.kept λid e=>q4 8 _ _ (by decide) rfl e,q5,g9.put a v,?_,g11⟩,q1⟩;rw [q4 11 (.m mp) mp (by decide) rfl rfl];exact g10
def WP.setPar (hv:∃ id cs,f=.f id cs) (P:WP D n m f g r c h) (a v:Int):∃ mp h',B8 h (.c (.p r 11))=A4 (.c (.m mp))/\(∀ ok i,A8T h (A4 .i64) (.c o0) ok (.c (.m mp)) (.c (.i .i64 i))=A4 (A6E ok (.c (.i .i64 ((c.par i).getD 0))) (c.par i).isSome)) /\
  A3O h (A4 .i64) (.c (.m mp)) (.c (.i .i64 a)) (.c (.i .i64 v))=A4 h'/\WP D n m f g r { c with par:=xY c.par a v } h'/\Fr r h h':=by
 obtain ⟨xr,xi,xt,xb,xm,ml,mp,es1,es2,g1,g2,g3,g4,g5,g6,g7,g8,g9,g10,g11⟩:=id P.row;have l1:B8 h (.c (.p r 11))=A4 (.c (.m mp)):=B9 g1 rfl rfl;obtain ⟨q1,q2,q3,q4,q5⟩:=P.mod (off:=11) (x:=.m mp) hv g1 rfl rfl (A4 (T8 (A9G (.i .i64 a) (.c (.i .i64 v)) es2)));refine ⟨mp,_,l1,λok i=>E17 g10 g11,E3g g10 g11,⟨q2,P.ge,λid hn=>P.low id ((Nam.same q3).1 hn),P.il,P.ilen,P.tlen,xr,xi,xt,xb,xm,ml,mp,es1,_,by rw [q3];exact g1,g2,g3.kept λid e=>q4 4 _ _ (by decide) rfl e,g4.kept λid e=>q4 5 _ _ (by decide) rfl e,g5.kept λid e=>q4 6 _ _ (by decide) rfl e,g6.kept λid e=>q4 7 _ _ (by decide) rfl e,g7.kept λid e=>q4 8 _ _ (by decide) rfl e,?_,g9,q5,g11.put a v⟩,q1⟩;rw [q4 10 (.m ml) ml (by decide) rfl rfl];exact g8
def WP.view (P:WP D n m f g r c h):D4 h 4 (pV r 0)=A4 (.a (vwC D.length n m f)):=by
 obtain ⟨xr,xi,xt,xb,xm,ml,mp,es1,es2,g1,_⟩:=P.row;exact dR g1 (by simp [wkC]) rfl
def E1M {dir ino:Int} (hD:okD D) (hv:IsView g f D) (P:WP D n m f g r c h) (hl:c.row.length<=100000) (hk:0<=(c.lnk ino).getD 0/\(c.lnk ino).getD 0<1000000) :
  ∃ h',kL [pV r 0,iV dir,iV ino] h=A4 (bV (jF D n c ino),h')/\WP D n m f g r (dU D n c dir ino) h'/\Fr r h h':=by
 have hv2:=hv.get;have lV:=P.view;have hI:=pN (n:=n) (m:=m) (i:=ino) hD (hv.since P.lo);rw [A8l] at hI;have f0:∀ k l s p d,C11 (.a (F9 k l s p d)) 0=A4 (iV k):=λ_ _ _ _ _=>rfl
 obtain ⟨mp,h9,b1,b2,b3,b4,b5⟩:=P.setPar hv2 ino dir;have b2':=b2 A5 ino;obtain ⟨ml,h1,a1,a2,a3,a4,a5⟩:=P.setLnk hv2 ino ((c.lnk ino).getD 0+1);have a2':=a2 A6 ino;have w1:E5U .i64 ((c.lnk ino).getD 0+1)=(c.lnk ino).getD 0+1:=wrap_i64 (by omega) (by omega);have no:jF D n c ino=A6->∃ h',kL [pV r 0,iV dir,iV ino] h=A4 (bV A6,h')/\WP D n m f g r c h'/\Fr r h h':=by
  intro hb;refine ⟨h,lU (n:=0) ?_,P,Fr.refl r h⟩;rw [lD];unfold jF at hb;simp only [Bool.not_eq_false',E6S,E5S,decide_eq_true_eq] at hb;by_cases c1:ino=1
  ·have n1:(1:Int)=1:=rfl;subst c1;generalize vwC D.length n m f=V at *;simp only [esc,lV,hI,f0,b1,b2',A6E,tW,decide_true]
  ·by_cases c2:kdV D n ino=0
   ·generalize vwC D.length n m f=V at *;simp only [esc,lV,hI,f0,b1,b2',A6E,tW,c1,c2,decide_true,decide_false]
   ·have c3:kdV D n ino=2/\(c.par ino).isSome=A5:=by
     rcases hb with (h | h) | h
     ·exact absurd h c1
     ·exact absurd h c2
     ·exact h
    obtain ⟨c3,c4⟩:=c3;have n20:¬ (2:Int)=0:=by decide
    generalize vwC D.length n m f=V at *;simp only [esc,lV,hI,f0,b1,b2',A6E,tW,c1,c3,c4,n20,decide_true,decide_false]
 cases hb:jF D n c ino with
 | false =>
  obtain ⟨h',e1,e2,e3⟩:=no hb;exact ⟨h',e1,by unfold dU;rw [hb];exact e2,e3⟩
 | true =>
  unfold dU;rw [hb];unfold jF at hb;simp only [E6I,Bool.or_eq_false_iff,Bool.and_eq_false_iff,decide_eq_false_iff_not] at hb;obtain ⟨⟨c1,c2⟩,c3⟩:=hb;have P1:WP D n m f g r (B18 c ino) h1:=a4;cases hs:(c.par ino).isSome with
  | true =>
   have c4:¬ kdV D n ino=2:=by
    rcases c3 with h | h
    ·exact h
    ·rw [hs] at h;cases h
   refine ⟨h1,lU (n:=0) ?_,P1,a5⟩;rw [lD];rw [hs] at b2';generalize vwC D.length n m f=V at *;simp only [esc,lV,hI,f0,b1,b2',A6E,tW,c1,c2,c4,decide_false,a1,a2',zR,w1,a3,jV]
  | false =>
   obtain ⟨mp',h2,d1,d2,d3,d4,d5⟩:=P1.setPar hv2 ino dir;obtain ⟨x,id,g2,g3,e1,e2,e3,e4,e5⟩:=d4.pushRow hv2 ino hl;have e4':WP D n m f g r (D5v (B18 c ino) dir ino) g3:=e4;refine ⟨g3,lU (n:=0) ?_,e4',(a5.trans d5).trans e5⟩;rw [lD];rw [hs] at b2';have ef0:E6 [o0] [(0,1,iV ino)]=A4 [.i .i64 ino]:=rfl;generalize vwC D.length n m f=V at *;by_cases c4:kdV D n ino=2
   ·have n20:¬ (2:Int)=0:=by decide
    simp only [esc,lV,hI,f0,b1,b2',A6E,tW,c1,c4,n20,decide_true,decide_false,a1,a2',zR,w1,a3,d1,d3,ef0,e1,e2,e3,jV]
   ·simp only [esc,lV,hI,f0,b1,b2',A6E,tW,c1,c2,c4,decide_true,decide_false,a1,a2',zR,w1,a3,d1,d3,ef0,e1,e2,e3,jV]
end
def hmS (D:Dev) (X:List Int) (nm:List UInt8):Option Slt:=if R8 X nm=0 then A7 else X8 (blk D (R8 X nm)) nm
def C1a (no:Int) (o:Option Slt):List Cell:=.i .i64 no::slC o
def E1a {D:Dev} {n m:Int} {f xr xi xt xb xm:Cell} {lost:Int} {ml mp:Nat} (hf:f.isX=A6) (h1:xr.isX=A6) (h2:xi.isX=A6) (h3:xt.isX=A6) (h4:xb.isX=A6) (h5:xm.isX=A6):noX (wkC D n m f xr xi xt xb xm lost ml mp)=A5:=by
 simp only [noX,wkC,E6B,List.all_nil,hf,h1,h2,h3,h4,h5];rfl
def HeldX.isX {h:B5} {x:Cell} {cs:List Cell} {n sz r:Nat} (hx:HeldX h x cs n sz r):x.isX=A6:=by
 rcases hx with ⟨_,_,rfl⟩ | ⟨id,rfl,_⟩<;>rfl
section
variable {D:Dev} {n m:Int} {f:Cell} {g:B5} {r:Nat} {c:Cl} {h:B5}
def VwR (h:B5) (r:Nat) (V:List Cell):Prop:=∃ cs w,rd h r=A4 ⟨cs,w⟩/\cs.take 4=V/\4<=cs.length/\noX cs=A5
def VwR.ro {V:List Cell} (a:VwR h r V):VwR (ro h) r V:=by
 obtain ⟨cs,w,h1,h2,h3,h4⟩:=a;exact ⟨cs,A6,B8Z h1 h4,h2,h3,h4⟩
def VwR.more {V:List Cell} (a:VwR h r V) (t:B5):VwR (h++t) r V:=by
 obtain ⟨cs,w,h1,h2⟩:=a;exact ⟨cs,w,C5 h1,h2⟩
def VwR.since {V:List Cell} {h':B5} (a:VwR h r V) (hl:Low h.length h h'):VwR h' r V:=by
 obtain ⟨cs,w,h1,h2⟩:=a;exact ⟨cs,w,hl.rd h1,h2⟩
def VwR.load {V:List Cell} (a:VwR h r V):D4 h 4 (pV r 0)=A4 (.a V):=by
 obtain ⟨cs,w,h1,h2,h3,h4⟩:=a;rw [dR h1 (by omega) (by
  rw [E6a];have:noX (cs.take 4)=A5:=by
   unfold noX at h4 ⊢;rw [E6M] at h4 ⊢;exact λx hx=>h4 x (List.mem_of_mem_take hx)
  rw [this];simp),E6a,h2]
def WP.vw (hv:∃ id cs,f=.f id cs) (P:WP D n m f g r c h):VwR h r (vwC D.length n m f):=by
 obtain ⟨xr,xi,xt,xb,xm,ml,mp,es1,es2,g1,g2,g3,g4,g5,g6,g7,_⟩:=P.row;obtain ⟨_,_,rfl⟩:=hv;exact ⟨_,A5,g1,rfl,by simp [wkC],E1a rfl g3.isX g4.isX g5.isX g6.isX g7.isX⟩
def D6i {d:Int} {t:List Int} {nm:List UInt8} (hD:okD D) (hv:IsView h f D) (hr:VwR h r (vwC D.length n m f)) (ht:t.length=32) (hs:nm.length<9223372036854775807) :
  kJ [pV r 0,.a (encI (d::t)),.c (.s nm)] h=A4 (.t [.a (C1a (R8 (d::t) nm) (hmS D (d::t) nm)),.c (.b (hmS D (d::t) nm).isSome)],h):=by
 have hX:(encI (d::t)).length=33:=by simp [B7,ht]
 have hv1:=hv.ro;have lV:=λtt=>(hr.ro.more tt).load
 have key:∃ g',sU 0 [pV r 0,.a (encI (d::t)),.c (.s nm)] (ro h)=A4 (.t [.a (C1a (R8 (d::t) nm) (hmS D (d::t) nm)),.c (.b (hmS D (d::t) nm).isSome)],g'):=by
  generalize ro h=g at *;have hM:=λh=>D0J (s:=nm) hs (h:=h)
  have hP:=λh=>C7c (d:=d) (h:=h) ht (C4k (s:=nm))
  have V7:=D3M (d::t) nm;have eP:A0D nm%D1 d=A2z (d::t) nm:=rfl;rw [eP] at hP;have ad:∀ q,I3 32 1 (pV q 1) (iV (A2z (d::t) nm:Nat))=A4 (pV q (1+A2z (d::t) nm)):=λq=>by
   rw [D8h (by omega) (by omega)];simp
  have l1:ld1 (rT (encI (d::t))) (1+A2z (d::t) nm)=A4 (iV (R8 (d::t) nm)):=by
   rw [A39];have:(encI (d::t))[1+A2z (d::t) nm]?=A4 (.i .i64 (R8 (d::t) nm)):=by
    rw [I1,Nat.add_comm,E6F,E5P (by omega)];unfold R8;rw [List.tail_cons,E5Z,E5P (by omega)];rfl
   rw [this];rfl
  have ef0:E6 [o0,o0,.s [],o0] []=A4 (C1a 0 A7):=rfl;have ef1:∀ (no:Int) (o:Option Slt),E6 [o0,o0,.s [],o0] [(0,1,iV no),(1,3,.a (slC o))]=A4 (C1a no o):=λno o=>by cases o<;>rfl
  have z4:∀ o no,stN (rT [o0,o0,.s [],o0]) 0 4 (C1a no o)=rT (C1a no o):=λo no=>by cases o<;>rfl
  have l4:∀ o no,ldN (rT (C1a no o)) 0 4=A4 (.a (C1a no o)):=λo no=>by cases o<;>rfl
  have s3:∀ o,stN (rT [o0,.s [],o0]) 0 3 (slC o)=rT (slC o):=λo=>by cases o<;>rfl
  have l3:∀ o,ldN (rT (slC o)) 0 3=A4 (.a (slC o)):=λo=>by cases o<;>rfl
  have l33:ldN (rT (encI (d::t))) 0 33=A4 (.a (encI (d::t))):=kU hX;rw [A94];unfold hmS;have hB:=λtt=>bP (n:=n) (m:=m) (no:=R8 (d::t) nm) (h:=g++tt) hD (hv1.more _)
  have hF:=λh=>B1f (b:=blk D (R8 (d::t) nm)) (nm:=nm) (h:=h) (O9 hD)
  generalize R8 (d::t) nm=B at *;generalize A2z (d::t) nm=P at *;by_cases c0:B=0
  ·rw [if_pos c0,c0];rw [c0] at l1;generalize encI (d::t)=X at *;generalize vwC D.length n m f=V at *;exact ⟨_,by simp only [esc,bQ,R4,fN,U4,W2,M6,kU,oU,hM,hP,ad,l1,l33,decide_true,ef0,z4,l4,E6i]<;>rfl⟩
  ·rw [if_neg c0];generalize X8 (blk D B) nm=o at *;generalize B4 (blk D B)=y at *;generalize encI (d::t)=X at *;generalize vwC D.length n m f=V at *;exact ⟨_,by simp only [esc,bQ,R4,fN,U4,W2,M6,kU,oU,Nat.reduceAdd,hM,hP,ad,l1,l33,c0,decide_false,lV,hB,hF,ef1,z4,l4,s3,l3]<;>rfl⟩
 obtain ⟨g',e⟩:=key;exact A7y e (by cases hmS D (d::t) nm<;>rfl)
end
def LocV (h:B5) (r id:Nat) (cs:List Cell):Prop:=Loc h r id/\rd h id=rT cs
section
variable {D:Dev} {n m:Int} {f:Cell} {g:B5} {r:Nat} {c:Cl} {h:B5}
def LocV.fr {h':B5} {id:Nat} {cs:List Cell} (a:LocV h r id cs) (b:Fr r h h'):LocV h' r id cs:=by
 obtain ⟨h1,h2⟩:=b.loc a.1;exact ⟨h1,by rw [h2];exact a.2⟩
def LocV.set {id j:Nat} {cs:List Cell} {x:Option Row} (a:LocV h r id cs) (hj:j≠id) (hl:j≠r):LocV (h.set j x) r id cs:=by
 refine ⟨⟨by simpa using a.1.1,a.1.2.1,λhn=>a.1.2.2 ((Nam.same (B6 hl)).1 hn)⟩,by rw [B6 hj];exact a.2⟩
def LocV.self {id:Nat} {cs cs':List Cell} (a:LocV h r id cs):LocV (h.set id (rT cs')) r id cs' :=
 ⟨⟨by simpa using a.1.1,a.1.2.1,λhn=>a.1.2.2 ((Nam.same (B6 a.1.2.1)).1 hn)⟩,C6 a.1.1⟩
def LocV.new (hv:∃ id cs,f=.f id cs) (P:WP D n m f g r c h) {t:B5} {k:Nat} {cs:List Cell} (hk:t[k]?=A4 (rT cs)):LocV (h++t) r (h.length+k) cs:=by
 have hk2:=(List.getElem?_eq_some_iff.1 hk).1;refine ⟨⟨by simp;omega,by have:=P.rlt;omega,λhn=>?_⟩,?_⟩
 ·have:=C02 hv P ((Nam.same (E1 P.rlt)).1 hn);omega
 ·unfold rd;rw [E57 (by omega),show h.length+k-h.length=k by omega,hk];rfl
def D8Z {k:Nat} {x many:Int} {pm pw:Nat} (P:WP D n m f g r c h) (hm:LocV h r pm [.i .i64 many]) (hw:LocV h r pw [.p r 0]) (hk:k<128) :
  ∃ h',fG [iV (k:Int),iV x,pV pm 0,pV pw 0] h=A4 (bV (decide ((k:Int)+6<many) && !decide (U7 D n c x=0)),h') /\
   WP D n m f g r (if (k:Int)+6<many then eU D n c x else c) h'/\Fr r h h':=by
 have l1:B8 h (pV pm 0)=A4 (iV many):=B9 hm.2 rfl rfl;have l2:B8 h (pV pw 0)=A4 (pV r 0):=B9 hw.2 rfl rfl;have w1:E5U .i64 ((k:Int)+6)=(k:Int)+6:=wrap_i64 (by omega) (by omega);by_cases c1:(k:Int)+6<many
 ·obtain ⟨h',e1,e2,e3⟩:=B8z (no:=x) P;refine ⟨h',tD (n:=0) ?_,by rw [if_pos c1];exact e2,e3⟩;rw [sT];simp only [esc,w1,l1,l2,c1,e1,E55]
 ·refine ⟨h,tD (n:=0) ?_,by rw [if_neg c1];exact P,Fr.refl r h⟩;rw [sT];simp only [esc,w1,l1,l2,c1,E51]
def jA (D:Dev) (n many:Int) (s:Cl × List UInt8) (k:Nat):Cl × List UInt8 :=
 if ptP s.2 k=0 then s else
  (if (k:Int)+6<many then eU D n s.1 (ptP s.2 k) else s.1,bif decide ((k:Int)+6<many) && !decide (U7 D n s.1 (ptP s.2 k)=0) then s.2 else J7 s.2 (2*k) (C4 2 0))
def cP (D:Dev) (n many:Int):Nat->Nat->Cl × List UInt8->Cl × List UInt8
 | 0,_,s=>s
 | e+1,k,s=>cP D n many e (k+1) (jA D n many s k)
def C0S {D:Dev} {n many:Int} {s:Cl × List UInt8} {k:Nat} (hs:s.2.length=256) (hk:k<128):(jA D n many s k).2.length=256:=by
 unfold jA;split
 ·exact hs
 ·dsimp only;cases (decide ((k:Int)+6<many) && !decide (U7 D n s.1 (ptP s.2 k)=0)) with
  | true=>exact hs
  | false=>rw [cond_false,P9 (by rw [hs,Q8];omega)];exact hs
def B2X {D:Dev} {n many:Int}:∀ {e k:Nat} {s:Cl × List UInt8},k+e<=128->s.2.length=256->(cP D n many e k s).2.length=256
 | 0,_,s,_,hs=>hs
 | e+1,k,s,hk,hs=>by
  rw [cP];exact B2X (by omega) (C0S hs (by omega))
def D4c {many:Int} {pm pw q0 q1 q:Nat} {h0:B5} (h0g:g.length<=h0.length) (a0:h0.length<=q0) (a1:h0.length<=q1) (n1:q0≠q1) (n2:q0≠pm) (n3:q0≠pw):∀ (e k M:Nat) (s:Cl × List UInt8) (h:B5),k+e=128->e<M->s.2.length=256 ->
  WP D n m f g r s.1 h->Fr r h0 h->LocV h r pm [.i .i64 many]->LocV h r pw [.p r 0]->LocV h r q0 (B4 s.2)->(∃ z,z.length=256/\LocV h r q1 z) ->
  ∃ h',uP q M (.c (.f 98 [(pm,0),(pw,0)])) (pV q0 0) (pV q1 0) (iV (k:Int)) h=A4 (.a (B4 (cP D n many e k s).2),h')/\WP D n m f g r (cP D n many e k s).1 h'/\Fr r h0 h'
 | e,k,0,s,h,_,hM,_,_,_,_,_,_,_=>by omega
 | 0,k,M+1,s,h,hk,hM,hs,P,F,hm,hw,hb,hz=>by
  have c0:¬ ((k:Int)<128):=by omega
  obtain ⟨z,hzl,hz⟩:=hz;have hl:(B4 s.2).length=256:=by rw [A9,hs]
  have l1:=C7 (n:=256) hb.2 hl;have s1:=storeAll (n:=256) (xs:=B4 s.2) hz.2 hzl hl;have hz2:=hz.self (cs':=B4 s.2);have l2:=C7 (n:=256) hz2.2 hl;refine ⟨h.set q1 (rT (B4 s.2)),?_,P.set hz.1 (by omega),F.set hz.1 a1⟩;rw [pB];unfold cP;generalize B4 s.2=B at *;simp only [esc,c0,l1,s1,l2]
 | e+1,k,M+1,s,h,hk,hM,hs,P,F,hm,hw,hb,hz=>by
  have c0:((k:Int)<128):=by omega
  have hk1:k<128:=by omega
  have hl:(B4 s.2).length=256:=by rw [A9,hs]
  have l1:=C7 (n:=256) hb.2 hl;have hG:=C9z (h:=h) hs hk1;have w1:=D3 (show k+1<9223372036854775808 by omega);have hfs:=C0S (D:=D) (n:=n) (many:=many) hs hk1;have ih:=λh=>D4c (q:=q) (many:=many) h0g a0 a1 n1 n2 n3 e (k+1) M (jA D n many s k) h (by omega) (by omega) hfs
  have hcv:∀ (k x:Val) (h:B5),A3R vB (.c (.f 98 [(pm,0),(pw,0)])) [k,x] h=fG [k,x,pV pm 0,pV pw 0] h:=λ_ _ _=>Eq.trans rfl rfl
  rw [pB,cP];by_cases cz:ptP s.2 k=0
  ·have ef:jA D n many s k=s:=by unfold jA;rw [if_pos cz]
   rw [ef] at ih ⊢;obtain ⟨h',e1,e2⟩:=ih h P F hm hw hb hz;refine ⟨h',?_,e2⟩;rw [cz] at hG;generalize B4 s.2=B at *;simp only [esc,c0,l1,hG,cX,w1];exact e1
  ·obtain ⟨h1,f1,f2,f3⟩:=D8Z (x:=ptP s.2 k) P hm hw hk1;have hb1:=hb.fr f3;have hm1:=hm.fr f3;have hw1:=hw.fr f3;obtain ⟨z,hzl,hz⟩:=hz;have hz1:=hz.fr f3;cases hok:(decide ((k:Int)+6<many) && !decide (U7 D n s.1 (ptP s.2 k)=0)) with
   | true =>
    have ef:jA D n many s k=(if (k:Int)+6<many then eU D n s.1 (ptP s.2 k) else s.1,s.2):=by unfold jA;rw [if_neg cz,hok];rfl
    rw [ef] at ih ⊢;obtain ⟨h',e1,e2⟩:=ih h1 f2 (F.trans f3) hm1 hw1 hb1 ⟨z,hzl,hz1⟩;refine ⟨h',?_,e2⟩;rw [hok] at f1
    try dsimp only at e1
    generalize B4 s.2=B at *;simp only [esc,c0,l1,hG,cz,hcv,f1,cX,w1];exact e1
   | false =>
    have ef:jA D n many s k=(if (k:Int)+6<many then eU D n s.1 (ptP s.2 k) else s.1,J7 s.2 (2*k) (C4 2 0)):=by unfold jA;rw [if_neg cz,hok];rfl
    rw [ef] at ih hfs ⊢;have hW:=λh=>Z5 (h:=h) (l:=s.2) hs (a:=((2*k:Nat):Int)) (w:=2) (v:=0)
    rw [E0o (by omega)] at hW;have lb1:=C7 (n:=256) hb1.2 hl;have hl2:(B4 (J7 s.2 (2*k) (C4 2 0))).length=256:=by rw [A9];exact hfs
    have sb1:=storeAll (n:=256) (xs:=B4 (J7 s.2 (2*k) (C4 2 0))) hb1.2 hl hl2;obtain ⟨h',e1,e2⟩:=ih _ (f2.set hb1.1 (by omega)) ((F.trans f3).set hb1.1 a0) (hm1.set n2 hb1.1.2.1) (hw1.set n3 hb1.1.2.1) hb1.self ⟨z,hzl,hz1.set n1 hb1.1.2.1⟩;refine ⟨h',?_,e2⟩;rw [hok] at f1
    try dsimp only at e1
    generalize B4 (J7 s.2 (2*k) (C4 2 0))=B2 at *;generalize B4 s.2=B at *;simp only [esc,c0,l1,hG,cz,hcv,f1,lb1,D5S (show k<128 by omega),hW,sb1,cX,w1];exact e1
end
def aU {x:List Int} {l:List (List Int)}:U8 (x::l)=encI x++U8 l:=rfl
def R6:∀ {l:List (List Int)},(∀ x∈l,x.length=11)->(U8 l).length=l.length*11
 | [],_=>rfl
 | x::l,h=>by
  rw [aU,E5T,B7,h x (E6g ..),R6 λy hy=>h y (E6f _ hy),E52];omega
def B25 (l:List (List Int)):noX (U8 l)=A5:=by
 induction l with
 | nil=>rfl
 | cons x l ih =>
  rw [aU];have h1:=cG x;simp only [noX,List.all_append,E5S] at h1 ih ⊢;exact ⟨h1,ih⟩
def A6t:∀ {l:List (List Int)} {i:Nat} (h:∀ x∈l,x.length=11) (hi:i<l.length),((U8 l).drop (i*11)).take 11=encI l[i]
 | x::l,0,h,_=>by
  have:=h x (E6g ..);rw [aU,Nat.zero_mul,E6a,List.take_left' (by rw [B7,this])];rfl
 | x::l,i+1,h,hi=>by
  have:=h x (E6g ..);rw [aU,show (i+1)*11=11+i*11 by omega,<-E6P,List.drop_left' (by rw [B7,this])];exact A6t (λy hy=>h y (E6f _ hy)) (by simpa using hi)
def C7n:∀ {l:List (List Int)} {i:Nat} {y:List Int} (h:∀ x∈l,x.length=11) (hy:y.length=11) (hi:i<l.length),lay (U8 l) (i*11) (encI y)=U8 (l.set i y)
 | x::l,0,y,h,hy,_=>by
  have:=h x (E6g ..);unfold lay;rw [aU,Nat.zero_mul,E6U,E59,B7,E6e,hy,List.drop_left' (by rw [B7,this])];rfl
 | x::l,i+1,y,h,hy,hi=>by
  have hx:=h x (E6g ..);have ih:=C7n (l:=l) (i:=i) (y:=y) (λy hy=>h y (E6f _ hy)) hy (by simpa using hi);rw [E6H,aU,aU,<-ih];unfold lay;rw [show (i+1)*11=(encI x).length+i*11 by rw [B7,hx];omega,List.take_length_add_append,Nat.add_assoc,List.drop_length_add_append,E5Y]
section
variable {D:Dev} {n m:Int} {f:Cell} {g:B5} {r:Nat} {c:Cl} {h:B5}
def WP.setIno (hv:∃ id cs,f=.f id cs) (P:WP D n m f g r c h) {k:Nat} {l:List Int} (hk:k<c.ino.length) (hl:l.length=11) :
  ∃ id h',B8 h (pV r 5)=A4 (sV id 0 c.ino.length 11)/\rd h id=rT (U8 c.ino)/\E5 h 11 (pV id (k*11)) (.a (encI l))=A4 h'/\WP D n m f g r { c with ino:=c.ino.set k l } h'/\Fr r h h':=by
 obtain ⟨xr,xi,xt,xb,xm,ml,mp,es1,es2,g1,g2,g3,g4,g5,g6,g7,g8,g9,g10,g11⟩:=id P.row;rcases g4 with ⟨e,_,_⟩ | ⟨t,rfl,t1,t2,t3⟩
 ·omega
 ·have l1:B8 h (pV r 5)=A4 (sV t 0 c.ino.length 11):=B9 g1 rfl rfl;have st:=B3b (n:=11) (off:=k*11) (xs:=encI l) t1 (by rw [B7,hl]) (by rw [t2];omega);rw [C7n P.il hl hk] at st;obtain ⟨q1,q2,q3,q4,q5⟩:=P.mod (off:=5) (x:=.sl t 0 c.ino.length 11) hv g1 rfl rfl (rT (U8 (c.ino.set k l)));have P6:∀ x∈c.ino.set k l,x.length=11:=λx hx=>by
   rcases E6A hx with h1 | h1
   ·exact P.il x h1
   ·rw [h1];exact hl
  refine ⟨t,_,l1,t1,st,⟨q2,P.ge,λid hn=>P.low id ((Nam.same q3).1 hn),P6,by simpa using P.ilen,P.tlen,xr,_,xt,xb,xm,ml,mp,es1,es2,by rw [q3];exact g1,g2,g3.kept λid e=>q4 4 _ _ (by decide) rfl e,.inr ⟨t,by simp,q5,by rw [R6 P6],t3⟩,g5.kept λid e=>q4 6 _ _ (by decide) rfl e,g6.kept λid e=>q4 7 _ _ (by decide) rfl e,g7.kept λid e=>q4 8 _ _ (by decide) rfl e,?_,g9,?_,g11⟩,q1⟩
  ·rw [q4 10 (.m ml) ml (by decide) rfl rfl];exact g8
  ·rw [q4 11 (.m mp) mp (by decide) rfl rfl];exact g10
def WP.setLost (hv:∃ id cs,f=.f id cs) (P:WP D n m f g r c h) (a:Int):∃ h',B8 h (pV r 9)=A4 (iV c.lost)/\I5 h (pV r 9) (iV a)=A4 h'/\WP D n m f g r { c with lost:=a } h'/\Fr r h h':=by
 obtain ⟨xr,xi,xt,xb,xm,ml,mp,es1,es2,g1,g2,g3,g4,g5,g6,g7,g8,g9,g10,g11⟩:=id P.row;have l1:B8 h (pV r 9)=A4 (iV c.lost):=B9 g1 rfl rfl;have s1:=G8 (x:=.i .i64 a) (off:=9) g1 (by simp [wkC]);obtain ⟨q1,q2,q3,q4,q5⟩:=P.pushed (off:=9) (y:=.i .i64 a) (h3:=h.set r (rT ((wkC D n m f xr xi xt xb xm c.lost ml mp).set 9 (.i .i64 a)))) hv g1 rfl (C6 (C8 g1)) (λj e=>by cases e) (λj hj hr hn=>B6 (Ne.symm hr)) (by simp);refine ⟨_,l1,s1,⟨q2,P.ge,q4,P.il,P.ilen,P.tlen,xr,xi,xt,xb,xm,ml,mp,es1,es2,C6 (C8 g1),q3,g3.kept λid e=>q5 4 _ _ (by decide) rfl e,g4.kept λid e=>q5 5 _ _ (by decide) rfl e,g5.kept λid e=>q5 6 _ _ (by decide) rfl e,g6.kept λid e=>q5 7 _ _ (by decide) rfl e,g7.kept λid e=>q5 8 _ _ (by decide) rfl e,?_,g9,?_,g11⟩,q1⟩
 ·rw [q5 10 (.m ml) ml (by decide) rfl rfl];exact g8
 ·rw [q5 11 (.m mp) mp (by decide) rfl rfl];exact g10
def E1f {many:Int} {pm pw:Nat} {b:List UInt8} (hv:∃ id cs,f=.f id cs) (P:WP D n m f g r c h) (hm:LocV h r pm [.i .i64 many]) (hw:LocV h r pw [.p r 0]) (hb:b.length=256) :
  ∃ h',jS [.a (B4 b),.c (.f 98 [(pm,0),(pw,0)])] h=A4 (.a (B4 (cP D n many 128 0 (c,b)).2),h')/\WP D n m f g r (cP D n many 128 0 (c,b)).1 h'/\Fr r h h':=by
 have P1:=P.more hv [rT (B4 b),rT (B4 (zeros 256))];have F1:Fr r h (h++[rT (B4 b),rT (B4 (zeros 256))]):=Fr.low ((Low.refl (E5V _)).new _) P.rlt;obtain ⟨h',e1,e2,e3⟩:=D4c (q:=200) (many:=many) (h0:=h) (q0:=h.length) (q1:=h.length+1) (pm:=pm) (pw:=pw) P.lo.2.1 (E5V _) (by omega) (by omega) (by have:=hm.1.1;omega) (by have:=hw.1.1;omega) 128 0 200 (c,b) _ (by omega) (by omega) hb P1 F1 (hm.fr F1) (hw.fr F1) (LocV.new (k:=0) hv P rfl) ⟨B4 (zeros 256),by rw [A9];exact zeros_length,LocV.new (k:=1) hv P rfl⟩;refine ⟨h',A40 (n:=200) ?_,e2,e3⟩;rw [A4H,I9];generalize zeros 256=z at *;simp only [esc];exact e1
end
def A77 (D:Dev) (n:Int) (d:List Int):Nat->Nat->Cl × List Int->Cl × List Int
 | 0,_,s=>s
 | e+1,k,s=>A77 D n d e (k+1) (eU D n s.1 (d.getD k 0),s.2.set k (U7 D n s.1 (d.getD k 0)))
def B8n (D:Dev) (n:Int) (d:List Int) (many:Int) (s:Cl × List Int):Cl × List Int :=
 if 6<many then (eU D n s.1 (d.getD 6 0),s.2.set 6 (U7 D n s.1 (d.getD 6 0))) else s
def fC (D:Dev) (n:Int) (c:Cl) (ino:Int):Cl × List Int:=B8n D n (drV D n ino) (A46 (szV D n ino)) (A77 D n (drV D n ino) (min (A46 (szV D n ino)) 6).toNat 0 (c,zI 7))
def aI (D:Dev) (n:Int) (c:Cl) (ino:Int):Cl:={ (fC D n c ino).1 with ino:=(fC D n c ino).1.ino.set ino.toNat (1::1::szV D n ino::0::(fC D n c ino).2) }
def iZ (D:Dev) (n:Int) (c:Cl) (ino:Int):Cl :=
 if (fC D n c ino).2.getD 6 0=0 then aI D n c ino else
  S9 (cP D n (A46 (szV D n ino)) 128 0 (aI D n c ino,blk D ((fC D n c ino).2.getD 6 0))).1 ((fC D n c ino).2.getD 6 0) (cP D n (A46 (szV D n ino)) 128 0 (aI D n c ino,blk D ((fC D n c ino).2.getD 6 0))).2
structure SameC (c c':Cl):Prop where
 row:c'.row=c.row
 ino:c'.ino=c.ino
 blocks:c'.blocks=c.blocks
 made:c'.made=c.made
 lost:c'.lost=c.lost
 lnk:c'.lnk=c.lnk
 par:c'.par=c.par
def SameC.rfl' (c:Cl):SameC c c:=⟨rfl,rfl,rfl,rfl,rfl,rfl,rfl⟩
def SameC.trans {a b c:Cl} (x:SameC a b) (y:SameC b c):SameC a c:=⟨y.row.trans x.row,y.ino.trans x.ino,y.blocks.trans x.blocks,y.made.trans x.made,y.lost.trans x.lost,y.lnk.trans x.lnk,y.par.trans x.par⟩
def rS (D:Dev) (n:Int) (c:Cl) (no:Int):SameC c (eU D n c no):=by
 unfold eU;cases B56 D n c no<;>exact ⟨rfl,rfl,rfl,rfl,rfl,rfl,rfl⟩
def D48 {D:Dev} {n many:Int} {s:Cl × List UInt8} {k:Nat}:SameC s.1 (jA D n many s k).1:=by
 unfold jA;split
 ·exact .rfl' _
 ·dsimp only;split
  ·exact rS ..
  ·exact .rfl' _
def xP {D:Dev} {n many:Int}:∀ {e k:Nat} {s:Cl × List UInt8},SameC s.1 (cP D n many e k s).1
 | 0,_,s=>.rfl' _
 | e+1,k,s=>by
  rw [cP];exact (D48).trans xP
def B2V {D:Dev} {n:Int} {d:List Int}:∀ {e k:Nat} {s:Cl × List Int},SameC s.1 (A77 D n d e k s).1/\(A77 D n d e k s).2.length=s.2.length
 | 0,_,s=>⟨.rfl' _,rfl⟩
 | e+1,k,s=>by
  rw [A77];have:=B2V (D:=D) (n:=n) (d:=d) (e:=e) (k:=k+1) (s:=(eU D n s.1 (d.getD k 0),s.2.set k (U7 D n s.1 (d.getD k 0))));exact ⟨(rS ..).trans this.1,by rw [this.2];simp⟩
def D7j {D:Dev} {n many:Int} {d:List Int} {s:Cl × List Int}:SameC s.1 (B8n D n d many s).1/\(B8n D n d many s).2.length=s.2.length:=by
 unfold B8n;split
 ·exact ⟨rS ..,by simp⟩
 ·exact ⟨.rfl' _,rfl⟩
def A2v {D:Dev} {n ino:Int} {c:Cl}:SameC c (fC D n c ino).1/\(fC D n c ino).2.length=7:=by
 unfold fC;have h1:=B2V (D:=D) (n:=n) (d:=drV D n ino) (e:=(min (A46 (szV D n ino)) 6).toNat) (k:=0) (s:=(c,zI 7));have h2:=D7j (D:=D) (n:=n) (d:=drV D n ino) (many:=A46 (szV D n ino)) (s:=A77 D n (drV D n ino) (min (A46 (szV D n ino)) 6).toNat 0 (c,zI 7));exact ⟨h1.1.trans h2.1,by rw [h2.2,h1.2];rfl⟩
section
variable {D:Dev} {n m:Int} {f:Cell} {g:B5} {r:Nat} {c:Cl} {h:B5}
def D0n {ino lim kd ln sz pa many:Int} {d:List Int} {pb pw pi pm q:Nat} {h0:B5} (h0g:g.length<=h0.length) (a0:h0.length<=pi) (n1:pi≠pb) (n2:pi≠pw) (n3:pi≠pm) (hd:d.length=7) (E42:lim<=6) :
  ∀ (e k M:Nat) (s:Cl × List Int) (h:B5),(k:Int)+e=lim->e<M->s.2.length=7->WP D n m f g r s.1 h->Fr r h0 h->LocV h r pb [.p r 0]->LocV h r pw (F9 kd ln sz pa d)->LocV h r pi (F9 1 1 sz 0 s.2)->LocV h r pm [.i .i64 many] ->
  ∃ M' h',iM q M (iV ino) (pV pb 0) (pV pw 0) (pV pi 0) (pV pm 0) (iV lim) (iV (k:Int)) h=iM q (M'+1) (iV ino) (pV pb 0) (pV pw 0) (pV pi 0) (pV pm 0) (iV lim) (iV lim) h' /\
   WP D n m f g r (A77 D n d e k s).1 h'/\Fr r h0 h'/\LocV h' r pb [.p r 0]/\LocV h' r pw (F9 kd ln sz pa d)/\LocV h' r pi (F9 1 1 sz 0 (A77 D n d e k s).2)/\LocV h' r pm [.i .i64 many]
 | e,k,0,s,h,_,hM,_,_,_,_,_,_,_=>by omega
 | 0,k,M+1,s,h,hk,hM,hs,P,F,hb,hw,hi,hm=>by
  have:(k:Int)=lim:=by omega
  rw [this];exact ⟨M,h,rfl,P,F,hb,hw,hi,hm⟩
 | e+1,k,M+1,s,h,hk,hM,hs,P,F,hb,hw,hi,hm=>by
  have c0:(k:Int)<lim:=by omega
  have hk6:k<6:=by omega
  have w1:=D3 (show k+1<9223372036854775808 by omega);have lb:B8 h (pV pb 0)=A4 (pV r 0):=B9 hb.2 rfl rfl;have ad:∀ p,I3 6 1 (pV p 4) (iV (k:Int))=A4 (pV p (4+k)):=λp=>by
   rw [J5 hk6];simp
  have lw:B8 h (pV pw (4+k))=A4 (iV (d.getD k 0)):=by
   refine B9 hw.2 ?_ rfl;rw [Nat.add_comm];simp only [F9,E6F];rw [I1,E5Z,E5P (by omega)];rfl
  obtain ⟨h1,f1,f2,f3⟩:=B8z (no:=d.getD k 0) P;have hb1:=hb.fr f3;have hw1:=hw.fr f3;have hm1:=hm.fr f3;have hi1:=hi.fr f3;have P6:(F9 1 1 sz 0 s.2).length=11:=by simp [F9,B7,hs]
  have s1:=G8 (x:=.i .i64 (U7 D n s.1 (d.getD k 0))) (off:=4+k) hi1.2 (by rw [P6];omega);have es:(F9 1 1 sz 0 s.2).set (4+k) (.i .i64 (U7 D n s.1 (d.getD k 0)))=F9 1 1 sz 0 (s.2.set k (U7 D n s.1 (d.getD k 0))):=by
   rw [Nat.add_comm];simp only [F9,E6H,X5]
  rw [es] at s1;obtain ⟨M',h',e1,e2⟩:=D0n (q:=q) (ino:=ino) (lim:=lim) (kd:=kd) (ln:=ln) (sz:=sz) (pa:=pa) (many:=many) h0g a0 n1 n2 n3 hd E42 e (k+1) M (eU D n s.1 (d.getD k 0),s.2.set k (U7 D n s.1 (d.getD k 0))) _ (by omega) (by omega) (by simp [hs]) (f2.set hi1.1 (by omega)) ((F.trans f3).set hi1.1 a0) (hb1.set n1 hi1.1.2.1) (hw1.set n2 hi1.1.2.1) hi1.self (hm1.set n3 hi1.1.2.1);refine ⟨M',h',?_,e2⟩;rw [jU];simp only [esc,c0,lb,ad,lw,f1,s1,w1];exact e1
def E0U {ino:Int} (hD:okD D) (hv:IsView g f D) (P:WP D n m f g r c h) (h1:c.blocks.length<=100000) (h2:c.made.length<=100000) (i0:0<=ino) (i1:ino.toNat<c.ino.length) :
  ∃ h',kI [pV r 0,iV ino] h=A4 (.t [],h')/\WP D n m f g r (iZ D n c ino) h'/\Fr r h h':=by
 have hv2:=hv.get;obtain ⟨k,rfl⟩:=E6C i0;rw [E6c] at i1;obtain ⟨I,hI⟩:∃ I,I=F9 (kdV D n k) (lnV D n k) (szV D n k) (paV D n k) (drV D n k):=⟨_,rfl⟩;have hIl:I.length=11:=by rw [hI];simp [F9,B7,xE]
 have hVI:=λt=>pN (n:=n) (m:=m) (i:=(k:Int)) (h:=h++t) hD ((hv.since P.lo).more t)
 rw [A8l,<-hI] at hVI;have lV:=(P.more hv2 [rT [Cell.p r 0]]).view;obtain ⟨z,hz⟩:∃ z,z=F9 1 1 (szV D n k) 0 (zI 7):=⟨_,rfl⟩;have hzl:z.length=11:=by rw [hz];rfl
 have z11:[o0,o0,o0,o0,o0,o0,o0,o0,o0,o0,o0].length=11:=rfl;have ef:E6 [o0,o0,o0,o0,o0,o0,o0,o0,o0,o0,o0] [(0,1,iV 1),(1,1,iV 1),(2,1,iV (szV D n k))]=A4 z:=by rw [hz];rfl
 have I2:I[2]?=A4 (.i .i64 (szV D n k)):=by rw [hI];rfl
 have hBl:=λh=>C33 (n:=szV D n k) (h:=h)
 have eB:(if szV D n k<1 then (0:Int) else if 34304<szV D n k then 134 else (szV D n k+255)/256)=A46 (szV D n k):=rfl;rw [eB] at hBl;have hmr:0<=A46 (szV D n k):=by unfold A46;split<;>(try split)<;>omega
 obtain ⟨many,D0A⟩:∃ many,many=A46 (szV D n k):=⟨_,rfl⟩;rw [<-D0A] at hBl hmr;have E44:B7T (iV many) (iV 6)=A4 (iV (min many 6)):=by
  simp only [B7T];rw [show (if (6:Int)<many then 6 else many)=min many 6 by split<;>omega]
 obtain ⟨T,hT⟩:∃ T,T=[rT [Cell.p r 0],rT I,rT z,rT [Cell.i .i64 many]]:=⟨_,rfl⟩;have P1:=P.more hv2 T;have F1:Fr r h (h++T):=Fr.low ((Low.refl (E5V _)).new _) P.rlt;have L0:LocV (h++T) r h.length [.p r 0]:=LocV.new (k:=0) hv2 P (by rw [hT];rfl);have L1:LocV (h++T) r (h.length+1) I:=LocV.new (k:=1) hv2 P (by rw [hT];rfl);have L2:LocV (h++T) r (h.length+2) z:=LocV.new (k:=2) hv2 P (by rw [hT];rfl);have L3:LocV (h++T) r (h.length+3) [.i .i64 many]:=LocV.new (k:=3) hv2 P (by rw [hT];rfl);rw [hI] at L1;rw [hz] at L2;obtain ⟨M',hA,e1,PA,FA,A0,A1,A2,A3⟩:=D0n (q:=200) (ino:=(k:Int)) (lim:=min many 6) P.lo.2.1 (show h.length<=h.length+2 by omega) (by omega) (by omega) (by omega) xE (by omega) (min many 6).toNat 0 200 (c,zI 7) (h++T) (by omega) (by omega) rfl P1 F1 L0 L1 L2 L3;obtain ⟨s,hs⟩:∃ s,s=A77 D n (drV D n k) (min many 6).toNat 0 (c,zI 7):=⟨_,rfl⟩;have hsame:=B2V (D:=D) (n:=n) (d:=drV D n k) (e:=(min many 6).toNat) (k:=0) (s:=(c,zI 7));rw [<-hs] at PA A2 hsame;have hs7:s.2.length=7:=hsame.2;have lb:B8 hA (pV h.length 0)=A4 (pV r 0):=B9 A0.2 rfl rfl;have lm:B8 hA (pV (h.length+3) 0)=A4 (iV many):=B9 A3.2 rfl rfl;have step:∃ hB,iM 200 (M'+1) (iV (k:Int)) (pV h.length 0) (pV (h.length+1) 0) (pV (h.length+2) 0) (pV (h.length+3) 0) (iV (min many 6)) (iV (min many 6)) hA =
   qM 200 (iV (k:Int)) (pV h.length 0) (pV (h.length+2) 0) (pV (h.length+3) 0) hB/\WP D n m f g r (B8n D n (drV D n k) many s).1 hB/\Fr r h hB/\LocV hB r h.length [.p r 0]/\LocV hB r (h.length+2) (F9 1 1 (szV D n k) 0 (B8n D n (drV D n k) many s).2)/\LocV hB r (h.length+3) [.i .i64 many]:=by
  have c0:¬ (min many 6<min many 6):=by omega
  unfold B8n;by_cases c6:6<many
  ·rw [if_pos c6];have lw:B8 hA (pV (h.length+1) 10)=A4 (iV ((drV D n k).getD 6 0)):=by
    refine B9 A1.2 ?_ rfl;simp only [F9,E6F];rw [I1,E5Z,E5P (by rw [xE];omega)];rfl
   obtain ⟨h1,f1,f2,f3⟩:=B8z (no:=(drV D n k).getD 6 0) PA;have B0:=A0.fr f3;have B2:=A2.fr f3;have B3:=A3.fr f3;have P6:(F9 1 1 (szV D n k) 0 s.2).length=11:=by simp [F9,B7,hs7]
   have s1:=G8 (x:=.i .i64 (U7 D n s.1 ((drV D n k).getD 6 0))) (off:=10) B2.2 (by rw [P6];omega);have es:(F9 1 1 (szV D n k) 0 s.2).set 10 (.i .i64 (U7 D n s.1 ((drV D n k).getD 6 0)))=F9 1 1 (szV D n k) 0 (s.2.set 6 (U7 D n s.1 ((drV D n k).getD 6 0))):=by
    simp only [F9,E6H,X5]
   rw [es] at s1;refine ⟨_,?_,f2.set B2.1 (by have:=P.lo.2.1;omega),(FA.trans f3).set B2.1 (by omega),B0.set (by omega) B2.1.2.1,B2.self,B3.set (by omega) B2.1.2.1⟩;rw [jU];simp only [esc,c0,lm,c6,lb,lw,f1,s1]
  ·rw [if_neg c6];refine ⟨hA,?_,PA,FA,A0,A2,A3⟩;rw [jU];simp only [esc,c0,lm,c6]
 obtain ⟨hB,e2,PB,FB,B0,B2,B3⟩:=step;have hfd:fC D n c k=B8n D n (drV D n k) many s:=by unfold fC;rw [<-D0A,<-hs]
 have hfs:=A2v (D:=D) (n:=n) (ino:=(k:Int)) (c:=c);rw [<-hfd] at PB B2;obtain ⟨S,hS⟩:∃ S,S=fC D n c k:=⟨_,rfl⟩;rw [<-hS] at PB B2 hfs;have kin:k<S.1.ino.length:=by rw [hfs.1.ino];exact i1
 obtain ⟨id,hC,c1,c2,c3,PC,FC⟩:=PB.setIno hv2 (k:=k) (l:=1::1::szV D n k::0::S.2) kin (by simp [hfs.2]);have C0:=B0.fr FC;have C2:=B2.fr FC;have C3:=B3.fr FC;have lB0:B8 hB (pV h.length 0)=A4 (pV r 0):=B9 B0.2 rfl rfl;have lB2:D4 hB 11 (pV (h.length+2) 0)=A4 (.a (encI (1::1::szV D n k::0::S.2))):=C7 B2.2 (by simp [B7,hfs.2]);have adI:D9 11 (sV id 0 S.1.ino.length 11) (iV (k:Int))=A4 (pV id (k*11)):=by rw [C9 kin];simp
 have E20:B8 hC (pV (h.length+2) 10)=A4 (iV (S.2.getD 6 0)):=by
  refine B9 C2.2 ?_ rfl;simp only [F9,E6F];rw [I1,E5Z,E5P (by rw [hfs.2];omega)];rfl
 have hfi:aI D n c k={ S.1 with ino:=S.1.ino.set k (1::1::szV D n k::0::S.2) }:=by unfold aI;rw [<-hS,E6c]
 rw [<-hfi] at PC;have run:∀ {v:Val} {h':B5},qM 200 (iV (k:Int)) (pV h.length 0) (pV (h.length+2) 0) (pV (h.length+3) 0) hB=A4 (v,h')->kI [pV r 0,iV (k:Int)] h=A4 (v,h'):=by
  intro v h' hj;refine B0C (n:=200) ?_;rw [A93];have eT:=e1.trans (e2.trans hj);rw [hT] at eT;have hB0:=hVI [rT [Cell.p r 0]];have l2:ld1 (rT I) 2=A4 (iV (szV D n k)):=by rw [A39,I2];rfl
  have lm1:ld1 (rT [Cell.i .i64 many]) 0=A4 (iV many):=rfl;have lp:ld1 (rT [Cell.p r 0]) 0=A4 (pV r 0):=rfl;have sm:st1 (rT [o0]) 0 (.i .i64 many)=rT [.i .i64 many]:=rfl;generalize [o0,o0,o0,o0,o0,o0,o0,o0,o0,o0,o0]=zz at *;generalize vwC D.length n m f=V at *;simp only [esc,bQ,R4,fN,U4,W2,M6,xD,B1d,kU,oU,Nat.reduceAdd,lV,hB0,hIl,hzl,z11,l2,lp,sm,lm1,ef,hBl,E44];exact eT
 unfold iZ;rw [<-hS,<-D0A];by_cases cz:S.2.getD 6 0=0
 ·rw [if_pos cz];refine ⟨hC,run ?_,PC,FB.trans FC⟩;rw [vO];rw [cz] at E20;simp only [esc,Nat.reduceAdd,lB0,c1,lB2,adI,c3,E20];rfl
 ·rw [if_neg cz];have hBk:=bP (n:=n) (m:=m) (no:=S.2.getD 6 0) (h:=hC) hD (hv.since PC.lo);obtain ⟨hE,f1,f2,f3⟩:=E1f (many:=many) (b:=blk D (S.2.getD 6 0)) hv2 PC C3 C0 (O9 hD);have D0:=C0.fr f3;have D2:=C2.fr f3;have hsm:=xP (D:=D) (n:=n) (many:=many) (e:=128) (k:=0) (s:=(aI D n c k,blk D (S.2.getD 6 0)));have bl:(cP D n many 128 0 (aI D n c k,blk D (S.2.getD 6 0))).1.blocks.length<=100000:=by
   rw [hsm.blocks];dsimp only;rw [hfi];dsimp only;rw [hfs.1.blocks];exact h1
  have ml:(cP D n many 128 0 (aI D n c k,blk D (S.2.getD 6 0))).1.made.length<=100000:=by
   rw [hsm.made];dsimp only;rw [hfi];dsimp only;rw [hfs.1.made];exact h2
  obtain ⟨hF,g1,g2,g3⟩:=D14 (no:=S.2.getD 6 0) hv2 f2 (B2X (e:=128) (k:=0) (s:=(aI D n c k,blk D (S.2.getD 6 0))) (by omega) (O9 hD)) bl ml;refine ⟨hF,run ?_,g2,((FB.trans FC).trans f3).trans g3⟩;have lC0:B8 hC (pV h.length 0)=A4 (pV r 0):=B9 C0.2 rfl rfl;have lE0:B8 hE (pV h.length 0)=A4 (pV r 0):=B9 D0.2 rfl rfl;have E5k:B8 hE (pV (h.length+2) 10)=A4 (iV (S.2.getD 6 0)):=by
   refine B9 D2.2 ?_ rfl;simp only [F9,E6F];rw [I1,E5Z,E5P (by rw [hfs.2];omega)];rfl
  have lCV:=PC.view;have emk:B5U 98 [pV (h.length+3) 0,pV h.length 0]=A4 (.c (.f 98 [(h.length+3,0),(h.length,0)])):=rfl;rw [vO];generalize S.2.getD 6 0=no at *;generalize B4 (cP D n many 128 0 (aI D n c k,blk D no)).2=B2 at *;generalize B4 (blk D no)=B1 at *;generalize vwC D.length n m f=V at *;simp only [esc,Nat.reduceAdd,lB0,c1,lB2,adI,c3,E20,cz,lC0,lCV,hBk,emk,f1,lE0,E5k,g1];rfl
end
def A0p (no:Int):Nat->Nat->List Int->List Int
 | 0,_,t=>t
 | e+1,i,t=>A0p no e (i+1) (if t.getD i 0=no then t.set i 0 else t)
def A8G {no:Int}:∀ {e i:Nat} {t:List Int},(A0p no e i t).length=t.length
 | 0,_,_=>rfl
 | e+1,i,t=>by
  rw [A0p,A8G];split<;>simp
def mK (D:Dev) (n:Int) (s:Cl × List Int) (no:Int):Cl × List Int:=(eU D n s.1 no,if U7 D n s.1 no=0 then A0p no 32 0 s.2 else s.2)
def oW (D:Dev) (n:Int) (s:Cl × List Int) (L:List Int):Cl × List Int:=L.foldl (mK D n) s
def C0F {D:Dev} {n no:Int} {s:Cl × List Int}:(mK D n s no).2.length=s.2.length:=by
 unfold mK;dsimp only;split
 ·exact A8G
 ·rfl
def B2T {D:Dev} {n:Int}:∀ {L:List Int} {s:Cl × List Int},(oW D n s L).2.length=s.2.length
 | [],_=>rfl
 | no::L,s=>by
  show (oW D n (mK D n s no) L).2.length=_;rw [B2T,C0F]
def iI {D:Dev} {n:Int}:∀ {L:List Int} {s:Cl × List Int},SameC s.1 (oW D n s L).1
 | [],_=>.rfl' _
 | no::L,s=>by
  show SameC s.1 (oW D n (mK D n s no) L).1;have h2:SameC (eU D n s.1 no) (oW D n (mK D n s no) L).1:=iI (D:=D) (n:=n) (L:=L) (s:=mK D n s no);exact (rS ..).trans h2
section
variable {D:Dev} {n m:Int} {f:Cell} {g:B5} {r:Nat} {c:Cl} {h:B5}
def C1e {no d:Int} {px q M:Nat} {w x4 v11 v12 v13:Val} {h0:B5} (h0g:g.length<=h0.length) (a0:h0.length<=px):∀ (e i M2:Nat) (t:List Int) (h:B5),i+e=32->e<M2->t.length=32->WP D n m f g r c h->Fr r h0 h->LocV h r px (encI (d::t)) ->
  ∃ h',vN q M M2 w (pV px 0) x4 (iV no) v11 v12 v13 (iV (i:Int)) h=vL q M w (pV px 0) x4 v11 v12 v13 h'/\WP D n m f g r c h'/\Fr r h0 h'/\LocV h' r px (encI (d::A0p no e i t))/\h'.length=h.length/\∀ j,j≠px->rd h' j=rd h j
 | e,i,0,t,h,_,hM,_,_,_,_=>by omega
 | 0,i,M2+1,t,h,hi,hM,ht,P,F,hx=>by
  have c0:¬ ((i:Int)<32):=by omega
  refine ⟨h,?_,P,F,hx,rfl,λ_ _=>rfl⟩;rw [eJ];simp only [esc,c0]
 | e+1,i,M2+1,t,h,hi,hM,ht,P,F,hx=>by
  have c0:((i:Int)<32):=by omega
  have E2H:i<32:=by omega
  have ad:I3 32 1 (pV px 1) (iV (i:Int))=A4 (pV px (1+i)):=by rw [J5 E2H];simp
  have l1:B8 h (pV px (1+i))=A4 (iV (t.getD i 0)):=by
   refine B9 hx.2 ?_ rfl;rw [Nat.add_comm,I1,E6F,E5Z,E5P (by omega)];rfl
  have w1:=D3 (show i+1<9223372036854775808 by omega);by_cases cz:t.getD i 0=no
  ·have s1:=G8 (x:=o0) (off:=1+i) hx.2 (by simp [B7,ht];omega);have es:(encI (d::t)).set (1+i) o0=encI (d::t.set i 0):=by rw [X5,Nat.add_comm,E6H]
   rw [es] at s1;obtain ⟨h',e1,e2,e3,e4,e5,e6⟩:=C1e (no:=no) (d:=d) (q:=q) (M:=M) (w:=w) (x4:=x4) (v11:=v11) (v12:=v12) (v13:=v13) h0g a0 e (i+1) M2 (t.set i 0) _ (by omega) (by omega) (by simp [ht]) (P.set hx.1 (by omega)) (F.set hx.1 a0) hx.self;refine ⟨h',?_,e2,e3,by rw [A0p,if_pos cz];exact e4,by rw [e5];simp,λj hj=>by rw [e6 j hj,B6 (Ne.symm hj)]⟩;rw [eJ];simp only [esc,c0,ad,l1,cz,s1,pJ,w1];exact e1
  ·obtain ⟨h',e1,e2,e3,e4,e5,e6⟩:=C1e (no:=no) (d:=d) (q:=q) (M:=M) (w:=w) (x4:=x4) (v11:=v11) (v12:=v12) (v13:=v13) h0g a0 e (i+1) M2 t h (by omega) (by omega) ht P F hx;refine ⟨h',?_,e2,e3,by rw [A0p,if_neg cz];exact e4,e5,e6⟩;rw [eJ];simp only [esc,c0,ad,l1,cz,pJ,w1];exact e1
def C0G {d:Int} {L:List Int} {px p4 sid q:Nat} {h0:B5} (h0g:g.length<=h0.length) (a0:h0.length<=px) (a1:h0.length<=p4) (n1:px≠p4) (n2:px≠sid) (hq:40<=q) (hL:L.length<1000000):∀ (e i M:Nat) (s:Cl × List Int) (h:B5),i+e=L.length->e<M->s.2.length=32->WP D n m f g r s.1 h->Fr r h0 h->LocV h r px (encI (d::s.2))->(∃ z,z.length=33/\LocV h r p4 z)->LocV h r sid (encI L) ->
  ∃ h',vM q M (pV r 0) (pV px 0) (pV p4 0) (sV sid 0 L.length 1) (iV (L.length:Nat)) (iV (i:Int)) h=A4 (.a (encI (d::(oW D n s (L.drop i)).2)),h')/\WP D n m f g r (oW D n s (L.drop i)).1 h'/\Fr r h0 h'
 | e,i,0,s,h,_,hM,_,_,_,_,_,_=>by omega
 | 0,i,M+1,s,h,hi,hM,hs,P,F,hx,hz,hl=>by
  have c0:¬ ((i:Int)<(L.length:Nat)):=by omega
  obtain ⟨z,hzl,hz⟩:=hz;have h33:(encI (d::s.2)).length=33:=by simp [B7,hs]
  have l1:=C7 (n:=33) hx.2 h33;have s1:=storeAll (n:=33) (xs:=encI (d::s.2)) hz.2 hzl h33;have hz2:=hz.self (cs':=encI (d::s.2));have l2:=C7 (n:=33) hz2.2 h33;rw [E56 (by omega)];refine ⟨h.set p4 (rT (encI (d::s.2))),?_,P.set hz.1 (by omega),F.set hz.1 a1⟩;rw [eH];show _=A4 (Val.a (encI (d::s.2)),_);generalize encI (d::s.2)=B at *;simp only [esc,c0,l1,s1,l2]
 | e+1,i,M+1,s,h,hi,hM,hs,P,F,hx,hz,hl=>by
  have c0:((i:Int)<(L.length:Nat)):=by omega
  have P6:i<L.length:=by omega
  have ad:D9 1 (sV sid 0 L.length 1) (iV (i:Int))=A4 (pV sid i):=by rw [C9 P6];simp
  have l1:B8 h (pV sid i)=A4 (iV L[i]):=B9 hl.2 (by rw [I1,E5P P6];rfl) rfl;have w1:=D3 (show i+1<9223372036854775808 by omega);obtain ⟨h1,f1,f2,f3⟩:=B8z (no:=L[i]) P;have hx1:=hx.fr f3;have hl1:=hl.fr f3;obtain ⟨z,hzl,hz⟩:=hz;have hz1:=hz.fr f3;rw [E5X P6];have eb:∀ T,oW D n s (L[i]::T)=oW D n (mK D n s L[i]) T:=λT=>rfl
  rw [eb];have hbl:=C0F (D:=D) (n:=n) (s:=s) (no:=L[i]);by_cases cz:U7 D n s.1 L[i]=0
  ·have eB:mK D n s L[i]=(eU D n s.1 L[i],A0p L[i] 32 0 s.2):=by unfold mK;rw [if_pos cz]
   obtain ⟨h2,e1,e2,e3,e4,e5,e6⟩:=C1e (no:=L[i]) (d:=d) (q:=q) (M:=M) (w:=pV r 0) (x4:=pV p4 0) (v11:=sV sid 0 L.length 1) (v12:=iV (L.length:Nat)) (v13:=iV (i:Int)) h0g a0 32 0 q s.2 h1 (by omega) (by omega) hs f2 (F.trans f3) hx1;have keep:∀ {id:Nat} {cs:List Cell},LocV h1 r id cs->px≠id->LocV h2 r id cs:=λ{id cs} a T1=>by
    have er:rd h2 r=rd h1 r:=e6 r (Ne.symm hx1.1.2.1);exact ⟨⟨by rw [e5];exact a.1.1,a.1.2.1,λhn=>a.1.2.2 ((Nam.same er).1 hn)⟩,by rw [e6 id (Ne.symm T1)];exact a.2⟩
   have E5j:(A0p L[i] 32 0 s.2).length=32:=by rw [A8G];exact hs
   rw [eB];generalize A0p L[i] 32 0 s.2=Z at *;obtain ⟨h',k1,k2⟩:=C0G (d:=d) (q:=q) h0g a0 a1 n1 n2 hq hL e (i+1) M (eU D n s.1 L[i],Z) h2 (by omega) (by omega) E5j e2 e3 e4 ⟨z,hzl,keep hz1 n1⟩ (keep hl1 n2);refine ⟨h',?_,k2⟩;rw [eH];rw [cz] at f1;rw [pI] at e1;have c00:((0:Nat):Int)=0:=rfl;rw [c00] at e1;simp only [esc,c0,ad,l1,f1];refine e1.trans ?_;simp only [esc,w1];exact k1
  ·have eB:mK D n s L[i]=(eU D n s.1 L[i],s.2):=by unfold mK;rw [if_neg cz]
   rw [eB] at hbl ⊢;obtain ⟨h',k1,k2⟩:=C0G (d:=d) (q:=q) h0g a0 a1 n1 n2 hq hL e (i+1) M (eU D n s.1 L[i],s.2) h1 (by omega) (by omega) hs f2 (F.trans f3) hx1 ⟨z,hzl,hz1⟩ hl1;refine ⟨h',?_,k2⟩;rw [eH];simp only [esc,c0,ad,l1,f1,cz,pI,w1];exact k1
def X7 (d:Int) (t:List Int):Int:=if 0<=d/\d<=5 then d else 0
def gD (d:Int) (t:List Int):List Int:=if 0<=d/\d<=5 then sG d t (D1 d) else zI 32
def B6c (d:Int) (t:List Int):C9k d t=X7 d t::gD d t:=by
 unfold C9k X7 gD;split<;>rfl
def A0b {d:Int} {t:List Int}:(gD d t).length=32:=by
 have:=D3G (d:=d) (t:=t);rw [B6c] at this;simpa using this
def D4T {d:Int} {t:List Int} (hv:∃ id cs,f=.f id cs) (P:WP D n m f g r c h) (ht:t.length=32) :
  ∃ h',dJ [pV r 0,.a (encI (d::t))] h=A4 (.a (encI (X7 d t::(oW D n (c,gD d t) (M7 (gD d t) (D1 (X7 d t)))).2)),h')/\WP D n m f g r (oW D n (c,gD d t) (M7 (gD d t) (D1 (X7 d t)))).1 h'/\Fr r h h':=by
 have hft:=A0b (d:=d) (t:=t);have h33:(encI (d::t)).length=33:=by simp [B7,ht]
 have hF:=λh=>D1W (d:=d) (h:=h) ht
 rw [B6c] at hF;have C66:(encI (X7 d t::gD d t)).length=33:=by simp [B7,hft]
 have E2R:(o0::E5R 32 o0).length=33:=by simp
 obtain ⟨z,hz⟩:∃ z,z=o0::E5R 32 o0:=⟨_,rfl⟩;obtain ⟨d',hd'⟩:∃ d',d'=X7 d t:=⟨_,rfl⟩;obtain ⟨t',ht'⟩:∃ t',t'=gD d t:=⟨_,rfl⟩;rw [<-hd',<-ht'] at hF C66 ⊢;rw [<-ht'] at hft;have hB:=xT (d:=d') (t:=t') (h:=h++[rT (encI (d'::t')),rT z]) hft;obtain ⟨L,hL⟩:∃ L,L=M7 t' (D1 d'):=⟨_,rfl⟩;rw [<-hL] at hB ⊢;obtain ⟨T,hT⟩:∃ T,T=[rT (encI (d'::t')),rT z,rT (encI L)]:=⟨_,rfl⟩;have P1:=P.more hv T;have F1:Fr r h (h++T):=Fr.low ((Low.refl (E5V _)).new _) P.rlt;have L0:LocV (h++T) r h.length (encI (d'::t')):=LocV.new (k:=0) hv P (by rw [hT];rfl);have L1:LocV (h++T) r (h.length+1) z:=LocV.new (k:=1) hv P (by rw [hT];rfl);have L2:LocV (h++T) r (h.length+2) (encI L):=LocV.new (k:=2) hv P (by rw [hT];rfl);have hLl:L.length<=32:=by rw [hL];exact E6w (gQ _ _) (P5 _)
 obtain ⟨h',e1,e2,e3⟩:=C0G (q:=100) P.lo.2.1 (E5V _) (show h.length<=h.length+1 by omega) (by omega) (show h.length≠h.length+2 by omega) (by omega) (by omega) L.length 0 100 (c,t') (h++T) (by omega) (by omega) hft P1 F1 L0 ⟨z,by rw [hz];exact E2R,L1⟩ L2;rw [E6a] at e1 e2;refine ⟨h',A5J (n:=100) ?_,e2,e3⟩;rw [A5F];have ez:([o0]++E5R 32 o0)=z:=by rw [hz];rfl
 rw [ez];rw [hT] at e1;have l33:ldN (rT (encI (d::t))) 0 33=A4 (.a (encI (d::t))):=kU h33;have l33':ldN (rT (encI (d'::t'))) 0 33=A4 (.a (encI (d'::t'))):=kU C66;have s33:stN (rT (encI (d::t))) 0 33 (encI (d'::t'))=rT (encI (d'::t')):=oU h33 C66;generalize encI (d::t)=X at *;generalize encI (d'::t')=X' at *;simp only [esc,bQ,R4,W2,M6,l33,l33',s33,hF];simp only [esc] at hB;simp only [esc,hB];exact e1
end
abbrev Spt:=Int × Slt
def wY (D:Dev) (L:List Int):List Spt:=L.flatMap λno=>(O6 (blk D no)).map λs=>(no,s)
def atH (D:Dev) (X:List Int) (e:Spt):Bool:=decide (R8 X e.2.2.1=e.1)&&decide (hmS D X e.2.2.1=A4 e.2)
def I7 (D:Dev) (X:List Int) (l:List Spt):W8:=(l.filter (atH D X)).map (·.2.2.1)
def B1V (D:Dev) (X:List Int) (nm:List UInt8):Int:=((hmS D X nm).getD (0,[],0)).2.2
def oZ (D:Dev) (X:List Int) (L:List Int):List Ent:=(gX (I7 D X (wY D L))).map λs=>(s,B1V D X s)
def D6M {neg:Bool} (p q:Slt):aeq neg [.i .i64,.s,.i .i64] (.a (slC (A4 p))) (.a (slC (A4 q)))=A4 (bV (bif neg then !(decide (A4 p=A4 q)) else decide (A4 p=A4 q))):=by
 simp only [aeq];rw [if_pos ⟨rfl,rfl⟩];have:decide (slC (A4 p)=slC (A4 q))=decide (A4 p=A4 q):=by
  apply Bool.eq_iff_iff.2;simp only [decide_eq_true_eq,slC,List.cons.injEq,Cell.i.injEq,Cell.s.injEq,true_and,and_true,E5W];obtain ⟨p1,p2,p3⟩:=p;obtain ⟨q1,q2,q3⟩:=q;simp only [E50];constructor
  ·rintro ⟨h1,h2,h3⟩;exact ⟨by omega,h2,h3⟩
  ·rintro ⟨h1,h2,h3⟩;exact ⟨by omega,h2,h3⟩
 rw [this]
def C2H {D:Dev} {X:List Int} {s:List Spt} {e:Spt}:I7 D X (s++[e])=I7 D X s++(if atH D X e=A5 then [e.2.2.1] else []):=by
 unfold I7;rw [List.filter_append,E6N,List.filter_cons];by_cases c:atH D X e=A5<;>simp [c]
structure NmS (D:Dev) (X L:List Int) (g:B5) (s:List Spt) (id:Nat) (h:B5):Prop where
 low:Low g.length g h
 rx:rd h g.length=rT (encI X)
 rm:∃ es,rd h (g.length+2)=A4 (T8 es)/\MapN es (B1V D X) (I7 D X s)
 rs:rd h (g.length+4)=rT (encI L)
 rl:rd h id=rT (encS (I7 D X s))
 idg:id=g.length+3\/g.length+5<=id
def NmS.more {D:Dev} {X L:List Int} {g h:B5} {s:List Spt} {id:Nat} (S:NmS D X L g s id h) (t:B5):NmS D X L g s id (h++t) :=
 ⟨S.low.new _,C5 S.rx,by obtain ⟨es,h1,h2⟩:=S.rm;exact ⟨es,C5 h1,h2⟩,C5 S.rs,C5 S.rl,S.idg⟩
section
variable {D:Dev} {n m:Int} {f:Cell} {g:B5} {r:Nat} {h:B5}
def E25 {d:Int} {t L:List Int} {s:List Spt} {id lst j q m0 M:Nat} {l:List Slt} {x:Slt} {no:Int} {x18 x19 x20:Val} (hD:okD D) (hv:IsView g f D) (hw:VwR g r (vwC D.length n m f)) (ht:t.length=32) (S:NmS D (d::t) L g s id h) (hN:(I7 D (d::t) s).length<=1000000) (hs:x.2.1.length<=24)
  (hl:rd h lst=rT (uR l)) (hx:l[j]?=A4 x) (hl5:g.length+5<=lst) (T1:lst≠id) (hj:l.length<=7) :
  ∃ bT h',aZ q m0 (M+1) (.c (.p r 0)) (.c (.p g.length 0)) (.c (.m (g.length+2))) (.c (.sl id 0 (I7 D (d::t) s).length 1)) (.c (.i .i64 no)) x18 x19 x20 (.c (.sl lst 0 l.length 3)) (.c (.i .i64 (l.length:Nat))) (.c (.i .i64 (j:Int))) h =
   aZ q m0 M (.c (.p r 0)) (.c (.p g.length 0)) (.c (.m (g.length+2))) (.c (.sl bT 0 (I7 D (d::t) (s++[(no,x)])).length 1)) (.c (.i .i64 no)) x18 x19 x20 (.c (.sl lst 0 l.length 3)) (.c (.i .i64 (l.length:Nat))) (.c (.i .i64 ((j+1:Nat):Int))) h' /\
   NmS D (d::t) L g (s++[(no,x)]) bT h'/\rd h' lst=rT (uR l)/\lst≠bT:=by
 have hjl:j<l.length:=(List.getElem?_eq_some_iff.1 hx).1;have c0:((j:Int)<(l.length:Nat)):=by omega
 have ad:D9 3 (.c (.sl lst 0 l.length 3)) (.c (.i .i64 (j:Int)))=A4 (.c (.p lst (j*3))):=by rw [C9 hjl];simp
 have hlen:=A0l (l:=l);have l3:D4 h 3 (.c (.p lst (j*3)))=A4 (.a (slC (A4 x))):=by rw [dR hl (by rw [hlen];omega) rfl,D6L hx]
 obtain ⟨k,nm,i⟩:=x;have w1:=D3 (show j+1<9223372036854775808 by omega);obtain ⟨h1,e1⟩:∃ h1,h1=h++[rT (slC (A4 (k,nm,i)))]:=⟨_,rfl⟩;have s3:E5 (h++[rT [o0,.s [],o0]]) 3 (.c (.p h.length 0)) (.a (slC (A4 (k,nm,i))))=A4 h1:=by rw [M6,e1];rfl
 have S1:NmS D (d::t) L g s id h1:=e1 ▸ S.more _;have lX:D4 h1 33 (.c (.p g.length 0))=A4 (.a (encI (d::t))):=C7 S1.rx (by simp [B7,ht]);have lN:B8 h1 (.c (.p h.length 1))=A4 (.c (.s nm)):=by rw [e1,U4];rfl
 have hH:=D6i (n:=n) (m:=m) (f:=f) (r:=r) (d:=d) (t:=t) (nm:=nm) (h:=h1) hD (hv.since S1.low) (hw.since S1.low) ht (by dsimp only at hs;omega);obtain ⟨h2,e2⟩:∃ h2,h2=h1++[rT (C1a (R8 (d::t) nm) (hmS D (d::t) nm))]:=⟨_,rfl⟩;have s4:E5 (h1++[rT [o0,o0,.s [],o0]]) 4 (.c (.p h1.length 0)) (.a (C1a (R8 (d::t) nm) (hmS D (d::t) nm)))=A4 h2:=by
  rw [M6,e2];cases hmS D (d::t) nm<;>rfl
 have S2:NmS D (d::t) L g s id h2:=e2 ▸ S1.more _;have lB:B8 h2 (.c (.p h1.length 0))=A4 (.c (.i .i64 (R8 (d::t) nm))):=by rw [e2,U4];rfl
 have lS:D4 h2 3 (.c (.p h1.length 1))=A4 (.a (slC (hmS D (d::t) nm))):=by rw [e2,R4];cases hmS D (d::t) nm<;>rfl
 have rp:rd h2 h.length=rT (slC (A4 (k,nm,i))):=by rw [e2,e1];simp
 have lP:D4 h2 3 (.c (.p h.length 0))=A4 (.a (slC (A4 (k,nm,i)))):=C7 rp rfl;have lP1:B8 h2 (.c (.p h.length 1))=A4 (.c (.s nm)):=B9 rp rfl rfl;have lP2:B8 h2 (.c (.p h.length 2))=A4 (.c (.i .i64 i)):=B9 rp rfl rfl;have rl2:rd h2 lst=rT (uR l):=by rw [e2,e1];exact C5 (C5 hl)
 have no1:atH D (d::t) (no,k,nm,i)=A6->NmS D (d::t) L g (s++[(no,k,nm,i)]) id h2/\(I7 D (d::t) (s++[(no,k,nm,i)])).length=(I7 D (d::t) s).length:=by
  intro hb;have en:I7 D (d::t) (s++[(no,k,nm,i)])=I7 D (d::t) s:=by rw [C2H,hb];simp
  exact ⟨{ S2 with rm:=by rw [en];exact S2.rm,rl:=by rw [en];exact S2.rl },by rw [en]⟩
 rw [iN];cases ho:hmS D (d::t) nm with
 | none =>
  obtain ⟨n1,n2⟩:=no1 (by unfold atH;simp only [ho];simp);refine ⟨id,h2,?_,n1,rl2,T1⟩;rw [n2];rw [ho] at hH s4 lS;generalize encI (d::t)=X at *;simp only [esc,Nat.reduceAdd,c0,ad,l3,s3,lX,lN,hH,E6i,s4,bG,w1]
 | some p =>
  rw [ho] at hH s4 lS;have ea:=D6M (neg:=A6) p (k,nm,i);by_cases c1:R8 (d::t) nm=no
  ·rw [c1] at hH s4 lB;by_cases c2:p=(k,nm,i)
   ·have hb:atH D (d::t) (no,k,nm,i)=A5:=by unfold atH;simp only [ho,c1,c2];simp
    have en:I7 D (d::t) (s++[(no,k,nm,i)])=I7 D (d::t) s++[nm]:=by rw [C2H,if_pos hb]
    have hin:B1V D (d::t) nm=i:=by unfold B1V;rw [ho,c2];rfl
    obtain ⟨es,r4,hm⟩:=S2.rm;have mp:=E1g (s:=nm) (x:=i) r4 hm;have hm':=hm.put nm;rw [hin] at hm';have lt2:=C8 r4;have idr:id≠g.length+2:=by have:=S.idg;omega
    obtain ⟨h3,e3⟩:∃ h3,h3=h2.set (g.length+2) (A4 (T8 (A9G (.s nm) (.c (.i .i64 i)) es))):=⟨_,rfl⟩;rw [<-e3] at mp;have hh:h2.length=h.length+2:=by rw [e2,e1];simp
    have q1:B8 h3 (.c (.p h.length 1))=A4 (.c (.s nm)):=B9 (by rw [e3,B6 (by have:=C8 hl;omega)];exact rp) rfl rfl;have ef:E6 [Cell.s []] [(0,1,.c (.s nm))]=A4 [.s nm]:=rfl;have ril:rd h3 id=rT (encS (I7 D (d::t) s)):=by rw [e3,B6 (Ne.symm idr)];exact S2.rl
    obtain ⟨h4,b1,b2,b3,b4⟩:=C7Q (n:=(I7 D (d::t) s).length) (sz:=1) (ys:=[Cell.s nm]) ril (by rw [N8];omega) rfl (by omega) (by omega);have h3l:h3.length=h.length+2:=by rw [e3];simp [hh]
    have gS:=C8 S.rs;have ea2:aeq A6 [.i .i64,.s,.i .i64] (.a (slC (A4 p))) (.a (slC (A4 (k,nm,i))))=A4 (.c (.b A5)):=by rw [ea,c2];simp
    refine ⟨h3.length+1,h4,?_,⟨?_,?_,⟨_,?_,by rw [en];exact hm'⟩,?_,?_,by omega⟩,?_,by have:=C8 hl;omega⟩
    ·rw [en,E5T];generalize encI (d::t)=X at *;simp only [esc,Nat.reduceAdd,c0,ad,l3,s3,lX,lN,hH,E6b,s4,lB,eq_self,lS,lP,ea2,lP1,lP2,mp,q1,ef,b1,bG,w1]
    ·have l3':Low g.length g h3:=by rw [e3];exact S2.low.set (by omega) _
     exact l3'.trans (b4 _ (by have:=S.idg;omega) (by omega))
    ·exact b3 _ _ (by have:=S.idg;omega) (by rw [e3,B6 (by omega)];exact S2.rx)
    ·exact b3 _ _ (Ne.symm idr) (by rw [e3];exact C6 lt2)
    ·exact b3 _ _ (by have:=S.idg;intro e;omega) (by rw [e3,B6 (by omega)];exact S2.rs)
    ·rw [en,show encS (I7 D (d::t) s++[nm])=encS (I7 D (d::t) s)++[Cell.s nm] by simp [encS]];exact b2
    ·exact b3 _ _ T1 (by rw [e3,B6 (by omega)];exact rl2)
   ·obtain ⟨n1,n2⟩:=no1 (by unfold atH;simp only [ho];simp [c2]);have ea2:aeq A6 [.i .i64,.s,.i .i64] (.a (slC (A4 p))) (.a (slC (A4 (k,nm,i))))=A4 (.c (.b A6)):=by rw [ea];simp [c2]
    refine ⟨id,h2,?_,n1,rl2,T1⟩;rw [n2];generalize encI (d::t)=X at *;simp only [esc,Nat.reduceAdd,c0,ad,l3,s3,lX,lN,hH,E6b,s4,lB,eq_self,lS,lP,ea2,bG,w1]
  ·obtain ⟨n1,n2⟩:=no1 (by unfold atH;simp only [ho];simp [c1]);refine ⟨id,h2,?_,n1,rl2,T1⟩;rw [n2];generalize encI (d::t)=X at *;simp only [esc,Nat.reduceAdd,c0,ad,l3,s3,lX,lN,hH,E6b,s4,lB,c1,bG,w1]
end
def A6A {D:Dev} {X:List Int} {s:List Spt}:(I7 D X s).length<=s.length:=by
 unfold I7;rw [List.length_map];exact List.length_filter_le _ _
def C0B {D:Dev} {no:Int} {L:List Int}:wY D (no::L)=(O6 (blk D no)).map (λs=>(no,s))++wY D L:=by simp [wY]
section
variable {D:Dev} {n m:Int} {f:Cell} {g:B5} {r:Nat} {h:B5}
def D3Z {d:Int} {t L:List Int} {lst q m0:Nat} {l:List Slt} {no:Int} {x18 x19 x20:Val} (hD:okD D) (hv:IsView g f D) (hw:VwR g r (vwC D.length n m f)) (ht:t.length=32) (hl7:l.length<=7) (oL:∀ x∈l,x.2.1.length<=24) (hl5:g.length+5<=lst) :
  ∀ (e j M:Nat) (s:List Spt) (id:Nat) (h:B5),j+e=l.length->e<M->s.length+e<=100000->NmS D (d::t) L g s id h->rd h lst=rT (uR l)->lst≠id ->
  ∃ bT h',aZ q m0 M (pV r 0) (pV g.length 0) (.c (.m (g.length+2))) (sV id 0 (I7 D (d::t) s).length 1) (iV no) x18 x19 x20 (sV lst 0 l.length 3) (iV (l.length:Nat)) (iV (j:Int)) h =
   bnd (N4 .add x20 (iV 1)) (λv=>aX q m0 (pV r 0) (pV g.length 0) (.c (.m (g.length+2))) (sV bT 0 (I7 D (d::t) (s++(l.drop j).map λx=>(no,x))).length 1) x18 x19 v h')/\NmS D (d::t) L g (s++(l.drop j).map λx=>(no,x)) bT h'
 | e,j,0,s,id,h,_,hM,_,_,_,_=>by omega
 | 0,j,M+1,s,id,h,hj,hM,hn,S,hr,T1=>by
  have c0:¬ ((j:Int)<(l.length:Nat)):=by omega
  rw [E56 (by omega),List.map_nil,E6m];refine ⟨id,h,?_,S⟩;rw [iN];simp only [M9,tX,c0,decide_false,B73]
 | e+1,j,M+1,s,id,h,hj,hM,hn,S,hr,T1=>by
  have hjl:j<l.length:=by omega
  have dF:=A6A (D:=D) (X:=d::t) (s:=s);obtain ⟨id1,h1,e1,e2,e3,e4⟩:=E25 (q:=q) (m0:=m0) (M:=M) (no:=no) (x18:=x18) (x19:=x19) (x20:=x20) hD hv hw ht S (by omega) (oL _ (E6v hjl)) hr (E5P hjl) hl5 T1 hl7;obtain ⟨bT,h',f1,f2⟩:=D3Z (q:=q) (m0:=m0) (no:=no) (x18:=x18) (x19:=x19) (x20:=x20) hD hv hw ht hl7 oL hl5 e (j+1) M (s++[(no,l[j])]) id1 h1 (by omega) (by omega) (by simp;omega) e2 e3 e4;rw [E5Y,List.singleton_append] at f1 f2;rw [E5X hjl,E6X];exact ⟨bT,h',e1.trans f1,f2⟩
def D5o {d:Int} {t L:List Int} {q:Nat} (hD:okD D) (hv:IsView g f D) (hw:VwR g r (vwC D.length n m f)) (ht:t.length=32) (hq:8<=q) (hL:L.length<=32) :
  ∀ (e i M:Nat) (s:List Spt) (id:Nat) (h:B5),i+e=L.length->e<M->s.length<=7*i->NmS D (d::t) L g s id h ->
  ∃ M' bT h',aX q M (pV r 0) (pV g.length 0) (.c (.m (g.length+2))) (sV id 0 (I7 D (d::t) s).length 1) (sV (g.length+4) 0 L.length 1) (iV (L.length:Nat)) (iV (i:Int)) h =
   aX q (M'+1) (pV r 0) (pV g.length 0) (.c (.m (g.length+2))) (sV bT 0 (I7 D (d::t) (s++wY D (L.drop i))).length 1) (sV (g.length+4) 0 L.length 1) (iV (L.length:Nat)) (iV (L.length:Nat)) h'/\NmS D (d::t) L g (s++wY D (L.drop i)) bT h'/\(s++wY D (L.drop i)).length<=7*L.length:=by
 intro e
 induction e with
 | zero =>
  intro i M s id h hi hM hn S;obtain ⟨M,rfl⟩:∃ M',M=M'+1:=⟨M-1,by omega⟩;have ei:i=L.length:=by omega
  subst ei;rw [List.drop_length,show wY D []=[] from rfl,E6m];exact ⟨M,id,h,rfl,S,hn⟩
 | succ e ih =>
  intro i M s id h hi hM hn S;obtain ⟨M,rfl⟩:∃ M',M=M'+1:=⟨M-1,by omega⟩;have P6:i<L.length:=by omega
  have c0:(i:Int)<(L.length:Nat):=by omega
  have ad:D9 1 (sV (g.length+4) 0 L.length 1) (iV (i:Int))=A4 (pV (g.length+4) i):=by rw [C9 P6];simp
  have l1:B8 h (pV (g.length+4) i)=A4 (iV L[i]):=B9 S.rs (by rw [I1,E5P P6];rfl) rfl;have lV:=(hw.since S.low).load;have hB:=bP (n:=n) (m:=m) (no:=L[i]) hD (hv.since S.low);obtain ⟨v,tt,b1,b2,b3⟩:=A8V (b:=blk D L[i]) (h:=h) (O9 hD);have hlen:=b2.len;have h7:=eY (blk D L[i]);have w1:=D3 (show i+1<9223372036854775808 by omega);have oL:∀ x∈O6 (blk D L[i]),x.2.1.length<=24:=λx hx=>by
   have:=A1M (B22 hx).1;exact this
  have main:∃ id1 h1,aZ q M q (pV r 0) (pV g.length 0) (.c (.m (g.length+2))) (sV id 0 (I7 D (d::t) s).length 1) (iV L[i]) (sV (g.length+4) 0 L.length 1) (iV (L.length:Nat)) (iV (i:Int)) v (iV ((O6 (blk D L[i])).length:Nat)) (iV ((0:Nat):Int)) (h++tt) =
    bnd (N4 .add (iV (i:Int)) (iV 1)) (λv=>aX q M (pV r 0) (pV g.length 0) (.c (.m (g.length+2))) (sV id1 0 (I7 D (d::t) (s++(O6 (blk D L[i])).map λx=>(L[i],x))).length 1) (sV (g.length+4) 0 L.length 1) (iV (L.length:Nat)) v h1)/\NmS D (d::t) L g (s++(O6 (blk D L[i])).map λx=>(L[i],x)) id1 h1:=by
   rcases b3 with ⟨rfl,rfl,b3⟩ | ⟨rfl,rfl⟩
   ·rw [b3];refine ⟨id,h,?_,by simpa using S⟩;obtain ⟨q',rfl⟩:∃ q',q=q'+1:=⟨q-1,by omega⟩;have c00:¬ ((0:Nat):Int)<((([]:List Slt).length:Nat):Int):=by simp
    rw [iN,E6m,List.map_nil,E6m];simp only [M9,tX,c00,decide_false,B73]
   ·have gS:=C8 S.rs;have idl:=C8 S.rl;obtain ⟨bT,h',f1,f2⟩:=D3Z (lst:=h.length) (q:=q) (m0:=M) (no:=L[i]) (x18:=sV (g.length+4) 0 L.length 1) (x19:=iV (L.length:Nat)) (x20:=iV (i:Int)) (l:=O6 (blk D L[i])) hD hv hw ht h7 oL (by omega) (O6 (blk D L[i])).length 0 q s id (h++[rT (uR (O6 (blk D L[i])))]) (by omega) (by omega) (by omega) (S.more _) (by simp) (by omega);rw [E6a] at f1 f2;exact ⟨bT,h',f1,f2⟩
  obtain ⟨id1,h1,m1,m2⟩:=main;obtain ⟨M',bT,h',f1,f2,f3⟩:=ih (i+1) M _ id1 h1 (by omega) (by omega) (by simp;omega) m2;rw [E5Y,<-C0B,<-E5X P6] at f1 f2 f3;refine ⟨M',bT,h',?_,f2,f3⟩;rw [uC];have e00:((0:Nat):Int)=0:=rfl;rw [e00] at m1;generalize vwC D.length n m f=V at *;simp only [esc,E6E,c0,ad,l1,lV,hB,b1,hlen];simp only [zR,M9,w1] at m1;exact m1.trans f1
def D9B {F:List UInt8->Int} {B:B5} {b q mid sid:Nat} {S:W8} {es:Y0} (hm:MapN es F S) (hb:b<=B.length) (hs:rd B sid=rT (encS S)) (h4:rd B mid=A4 (T8 es)) (h62:S.length<1000000) :
  ∀ (e i M id:Nat) (h:B5),i+e=S.length->e<M->Low b B h->id≠sid->id≠mid->b<=id->(∀ j r,j=sid\/j=mid->rd B j=A4 r->rd h j=A4 r)->rd h id=rT (W3 ((S.take i).map λs=>(s,F s)))->B.length<=h.length ->
   ∃ v' h',A0L q M (.c (.m mid)) (.c (.sl id 0 i 2)) (.c (.sl sid 0 S.length 1)) (.c (.i .i64 (S.length:Int))) (.c (.i .i64 (i:Int))) h=A4 (v',h')/\Out b h' v' 2 S.length (W3 (S.map λs=>(s,F s)))
 | e,i,0,id,h,_,hm,_,_,_,_,_,_,_=>by omega
 | 0,i,M+1,id,h,hi,hm0,hlow,ns,n4,hbi,hk,hr,hl=>by
  have c0:¬ (i:Int)<(S.length:Nat):=by omega
  have ei:i=S.length:=by omega
  subst ei;rw [uD];rw [List.take_length] at hr;refine ⟨.c (.sl id 0 S.length 2),h,by simp only [M9,tX,c0,decide_false,B73],by rw [B2W];simp,id,rfl,hbi,hr⟩
 | e+1,i,M+1,id,h,hi,hm0,hlow,ns,n4,hbi,hk,hr,hl=>by
  have P6:i<S.length:=by omega
  have c0:(i:Int)<(S.length:Nat):=by omega
  have ad:D9 1 (.c (.sl sid 0 S.length 1)) (.c (.i .i64 (i:Int)))=A4 (.c (.p sid i)):=by rw [C9 P6];simp
  have l1:B8 h (.c (.p sid i))=A4 (.c (.s S[i])):=B9 (hk sid _ (.inl rfl) hs) (by rw [A56,E5P P6];rfl) rfl;have lk:=D9s (s:=S[i]) (hk _ _ (.inr rfl) h4) hm (E6v P6);have ef:E6 [Cell.s [],o0] [(0,1,.c (.s S[i])),(1,1,.c (.i .i64 (F S[i])))]=A4 (X1 (A4 (S[i],F S[i]))):=rfl;have ef2:E6 [Cell.s [],o0] [(0,2,.a (X1 (A4 (S[i],F S[i]))))]=A4 (X1 (A4 (S[i],F S[i]))):=rfl;have el:((S.take i).map λs=>(s,F s)).length=i:=by simp;omega
  obtain ⟨h2,a1,a2,a3,a4⟩:=C7Q (n:=i) (sz:=2) (ys:=X1 (A4 (S[i],F S[i]))) hr (by rw [B2W,el]) rfl (by omega) (by omega);have et:W3 ((S.take i).map λs=>(s,F s))++X1 (A4 (S[i],F S[i]))=W3 ((S.take (i+1)).map λs=>(s,F s)):=by
   rw [List.take_add_one,E5P P6,E6N,W3];simp [W3]
  rw [et] at a2;have w1:=D3 (show i+1<9223372036854775808 by omega);have E31:=C8 a2;obtain ⟨v',h',f1,f2⟩:=D9B (q:=q) hm hb hs h4 h62 e (i+1) M (h.length+1) h2 (by omega) (by omega) (hlow.trans (a4 _ hbi (by omega)))
   (λe1=>by have:=C8 hs;omega) (λe1=>by have:=C8 h4;omega) (by omega) (λj r hj hjr=>a3 _ _ (by rcases hj with rfl | rfl<;>omega) (hk j r hj hjr)) a2 (by omega)
  rw [uD];refine ⟨v',h',?_,f2⟩;simp only [M9,tX,c0,decide_true,C2i,ad,l1,lk,ef,ef2,a1,zR,w1];exact f1
def D9x {d:Int} {t:List Int} (hD:okD D) (hv:IsView h f D) (hr:VwR h r (vwC D.length n m f)) (ht:t.length=32) :
  iE [.c (.p r 0),.a (encI (d::t))] h=A4 (.c (.sl h.length 0 (oZ D (d::t) (M7 t (D1 d))).length 2),h++[rT (W3 (oZ D (d::t) (M7 t (D1 d))))]):=by
 have h33:(encI (d::t)).length=33:=by simp [B7,ht]
 have hLl:(M7 t (D1 d)).length<=32:=E6w (gQ _ _) (P5 _);have key:∀ g,IsView g f D->VwR g r (vwC D.length n m f)->∃ v g',qF 300 [.c (.p r 0),.a (encI (d::t))] g=A4 (v,g')/\Out g.length g' v 2 (oZ D (d::t) (M7 t (D1 d))).length (W3 (oZ D (d::t) (M7 t (D1 d)))):=by
  intro g hv hw;have hB:=xT (d:=d) (t:=t) (h:=g++[rT (encI (d::t)),rT [],A4 (T8 []),rT []]) ht;obtain ⟨L,hL⟩:∃ L,L=M7 t (D1 d):=⟨_,rfl⟩;rw [<-hL] at hB hLl ⊢;obtain ⟨G,hG⟩:∃ G,G=g++[rT (encI (d::t)),rT [],A4 (T8 []),rT [],rT (encI L)]:=⟨_,rfl⟩;have S0:NmS D (d::t) L g [] (g.length+3) G:=by
   rw [hG];exact ⟨(Low.refl (E5V _)).new _,by simp,⟨[],by simp,MapN.nil _⟩,by simp,by simp [I7,encS],.inl rfl⟩
  obtain ⟨M',id,H,e1,S,hn⟩:=D5o (q:=300) hD hv hw ht (by omega) hLl L.length 0 300 [] (g.length+3) G (by omega) (by omega) (by simp) S0;rw [E6a,E59] at e1 S hn;obtain ⟨N,hN⟩:∃ N,N=I7 D (d::t) (wY D L):=⟨_,rfl⟩;have dF:=A6A (D:=D) (X:=d::t) (s:=wY D L);have hrl:=S.rl;rw [<-hN] at e1 dF hrl;have hH:Has (H++[rT []]) (.c (.sl id 0 N.length 1)) 1 N.length (encS N):=Has.row (rw:=A5) (C5 hrl) (by rw [N8];omega) (B8H _);have hSo:=D2c hH (by omega);obtain ⟨es,r4,hm⟩:=S.rm;rw [<-hN] at hm;have hm2:MapN es (B1V D (d::t)) (gX N):=⟨hm.1,λs hs=>hm.2 s ((B3a _ _).1 hs)⟩;have oL:=A8B N;have lh:(H++[rT []]).length=H.length+1:=by simp
  rw [lh] at hSo;have V7:=C8 r4;have gl:=S.low.2.1;obtain ⟨v',g',o1,o2⟩:=D9B (F:=B1V D (d::t)) (B:=H++[rT []]++[rT (encS (gX N))]) (b:=g.length) (q:=300) (mid:=g.length+2) (sid:=H.length+1) (S:=gX N) hm2 (by simp;omega) (by rw [<-lh];exact U5) (C5 (C5 r4)) (by omega)
   (gX N).length 0 300 H.length (H++[rT []]++[rT (encS (gX N))]) (by omega) (by omega) (Low.refl (by simp;omega)) (by omega) (by omega) (by omega) (λj r _ hj=>hj) (by simp [W3]) (E5V _)
  have eL:oZ D (d::t) L=(gX N).map λs=>(s,B1V D (d::t) s):=by unfold oZ;rw [<-hN]
  refine ⟨v',g',?_,by rw [eL,List.length_map];exact o2⟩;have c0:¬ ((L.length:Nat):Int)<(L.length:Nat):=by omega
  have l33:ldN (rT (encI (d::t))) 0 33=A4 (.a (encI (d::t))):=kU h33;have n0:(I7 D (d::t) ([]:List Spt)).length=0:=rfl;have e00:((0:Nat):Int)=0:=rfl;rw [n0,e00] at e1;rw [hG] at e1;rw [e00] at o1;rw [A9t];simp only [esc] at hB;rw [uC 300 M'] at e1;simp only [esc,c0,hSo] at e1 o1;generalize encI (d::t)=X at *;simp only [esc,bQ,R4,Nat.reduceAdd,l33,hB];refine e1.trans ?_;exact o1
 obtain ⟨v,g',e,ho⟩:=key (ro h) hv.ro hr.ro;exact A7z e (by simpa [F7] using ho) D44
end
def D0V {b:List UInt8} {k:Nat} {x:Ent} (hx:S7 b k=A4 x):A2W x.1 x.2=A5:=by
 unfold S7 at hx;cases hu:dV (nameB b k) with
 | none=>rw [hu] at hx;cases hx
 | some s' =>
  rw [hu,E54] at hx;split at hx
  ·rename_i hc;cases hx;unfold isE at hc;rw [E5S] at hc;exact hc.1
  ·cases hx
def D63 {h:B5} {b id n:Nat} {a:Int} {cs:List Cell} (hb:b<=id) (hr:rd h id=rT cs) (hf:O5 cs=A5) :
  Y8 h b (.t [.a [.i .i64 a,.sl id 0 n 1],.c o0])=A4 (.t [.a [.i .i64 a,.sl b 0 n 1],.c o0],[id]):=by
 have h1:¬ id<b:=by omega
 have hc1:S8 h b [] [.i .i64 a,.sl id 0 n 1]=A4 ([.i .i64 a,.sl b 0 n 1],[id]):=by
  simp [S8,Cell.low,Cell.flat,A1K hr hf,h1,hb]
 have hc2:S8 h b [id] [o0]=A4 ([o0],[id]):=gR (by simp);simp only [Y8,iK,hc1,hc2,E54,Option.map_some]
def E2r {a:Int} {x:Cell}:E6 [o0,.ns] [(0,1,iV a),(1,1,.c x)]=A4 [.i .i64 a,x]:=rfl
def C6r {k id n:Nat} {h:B5} (hk:k<7) (hid:id<h.length):A4N [iV (k:Int),iV 0,sV id 0 n 1] h=A4 (.t [.a [.i .i64 (L9 k:Nat),.sl id 0 n 1],.c o0],h):=by
 have key:∀ g,∃ g',A4r 0 [iV (k:Int),iV 0,sV id 0 n 1] g=A4 (.t [.a [.i .i64 (L9 k:Nat),.sl id 0 n 1],.c o0],g'):=by
  intro g;have c1:¬ (k:Int)<0:=by omega
  have c2:¬ 7<=(k:Int):=by omega
  have hF:=λh=>pW (h:=h) hk
  have w1:E5U .i64 (((L9 k:Nat):Int)+0)=((L9 k:Nat):Int):=by unfold L9;rw [wrap_i64 (by omega) (by omega)];omega
  rw [B9n];exact ⟨_,by simp only [esc,esh,Nat.reduceAdd,c1,c2,hF,w1,E2r]<;>rfl⟩
 obtain ⟨g',e⟩:=key (ro h);exact B7f e (by simp [Val.low,Cell.low,Cell.flat,hid])
def C80 {k:Nat} {s:List UInt8} {n:Int} {h:B5} (hs:s.length<9223372036854775807) (hk:k<7) (hm:A2W s n=A5):A7u [iV (k:Int),.a [.s s,.i .i64 n]] h=A4 (.t [.a [.i .i64 (L9 k:Nat),.sl h.length 0 32 1],.c o0],h++[rT (B4 (Z1 s n))]):=by
 have key:∀ g,∃ g',A7a 0 [iV (k:Int),.a [.s s,.i .i64 n]] g=A4 (.t [.a [.i .i64 (L9 k:Nat),.sl (g.length+2) 0 32 1],.c o0],g')/\rd g' (g.length+2)=rT (B4 (Z1 s n)):=by
  intro g;have c1:0<=(k:Int):=by omega
  have c2:(k:Int)<7:=by omega
  have hM:=λh=>A47 (s:=s) (n:=n) (h:=h) hs
  rw [hm] at hM;have hW:=λh=>uB (s:=s) (n:=n) (h:=h) hs
  have hL:=C6r (k:=k) (id:=g.length+2) (n:=32) (h:=g++[rT [.s s,.i .i64 n],rT [o0,.ns],rT (B4 (Z1 s n))]) hk (by simp);rw [C2S];generalize Z1 s n=E at *;exact ⟨_,by simp only [esc,esh,Nat.reduceAdd,c1,c2,hM,hW,hL]<;>rfl,by simp⟩
 obtain ⟨g',e,hr⟩:=key (ro h);rw [F7] at hr;have:=B7e e (D63 (b:=h.length) (by rw [F7];omega) (by rw [F7];exact hr) (by simp));rw [this,F7];simp [hr]
def MapK (es:Y0) (K:List UInt8->Option Int):Prop:=(∀ e∈es,∃ s,e.1=Cell.s s)/\∀ s,(B2c (.s s) es).map (·.2)=(K s).map λv=>Part.c (.i .i64 v)
def C9H (K:List UInt8->Option Int) (a:List UInt8) (v:Int):List UInt8->Option Int:=λs=>if s=a then A4 v else K s
def MapK.nil:MapK [] λ_=>A7:=⟨λe he=>by simp at he,λs=>rfl⟩
def MapK.put {es:Y0} {K:List UInt8->Option Int} (hm:MapK es K) (a:List UInt8) (v:Int):MapK (A9G (.s a) (.c (.i .i64 v)) es) (C9H K a v):=by
 refine ⟨C01 (Q:=λc=>∃ s,c=.s s) ⟨a,rfl⟩ hm.1,λs=>?_⟩;unfold C9H;by_cases c:s=a
 ·subst c;rw [if_pos rfl,(A1J (k':=.mh)).1];rfl
 ·rw [if_neg c,(A1J (k:=.s a) (k':=.s s)).2 (by simpa using c)];exact hm.2 s
def E4a {h:B5} {mid:Nat} {es:Y0} {K:List UInt8->Option Int} {a:List UInt8} (hr:rd h mid=A4 (T8 es)) (hm:MapK es K):A8T h A7 (.c o0) A6 (.c (.m mid)) (.c (.s a))=A4 (.c (.i .i64 ((K a).getD 0))):=by
 simp only [A8T,C7l,D7w,hr,E54,A1I];rw [if_pos (D6m hm.1)];have h2:=hm.2 a;cases hg:B2c (.s a) es with
 | none =>
  rw [hg] at h2;cases hF:K a with
  | none=>rfl
  | some v=>rw [hF] at h2;cases h2
 | some ip =>
  obtain ⟨i,p⟩:=ip;rw [hg] at h2;cases hF:K a with
  | none=>rw [hF] at h2;cases h2
  | some v=>rw [hF] at h2;simp at h2;subst h2;rfl
def E5o {h:B5} {mid:Nat} {es:Y0} {K:List UInt8->Option Int} {a:List UInt8} {x:Int} (hr:rd h mid=A4 (T8 es)) (hm:MapK es K):A3O h A7 (.c (.m mid)) (.c (.s a)) (.c (.i .i64 x))=A4 (h.set mid (A4 (T8 (A9G (.s a) (.c (.i .i64 x)) es)))):=by
 simp only [A3O,C7l,C7R,hr,E54,A1I];rw [if_pos (D6m hm.1)]
def A37 (D:Dev) (X:List Int) (no:Int) (K:List UInt8->Option Int) (x:Slt):Bool:=atH D X (no,x)&&decide ((K x.2.1).getD 0=x.2.2)
def gT (D:Dev) (X:List Int) (no:Int) (K:List UInt8->Option Int) (s:Cl × List UInt8) (x:Slt):Cl × List UInt8 :=
 bif A37 D X no K x then (s.1,J7 s.2 (L9 x.1) (Z1 x.2.1 x.2.2)) else ({ s.1 with lost:=s.1.lost+1 },s.2)
def V3 (D:Dev) (X:List Int) (no:Int) (K:List UInt8->Option Int) (s:Cl × List UInt8) (l:List Slt):Cl × List UInt8:=l.foldl (gT D X no K) s
def D0m {D:Dev} {X:List Int} {no:Int} {K:List UInt8->Option Int} {s:Cl × List UInt8} {x:Slt} (hs:s.2.length=256) (hk:x.1<7):(gT D X no K s x).2.length=256:=by
 unfold gT;cases A37 D X no K x with
 | false=>exact hs
 | true=>rw [cond_true];dsimp only;rw [P9 (by rw [hs,Z2];unfold L9;omega)];exact hs
def C6H {D:Dev} {X:List Int} {no:Int} {K:List UInt8->Option Int} {s:Cl × List UInt8} {x:Slt}:s.1.lost<=(gT D X no K s x).1.lost/\(gT D X no K s x).1.lost<=s.1.lost+1:=by
 unfold gT;cases A37 D X no K x<;>simp<;>omega
section
variable {D:Dev} {n m:Int} {f:Cell} {g:B5} {r:Nat} {h:B5}
def LocV.more {t:B5} {id:Nat} {cs:List Cell} (hr:r<h.length) (a:LocV h r id cs):LocV (h++t) r id cs :=
 a.fr (Fr.low ((Low.refl (E5V _)).new _) hr)
def LocM (h:B5) (r id:Nat) (es:Y0):Prop:=Loc h r id/\rd h id=A4 (T8 es)
def LocM.fr {h':B5} {id:Nat} {es:Y0} (a:LocM h r id es) (b:Fr r h h'):LocM h' r id es:=by
 obtain ⟨h1,h2⟩:=b.loc a.1;exact ⟨h1,by rw [h2];exact a.2⟩
def LocM.set {id j:Nat} {es:Y0} {x:Option Row} (a:LocM h r id es) (hj:j≠id) (hl:j≠r):LocM (h.set j x) r id es:=by
 refine ⟨⟨by simpa using a.1.1,a.1.2.1,λhn=>a.1.2.2 ((Nam.same (B6 hl)).1 hn)⟩,by rw [B6 hj];exact a.2⟩
def D4Y {d:Int} {t:List Int} {no:Int} {K:List UInt8->Option Int} {es:Y0} {l:List Slt} {mk px p8 p9 lst q:Nat} {h0:B5} (hD:okD D) (hv:IsView g f D) (ht:t.length=32) (hK:MapK es K) (h0g:g.length<=h0.length) (a8:h0.length<=p8) (a9:h0.length<=p9)
  (n1:p9≠mk) (n2:p9≠px) (n3:p9≠p8) (n4:p9≠lst) (hl7:l.length<=7) (oL:∀ x∈l,x.1<7/\x.2.1.length<=24/\A2W x.2.1 x.2.2=A5) :
  ∀ (e j M:Nat) (s:Cl × List UInt8) (h:B5),j+e=l.length->e<M->s.2.length=256->0<=s.1.lost->s.1.lost+e<=1000000->WP D n m f g r s.1 h->Fr r h0 h->LocM h r mk es->LocV h r px (encI (d::t))->(∃ z,z.length=256/\LocV h r p8 z)->LocV h r p9 (B4 s.2)->LocV h r lst (uR l) ->
  ∃ h',cK q M (.c (.p r 0)) (.c (.i .i64 no)) (.c (.m mk)) (.c (.p px 0)) (.c (.p p8 0)) (.c (.p p9 0)) (.c (.sl lst 0 l.length 3)) (.c (.i .i64 (l.length:Nat))) (.c (.i .i64 (j:Int))) h=A4 (.a (B4 (V3 D (d::t) no K s (l.drop j)).2),h')/\WP D n m f g r (V3 D (d::t) no K s (l.drop j)).1 h'/\Fr r h0 h':=by
 intro e
 induction e with
 | zero =>
  intro j M s h hj hM hs l0 l1 P F hm hx hz hb hl;obtain ⟨M,rfl⟩:∃ M',M=M'+1:=⟨M-1,by omega⟩;have c0:¬ ((j:Int)<(l.length:Nat)):=by omega
  obtain ⟨z,hzl,hz⟩:=hz;have hbl:(B4 s.2).length=256:=by rw [A9,hs]
  have q1:=C7 (n:=256) hb.2 hbl;have s1:=storeAll (n:=256) (xs:=B4 s.2) hz.2 hzl hbl;have hz2:=hz.self (cs':=B4 s.2);have q2:=C7 (n:=256) hz2.2 hbl;rw [E56 (by omega)];refine ⟨h.set p8 (rT (B4 s.2)),?_,P.set hz.1 (by omega),F.set hz.1 a8⟩;rw [eQ];show _=A4 (Val.a (B4 s.2),_);generalize B4 s.2=B at *;simp only [esc,c0,q1,s1,q2]
 | succ e ih =>
  intro j M s h hj hM hs l0 l1 P F hm hx hz hb hl;obtain ⟨M,rfl⟩:∃ M',M=M'+1:=⟨M-1,by omega⟩;have hjl:j<l.length:=by omega
  have c0:((j:Int)<(l.length:Nat)):=by omega
  have hv2:=hv.get;have ad:D9 3 (.c (.sl lst 0 l.length 3)) (.c (.i .i64 (j:Int)))=A4 (.c (.p lst (j*3))):=by rw [C9 hjl];simp
  have hlen:=A0l (l:=l);have w1:=D3 (show j+1<9223372036854775808 by omega);obtain ⟨x,hxe⟩:∃ x,x=l[j]:=⟨_,rfl⟩;have hxj:l[j]?=A4 x:=by rw [hxe];exact E5P hjl
  obtain ⟨x7,x24,xm⟩:=oL x (by rw [hxe];exact E6v hjl);have l3:D4 h 3 (.c (.p lst (j*3)))=A4 (.a (slC (A4 x))):=by rw [dR hl.2 (by rw [hlen];omega) rfl,D6L hxj]
  have hcl:=D0m (D:=D) (X:=d::t) (no:=no) (K:=K) (s:=s) (x:=x) hs x7;have hlo:=C6H (D:=D) (X:=d::t) (no:=no) (K:=K) (s:=s) (x:=x);rw [E5X hjl,<-hxe];have er:∀ T,V3 D (d::t) no K s (x::T)=V3 D (d::t) no K (gT D (d::t) no K s x) T:=λT=>rfl
  rw [er];obtain ⟨k,nm,i⟩:=x;dsimp only at x7 x24 xm;obtain ⟨h1,e1⟩:∃ h1,h1=h++[rT (slC (A4 (k,nm,i)))]:=⟨_,rfl⟩;have s3:E5 (h++[rT [o0,.s [],o0]]) 3 (.c (.p h.length 0)) (.a (slC (A4 (k,nm,i))))=A4 h1:=by rw [M6,e1];rfl
  have P1:WP D n m f g r s.1 h1:=e1 ▸ P.more hv2 _;have hx1:LocV h1 r px (encI (d::t)):=e1 ▸ hx.more P.rlt;have lX:D4 h1 33 (.c (.p px 0))=A4 (.a (encI (d::t))):=C7 hx1.2 (by simp [B7,ht]);have lN:B8 h1 (.c (.p h.length 1))=A4 (.c (.s nm)):=by rw [e1,U4];rfl
  have hH:=D6i (n:=n) (m:=m) (f:=f) (r:=r) (d:=d) (t:=t) (nm:=nm) (h:=h1) hD (hv.since P1.lo) (P1.vw hv2) ht (by omega);obtain ⟨h2,e2⟩:∃ h2,h2=h1++[rT (C1a (R8 (d::t) nm) (hmS D (d::t) nm))]:=⟨_,rfl⟩;have s4:E5 (h1++[rT [o0,o0,.s [],o0]]) 4 (.c (.p h1.length 0)) (.a (C1a (R8 (d::t) nm) (hmS D (d::t) nm)))=A4 h2:=by
   rw [M6,e2];cases hmS D (d::t) nm<;>rfl
  have e12:h2=h++[rT (slC (A4 (k,nm,i))),rT (C1a (R8 (d::t) nm) (hmS D (d::t) nm))]:=by rw [e2,e1];simp
  have F2:Fr r h h2:=by rw [e12];exact Fr.low ((Low.refl (E5V _)).new _) P.rlt
  have P2:WP D n m f g r s.1 h2:=by rw [e12];exact P.more hv2 _
  have m2:=hm.fr F2;have x2:=hx.fr F2;have b2:=hb.fr F2;have ls2:=hl.fr F2;obtain ⟨z,hzl,hz⟩:=hz;have z2:=hz.fr F2;have lB:B8 h2 (.c (.p h1.length 0))=A4 (.c (.i .i64 (R8 (d::t) nm))):=by rw [e2,U4];rfl
  have lS:D4 h2 3 (.c (.p h1.length 1))=A4 (.a (slC (hmS D (d::t) nm))):=by rw [e2,R4];cases hmS D (d::t) nm<;>rfl
  have rp:rd h2 h.length=rT (slC (A4 (k,nm,i))):=by rw [e2,e1];simp
  have lP:D4 h2 3 (.c (.p h.length 0))=A4 (.a (slC (A4 (k,nm,i)))):=C7 rp rfl;have lP0:B8 h2 (.c (.p h.length 0))=A4 (.c (.i .i64 (k:Int))):=B9 rp rfl rfl;have lP1:B8 h2 (.c (.p h.length 1))=A4 (.c (.s nm)):=B9 rp rfl rfl;have lP2:B8 h2 (.c (.p h.length 2))=A4 (.c (.i .i64 i)):=B9 rp rfl rfl;have lPE:D4 h2 2 (.c (.p h.length 1))=A4 (.a [.s nm,.i .i64 i]):=by rw [dR rp (by simp [slC]) rfl];rfl
  have lk:=E4a (a:=nm) m2.2 hK;have lose:A37 D (d::t) no K (k,nm,i)=A6->∃ h3 h',B8 h2 (.c (.p r 9))=A4 (.c (.i .i64 s.1.lost))/\E5U .i64 (s.1.lost+1)=s.1.lost+1/\I5 h2 (.c (.p r 9)) (.c (.i .i64 (s.1.lost+1)))=A4 h3 /\
    cK q M (.c (.p r 0)) (.c (.i .i64 no)) (.c (.m mk)) (.c (.p px 0)) (.c (.p p8 0)) (.c (.p p9 0)) (.c (.sl lst 0 l.length 3)) (.c (.i .i64 (l.length:Nat))) (.c (.i .i64 ((j+1:Nat):Int))) h3=A4 (.a (B4 (V3 D (d::t) no K (gT D (d::t) no K s (k,nm,i)) (l.drop (j+1))).2),h')/\WP D n m f g r (V3 D (d::t) no K (gT D (d::t) no K s (k,nm,i)) (l.drop (j+1))).1 h'/\Fr r h0 h':=by
   intro hk;have ec:gT D (d::t) no K s (k,nm,i)=({ s.1 with lost:=s.1.lost+1 },s.2):=by unfold gT;rw [hk];rfl
   obtain ⟨h3,f1,f2,f3,f4⟩:=P2.setLost hv2 (s.1.lost+1);have Fa:=F2.trans f4;obtain ⟨h',g1,g2⟩:=ih (j+1) M ({ s.1 with lost:=s.1.lost+1 },s.2) h3 (by omega) (by omega) hs (by dsimp only;omega) (by dsimp only;omega) f3 (F.trans Fa) (m2.fr f4) (x2.fr f4) ⟨z,hzl,z2.fr f4⟩ (b2.fr f4) (ls2.fr f4);rw [ec];exact ⟨h3,h',f1,wrap_i64 (by omega) (by omega),f2,g1,g2⟩
  rw [eQ];cases ho:hmS D (d::t) nm with
  | none =>
   obtain ⟨h3,h',f1,f2,f3,f4,f5⟩:=lose (by unfold A37 atH;simp only [ho];simp);refine ⟨h',?_,f5⟩;rw [ho] at hH s4 lS;generalize encI (d::t)=X at *;simp only [esc,Nat.reduceAdd,c0,ad,l3,s3,lX,lN,hH,E6i,s4,f1,f2,f3,T6,w1];exact f4
  | some p =>
   rw [ho] at hH s4 lS;have ea:=D6M (neg:=A5) p (k,nm,i);by_cases c1:R8 (d::t) nm=no
   ·rw [c1] at hH s4 lB;by_cases c2:p=(k,nm,i)
    ·have ea2:aeq A5 [.i .i64,.s,.i .i64] (.a (slC (A4 p))) (.a (slC (A4 (k,nm,i))))=A4 (.c (.b A6)):=by rw [ea,c2];simp
     by_cases c3:(K nm).getD 0=i
     ·have hk:A37 D (d::t) no K (k,nm,i)=A5:=by unfold A37 atH;simp only [ho,c1,c2,c3];simp
      have ec:gT D (d::t) no K s (k,nm,i)=(s.1,J7 s.2 (L9 k) (Z1 nm i)):=by unfold gT;rw [hk];rfl
      rw [ec] at hcl ⊢;have E0W:=C80 (k:=k) (s:=nm) (n:=i) (h:=h2) (by omega) x7 xm;obtain ⟨h3,e3⟩:∃ h3,h3=h2++[rT (B4 (Z1 nm i)),rT [.i .i64 (L9 k:Nat),.sl h2.length 0 32 1]]:=⟨_,rfl⟩;have s5:E5 (h2++[rT (B4 (Z1 nm i)),rT [o0,.ns]]) 2 (.c (.p (h2.length+1) 0)) (.a [.i .i64 (L9 k:Nat),.sl h2.length 0 32 1])=A4 h3:=by rw [W2,e3];rfl
      have F3:Fr r h2 h3:=by rw [e3];exact Fr.low ((Low.refl (E5V _)).new _) P2.rlt
      have P3:WP D n m f g r s.1 h3:=by rw [e3];exact P2.more hv2 _
      have b3:=b2.fr F3;have hbl:(B4 s.2).length=256:=by rw [A9,hs]
      have q1:=C7 (n:=256) b3.2 hbl;have q2:D4 h3 2 (.c (.p (h2.length+1) 0))=A4 (.a [.i .i64 (L9 k:Nat),.sl h2.length 0 32 1]):=by rw [e3,bQ];rfl
      have E2t:Has h3 (.c (.sl h2.length 0 32 1)) 1 32 (B4 (Z1 nm i)):=Has.row (rw:=A5) (by rw [e3];simp) (by rw [A9,Z2]) (G9 _);have E4M:=B8T (a:=L9 k) (l:=s.2) E2t (by omega) (by unfold L9;omega) hs;have hl2:(B4 (J7 s.2 (L9 k) (Z1 nm i))).length=256:=by rw [A9];exact hcl
      have sb:=storeAll (n:=256) (xs:=B4 (J7 s.2 (L9 k) (Z1 nm i))) b3.2 hbl hl2;have Fa:=F2.trans F3;obtain ⟨h',g1,g2⟩:=ih (j+1) M (s.1,J7 s.2 (L9 k) (Z1 nm i)) _ (by omega) (by omega) hcl l0 (by dsimp only;omega) (P3.set b3.1 (by omega)) ((F.trans Fa).set b3.1 a9) ((m2.fr F3).set n1 b3.1.2.1) ((x2.fr F3).set n2 b3.1.2.1) ⟨z,hzl,(z2.fr F3).set n3 b3.1.2.1⟩ b3.self ((ls2.fr F3).set n4 b3.1.2.1);refine ⟨h',?_,g2⟩
      try dsimp only at g1
      generalize B4 (J7 s.2 (L9 k) (Z1 nm i))=B2 at *;generalize B4 s.2=B at *;generalize encI (d::t)=X at *;generalize B4 (Z1 nm i)=E at *;simp only [esc,Nat.reduceAdd,c0,ad,l3,s3,lX,lN,hH,E6b,s4,lB,eq_self,lS,lP,ea2,lP0,lP1,lP2,lPE,lk,c3,E0W,s5,q1,q2,E4M,sb,T6,w1];exact g1
     ·obtain ⟨h3,h',f1,f2,f3,f4,f5⟩:=lose (by unfold A37;simp [c3]);refine ⟨h',?_,f5⟩;generalize encI (d::t)=X at *;simp only [esc,Nat.reduceAdd,c0,ad,l3,s3,lX,lN,hH,E6b,s4,lB,eq_self,lS,lP,ea2,lP1,lP2,lk,c3,f1,f2,f3,T6,w1];exact f4
    ·have ea2:aeq A5 [.i .i64,.s,.i .i64] (.a (slC (A4 p))) (.a (slC (A4 (k,nm,i))))=A4 (.c (.b A5)):=by rw [ea];simp [c2]
     obtain ⟨h3,h',f1,f2,f3,f4,f5⟩:=lose (by unfold A37 atH;simp only [ho];simp [c2]);refine ⟨h',?_,f5⟩;generalize encI (d::t)=X at *;simp only [esc,Nat.reduceAdd,c0,ad,l3,s3,lX,lN,hH,E6b,s4,lB,eq_self,lS,lP,ea2,f1,f2,f3,T6,w1];exact f4
   ·obtain ⟨h3,h',f1,f2,f3,f4,f5⟩:=lose (by unfold A37 atH;simp only [ho];simp [c1]);refine ⟨h',?_,f5⟩;generalize encI (d::t)=X at *;simp only [esc,Nat.reduceAdd,c0,ad,l3,s3,lX,lN,hH,E6b,s4,lB,c1,f1,f2,f3,T6,w1];exact f4
end
def B55 {D:Dev} {X:List Int} {no:Int} {K:List UInt8->Option Int}:∀ {l:List Slt} {s:Cl × List UInt8},s.2.length=256->(∀ x∈l,x.1<7)->(V3 D X no K s l).2.length=256
 | [],_,hs,_=>hs
 | x::l,s,hs,h=>B55 (l:=l) (s:=gT D X no K s x) (D0m hs (h x (E6g ..))) λy hy=>h y (E6f _ hy)
def A3W {D:Dev} {X:List Int} {no:Int} {K:List UInt8->Option Int}:∀ {l:List Slt} {s:Cl × List UInt8},s.1.lost<=(V3 D X no K s l).1.lost/\(V3 D X no K s l).1.lost<=s.1.lost+l.length
 | [],s=>⟨Int.le_refl _,by show s.1.lost<=_;simp⟩
 | x::l,s=>by
  have h1:=C6H (D:=D) (X:=X) (no:=no) (K:=K) (s:=s) (x:=x);have h2:=A3W (D:=D) (X:=X) (no:=no) (K:=K) (l:=l) (s:=gT D X no K s x);show s.1.lost<=(V3 D X no K (gT D X no K s x) l).1.lost/\_<=_;rw [E52];refine ⟨by omega,?_⟩;show (V3 D X no K (gT D X no K s x) l).1.lost<=_;omega
structure SameL (c c':Cl):Prop where
 row:c'.row=c.row
 ino:c'.ino=c.ino
 blocks:c'.blocks=c.blocks
 made:c'.made=c.made
 taken:c'.taken=c.taken
 lnk:c'.lnk=c.lnk
 par:c'.par=c.par
def rR {D:Dev} {X:List Int} {no:Int} {K:List UInt8->Option Int}:∀ {l:List Slt} {s:Cl × List UInt8},SameL s.1 (V3 D X no K s l).1
 | [],_=>⟨rfl,rfl,rfl,rfl,rfl,rfl,rfl⟩
 | x::l,s=>by
  have h2:=rR (D:=D) (X:=X) (no:=no) (K:=K) (l:=l) (s:=gT D X no K s x);have h1:SameL s.1 (gT D X no K s x).1:=by
   unfold gT;cases A37 D X no K x<;>exact ⟨rfl,rfl,rfl,rfl,rfl,rfl,rfl⟩
  show SameL s.1 (V3 D X no K (gT D X no K s x) l).1;exact ⟨h2.row.trans h1.row,h2.ino.trans h1.ino,h2.blocks.trans h1.blocks,h2.made.trans h1.made,h2.taken.trans h1.taken,h2.lnk.trans h1.lnk,h2.par.trans h1.par⟩
def C75 {b:List UInt8}:∀ x∈O6 b,x.1<7/\x.2.1.length<=24/\A2W x.2.1 x.2.2=A5:=λx hx=>by
 have h1:=B22 hx;exact ⟨h1.2,A1M h1.1,D0V h1.1⟩
section
variable {D:Dev} {n m:Int} {f:Cell} {g:B5} {r:Nat} {c:Cl} {h:B5}
def D4Z {d:Int} {t:List Int} {no:Int} {K:List UInt8->Option Int} {es:Y0} {mk:Nat} (hD:okD D) (hv:IsView g f D) (P:WP D n m f g r c h) (ht:t.length=32) (hK:MapK es K) (hm:LocM h r mk es) (l0:0<=c.lost) (l1:c.lost<=900000) :
  ∃ h',lM [.c (.p r 0),.a (encI (d::t)),.c (.i .i64 no),.c (.m mk)] h=A4 (.a (B4 (V3 D (d::t) no K (c,bU []) (O6 (blk D no))).2),h')/\WP D n m f g r (V3 D (d::t) no K (c,bU []) (O6 (blk D no))).1 h'/\Fr r h h':=by
 have hv2:=hv.get;have h33:(encI (d::t)).length=33:=by simp [B7,ht]
 have E4O:=λh=>C8Z (v:=.c .ns) (nv:=0) (l:=[]) (h:=h) (.inl ⟨rfl,rfl,rfl⟩) (by simp)
 have hNl:(B4 (bU [])).length=256:=by rw [A9];exact rX
 have hZl:(B4 (zeros 256)).length=256:=by rw [A9];exact zeros_length
 obtain ⟨T,hT⟩:∃ T,T=[rT (encI (d::t)),rT (B4 (zeros 256)),rT (B4 (bU []))]:=⟨_,rfl⟩;have F1:Fr r h (h++T):=Fr.low ((Low.refl (E5V _)).new _) P.rlt;have P1:=P.more hv2 T;have lV:=P1.view;have hB:=bP (n:=n) (m:=m) (no:=no) hD (hv.since P1.lo);obtain ⟨v,tt,b1,b2,b3⟩:=A8V (b:=blk D no) (h:=h++T) (O9 hD);have hlen:=b2.len;have h7:=eY (blk D no);have F2:Fr r (h++T) (h++T++tt):=Fr.low ((Low.refl (E5V _)).new _) P1.rlt;have P2:=P1.more hv2 tt;have L0:LocV (h++T) r h.length (encI (d::t)):=LocV.new (k:=0) hv2 P (by rw [hT];rfl);have L1:LocV (h++T) r (h.length+1) (B4 (zeros 256)):=LocV.new (k:=1) hv2 P (by rw [hT];rfl);have L2:LocV (h++T) r (h.length+2) (B4 (bU [])):=LocV.new (k:=2) hv2 P (by rw [hT];rfl);have main:∃ h',cK 100 100 (.c (.p r 0)) (.c (.i .i64 no)) (.c (.m mk)) (.c (.p h.length 0)) (.c (.p (h.length+1) 0)) (.c (.p (h.length+2) 0)) v (.c (.i .i64 ((O6 (blk D no)).length:Nat))) (.c o0) (h++T++tt)=A4 (.a (B4 (V3 D (d::t) no K (c,bU []) (O6 (blk D no))).2),h')/\WP D n m f g r (V3 D (d::t) no K (c,bU []) (O6 (blk D no))).1 h'/\Fr r h h':=by
  rcases b3 with ⟨rfl,rfl,b3⟩ | ⟨rfl,rfl⟩
  ·rw [b3,E6m];have c00:decide ((0:Int)<((0:Nat):Int))=A6:=by decide
   have q1:=C7 (n:=256) L2.2 hNl;have s1:=storeAll (n:=256) (xs:=B4 (bU [])) L1.2 hZl hNl;have z2:=L1.self (cs':=B4 (bU []));have q2:=C7 (n:=256) z2.2 hNl;refine ⟨(h++T).set (h.length+1) (rT (B4 (bU []))),?_,P1.set L1.1 (by have:=P.lo.2.1;omega),F1.set L1.1 (by omega)⟩;rw [eQ];show _=A4 (Val.a (B4 (bU [])),_);generalize B4 (bU [])=B at *;generalize h++T=G at *;simp only [esc,c00,q1,s1,q2]
  ·have hT3:(h++T).length=h.length+3:=by rw [hT];simp
   have L3:LocV (h++T++[rT (uR (O6 (blk D no)))]) r ((h++T).length+0) (uR (O6 (blk D no))):=LocV.new (k:=0) hv2 P1 rfl;rw [E6E] at L3;have hml:=hm.1.1;obtain ⟨h',e1,e2,e3⟩:=D4Y (n:=n) (m:=m) (q:=100) (no:=no) (h0:=h) (mk:=mk) (px:=h.length) (p8:=h.length+1) (p9:=h.length+2) (lst:=(h++T).length) (l:=O6 (blk D no)) hD hv ht hK P.lo.2.1 (by omega) (by omega) (by omega) (by omega) (by omega) (by omega) h7 C75 (O6 (blk D no)).length 0 100 (c,bU []) _ (by omega) (by omega) (rX (l:=[])) l0 (by dsimp only;omega) P2 (F1.trans F2) (hm.fr (F1.trans F2)) (L0.fr F2) ⟨_,hZl,L1.fr F2⟩ (L2.fr F2) L3;rw [E6a] at e1 e2;exact ⟨h',e1,e2,e3⟩
 obtain ⟨h',e1,e2,e3⟩:=main;refine ⟨h',A5K (n:=100) ?_,e2,e3⟩;rw [A5G,I9];rw [hT] at e1 lV hB b1;have sB:stN (rT (B4 (zeros 256))) 0 256 (B4 (bU []))=rT (B4 (bU [])):=oU hZl hNl;generalize B4 (V3 D (d::t) no K (c,bU []) (O6 (blk D no))).2=BR at *;generalize B4 (bU [])=B at *;generalize B4 (zeros 256)=Z at *;generalize encI (d::t)=X at *;generalize vwC D.length n m f=V at *;generalize B4 (blk D no)=Y at *;simp only [esc,E4O,W2,Nat.reduceAdd,sB,lV,hB,b1,hlen];simp only [esc] at e1;exact e1
end
def aK (D:Dev) (n ino:Int) (s:Cl × (List UInt8->Option Int)) (e:Ent):Cl × (List UInt8->Option Int):=bif jF D n s.1 e.2 then (dU D n s.1 ino e.2,C9H s.2 e.1 e.2) else s
def bC (D:Dev) (n ino:Int) (s:Cl × (List UInt8->Option Int)) (L:List Ent):Cl × (List UInt8->Option Int):=L.foldl (aK D n ino) s
def xW (D:Dev) (X:List Int) (K:List UInt8->Option Int) (c:Cl) (no:Int):Cl:=S9 (V3 D X no K (c,bU []) (O6 (blk D no))).1 no (V3 D X no K (c,bU []) (O6 (blk D no))).2
def O2 (D:Dev) (X:List Int) (K:List UInt8->Option Int) (c:Cl) (L:List Int):Cl:=L.foldl (xW D X K) c
def BndL (c:Cl) (B:Int):Prop:=∀ i,0<=(c.lnk i).getD 0/\(c.lnk i).getD 0<=B
def BndL.mono {c:Cl} {B B':Int} (h:BndL c B) (hb:B<=B'):BndL c B':=λi=>⟨(h i).1,Int.le_trans (h i).2 hb⟩
structure SameT (c c':Cl):Prop where
 ino:c'.ino=c.ino
 blocks:c'.blocks=c.blocks
 made:c'.made=c.made
 taken:c'.taken=c.taken
 lost:c'.lost=c.lost
def A4g {D:Dev} {n ino B:Int} {s:Cl × (List UInt8->Option Int)} {e:Ent} (hb:BndL s.1 B):SameT s.1 (aK D n ino s e).1/\BndL (aK D n ino s e).1 (B+1)/\(aK D n ino s e).1.row.length<=s.1.row.length+1:=by
 have hl:BndL (B18 s.1 e.2) (B+1):=by
  intro i;have h1:=hb i;have h2:=hb e.2;unfold B18 xY;dsimp only;by_cases c:i=e.2
  ·rw [if_pos c];simp;omega
  ·rw [if_neg c];omega
 unfold aK dU;cases jF D n s.1 e.2 with
 | false=>exact ⟨⟨rfl,rfl,rfl,rfl,rfl⟩,hb.mono (by omega),by simp⟩
 | true =>
  simp only [cond_true];cases (s.1.par e.2).isSome with
  | true=>exact ⟨⟨rfl,rfl,rfl,rfl,rfl⟩,hl,by simp [B18]⟩
  | false=>exact ⟨⟨rfl,rfl,rfl,rfl,rfl⟩,λi=>hl i,by simp [D5v,B18]⟩
section
variable {D:Dev} {n m:Int} {f:Cell} {g:B5} {r:Nat} {h:B5}
def LocM.self {id:Nat} {es es':Y0} (a:LocM h r id es):LocM (h.set id (A4 (T8 es'))) r id es' :=
 ⟨⟨by simpa using a.1.1,a.1.2.1,λhn=>a.1.2.2 ((Nam.same (B6 a.1.2.1)).1 hn)⟩,C6 a.1.1⟩
def D5T {ino:Int} {L:List Ent} {pi px mk lst q:Nat} {ci cx:List Cell} {h0:B5} (hD:okD D) (hv:IsView g f D) (h0g:g.length<=h0.length) (am:h0.length<=mk) (n1:mk≠pi) (n2:mk≠px) (n3:mk≠lst) (hL:L.length<=10000) :
  ∀ (e j M:Nat) (B:Int) (s:Cl × (List UInt8->Option Int)) (es:Y0) (h:B5),j+e=L.length->e<M->s.1.row.length+e<=100000->B+e<900000->BndL s.1 B->WP D n m f g r s.1 h->Fr r h0 h->LocM h r mk es->MapK es s.2->LocV h r pi ci->LocV h r px cx->LocV h r lst (W3 L) ->
  ∃ M' es' h',kQ q M (.c (.p r 0)) (.c (.i .i64 ino)) (.c (.p pi 0)) (.c (.p px 0)) (.c (.m mk)) (.c (.sl lst 0 L.length 2)) (.c (.i .i64 (L.length:Nat))) (.c (.i .i64 (j:Int))) h =
   kQ q (M'+1) (.c (.p r 0)) (.c (.i .i64 ino)) (.c (.p pi 0)) (.c (.p px 0)) (.c (.m mk)) (.c (.sl lst 0 L.length 2)) (.c (.i .i64 (L.length:Nat))) (.c (.i .i64 (L.length:Nat))) h' /\
   WP D n m f g r (bC D n ino s (L.drop j)).1 h'/\Fr r h0 h'/\LocM h' r mk es'/\MapK es' (bC D n ino s (L.drop j)).2/\LocV h' r pi ci/\LocV h' r px cx/\BndL (bC D n ino s (L.drop j)).1 (B+e)/\(bC D n ino s (L.drop j)).1.row.length<=s.1.row.length+e/\SameT s.1 (bC D n ino s (L.drop j)).1:=by
 intro e
 induction e with
 | zero =>
  intro j M B s es h hj hM hr hB hb P F hm hK hi hx hl;obtain ⟨M,rfl⟩:∃ M',M=M'+1:=⟨M-1,by omega⟩;have ej:j=L.length:=by omega
  subst ej;rw [List.drop_length];exact ⟨M,es,h,rfl,P,F,hm,hK,hi,hx,hb.mono (by omega),by show s.1.row.length<=_;omega,⟨rfl,rfl,rfl,rfl,rfl⟩⟩
 | succ e ih =>
  intro j M B s es h hj hM hr hB hb P F hm hK hi hx hl;obtain ⟨M,rfl⟩:∃ M',M=M'+1:=⟨M-1,by omega⟩;have hjl:j<L.length:=by omega
  have c0:((j:Int)<(L.length:Nat)):=by omega
  have hv2:=hv.get;have w1:=D3 (show j+1<9223372036854775808 by omega);have E2t:Has h (.c (.sl lst 0 L.length 2)) 2 L.length (W3 L):=Has.row hl.2 B2W D69;obtain ⟨ad,a1,a2⟩:=D7a E2t hjl;rw [E5X hjl];obtain ⟨x,hxe⟩:∃ x,x=L[j]:=⟨_,rfl⟩;rw [<-hxe] at a2 ⊢;have er:∀ T,bC D n ino s (x::T)=bC D n ino (aK D n ino s x) T:=λT=>rfl
  rw [er];obtain ⟨tf1,tf2,tf3⟩:=A4g (D:=D) (n:=n) (ino:=ino) (s:=s) (e:=x) hb;obtain ⟨hh,hhe⟩:∃ hh,hh=h++[rT (X1 (A4 x))]:=⟨_,rfl⟩;have se:E5 (h++[rT [.s [],o0]]) 2 (.c (.p h.length 0)) (.a (X1 (A4 x)))=A4 hh:=by rw [hhe];exact E3v
  have F1:Fr r h hh:=by rw [hhe];exact Fr.low ((Low.refl (E5V _)).new _) P.rlt
  have P1:WP D n m f g r s.1 hh:=by rw [hhe];exact P.more hv2 _
  have L1:LocV hh r (h.length+0) (X1 (A4 x)):=by rw [hhe];exact LocV.new (k:=0) hv2 P rfl
  rw [E6E] at L1;have e1:B8 hh (.c (.p h.length 1))=A4 (.c (.i .i64 x.2)):=B9 L1.2 rfl rfl;have hkl:=hb x.2;obtain ⟨h2,f1,f2,f3⟩:=E1M (dir:=ino) (ino:=x.2) hD hv P1 (by omega) (by omega);have Fa:=F1.trans f3;have m2:=hm.fr Fa;have i2:=hi.fr Fa;have x2:=hx.fr Fa;have l2:=hl.fr Fa;have L2:=L1.fr f3;have e2:B8 h2 (.c (.p h.length 0))=A4 (.c (.s x.1)):=B9 L2.2 rfl rfl;have e3:B8 h2 (.c (.p h.length 1))=A4 (.c (.i .i64 x.2)):=B9 L2.2 rfl rfl;cases hb2:jF D n s.1 x.2 with
  | true =>
   have et:aK D n ino s x=(dU D n s.1 ino x.2,C9H s.2 x.1 x.2):=by unfold aK;rw [hb2];rfl
   have mp:=E5o (a:=x.1) (x:=x.2) m2.2 hK;have V7:=hm.1.1;rw [et] at tf1 tf2 tf3 ⊢;obtain ⟨M',es',h',g1,g2,g3,g4,g5,g6,g7,g8,g9,g10⟩:=ih (j+1) M (B+1) (dU D n s.1 ino x.2,C9H s.2 x.1 x.2) (A9G (.s x.1) (.c (.i .i64 x.2)) es) _ (by omega) (by omega) (by dsimp only at tf3 ⊢;omega) (by omega) tf2 (f2.set m2.1 (by omega)) ((F.trans Fa).set m2.1 am) m2.self (hK.put x.1 x.2) (i2.set n1 m2.1.2.1) (x2.set n2 m2.1.2.1) (l2.set n3 m2.1.2.1);refine ⟨M',es',h',?_,g2,g3,g4,g5,g6,g7,g8.mono (by omega),by dsimp only at tf3 g9;omega,⟨g10.ino.trans tf1.ino,g10.blocks.trans tf1.blocks,g10.made.trans tf1.made,g10.taken.trans tf1.taken,g10.lost.trans tf1.lost⟩⟩;rw [mQ];rw [hb2] at f1;simp only [esc,c0,a1,a2,se,e1,f1,e2,e3,mp,zV,w1];exact g1
  | false =>
   have et:aK D n ino s x=s:=by unfold aK;rw [hb2];rfl
   have ec:dU D n s.1 ino x.2=s.1:=by unfold dU;rw [hb2];rfl
   rw [ec] at f2;rw [et];obtain ⟨M',es',h',g1,g2,g3,g4,g5,g6,g7,g8,g9,g10⟩:=ih (j+1) M B s es h2 (by omega) (by omega) (by omega) (by omega) hb f2 (F.trans Fa) m2 hK i2 x2 l2;refine ⟨M',es',h',?_,g2,g3,g4,g5,g6,g7,g8.mono (by omega),by omega,g10⟩;rw [mQ];rw [hb2] at f1;simp only [esc,c0,a1,a2,se,e1,f1,zV,w1];exact g1
def D3r {d:Int} {t L:List Int} {K:List UInt8->Option Int} {es:Y0} {mk px sid q:Nat} {h0:B5} (hD:okD D) (hv:IsView g f D) (ht:t.length=32) (hK:MapK es K) (hL:L.length<=100) :
  ∀ (e j M:Nat) (c:Cl) (h:B5),j+e=L.length->e<M->0<=c.lost->c.lost+7*e<=900000->c.blocks.length+e<=100000->c.made.length+e<=100000->WP D n m f g r c h->Fr r h0 h->LocM h r mk es->LocV h r px (encI (d::t))->LocV h r sid (encI L) ->
  ∃ h',A3U q M (.c (.p r 0)) (.c (.p px 0)) (.c (.m mk)) (.c (.sl sid 0 L.length 1)) (.c (.i .i64 (L.length:Nat))) (.c (.i .i64 (j:Int))) h=A4 (.t [],h')/\WP D n m f g r (O2 D (d::t) K c (L.drop j)) h'/\Fr r h0 h' /\
   0<=(O2 D (d::t) K c (L.drop j)).lost/\(O2 D (d::t) K c (L.drop j)).lost<=c.lost+7*e/\(O2 D (d::t) K c (L.drop j)).blocks.length=c.blocks.length+e/\(O2 D (d::t) K c (L.drop j)).made.length=c.made.length+e/\(O2 D (d::t) K c (L.drop j)).row=c.row/\(O2 D (d::t) K c (L.drop j)).lnk=c.lnk/\(O2 D (d::t) K c (L.drop j)).ino=c.ino:=by
 intro e
 induction e with
 | zero =>
  intro j M c h hj hM l0 l1 b0 b1 P F hm hx hl;obtain ⟨M,rfl⟩:∃ M',M=M'+1:=⟨M-1,by omega⟩;have c0:¬ ((j:Int)<(L.length:Nat)):=by omega
  rw [E56 (by omega)];refine ⟨h,?_,P,F,l0,by show c.lost<=_;omega,rfl,rfl,rfl,rfl,rfl⟩;rw [zW];simp only [esc,c0];rfl
 | succ e ih =>
  intro j M c h hj hM l0 l1 b0 b1 P F hm hx hl;obtain ⟨M,rfl⟩:∃ M',M=M'+1:=⟨M-1,by omega⟩;have hjl:j<L.length:=by omega
  have c0:((j:Int)<(L.length:Nat)):=by omega
  have hv2:=hv.get;have w1:=D3 (show j+1<9223372036854775808 by omega);have ad:D9 1 (.c (.sl sid 0 L.length 1)) (.c (.i .i64 (j:Int)))=A4 (.c (.p sid j)):=by rw [C9 hjl];simp
  have a1:B8 h (.c (.p sid j))=A4 (.c (.i .i64 L[j])):=B9 hl.2 (by rw [I1,E5P hjl];rfl) rfl;have lX:D4 h 33 (.c (.p px 0))=A4 (.a (encI (d::t))):=C7 hx.2 (by simp [B7,ht]);obtain ⟨h1,f1,f2,f3⟩:=D4Z (no:=L[j]) hD hv P ht hK hm l0 (by omega);have hlen:=B55 (D:=D) (X:=d::t) (no:=L[j]) (K:=K) (l:=O6 (blk D L[j])) (s:=(c,bU [])) (rX (l:=[])) λx hx=>(C75 x hx).1
  have hlo:=A3W (D:=D) (X:=d::t) (no:=L[j]) (K:=K) (l:=O6 (blk D L[j])) (s:=(c,bU []));have hsa:=rR (D:=D) (X:=d::t) (no:=L[j]) (K:=K) (l:=O6 (blk D L[j])) (s:=(c,bU []));have h7:=eY (blk D L[j]);have em:xW D (d::t) K c L[j]=S9 (V3 D (d::t) L[j] K (c,bU []) (O6 (blk D L[j]))).1 L[j] (V3 D (d::t) L[j] K (c,bU []) (O6 (blk D L[j]))).2:=rfl;obtain ⟨s,hs⟩:∃ s,s=V3 D (d::t) L[j] K (c,bU []) (O6 (blk D L[j])):=⟨_,rfl⟩;rw [<-hs] at f1 f2 hlen hlo hsa em;dsimp only at hlo hsa;have eb:=hsa.blocks;have emd:=hsa.made;obtain ⟨h2,g1,g2,g3⟩:=D14 (no:=L[j]) hv2 f2 hlen (by rw [eb];omega) (by rw [emd];omega);have Fa:=f3.trans g3;rw [E5X hjl];have er:∀ T,O2 D (d::t) K c (L[j]::T)=O2 D (d::t) K (xW D (d::t) K c L[j]) T:=λT=>rfl
  rw [er,em];have k1:(S9 s.1 L[j] s.2).blocks.length=c.blocks.length+1:=by show (s.1.blocks++[L[j]]).length=_;rw [eb];simp
  have k2:(S9 s.1 L[j] s.2).made.length=c.made.length+1:=by show (s.1.made++[s.2]).length=_;rw [emd];simp
  have k3:(S9 s.1 L[j] s.2).lost=s.1.lost:=rfl;obtain ⟨h',p1,p2,p3,p4,p5,p6,p7,p8,p9,p10⟩:=ih (j+1) M (S9 s.1 L[j] s.2) h2 (by omega) (by omega) (by rw [k3];omega) (by rw [k3];omega) (by omega) (by omega) g2 (F.trans Fa) (hm.fr Fa) (hx.fr Fa) (hl.fr Fa);refine ⟨h',?_,p2,p3,p4,by rw [k3] at p5;omega,by omega,by omega,p8.trans hsa.row,p9.trans hsa.lnk,p10.trans hsa.ino⟩;rw [zW];generalize B4 s.2=B2 at *;generalize encI (d::t)=X at *;simp only [esc,c0,ad,a1,lX,f1,g1,w1];exact p1
end
def iQ (D:Dev) (n:Int) (c:Cl) (ino:Int):Cl × Int :=
 bif decide (kdV D n ino=2)&&V6 (blk D ((drV D n ino).getD 0 0)) then (eU D n c ((drV D n ino).getD 0 0),U7 D n c ((drV D n ino).getD 0 0)) else (c,0)
def Y9 (D:Dev) (n:Int) (c:Cl) (ino:Int):Cl:={ (iQ D n c ino).1 with ino:=(iQ D n c ino).1.ino.set ino.toNat (2::1::0::(c.par ino).getD 0::(iQ D n c ino).2::zI 6) }
def V5 (D:Dev) (n:Int) (c:Cl) (d:Int) (t:List Int):Cl × List Int:=oW D n (c,gD d t) (M7 (gD d t) (D1 (X7 d t)))
def bodyT (D:Dev) (n:Int) (c:Cl) (ino d:Int) (t:List Int):Cl × (List UInt8->Option Int) :=
 bC D n ino ((V5 D n c d t).1,λ_=>A7) (oZ D (X7 d t::(V5 D n c d t).2) (M7 (V5 D n c d t).2 (D1 (X7 d t))))
def zS (D:Dev) (n:Int) (c:Cl) (ino no d:Int) (t:List Int):Cl :=
 O2 D (X7 d t::(V5 D n c d t).2) (bodyT D n c ino d t).2 (S9 (bodyT D n c ino d t).1 no (bif okX (X7 d t) (V5 D n c d t).2 then gE (X7 d t) (V5 D n c d t).2 else zeros 256)) (M7 (V5 D n c d t).2 (D1 (X7 d t)))
def sF (D:Dev) (n:Int) (c:Cl) (ino:Int):Cl :=
 if (iQ D n c ino).2=0 then Y9 D n c ino else
  zS D n (Y9 D n c ino) ino (iQ D n c ino).2 (getD (blk D ((drV D n ino).getD 0 0))) (O4 (blk D ((drV D n ino).getD 0 0)) 32)
def B1b {D:Dev}:∀ {L:List Int},(wY D L).length<=7*L.length
 | []=>by simp [wY]
 | no::L=>by
  have h1:=B1b (D:=D) (L:=L);have h2:=eY (blk D no);rw [C0B,E5T,List.length_map,E52];omega
def B8C {D:Dev} {X L:List Int}:(oZ D X L).length<=7*L.length:=by
 have h1:=B1b (D:=D) (L:=L);have h2:=A6A (D:=D) (X:=X) (s:=wY D L);unfold oZ;rw [List.length_map];have h3:=A8B (I7 D X (wY D L));omega
structure Small (c:Cl) (R B S L:Nat):Prop where
 row:c.row.length<=R
 lnk:BndL c B
 blocks:c.blocks.length<=S
 made:c.made.length<=S
 lost0:0<=c.lost
 lost:c.lost<=(L:Int)
section
variable {D:Dev} {n m:Int} {f:Cell} {g:B5} {r:Nat} {c:Cl} {h:B5}
def D8U {ino no d:Int} {t:List Int} {pi px q R B S Lo:Nat} {k l s p:Int} {tl:List Int} {h0:B5} (hD:okD D) (hv:IsView g f D) (ht:t.length=32) (hq:300<=q) (h0g:g.length<=h0.length) (ax:h0.length<=px) (npx:px≠pi)
  (hR:R<=50000) (hB:B<=500000) (hS:S<=50000) (hLo:Lo<=500000) (sm:Small c R B S Lo) (P:WP D n m f g r c h) (F:Fr r h0 h) (hi:LocV h r pi (F9 k l s p (no::tl))) (htl:tl.length=6) (hx:LocV h r px (encI (d::t))) :
  ∃ h',(bnd (D4 h 33 (.c (.p px 0))) λv48=>bnd (dJ [.c (.p r 0),v48] h) λp49=>bnd (E5 p49.2 33 (.c (.p px 0)) p49.1) λh50=>bnd (D4 (h50++[A4 (T8 [])]) 33 (.c (.p px 0))) λv51=>bnd (iE [.c (.p r 0),v51] (h50++[A4 (T8 [])])) λp52=>bnd (D1E p52.1) λv53=>kQ q q (.c (.p r 0)) (.c (.i .i64 ino)) (.c (.p pi 0)) (.c (.p px 0)) (.c (.m h50.length)) p52.1 v53 (.c o0) p52.2)=A4 (.t [],h') /\
   WP D n m f g r (zS D n c ino no d t) h'/\Fr r h0 h'/\Small (zS D n c ino no d t) (R+224) (B+224) (S+33) (Lo+224)/\(zS D n c ino no d t).ino=c.ino:=by
 have hv2:=hv.get;have h33:(encI (d::t)).length=33:=by simp [B7,ht]
 have l33:=C7 (n:=33) hx.2 h33;obtain ⟨hA,a1,a2,a3⟩:=D4T (d:=d) (t:=t) hv2 P ht;have hbs:=iI (D:=D) (n:=n) (L:=M7 (gD d t) (D1 (X7 d t))) (s:=(c,gD d t));have hbl:=B2T (D:=D) (n:=n) (L:=M7 (gD d t) (D1 (X7 d t))) (s:=(c,gD d t));have eb:oW D n (c,gD d t) (M7 (gD d t) (D1 (X7 d t)))=V5 D n c d t:=rfl;rw [eb] at a1 a2 hbs hbl;have hbT:(V5 D n c d t).2.length=32:=hbl.trans A0b;obtain ⟨d',hd'⟩:∃ d',d'=X7 d t:=⟨_,rfl⟩;unfold zS bodyT;rw [<-hd'] at a1 ⊢;obtain ⟨s1,hs1⟩:∃ s1,s1=V5 D n c d t:=⟨_,rfl⟩;rw [<-hs1] at a1 a2 hbs hbT ⊢;dsimp only at hbs;have xA:=hx.fr a3;have iA:=hi.fr a3;have C66:(encI (d'::s1.2)).length=33:=by simp [B7,hbT]
 have st:=storeAll (n:=33) (xs:=encI (d'::s1.2)) xA.2 h33 C66;obtain ⟨hB',hBe⟩:∃ hB',hB'=hA.set px (rT (encI (d'::s1.2))):=⟨_,rfl⟩;rw [<-hBe] at st;have PB:WP D n m f g r s1.1 hB':=by rw [hBe];exact a2.set xA.1 (by omega)
 have FB:Fr r h0 hB':=by rw [hBe];exact (F.trans a3).set xA.1 ax
 have xB:LocV hB' r px (encI (d'::s1.2)):=by rw [hBe];exact xA.self
 have iB:LocV hB' r pi (F9 k l s p (no::tl)):=by rw [hBe];exact iA.set npx xA.1.2.1
 obtain ⟨L,hL⟩:∃ L,L=M7 s1.2 (D1 d'):=⟨_,rfl⟩;have hLl:L.length<=32:=by rw [hL];exact E6w (gQ _ _) (P5 _)
 obtain ⟨N,hN⟩:∃ N,N=oZ D (d'::s1.2) L:=⟨_,rfl⟩;have hNl:N.length<=224:=by
  have:=B8C (D:=D) (X:=d'::s1.2) (L:=L);rw [hN];omega
 have PC:=PB.more hv2 [A4 (T8 [])];have FC:Fr r hB' (hB'++[A4 (T8 [])]):=Fr.low ((Low.refl (E5V _)).new _) PB.rlt;have nmE:=D9x (n:=n) (m:=m) (f:=f) (r:=r) (d:=d') (t:=s1.2) (h:=hB'++[A4 (T8 [])]) hD (hv.since PC.lo) (PC.vw hv2) hbT;rw [<-hL,<-hN] at nmE;have PD:=PC.more hv2 [rT (W3 N)];have FD:Fr r (hB'++[A4 (T8 [])]) (hB'++[A4 (T8 [])]++[rT (W3 N)]):=Fr.low ((Low.refl (E5V _)).new _) PC.rlt;have hCl:(hB'++[A4 (T8 [])]).length=hB'.length+1:=by simp
 have LD:LocV (hB'++[A4 (T8 [])]++[rT (W3 N)]) r (hB'.length+1) (W3 N):=by
  have:=LocV.new (h:=hB'++[A4 (T8 [])]) (t:=[rT (W3 N)]) (k:=0) (cs:=W3 N) hv2 PC rfl;rw [hCl] at this;exact this
 have mkD:LocM (hB'++[A4 (T8 [])]++[rT (W3 N)]) r hB'.length []:=by
  refine LocM.fr (h:=hB'++[A4 (T8 [])]) ⟨⟨by simp,by have:=PB.rlt;omega,λhn=>?_⟩,by simp⟩ FD;have:=C02 hv2 PB ((Nam.same (E1 PB.rlt)).1 hn);omega
 have hpx:=xB.1.1;have hpi:=iB.1.1;have bl0:BndL s1.1 B:=λi=>by rw [hbs.lnk];exact sm.lnk i
 have r0:s1.1.row.length<=R:=by rw [hbs.row];exact sm.row
 have hh0:=FB.size;obtain ⟨M',es',hE,e1,e2,e3,e4,e5,e6,e7,e8,e9,e10⟩:=D5T (q:=q) (ino:=ino) (L:=N) (pi:=pi) (px:=px) (mk:=hB'.length) (lst:=hB'.length+1) (h0:=h0) hD hv h0g hh0 (by omega) (by omega) (by omega) (by omega) N.length 0 q B (s1.1,λ_=>A7) [] _ (by omega) (by omega) (by dsimp only;omega) (by omega) bl0 PD (FB.trans (FC.trans FD)) mkD MapK.nil (iB.fr (FC.trans FD)) (xB.fr (FC.trans FD)) LD;rw [E6a] at e2 e5 e8 e9 e10;rw [<-hL,<-hN];obtain ⟨s2,hs2⟩:∃ s2,s2=bC D n ino (s1.1,λ_=>A7) N:=⟨_,rfl⟩;rw [<-hs2] at e2 e5 e8 e9 e10 ⊢;dsimp only at e9 e10;have E0W:=B8q (d:=d') (t:=s1.2) (h:=hE) hbT;obtain ⟨ib,hib⟩:∃ ib,ib=(bif okX d' s1.2 then gE d' s1.2 else zeros 256):=⟨_,rfl⟩;have E3U:ib.length=256:=by
  rw [hib];cases okX d' s1.2 with
  | true=>exact mY hbT
  | false=>exact zeros_length
 rw [<-hib] at E0W ⊢;have hIl:(B4 ib).length=256:=by rw [A9,E3U]
 have PF:=e2.more hv2 [rT (B4 ib)];have FF:Fr r hE (hE++[rT (B4 ib)]):=Fr.low ((Low.refl (E5V _)).new _) e2.rlt;have iF:=e6.fr FF;have xF:=e7.fr FF;have mF:=e4.fr FF;have lXE:D4 hE 33 (.c (.p px 0))=A4 (.a (encI (d'::s1.2))):=C7 e7.2 C66;have li:B8 (hE++[rT (B4 ib)]) (.c (.p pi 4))=A4 (.c (.i .i64 no)):=B9 iF.2 rfl rfl;have lib:D4 (hE++[rT (B4 ib)]) 256 (.c (.p hE.length 0))=A4 (.a (B4 ib)):=by rw [R4];exact kU hIl
 have sib:E5 (hE++[rT (E5R 256 (Cell.i .u8 0))]) 256 (.c (.p hE.length 0)) (.a (B4 ib))=A4 (hE++[rT (B4 ib)]):=by
  rw [M6];show mp (stN (rT (E5R 256 (Cell.i .u8 0))) 0 256 (B4 ib)) _=_;rw [oU E6n hIl];rfl
 obtain ⟨hG,g1,g2,g3⟩:=D14 (no:=no) hv2 PF E3U (by rw [e10.blocks,hbs.blocks];have:=sm.blocks;omega) (by rw [e10.made,hbs.made];have:=sm.made;omega);have xG:=xF.fr g3;have mG:=mF.fr g3;have lXG:D4 hG 33 (.c (.p px 0))=A4 (.a (encI (d'::s1.2))):=C7 xG.2 C66;have hBu:=xT (d:=d') (t:=s1.2) (h:=hG) hbT;rw [<-hL] at hBu;have PH:=g2.more hv2 [rT (encI L)];have FH:Fr r hG (hG++[rT (encI L)]):=Fr.low ((Low.refl (E5V _)).new _) g2.rlt;have lH:LocV (hG++[rT (encI L)]) r (hG.length+0) (encI L):=LocV.new (k:=0) hv2 g2 rfl;rw [E6E] at lH;have cb:(S9 s2.1 no ib).blocks.length=c.blocks.length+1:=by show (s2.1.blocks++[no]).length=_;rw [e10.blocks,hbs.blocks];simp
 have cm:(S9 s2.1 no ib).made.length=c.made.length+1:=by show (s2.1.made++[ib]).length=_;rw [e10.made,hbs.made];simp
 have cl:(S9 s2.1 no ib).lost=c.lost:=by show s2.1.lost=_;rw [e10.lost,hbs.lost]
 have sb:=sm.blocks;have smd:=sm.made;have sl0:=sm.lost0;have sl1:=sm.lost;obtain ⟨hZ,z1,z2,z3,z4,z5,z6,z7,z8,z9,z10⟩:=D3r (q:=q) (d:=d') (t:=s1.2) (L:=L) (K:=s2.2) (es:=es') (mk:=hB'.length) (px:=px) (sid:=hG.length) (h0:=h0) hD hv hbT e5 (by omega) L.length 0 q (S9 s2.1 no ib) _ (by omega) (by omega) (by rw [cl];omega) (by rw [cl];omega) (by omega) (by omega) PH (e3.trans (FF.trans (g3.trans FH))) (mG.fr FH) (xG.fr FH) lH;rw [E6a] at z2 z4 z5 z6 z7 z8 z9 z10;refine ⟨hZ,?_,z2,z3,⟨?_,?_,by omega,by omega,z4,by omega⟩,?_⟩
 ·have lXB:D4 (hB'++[A4 (T8 [])]) 33 (.c (.p px 0))=A4 (.a (encI (d'::s1.2))):=C7 (C5 xB.2) C66;have e00:((0:Nat):Int)=0:=rfl;rw [e00] at e1 z1;have cN:¬ ((N.length:Nat):Int)<(N.length:Nat):=by omega
  rw [hCl] at nmE;rw [mQ q M'] at e1;generalize encI (d::t)=X at *;generalize encI (d'::s1.2)=X' at *;generalize B4 ib=IB at *;generalize E5R 256 (Cell.i .u8 0)=Z at *;simp only [M9,l33,a1,st,lXB,nmE,B7S];refine e1.trans ?_;simp only [esc,cN,lXE,E0W,sib,lib];have ad0:∀ j,I3 6 1 (.c (.p j 4)) (.c o0)=A4 (.c (.p j 4)):=λj=>J5 (j:=0) (by omega)
  simp only [esc,ad0,li,g1,lXG,hBu];exact z1
 ·rw [z8];show s2.1.row.length<=_;omega
 ·intro i;have:=e8 i;rw [z9];show 0<=(s2.1.lnk i).getD 0/\(s2.1.lnk i).getD 0<=_;omega
 ·rw [z10];show s2.1.ino=_;rw [e10.ino,hbs.ino]
end
section
variable {D:Dev} {n m:Int} {f:Cell} {g:B5} {r:Nat} {c:Cl} {h:B5}
def D8T {ino:Nat} {no p0 d:Int} {t:List Int} {q R B S Lo:Nat} {h0:B5} (hD:okD D) (hv:IsView g f D) (ht:t.length=32) (hq:300<=q) (h0g:g.length<=h0.length) (i1:ino<c.ino.length)
  (hR:R<=50000) (hB:B<=500000) (hS:S<=50000) (hLo:Lo<=500000) (sm:Small c R B S Lo) (P:WP D n m f g r c h) (F:Fr r h0 h) (hi:LocV h r h0.length (F9 2 1 0 p0 (no::zI 6))) (hx:LocV h r (h0.length+2) (encI (d::t))) :
  ∃ h',kP q (pV r 0) (iV (ino:Int)) (pV h0.length 0) (pV (h0.length+2) 0) h=A4 (.t [],h') /\
   WP D n m f g r (if no=0 then { c with ino:=c.ino.set ino (2::1::0::p0::no::zI 6) } else zS D n { c with ino:=c.ino.set ino (2::1::0::p0::no::zI 6) } ino no d t) h'/\Fr r h0 h' /\
   Small (if no=0 then { c with ino:=c.ino.set ino (2::1::0::p0::no::zI 6) } else zS D n { c with ino:=c.ino.set ino (2::1::0::p0::no::zI 6) } ino no d t) (R+224) (B+224) (S+33) (Lo+224):=by
 have hv2:=hv.get;obtain ⟨id,hC,c1,c2,c3,PC,FC⟩:=P.setIno hv2 (k:=ino) (l:=2::1::0::p0::no::zI 6) i1 rfl;have iC:=hi.fr FC;have xC:=hx.fr FC;have lI:D4 h 11 (pV h0.length 0)=A4 (.a (encI (2::1::0::p0::no::zI 6))):=C7 hi.2 rfl;have adI:D9 11 (sV id 0 c.ino.length 11) (iV (ino:Int))=A4 (pV id (ino*11)):=by rw [C9 i1];simp
 have lC4:B8 hC (pV h0.length 4)=A4 (iV no):=B9 iC.2 rfl rfl;have ad0:∀ j,I3 6 1 (pV j 4) (iV 0)=A4 (pV j 4):=λj=>J5 (j:=0) (by omega)
 have sm':Small { c with ino:=c.ino.set ino (2::1::0::p0::no::zI 6) } R B S Lo:=⟨sm.row,sm.lnk,sm.blocks,sm.made,sm.lost0,sm.lost⟩;rw [B1v];by_cases cz:no=0
 ·rw [if_pos cz];refine ⟨hC,?_,PC,F.trans FC,⟨E6w sm.row (by omega),sm'.lnk.mono (by omega),E6w sm.blocks (by omega),E6w sm.made (by omega),sm.lost0,by have:=sm.lost;show c.lost<=_;omega⟩⟩;rw [cz] at lC4;simp only [esc,Nat.reduceAdd,c1,lI,adI,c3,ad0,lC4];rfl
 ·rw [if_neg cz];obtain ⟨h',e1,e2,e3,e4,e5⟩:=D8U (ino:=(ino:Int)) (no:=no) (pi:=h0.length) (px:=h0.length+2) (q:=q) (h0:=h0) hD hv ht hq h0g (by omega) (by omega) hR hB hS hLo sm' PC (F.trans FC) iC (tl:=zI 6) rfl xC;refine ⟨h',?_,e2,e3,e4⟩;simp only [esc,Nat.reduceAdd,c1,lI,adI,c3,ad0,lC4,cz];exact e1
def D8S {ino:Int} {R B S Lo:Nat} (hD:okD D) (hv:IsView g f D) (P:WP D n m f g r c h) (i0:0<=ino) (i1:ino.toNat<c.ino.length) (hR:R<=50000) (hB:B<=500000) (hS:S<=50000) (hLo:Lo<=500000) (sm:Small c R B S Lo) :
  ∃ h',oA [pV r 0,iV ino] h=A4 (.t [],h')/\WP D n m f g r (sF D n c ino) h'/\Fr r h h'/\Small (sF D n c ino) (R+224) (B+224) (S+33) (Lo+224):=by
 have hv2:=hv.get;obtain ⟨k,rfl⟩:=E6C i0;rw [E6c] at i1;obtain ⟨mp,hq9,q1,q2,_⟩:=P.setPar hv2 0 0;have q2':=q2 A6 k;obtain ⟨p0,hp0⟩:∃ p0,p0=(c.par k).getD 0:=⟨_,rfl⟩;rw [<-hp0] at q2';obtain ⟨d0,hd0⟩:∃ d0,d0=(drV D n k).getD 0 0:=⟨_,rfl⟩;obtain ⟨b,hb⟩:∃ b,b=blk D d0:=⟨_,rfl⟩;have hbl:b.length=256:=by rw [hb];exact O9 hD
 obtain ⟨I,hI⟩:∃ I,I=F9 (kdV D n k) (lnV D n k) (szV D n k) (paV D n k) (drV D n k):=⟨_,rfl⟩;have hIl:I.length=11:=by rw [hI];simp [F9,B7,xE]
 have I0:I[0]?=A4 (.i .i64 (kdV D n k)):=by rw [hI];rfl
 have I4:I[4]?=A4 (.i .i64 d0):=by
  rw [hI];simp only [F9,E6F];rw [I1,hd0,E5Z,E5P (by rw [xE];omega)];rfl
 have hVI:=λt=>pN (n:=n) (m:=m) (i:=(k:Int)) (h:=h++t) hD ((hv.since P.lo).more t)
 rw [A8l,<-hI] at hVI;have lV:=λt=>(P.more hv2 t).view
 have hBk:=λt=>bP (n:=n) (m:=m) (no:=d0) (h:=h++t) hD ((hv.since P.lo).more t)
 rw [<-hb] at hBk;have B8j:=λh=>D1Y (b:=b) (h:=h) hbl
 obtain ⟨X,hX⟩:∃ X,X=(bif V6 b then getD b::O4 b 32 else 0::zI 32):=⟨_,rfl⟩;rw [<-hX] at B8j;obtain ⟨dd,tt,hXt,htt⟩:∃ dd tt,X=dd::tt/\tt.length=32:=by
  rw [hX];cases V6 b with
  | true=>exact ⟨_,_,rfl,C9l b⟩
  | false=>exact ⟨_,_,rfl,J6⟩
 have hXl:(encI X).length=33:=by rw [hXt];simp [B7,htt]
 obtain ⟨z,hz⟩:∃ z,z=F9 2 1 0 p0 (0::zI 6):=⟨_,rfl⟩;have hzl:z.length=11:=by rw [hz];rfl
 have z11:[o0,o0,o0,o0,o0,o0,o0,o0,o0,o0,o0].length=11:=rfl;have ef:E6 [o0,o0,o0,o0,o0,o0,o0,o0,o0,o0,o0] [(0,1,iV 2),(1,1,iV 1),(3,1,iV p0)]=A4 z:=by rw [hz];rfl
 obtain ⟨T,hT⟩:∃ T,T=[rT z,rT I,rT (encI X)]:=⟨_,rfl⟩;have P1:=P.more hv2 T;have F1:Fr r h (h++T):=Fr.low ((Low.refl (E5V _)).new _) P.rlt;have L0:LocV (h++T) r (h.length+0) z:=LocV.new (k:=0) hv2 P (by rw [hT];rfl);have L1:LocV (h++T) r (h.length+1) I:=LocV.new (k:=1) hv2 P (by rw [hT];rfl);have L2:LocV (h++T) r (h.length+2) (encI X):=LocV.new (k:=2) hv2 P (by rw [hT];rfl);rw [E6E] at L0;have ad0:∀ j,I3 6 1 (pV j 4) (iV 0)=A4 (pV j 4):=λj=>J5 (j:=0) (by omega)
 have eO:iQ D n c k=(bif decide (kdV D n k=2)&&V6 b then (eU D n c d0,U7 D n c d0) else (c,0)):=by unfold iQ;rw [<-hd0,<-hb]
 have eI:∀ s:Cl × Int,iQ D n c k=s->Y9 D n c k={ s.1 with ino:=s.1.ino.set k (2::1::0::p0::s.2::zI 6) }:=by
  intro s hs;unfold Y9;rw [hs,<-hp0,E6c]
 have eC:∀ s:Cl × Int,iQ D n c k=s->(s.2≠0->V6 b=A5)->sF D n c k=(if s.2=0 then { s.1 with ino:=s.1.ino.set k (2::1::0::p0::s.2::zI 6) } else zS D n { s.1 with ino:=s.1.ino.set k (2::1::0::p0::s.2::zI 6) } k s.2 dd tt):=by
  intro s hs hg;unfold sF;rw [hs,eI s hs,<-hd0,<-hb];split
  ·rfl
  ·rename_i T1;have h1:=hg T1;rw [h1,cond_true,hXt] at hX;cases hX;rfl
 have pre:∀ {v:Val} {h':B5},(cnd (bV (decide (kdV D n k=2)&&V6 b)) (bnd (V9 [pV r 0,iV d0] (h++T)) λp33=>bnd (I5 p33.2 (pV h.length 4) p33.1) λh36=>kP 300 (pV r 0) (iV (k:Int)) (pV h.length 0) (pV (h.length+2) 0) h36)
   (kP 300 (pV r 0) (iV (k:Int)) (pV h.length 0) (pV (h.length+2) 0) (h++T)))=A4 (v,h')->oA [pV r 0,iV (k:Int)] h=A4 (v,h'):=by
  intro v h' hj;refine B3k (n:=300) ?_;rw [B3f];rw [hT] at hj;have l0:ld1 (rT I) 0=A4 (iV (kdV D n k)):=by rw [A39,I0];rfl
  have l4:ld1 (rT I) 4=A4 (iV d0):=by rw [A39,I4];rfl
  have E2R:(o0::E5R 32 o0).length=33:=by simp
  have s33:stN (rT (o0::E5R 32 o0)) 0 33 (encI X)=rT (encI X):=oU E2R hXl;generalize [o0,o0,o0,o0,o0,o0,o0,o0,o0,o0,o0]=zz at *;generalize E5R 32 o0=z32 at *;generalize B4 b=BB at *;generalize encI X=XX at *;generalize vwC D.length n m f=V at *;cases hgd:V6 b with
  | true =>
   rw [hgd] at hj;simp only [hgd,cond_true] at B8j;by_cases ck:kdV D n k=2
   ·simp only [esc,bQ,R4,fN,U4,W2,M6,kU,oU,Nat.reduceAdd,q1,q2',A6E,ef,hzl,z11,lV,hVI,hIl,ad0,l4,hBk,B8j,s33,l0,ck] at hj ⊢;exact hj
   ·simp only [esc,bQ,R4,fN,U4,W2,M6,kU,oU,Nat.reduceAdd,q1,q2',A6E,ef,hzl,z11,lV,hVI,hIl,ad0,l4,hBk,B8j,s33,l0,ck] at hj ⊢;exact hj
  | false =>
   rw [hgd,E6T] at hj;simp only [hgd,cond_false] at B8j;have n14:¬ (14:Int)=0:=by decide
   by_cases ck:kdV D n k=2
   ·simp only [esc,bQ,R4,fN,U4,W2,M6,kU,oU,Nat.reduceAdd,q1,q2',A6E,ef,hzl,z11,lV,hVI,hIl,ad0,l4,hBk,B8j,s33,l0,ck,n14] at hj ⊢;exact hj
   ·simp only [esc,bQ,R4,fN,U4,W2,M6,kU,oU,Nat.reduceAdd,q1,q2',A6E,ef,hzl,z11,lV,hVI,hIl,ad0,l4,hBk,B8j,s33,l0,ck] at hj ⊢;exact hj
 cases hok:(decide (kdV D n k=2)&&V6 b) with
 | true =>
  rw [hok] at pre eO;rw [cond_true] at eO;obtain ⟨h1,f1,f2,f3⟩:=B8z (no:=d0) P1;have A0:=L0.fr f3;have A2:=L2.fr f3;have s1:=G8 (x:=.i .i64 (U7 D n c d0)) (off:=4) A0.2 (by rw [hzl];omega);have es:z.set 4 (.i .i64 (U7 D n c d0))=F9 2 1 0 p0 (U7 D n c d0::zI 6):=by rw [hz];rfl
  rw [es] at s1;have hsame:=rS D n c d0;rw [hXt] at A2;have sm':Small (eU D n c d0) R B S Lo:=⟨by rw [hsame.row];exact sm.row,λi=>by rw [hsame.lnk];exact sm.lnk i,by rw [hsame.blocks];exact sm.blocks,by rw [hsame.made];exact sm.made,by rw [hsame.lost];exact sm.lost0,by rw [hsame.lost];exact sm.lost⟩;obtain ⟨h',e1,e2,e3,e4⟩:=D8T (ino:=k) (no:=U7 D n c d0) (q:=300) (h0:=h) hD hv htt (by omega) P.lo.2.1 (by rw [hsame.ino];exact i1) hR hB hS hLo sm' (f2.set A0.1 (by have:=P.lo.2.1;omega)) ((F1.trans f3).set A0.1 (E5V _)) A0.self (A2.set (by omega) A0.1.2.1);rw [eC _ eO (λ_=>by
   simp only [E5S] at hok;exact hok.2)]
  refine ⟨h',pre ?_,e2,e3,e4⟩;simp only [C2i,f1,M9,s1];exact e1
 | false =>
  rw [hok] at pre eO;rw [cond_false] at eO;rw [hz] at L0;rw [hXt] at L2;obtain ⟨h',e1,e2,e3,e4⟩:=D8T (ino:=k) (no:=0) (q:=300) (h0:=h) hD hv htt (by omega) P.lo.2.1 i1 hR hB hS hLo sm P1 F1 L0 L2;rw [eC _ eO (λT1=>absurd rfl T1)];refine ⟨h',pre ?_,e2,e3,e4⟩;simp only [B73];exact e1
end
structure RowW (n:Int) (c:Cl):Prop where
 nd:c.row.Nodup
 par:∀ i,(c.par i).isSome=A5↔i∈c.row
 rg:∀ i∈c.row,1<=i/\i<=n
def RowW.same {n:Int} {c c':Cl} (h:RowW n c) (h1:c'.row=c.row) (h2:c'.par=c.par):RowW n c' :=
 ⟨by rw [h1];exact h.nd,λi=>by rw [h1,h2];exact h.par i,by rw [h1];exact h.rg⟩
def D74 {D:Dev} {n dir ino:Int} {c:Cl} (h:RowW n c):RowW n (dU D n c dir ino):=by
 unfold dU;cases ht:jF D n c ino with
 | false=>exact h
 | true =>
  rw [cond_true];cases hs:(c.par ino).isSome with
  | true=>exact h.same rfl rfl
  | false =>
   rw [cond_false];have cU:ino ∉ c.row:=λhm=>by
    rw [(h.par ino).2 hm] at hs;cases hs
   have hk:kdV D n ino≠0:=by
    intro e;unfold jF at ht;rw [e] at ht;simp at ht
   have hr:=(D5f hk).2;refine ⟨?_,λi=>?_,λi hi=>?_⟩
   ·show (c.row++[ino]).Nodup;rw [List.nodup_append];exact ⟨h.nd,by simp,λa ha b hb e=>by simp at hb;subst hb;subst e;exact cU ha⟩
   ·show (xY c.par ino dir i).isSome=A5↔i∈c.row++[ino];unfold xY;by_cases e:i=ino
    ·subst e;simp
    ·rw [if_neg e,h.par i];simp [e]
   ·have hi:i∈c.row++[ino]:=hi;rcases List.mem_append.1 hi with h1 | h1
    ·exact h.rg i h1
    ·simp at h1;subst h1;exact hr
def C1b {D:Dev} {n ino:Int}:∀ {L:List Ent} {s:Cl × (List UInt8->Option Int)},RowW n s.1->RowW n (bC D n ino s L).1
 | [],_,h=>h
 | x::L,s,h=>by
  have h1:RowW n (aK D n ino s x).1:=by
   unfold aK;cases jF D n s.1 x.2 with
   | false=>exact h
   | true=>exact D74 h
  exact C1b (L:=L) (s:=aK D n ino s x) h1
def A74 {D:Dev} {X:List Int} {K:List UInt8->Option Int}:∀ {L:List Int} {c:Cl},(O2 D X K c L).row=c.row/\(O2 D X K c L).par=c.par
 | [],_=>⟨rfl,rfl⟩
 | no::L,c=>by
  have h1:=A74 (D:=D) (X:=X) (K:=K) (L:=L) (c:=xW D X K c no);have h2:=rR (D:=D) (X:=X) (no:=no) (K:=K) (l:=O6 (blk D no)) (s:=(c,bU []));exact ⟨h1.1.trans h2.row,h1.2.trans h2.par⟩
def A1F {D:Dev} {n ino:Int} {c:Cl}:SameC c (iQ D n c ino).1:=by
 unfold iQ;cases (decide (kdV D n ino=2)&&V6 (blk D ((drV D n ino).getD 0 0))) with
 | true=>exact rS ..
 | false=>exact .rfl' _
def D8O {D:Dev} {n ino:Int} {c:Cl} (h:RowW n c):RowW n (sF D n c ino):=by
 have hs:=A1F (D:=D) (n:=n) (ino:=ino) (c:=c);have hI:RowW n (Y9 D n c ino):=h.same hs.row hs.par;unfold sF;split
 ·exact hI
 ·unfold zS;have hb:=iI (D:=D) (n:=n) (L:=M7 (gD (getD (blk D ((drV D n ino).getD 0 0))) (O4 (blk D ((drV D n ino).getD 0 0)) 32)) (D1 (X7 (getD (blk D ((drV D n ino).getD 0 0))) (O4 (blk D ((drV D n ino).getD 0 0)) 32)))) (s:=(Y9 D n c ino,gD (getD (blk D ((drV D n ino).getD 0 0))) (O4 (blk D ((drV D n ino).getD 0 0)) 32)));have h1:RowW n (V5 D n (Y9 D n c ino) (getD (blk D ((drV D n ino).getD 0 0))) (O4 (blk D ((drV D n ino).getD 0 0)) 32)).1:=hI.same hb.row hb.par;have h2:RowW n (bodyT D n (Y9 D n c ino) ino (getD (blk D ((drV D n ino).getD 0 0))) (O4 (blk D ((drV D n ino).getD 0 0)) 32)).1:=C1b (by exact h1);generalize bodyT D n (Y9 D n c ino) ino (getD (blk D ((drV D n ino).getD 0 0))) (O4 (blk D ((drV D n ino).getD 0 0)) 32)=s2 at *;refine h2.same (A74.1.trans rfl) (A74.2.trans rfl)
def xO {D:Dev} {n ino:Int} {c:Cl}:(iZ D n c ino).row=c.row/\(iZ D n c ino).par=c.par/\(iZ D n c ino).lnk=c.lnk/\(iZ D n c ino).lost=c.lost/\(iZ D n c ino).ino.length=c.ino.length/\(iZ D n c ino).blocks.length<=c.blocks.length+1/\(iZ D n c ino).made.length<=c.made.length+1:=by
 have hf:=A2v (D:=D) (n:=n) (ino:=ino) (c:=c);have e1:(aI D n c ino).row=c.row:=hf.1.row;have e2:(aI D n c ino).par=c.par:=hf.1.par;have e3:(aI D n c ino).lnk=c.lnk:=hf.1.lnk;have e4:(aI D n c ino).lost=c.lost:=hf.1.lost;have e5:(aI D n c ino).ino.length=c.ino.length:=by unfold aI;simp [hf.1.ino]
 have e6:(aI D n c ino).blocks=c.blocks:=hf.1.blocks;have e7:(aI D n c ino).made=c.made:=hf.1.made;unfold iZ;split
 ·exact ⟨e1,e2,e3,e4,e5,by rw [e6];omega,by rw [e7];omega⟩
 ·have hs:=xP (D:=D) (n:=n) (many:=A46 (szV D n ino)) (e:=128) (k:=0) (s:=(aI D n c ino,blk D ((fC D n c ino).2.getD 6 0)));dsimp only at hs;generalize cP D n (A46 (szV D n ino)) 128 0 (aI D n c ino,blk D ((fC D n c ino).2.getD 6 0))=s at *;refine ⟨hs.row.trans e1,hs.par.trans e2,hs.lnk.trans e3,hs.lost.trans e4,?_,?_,?_⟩
  ·show s.1.ino.length=_;rw [hs.ino];exact e5
  ·show (s.1.blocks++[_]).length<=_;rw [E5T,hs.blocks,e6];simp
  ·show (s.1.made++[_]).length<=_;rw [E5T,hs.made,e7];simp
def jD (D:Dev) (n:Int) (c:Cl) (ino:Int):Cl:=if ino≠1/\kdV D n ino=1 then iZ D n c ino else sF D n c ino
def ofR (D:Dev) (n:Int):Nat->Nat->Cl->Cl
 | 0,_,c=>c
 | e+1,i,c=>match c.row[i]? with
  | none=>c
  | some a=>ofR D n e (i+1) (jD D n c a)
def D09 {D:Dev} {n ino:Int}:∀ {L:List Ent} {s:Cl × (List UInt8->Option Int)},s.1.row.length<=(bC D n ino s L).1.row.length
 | [],_=>E5V _
 | x::L,s=>by
  have h1:s.1.row.length<=(aK D n ino s x).1.row.length:=by
   unfold aK dU;cases jF D n s.1 x.2 with
   | false=>exact E5V _
   | true =>
    simp only [cond_true];cases (s.1.par x.2).isSome with
    | true=>exact E5V _
    | false=>simp [D5v,B18]
  exact E6w h1 (D09 (L:=L) (s:=aK D n ino s x))
def D0I {c:Cl} {no:Int} {b:List UInt8}:(S9 c no b).row=c.row:=rfl
def D8P {D:Dev} {n ino:Int} {c:Cl}:c.row.length<=(sF D n c ino).row.length:=by
 have hs:=A1F (D:=D) (n:=n) (ino:=ino) (c:=c);have e1:(Y9 D n c ino).row=c.row:=hs.row;unfold sF;split
 ·rw [e1];exact E5V _
 ·unfold zS;rw [A74.1,D0I,<-e1];unfold bodyT;refine E6w (Nat.le_of_eq ?_) D09;unfold V5;exact congrArg List.length (iI (D:=D) (n:=n) (s:=(Y9 D n c ino,_)) (L:=_)).row.symm
def C7H {D:Dev} {n ino:Int} {c:Cl}:c.row.length<=(jD D n c ino).row.length:=by
 unfold jD;split
 ·rw [xO.1];exact E5V _
 ·exact D8P
section
variable {D:Dev} {n m:Int} {f:Cell} {g:B5} {r:Nat} {h:B5}
def C7G {D:Dev} {n ino:Int} {c:Cl} (h:RowW n c):RowW n (jD D n c ino):=by
 unfold jD;split
 ·exact h.same xO.1 xO.2.1
 ·exact D8O h
def E1b {pv pr q:Nat} {zr:List Cell} {h0:B5} (hD:okD D) (hv:IsView g f D) (hn:n<=128) :
  ∀ (e i M:Nat) (c:Cl) (h:B5),i+e=129->e<M->i<=c.row.length->RowW n c->Small c 128 (224*i) (33*i) (224*i)->WP D n m f g r c h->Fr r h0 h->LocV h r pv (vwC D.length n m f)->LocV h r pr zr ->
  ∃ M' h',rQ q M (pV pv 0) (pV pr 0) (pV r 0) (iV (i:Int)) h=rQ q (M'+1) (pV pv 0) (pV pr 0) (pV r 0) (iV ((ofR D n e i c).row.length:Nat)) h' /\
   WP D n m f g r (ofR D n e i c) h'/\Fr r h0 h'/\LocV h' r pv (vwC D.length n m f)/\LocV h' r pr zr/\RowW n (ofR D n e i c)/\Small (ofR D n e i c) 128 (224*129) (33*129) (224*129):=by
 intro e
 induction e with
 | zero =>
  intro i M c h hi hM dF hR sm;have:=B86 hR.nd λa ha=>⟨(hR.rg a ha).1,by have:=(hR.rg a ha).2;omega⟩
  omega
 | succ e ih =>
  intro i M c h hi hM dF hR sm P F hpv hpr;obtain ⟨M,rfl⟩:∃ M',M=M'+1:=⟨M-1,by omega⟩;unfold ofR;cases hc:c.row[i]? with
  | none =>
   have hlen:=List.getElem?_eq_none_iff.1 hc;have ei:i=c.row.length:=by omega
   dsimp only;rw [<-ei];exact ⟨M,h,rfl,P,F,hpv,hpr,hR,⟨sm.row,sm.lnk.mono (by omega),E6w sm.blocks (by omega),E6w sm.made (by omega),sm.lost0,by have:=sm.lost;omega⟩⟩
  | some a =>
   dsimp only;have P6:i<c.row.length:=(List.getElem?_eq_some_iff.1 hc).1;have ha:a∈c.row:=E6j hc;obtain ⟨ra1,ra2⟩:=hR.rg a ha;obtain ⟨xr,xi,xt,xb,xm,ml,mp,es1,es2,g1,g2,g3,g4,g5,g6,g7,g8,g9,g10,g11⟩:=id P.row;have w1:=D3 (show i+1<9223372036854775808 by omega);have c0:((i:Int)<(c.row.length:Nat)):=by omega
   rcases g3 with ⟨e0,_,_⟩ | ⟨rid,rfl,r1,r2,r3⟩
   ·omega
   ·have l4:B8 h (pV r 4)=A4 (sV rid 0 c.row.length 1):=B9 g1 rfl rfl;have ad:D9 1 (sV rid 0 c.row.length 1) (iV (i:Int))=A4 (pV rid i):=by rw [C9 P6];simp
    have la:B8 h (pV rid i)=A4 (iV a):=B9 r1 (by rw [I1,hc];rfl) rfl;have lV:D4 h 4 (pV pv 0)=A4 (.a (vwC D.length n m f)):=C7 hpv.2 rfl;have hI:=pN (n:=n) (m:=m) (i:=a) hD (hv.since P.lo);rw [A8l] at hI;have f0:∀ k l s p d,C11 (.a (F9 k l s p d)) 0=A4 (iV k):=λ_ _ _ _ _=>rfl
    have hin:a.toNat<c.ino.length:=by rw [P.ilen];omega
    have hR':=C7G (D:=D) (ino:=a) hR;have r128:=B86 hR'.nd λa ha=>⟨(hR'.rg a ha).1,by have:=(hR'.rg a ha).2;omega⟩
    have step:∃ h1,WP D n m f g r (jD D n c a) h1/\Fr r h h1/\Small (jD D n c a) 128 (224*(i+1)) (33*(i+1)) (224*(i+1)) /\
      rQ q (M+1) (pV pv 0) (pV pr 0) (pV r 0) (iV (i:Int)) h=rQ q M (pV pv 0) (pV pr 0) (pV r 0) (iV ((i+1:Nat):Int)) h1:=by
     rw [B1s];have hs:=xO (D:=D) (n:=n) (ino:=a) (c:=c);have sb:=sm.blocks;have smd:=sm.made;have sl:=sm.lost;by_cases c1:a=1
     ·obtain ⟨h1,f1,f2,f3,f4⟩:=D8S hD hv P (by omega) hin (by omega) (by omega) (by omega) (by omega) sm;have eo:jD D n c a=sF D n c a:=by unfold jD;rw [if_neg (by simp [c1])]
      rw [eo] at r128 ⊢;refine ⟨h1,f2,f3,⟨r128,f4.lnk.mono (by omega),by have:=f4.blocks;omega,by have:=f4.made;omega,f4.lost0,by have:=f4.lost;omega⟩,?_⟩;rw [c1] at la f1;generalize vwC D.length n m f=V at *;simp only [esc,l4,c0,ad,la,eq_self,f1,A2p,w1]
     ·by_cases c2:kdV D n a=1
      ·obtain ⟨h1,f1,f2,f3⟩:=E0U hD hv P (by omega) (by omega) (by omega) hin;have eo:jD D n c a=iZ D n c a:=by unfold jD;rw [if_pos ⟨c1,c2⟩]
       rw [eo] at r128 ⊢;refine ⟨h1,f2,f3,⟨r128,λj=>by rw [hs.2.2.1];have:=sm.lnk j;omega,by have:=hs.2.2.2.2.2.1;omega,by have:=hs.2.2.2.2.2.2;omega,by rw [hs.2.2.2.1];exact sm.lost0,by rw [hs.2.2.2.1];omega⟩,?_⟩;generalize vwC D.length n m f=V at *;simp only [esc,l4,c0,ad,la,c1,lV,hI,f0,c2,f1,A2p,w1]
      ·obtain ⟨h1,f1,f2,f3,f4⟩:=D8S hD hv P (by omega) hin (by omega) (by omega) (by omega) (by omega) sm;have eo:jD D n c a=sF D n c a:=by unfold jD;rw [if_neg (by simp [c2])]
       rw [eo] at r128 ⊢;refine ⟨h1,f2,f3,⟨r128,f4.lnk.mono (by omega),by have:=f4.blocks;omega,by have:=f4.made;omega,f4.lost0,by have:=f4.lost;omega⟩,?_⟩;generalize vwC D.length n m f=V at *;simp only [esc,l4,c0,ad,la,c1,lV,hI,f0,c2,f1,A2p,w1]
    obtain ⟨h1,s1,s2,s3,s4⟩:=step;have hlen:i+1<=(jD D n c a).row.length:=by
     have:c.row.length<=(jD D n c a).row.length:=C7H;omega
    obtain ⟨M',h',e1,e2⟩:=ih (i+1) M (jD D n c a) h1 (by omega) (by omega) hlen hR' s3 s1 (F.trans s2) (hpv.fr s2) (hpr.fr s2);exact ⟨M',h',s4.trans e1,e2⟩
end
end Go.Proofs.YtbnkgnfhgbhblaaGreat
