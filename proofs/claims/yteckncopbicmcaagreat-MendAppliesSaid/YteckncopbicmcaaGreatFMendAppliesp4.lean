/- What the proof of this claim leans on, part 4. -/
import Derived.Test.YteckncopbicmcaaGreatFMendAppliesp3
set_option linter.all false
namespace Go.Proofs.YteckncopbicmcaaGreat
open Go Go.Esc
theorem C71 {g:A4} {l l':List (Option Row)} {v:Val} {cs:List Cell} (hl:l'=l++[some ⟨cs,true⟩]):quiet (g++l) (some (v,g++l'))=some (v,g++l'):=by
 subst hl;have:=jF ((Grows.rfl' (h:=g++l)).new cs) (v:=v);rw [List.append_assoc] at this;exact this
theorem D48 {g:A4} {a:Option Row} {v:Val} {cs:List Cell}:quiet (g++[a]) (some (v,g++[a,some ⟨cs,true⟩]))=some (v,g++[a,some ⟨cs,true⟩]):=C71 rfl
theorem D10 {g:A4} {a b c d:Option Row} {v:Val} {cs:List Cell}:quiet (g++[a,b,c,d]) (some (v,g++[a,b,c,d,some ⟨cs,true⟩]))=some (v,g++[a,b,c,d,some ⟨cs,true⟩]):=C71 rfl
theorem D11 {g:A4} {a b c d e:Option Row} {v:Val} {cs:List Cell}:quiet (g++[a,b,c,d,e]) (some (v,g++[a,b,c,d,e,some ⟨cs,true⟩]))=some (v,g++[a,b,c,d,e,some ⟨cs,true⟩]):=C71 rfl
def J7 (k:Nat):Nat:=32+32*k
theorem nN {k:Nat} {h:A4} (hk:k<7):L6 [.c (.i .i64 (k:Int))] h=some (.c (.i .i64 (J7 k:Nat)),h):=by
 have key:∀ g,∃ g',pZ 0 [.c (.i .i64 (k:Int))] g=some (.c (.i .i64 (J7 k:Nat)),g'):=by
  intro g;have w1:=E8 (show k+1<9223372036854775808 by omega);have w2:IntKind.wrap .i64 (32*((k+1:Nat):Int))=((J7 k:Nat):Int):=by unfold J7;rw [wrap_i64 (by omega) (by omega)];omega
  rw [B3f];exact ⟨_,by simp only [esc,w1,w2]<;>rfl⟩
 obtain ⟨g',e⟩:=key (ro h);exact A99 e rfl
def C7k:List UInt8:=[98,107,116,33]
def hdB:List UInt8:=K7 256 C7k
theorem B2C:hdB.length=256:=F8 (by decide)
theorem B90 {h:A4}:mD [] h=some (.a (A5 hdB),h):=by
 have key:∀ g,∃ g',uN 0 [] g=some (.a (A5 hdB),g'):=by
  intro g;have hz:(A5 (zeros 256)).length=256:=by rw [A6];exact zeros_length
  have hd:(A5 hdB).length=256:=by rw [A6];exact B2C
  have ef:C7 [Cell.i .u8 0,.i .u8 0,.i .u8 0,.i .u8 0] [(0,1,.c (.i .u8 98)),(1,1,.c (.i .u8 107)),(2,1,.c (.i .u8 116)),(3,1,.c (.i .u8 33))]=some (A5 C7k):=rfl;have hO:=A9X (data:=C7k) (v:=.c (.sl (g.length+1) 0 4 1)) (nv:=4) (h:=g++[some (Row.mk (A5 (zeros 256)) true),some (Row.mk (A5 C7k) true)]) (Has.row (rw:=true) (by simp) rfl (T4 _)) (by decide);rw [C4Y (by decide),show K7 256 C7k=hdB from rfl] at hO;have hM:A2w (g++[some (Row.mk (A5 (zeros 256)) true),some (Row.mk (A5 C7k) true)]) (.c (.sl (g.length+1) 0 4 1))=some (.c (.sl (g.length+1) 0 4 1)):=by simp [A2w]
  rw [B5k,F5];generalize hdB=B at *;generalize A5 C7k=mg at *;generalize zeros 256=z at *;exact ⟨_,by simp only [esc,esh,Nat.reduceAdd,Nat.reduceMul,Nat.reduceLT,ef,hM,hO,hz,hd]<;>rfl⟩
 obtain ⟨g',e⟩:=key (ro h);exact B1Z e (by simp)
def B8E (s:List UInt8) (n:Int):Bool:=bG s&&(decide (1<=n)&&decide (n<=128))
theorem A3L {s:List UInt8} {n:Int} {h:A4} (hs:s.length<9223372036854775807):W5 [.a [.s s,.i .i64 n]] h=some (.c (.b (B8E s n)),h):=by
 have key:∀ g,∃ g',A0a 0 [.a [.s s,.i .i64 n]] g=some (.c (.b (B8E s n)),g'):=by
  intro g;have hC:=fun h=>B96 hs h
  rw [B7V];unfold B8E;cases hf:bG s with
  | false =>
   rw [hf] at hC;exact ⟨_,by simp only [esc,esh,Nat.reduceAdd,Nat.reduceMul,Nat.reduceLT,hC,Int.reduceEq]<;>rfl⟩
  | true =>
   rw [hf] at hC;by_cases c1:1<=n
   ·by_cases c2:n<=128
    ·rw [decide_eq_true c1,decide_eq_true c2];exact ⟨_,by simp only [esc,esh,Nat.reduceAdd,Nat.reduceMul,Nat.reduceLT,hC,c1,c2]<;>rfl⟩
    ·rw [decide_eq_true c1,decide_eq_false c2];exact ⟨_,by simp only [esc,esh,Nat.reduceAdd,Nat.reduceMul,Nat.reduceLT,hC,c1,c2]<;>rfl⟩
   ·rw [decide_eq_false c1];exact ⟨_,by simp only [esc,esh,Nat.reduceAdd,Nat.reduceMul,Nat.reduceLT,hC,c1]<;>rfl⟩
 obtain ⟨g',e⟩:=key (ro h);exact B3r e rfl
def iV (s:List UInt8) (n:Int):List UInt8:=D9 2 n++nC s++[0,0,0,0,0]
theorem iW {s:List UInt8} {n:Int}:(iV s n).length=32:=by simp [iV,rV]
theorem rA {s:List UInt8} {n:Int} {h:A4} (hs:s.length<9223372036854775807):M4 [.a [.s s,.i .i64 n]] h=some (.c (.sl h.length 0 32 1),h++[some ⟨A5 (iV s n),true⟩]):=by
 have key:∀ g,∃ v g',jO 0 [.a [.s s,.i .i64 n]] g=some (v,g')/\Out g.length g' v 1 32 (A5 (iV s n)):=by
  intro g;have e4:B5 .shr (.c (.i .i64 n)) (.c (.i .u64 8))=some (.c (.i .i64 (n/256))):=B9N (by omega);have wm:∀ a:Int,IntKind.wrap .u8 a=a%256:=fun a=>by
   simp only [IntKind.wrap,IntKind.bits,IntKind.signed,Bool.false_and];rfl
  have b0:IntKind.wrap .u8 n=((byI n 0).toNat:Int):=by rw [wm,C34];simp
  have b1:IntKind.wrap .u8 (n/256)=((byI n 1).toNat:Int):=by rw [wm,C34];simp
  have ef:C7 [Cell.i .u8 0,.i .u8 0] [(0,1,.c (.i .u8 (byI n 0).toNat)),(1,1,.c (.i .u8 (byI n 1).toNat))]=some (A5 (D9 2 n)):=rfl;have ef5:C7 [Cell.i .u8 0,.i .u8 0,.i .u8 0,.i .u8 0,.i .u8 0] [(0,1,.c (.i .u8 0)),(1,1,.c (.i .u8 0)),(2,1,.c (.i .u8 0)),(3,1,.c (.i .u8 0)),(4,1,.c (.i .u8 0))]=some (A5 [0,0,0,0,0]):=rfl;have hP:=fun h=>C8S hs h
  have hpl:(A5 (nC s)).length=25:=by rw [A6];exact rV
  have hz:(A5 (zeros 25)).length=25:=by rw [A6];exact zeros_length
  have hA:=A8z (h:=g++[some (Row.mk [.s s,.i .i64 n] true),some (Row.mk [] true),some (Row.mk (A5 (D9 2 n)) true),some (Row.mk (A5 (nC s)) true)]) (id:=g.length+2) (jd:=g.length+3) (n:=2) (m:=25) (sz:=1) (cs:=A5 (D9 2 n)) (ys:=A5 (nC s)) (rw:=true) (by simp) (by simp [A6]) (by simp) (by rw [hpl]) rfl (by omega) (by omega);simp only [List.length_append,List.length_cons,List.length_nil,Nat.zero_add,List.append_assoc,List.cons_append,List.nil_append,A34,List.set_cons_succ,List.set_cons_zero,Nat.reduceAdd,<-B7x] at hA;have D6C:(A5 (D9 2 n++nC s)).length=27*1:=by rw [A6,List.length_append,X8,rV]
  have hA2:=A8z (h:=g++[some (Row.mk [.s s,.i .i64 n] true),some (Row.mk [] true),none,some (Row.mk (A5 (nC s)) true),some (Row.mk (A5 (D9 2 n++nC s)) true),some (Row.mk (A5 [0,0,0,0,0]) true)]) (id:=g.length+4) (jd:=g.length+5) (n:=27) (m:=5) (sz:=1) (cs:=A5 (D9 2 n++nC s)) (ys:=A5 [0,0,0,0,0]) (rw:=true) (by simp) D6C (by simp) rfl rfl (by omega) (by omega);simp only [List.length_append,List.length_cons,List.length_nil,Nat.zero_add,List.append_assoc,List.cons_append,List.nil_append,A34,List.set_cons_succ,List.set_cons_zero,Nat.reduceAdd,<-B7x] at hA2;rw [<-List.append_assoc (D9 2 n),show D9 2 n++nC s++[0,0,0,0,0]=iV s n from rfl] at hA2;rw [A94,F5];refine ⟨.c (.sl (g.length+6) 0 32 1),g++[some (Row.mk [.s s,.i .i64 n] true),some (Row.mk [] true),none,some (Row.mk (A5 (nC s)) true),none,some (Row.mk (A5 [0,0,0,0,0]) true),some (Row.mk (A5 (iV s n)) true)],?_,by rw [A6,iW],g.length+6,rfl,by omega,?_⟩
  ·generalize iV s n=E at *;generalize D9 2 n++nC s=Q at *;generalize A5 [0,0,0,0,0]=F at *;generalize A5 (nC s)=P at *;generalize A5 (D9 2 n)=B2 at *;generalize zeros 25=z at *;simp only [esc,esh,Nat.reduceAdd,Nat.reduceMul,Nat.reduceLT,b0,e4,b1,ef,hP,hpl,hz,hA,ef5,hA2]
  ·simp
 obtain ⟨v,g',e,ho⟩:=key (ro h);exact A8c e (by simpa [I8] using ho) (by simp)
def B1D (b:List UInt8) (k:Nat):List UInt8:=(b.drop (J7 k)).take 32
def nameB (b:List UInt8) (k:Nat):List UInt8:=(b.drop (J7 k+2)).take 25
def wR (b:List UInt8) (k:Nat):Int:=fieldN b (J7 k) 2
abbrev Ent:=List UInt8 × Int
def isE (b:List UInt8) (k:Nat) (s:List UInt8):Bool:=B8E s (wR b k)&&decide (iV s (wR b k)=B1D b k)
def jG (b:List UInt8) (k:Nat):Option Ent:=(sE (nameB b k)).bind fun s=>if isE b k s=true then some (s,wR b k) else none
def eW:Option Ent->List Cell
 | none=>[.s [],.i .i64 0]
 | some e=>[.s e.1,.i .i64 e.2]
theorem C47 {b:List UInt8} {k:Nat} (hb:b.length=256) (hk:k<7):(B1D b k).length=32:=by simp [B1D,J7,hb];omega
theorem B4C {b:List UInt8} {k:Nat} (hb:b.length=256) (hk:k<7):(nameB b k).length=25:=by simp [nameB,J7,hb];omega
theorem B48 {l s:List UInt8} (h:sE l=some s):bG s=true:=by
 unfold sE at h;split at h
 ·split at h
  ·rename_i hc;cases h;exact hc.1
  ·cases h
 ·cases h
def cpN (l:List UInt8) (i:Nat):List UInt8:=l.take i++zeros (25-i)
theorem C7r {l:List UInt8} {i:Nat} (hl:l.length=25) (hi:i<=25):(cpN l i).length=25:=by simp [cpN,zeros,hl];omega
theorem D25 {l:List UInt8} {i:Nat} (hl:l.length=25) (hi:i<25):(cpN l i).set i l[i]=cpN l (i+1):=by
 unfold cpN;have hlen:(List.take i l).length=i:=by simp;omega
 rw [List.set_append_right _ _ (by omega),hlen,Nat.sub_self,List.take_succ_eq_append_getElem (by omega),List.append_assoc];refine congrArg (List.take i l ++ ·) ?_;have e:25-i=(25-(i+1))+1:=by omega
 rw [e];unfold zeros;rw [List.replicate_succ,List.set_cons_zero];rfl
theorem D24 {l:List UInt8} (hl:l.length=25):cpN l 25=l:=by simp [cpN,zeros,List.take_of_length_le,hl]
theorem D03 {b:List UInt8} {k:Nat}:B0t b (J7 k:Nat) 32=B1D b k:=by
 unfold B0t B1D;rw [if_pos (by omega)];simp
theorem D2W {b:List UInt8} {k:Nat} (hk:k<7):((atN b (J7 k:Nat) 2:Nat):Int)=wR b k:=by
 unfold atN wR fieldN J7;rw [if_pos ⟨by omega,Q5.2 (by omega)⟩];simp only [Int.toNat_natCast];rfl
theorem B9Z {b:List UInt8} {k q:Nat} {g:A4} (hb:b.length=256) (hk:k<7):∀ e i m:Nat,i+e=25->e<m ->
  ∃ h',qZ q m (.c (.i .i64 (k:Int))) (.c (.p g.length 0)) (.c (.p (g.length+1) 0)) (.c (.p (g.length+2) 0)) (.c (.i .i64 (i:Int))) (g++[some (Row.mk (A5 b) true),some (Row.mk [.s [],.i .i64 0] true),some (Row.mk (A5 (cpN (nameB b k) i)) true)]) =
   some (.t [.a (eW (jG b k)),.c (.b (jG b k).isSome)],h')
 | e,i,0,_,hm=>by omega
 | 0,i,m+1,hi,hm=>by
  have e0:i=25:=by omega
  subst e0;have hnl:=B4C hb hk;rw [D24 hnl];have c0:¬ ((25:Nat):Int)<25:=by omega
  have hbl:(A5 b).length=256:=by rw [A6,hb]
  have hnc:(A5 (nameB b k)).length=25:=by rw [A6,hnl]
  have hU:=fun h=>D0m hnl h
  have hF:=fun h=>nN (h:=h) hk
  have hA:=fun h=>kF (h:=h) hb (a:=(J7 k:Nat)) (w:=2)
  rw [D2W hk] at hA;have ef:∀ (s:List UInt8) (n:Int),C7 [Cell.s [],.i .i64 0] [(0,1,.c (.s s)),(1,1,.c (.i .i64 n))]=some [.s s,.i .i64 n]:=fun _ _=>rfl
  have ef0:C7 [Cell.s [],.i .i64 0] []=some [.s [],.i .i64 0]:=rfl;rw [A2y];unfold jG;cases hu:sE (nameB b k) with
  | none =>
   rw [hu] at hU;simp only [Option.getD_none,Option.isSome_none,Bool.false_eq_true,if_false] at hU;generalize wR b k=n at *;generalize A5 (nameB b k)=z at *;generalize A5 b=y at *;exact ⟨_,by simp only [esc,esh,Nat.reduceAdd,Nat.reduceMul,Nat.reduceLT,c0,hbl,hnc,hU,hF,hA,ef,ef0,Int.reduceEq,Option.bind_none,eW]<;>rfl⟩
  | some s =>
   rw [hu] at hU;simp only [Option.getD_some,Option.isSome_some,if_true] at hU;have hfs:=(nO (B48 hu)).2;have hM:=fun h=>A3L (s:=s) (n:=wR b k) (h:=h) (by omega)
   rw [Option.bind_some];unfold isE;cases hm:B8E s (wR b k) with
   | false =>
    rw [hm] at hM;rw [Bool.false_and,if_neg (by simp)];generalize wR b k=n at *;generalize A5 (nameB b k)=z at *;generalize A5 b=y at *;exact ⟨_,by simp only [esc,esh,Nat.reduceAdd,Nat.reduceMul,Nat.reduceLT,c0,hbl,hnc,hU,hF,hA,ef,ef0,hM,Int.reduceEq,eW]<;>rfl⟩
   | true =>
    rw [hm] at hM;rw [Bool.true_and];have hW:=fun h=>rA (s:=s) (n:=wR b k) (h:=h) (by omega)
    have sY:=C47 hb hk;have hC:=fun h=>B2I (h:=h) hb (a:=(J7 k:Nat)) (n:=32)
    rw [D03,sY] at hC;have s1:=fun (c0 c1 c2 c3:Option Row)=>Has.str (l:=iV s (wR b k)) (Has.row (h:=g++[c0,c1,c2,c3,some (Row.mk (A5 (iV s (wR b k))) true)]) (id:=g.length+4) (sz:=1) (n:=32) (rw:=true) (by simp) (by rw [A6,iW]) (T4 _))
    have s2:=fun (c0 c1 c2 c3 c4:Option Row)=>Has.str (l:=B1D b k) (Has.row (h:=g++[c0,c1,c2,c3,c4,some (Row.mk (A5 (B1D b k)) true)]) (id:=g.length+5) (sz:=1) (n:=32) (rw:=true) (by simp) (by rw [A6,sY]) (T4 _))
    by_cases ce:iV s (wR b k)=B1D b k
    ·rw [if_pos (decide_eq_true ce)];generalize iV s (wR b k)=E at *;generalize B1D b k=L at *;generalize wR b k=n at *;subst ce;generalize A5 (nameB b k)=z at *;generalize A5 b=y at *;exact ⟨_,by simp only [esc,esh,Nat.reduceAdd,Nat.reduceMul,Nat.reduceLT,c0,hbl,hnc,hU,hF,hA,ef,ef0,hM,hW,D10,s1,hC,D11,s2,eq_self,decide_true,Int.reduceEq,eW,Option.isSome_some]<;>rfl⟩
    ·rw [if_neg (by rw [decide_eq_true_eq];exact ce)];generalize iV s (wR b k)=E at *;generalize B1D b k=L at *;generalize wR b k=n at *;generalize A5 (nameB b k)=z at *;generalize A5 b=y at *;exact ⟨_,by simp only [esc,esh,Nat.reduceAdd,Nat.reduceMul,Nat.reduceLT,c0,hbl,hnc,hU,hF,hA,ef,ef0,hM,hW,D10,s1,hC,D11,s2,ce,Int.reduceEq,eW,Option.isSome_none]<;>rfl⟩
 | e+1,i,m+1,hi,hm=>by
  obtain ⟨h',ih⟩:=B9Z (q:=q) (g:=g) hb hk e (i+1) m (by omega) (by omega);have hnl:=B4C hb hk;have c0:(i:Int)<25:=by omega
  have hF:=fun h=>nN (h:=h) hk
  have hbl:(A5 b).length=256:=by rw [A6,hb]
  have xW:(A5 (cpN (nameB b k) i)).length=25:=by rw [A6];exact C7r hnl (by omega)
  have R0:i<(A5 (cpN (nameB b k) i)).length:=by omega
  have w1:IntKind.wrap .i64 (((J7 k:Nat):Int)+2)=((J7 k+2:Nat):Int):=by unfold J7;rw [wrap_i64 (by omega) (by omega)];omega
  have w2:IntKind.wrap .i64 (((J7 k+2:Nat):Int)+(i:Int))=((J7 k+2+i:Nat):Int):=by unfold J7;rw [wrap_i64 (by omega) (by omega)];omega
  have hj:J7 k+2+i<256:=by unfold J7;omega
  have a1:D8 256 1 (.c (.p g.length 0)) (.c (.i .i64 ((J7 k+2+i:Nat):Int)))=some (.c (.p g.length (J7 k+2+i))):=by rw [I7 hj];simp
  have a2:D8 25 1 (.c (.p (g.length+2) 0)) (.c (.i .i64 (i:Int)))=some (.c (.p (g.length+2) i)):=by rw [I7 (by omega)];simp
  have ei:(nameB b k)[i]'(by omega)=b[J7 k+2+i]'(by omega):=by simp [nameB]
  have l1:(A5 b)[J7 k+2+i]?=some (.i .u8 ((nameB b k)[i]'(by omega)).toNat):=by
   rw [ei];simp [A5,hb,hj]
  have hs:(A5 (cpN (nameB b k) i)).set i (.i .u8 ((nameB b k)[i]'(by omega)).toNat)=A5 (cpN (nameB b k) (i+1)):=by rw [iU,D25 hnl (by omega)]
  rw [A2y];refine ⟨h',?_⟩;generalize A5 (cpN (nameB b k) (i+1))=z1 at *;generalize A5 (cpN (nameB b k) i)=z at *;generalize A5 b=y at *;simp only [esc,esh,Nat.reduceAdd,Nat.reduceMul,Nat.reduceLT,c0,hF,w1,w2,a1,l1,a2,R0,hs,E8 (show i+1<9223372036854775808 by omega)];exact ih
theorem C9p {o:Option Ent}:I9 (eW o)=true:=by cases o<;>rfl
theorem A8F {b:List UInt8} {k:Nat} {h:A4} (hb:b.length=256) (hk:k<7):bS [.a (A5 b),.c (.i .i64 (k:Int))] h=some (.t [.a (eW (jG b k)),.c (.b (jG b k).isSome)],h):=by
 have key:∀ N,25<N->∀ g,∃ g',uP N [.a (A5 b),.c (.i .i64 (k:Int))] g=some (.t [.a (eW (jG b k)),.c (.b (jG b k).isSome)],g'):=by
  intro N hN g;obtain ⟨h',e⟩:=B9Z (g:=g) (q:=N) hb hk 25 0 N (by omega) hN;have e0:cpN (nameB b k) 0=zeros 25:=by simp [cpN]
  rw [e0] at e;rw [B5m,F5];generalize zeros 25=z at *;generalize A5 b=y at *;exact ⟨h',by simp only [esc,esh,Nat.reduceAdd,Nat.reduceMul,Nat.reduceLT];exact e⟩
 obtain ⟨g',e⟩:=key (h.length+26) (by omega) (ro h);exact B10 e (by simp [Val.flat,C9p,Cell.flat])
abbrev Slt:=Nat × Ent
def slC:Option Slt->List Cell
 | none=>[.i .i64 0,.s [],.i .i64 0]
 | some x=>[.i .i64 (x.1:Int),.s x.2.1,.i .i64 x.2.2]
theorem jH {o:Option Slt}:(slC o).length=3:=by cases o<;>rfl
theorem C6Y {o:Option Slt}:I9 (slC o)=true:=by cases o<;>rfl
def cY (b nm:List UInt8):Nat->Nat->Option Slt
 | 0,_=>none
 | e+1,k=>match jG b k with
  | some x=>if x.1=nm then some (k,x) else cY b nm e (k+1)
  | none=>cY b nm e (k+1)
theorem C2c {b nm:List UInt8} {e k:Nat} (hx:jG b k=none):cY b nm (e+1) k=cY b nm e (k+1):=by rw [cY,hx]
theorem C4d {b nm:List UInt8} {e k:Nat} {n:Int} (hx:jG b k=some (nm,n)):cY b nm (e+1) k=some (k,(nm,n)):=by rw [cY,hx];simp
theorem C2b {b nm s:List UInt8} {e k:Nat} {n:Int} (hx:jG b k=some (s,n)) (cK:s≠nm):cY b nm (e+1) k=cY b nm e (k+1):=by rw [cY,hx];simp [cK]
def gF (b nm:List UInt8):Option Slt:=cY b nm 7 0
theorem D1k {k n:Int} {s nm:List UInt8} {r1 r2 r3:Nat} {h:A4} (h1:rd h r1=some ⟨[.s nm],true⟩) (h3:rd h r3=some ⟨[.b false],true⟩) (cK:s≠nm) :
  aP [.a [.i .i64 k,.s s,.i .i64 n],.c (.p r1 0),.c (.p r2 0),.c (.p r3 0)] h=some (.c (.b true),h++[some ⟨[.i .i64 k,.s s,.i .i64 n],true⟩]):=by
 refine A06 (n:=0) ?_;have l1:A7 (h++[some (Row.mk [.i .i64 k,.s s,.i .i64 n] true)]) (.c (.p r1 0))=some (.c (.s nm)):=C1 (cs:=[.s nm]) (B6 h1) rfl rfl;have l3:A7 (h++[some (Row.mk [.i .i64 k,.s s,.i .i64 n] true)]) (.c (.p r3 0))=some (.c (.b false)):=C1 (cs:=[.b false]) (B6 h3) rfl rfl;rw [A01];simp only [esc,esh,Nat.reduceAdd,Nat.reduceMul,Nat.reduceLT,l1,cK,yU,l3]<;>rfl
theorem C9v {k n:Int} {nm:List UInt8} {c2:List Cell} {r1 r2 r3:Nat} {h:A4} (h1:rd h r1=some ⟨[.s nm],true⟩) (h2:rd h r2=some ⟨c2,true⟩) (hl:c2.length=3) (h3:rd h r3=some ⟨[.b false],true⟩) (h23:r2≠r3) :
  aP [.a [.i .i64 k,.s nm,.i .i64 n],.c (.p r1 0),.c (.p r2 0),.c (.p r3 0)] h=some (.c (.b false),((h++[some (Row.mk [.i .i64 k,.s nm,.i .i64 n] true)]).set r2 (some (Row.mk [.i .i64 k,.s nm,.i .i64 n] true))).set r3 (some (Row.mk [.b true] true))):=by
 refine A06 (n:=0) ?_;have l1:A7 (h++[some (Row.mk [.i .i64 k,.s nm,.i .i64 n] true)]) (.c (.p r1 0))=some (.c (.s nm)):=C1 (cs:=[.s nm]) (B6 h1) rfl rfl;have s2:=storeAll (h:=h++[some (Row.mk [.i .i64 k,.s nm,.i .i64 n] true)]) (id:=r2) (n:=3) (xs:=[.i .i64 k,.s nm,.i .i64 n]) (B6 h2) hl rfl;have h3':rd ((h++[some (Row.mk [.i .i64 k,.s nm,.i .i64 n] true)]).set r2 (some (Row.mk [.i .i64 k,.s nm,.i .i64 n] true))) r3=some ⟨[.b false],true⟩:=by rw [B7 h23];exact B6 h3
 have s3:=G3 (x:=.b true) (off:=0) h3' (by simp);have l4:A7 (((h++[some (Row.mk [.i .i64 k,.s nm,.i .i64 n] true)]).set r2 (some (Row.mk [.i .i64 k,.s nm,.i .i64 n] true))).set r3 (some (Row.mk [.b true] true))) (.c (.p r3 0))=some (.c (.b true)):=C1 (cs:=[.b true]) (C8 (by simpa using E4 h3')) rfl rfl;rw [A01];have s3:D3 ((h++[some (Row.mk [.i .i64 k,.s nm,.i .i64 n] true)]).set r2 (some (Row.mk [.i .i64 k,.s nm,.i .i64 n] true))) (.c (.p r3 0)) (.c (.b true))=some (((h++[some (Row.mk [.i .i64 k,.s nm,.i .i64 n] true)]).set r2 (some (Row.mk [.i .i64 k,.s nm,.i .i64 n] true))).set r3 (some (Row.mk [.b true] true))):=s3;simp only [esc,esh,Nat.reduceAdd,Nat.reduceMul,Nat.reduceLT,l1,s2,s3,yU,l4]<;>rfl
theorem B6p {b nm:List UInt8} {r0 r1 r2 r3 q:Nat} {B:A4} (hb:b.length=256) (hB1:rd B r1=some ⟨[.s nm],true⟩) (hr2:B.length<=r2) (hr3:B.length<=r3) (h23:r2≠r3) (h02:r0≠r2) (h03:r0≠r3):∀ (e k m:Nat) (h:A4),k+e=7->e<m->Low B.length B h ->
  rd h r2=some ⟨slC none,true⟩->rd h r3=some ⟨[.b false],true⟩->rd h r0=some ⟨A5 b,true⟩ ->
  ∃ h',W8 q m (.c (.f 153 [(r1,0),(r2,0),(r3,0)])) (.c (.p r0 0)) (.c (.i .i64 (k:Int))) h=some (.t [],h')/\Low B.length B h'/\rd h' r2=some ⟨slC (cY b nm e k),true⟩/\rd h' r3=some ⟨[.b (cY b nm e k).isSome],true⟩
 | e,k,0,h,_,hm,_,_,_,_=>by omega
 | 0,k,m+1,h,hk,hm,hlow,h2,h3,h0=>by
  have e0:k=7:=by omega
  subst e0;have c0:¬ ((7:Nat):Int)<7:=by omega
  refine ⟨h,?_,hlow,h2,h3⟩;rw [kP];simp only [esc,c0]<;>rfl
 | e+1,k,m+1,h,hk,hm,hlow,h2,h3,h0=>by
  have c0:(k:Int)<7:=by omega
  have hbl:(A5 b).length=256:=by rw [A6,hb]
  have s1:=D4 (h:=h) (id:=r0) h0 hbl;have hR:=A8F (h:=h) (k:=k) hb (by omega);have w1:=E8 (show k+1<9223372036854775808 by omega);have hcv:∀ (x:Val) (h:A4),oJ N1 (.c (.f 153 [(r1,0),(r2,0),(r3,0)])) [x] h=aP [x,.c (.p r1 0),.c (.p r2 0),.c (.p r3 0)] h:=fun _ _=>Eq.trans rfl rfl
  rw [kP];cases hx:jG b k with
  | none =>
   rw [hx] at hR;rw [C2c hx];obtain ⟨h',f1,f2⟩:=B6p (q:=q) hb hB1 hr2 hr3 h23 h02 h03 e (k+1) m (h++[some ⟨[.s [],.i .i64 0],true⟩]) (by omega) (by omega) (hlow.new _) (B6 h2) (B6 h3) (B6 h0);refine ⟨h',?_,f2⟩;generalize A5 b=y at *;simp only [esc,esh,Nat.reduceAdd,Nat.reduceMul,Nat.reduceLT,c0,s1,hR,eW,Option.isSome_none,w1];exact f1
  | some x =>
   obtain ⟨s,n⟩:=x;rw [hx] at hR;have ef:C7 [Cell.i .i64 0,.s [],.i .i64 0] [(0,1,.c (.i .i64 (k:Int))),(1,2,.a [.s s,.i .i64 n])]=some [.i .i64 (k:Int),.s s,.i .i64 n]:=rfl;have h1':rd (h++[some (Row.mk [.s s,.i .i64 n] true)]) r1=some ⟨[.s nm],true⟩:=B6 (hlow.rd hB1);by_cases ce:s=nm
   ·subst ce;have hF:=C9v (k:=(k:Int)) (n:=n) h1' (B6 h2) jH (B6 h3) h23;simp only [List.append_assoc,List.cons_append,List.nil_append] at hF;rw [C4d hx];refine ⟨((h++[some (Row.mk [.s s,.i .i64 n] true),some (Row.mk [.i .i64 (k:Int),.s s,.i .i64 n] true)]).set r2 (some (Row.mk [.i .i64 (k:Int),.s s,.i .i64 n] true))).set r3 (some (Row.mk [.b true] true)),?_,((hlow.new [some (Row.mk [.s s,.i .i64 n] true),some (Row.mk [.i .i64 (k:Int),.s s,.i .i64 n] true)]).set hr2 _).set hr3 _,?_,?_⟩
    ·generalize A5 b=y at *;simp only [esc,esh,Nat.reduceAdd,Nat.reduceMul,Nat.reduceLT,c0,s1,hR,eW,Option.isSome_some,ef,hcv,hF]<;>rfl
    ·rw [B7 (Ne.symm h23)];exact C8 (E4 (B6 h2))
    ·exact C8 (by rw [List.length_set];exact E4 (B6 h3))
   ·have hF:=D1k (k:=(k:Int)) (n:=n) (r2:=r2) h1' (B6 h3) ce;simp only [List.append_assoc,List.cons_append,List.nil_append] at hF;rw [C2b hx ce];obtain ⟨h',f1,f2⟩:=B6p (q:=q) hb hB1 hr2 hr3 h23 h02 h03 e (k+1) m (h++[some (Row.mk [.s s,.i .i64 n] true),some (Row.mk [.i .i64 (k:Int),.s s,.i .i64 n] true)]) (by omega) (by omega) (hlow.new _) (B6 h2) (B6 h3) (B6 h0);refine ⟨h',?_,f2⟩;generalize A5 b=y at *;simp only [esc,esh,Nat.reduceAdd,Nat.reduceMul,Nat.reduceLT,c0,s1,hR,eW,Option.isSome_some,ef,hcv,hF,w1];exact f1
theorem A8C {b nm:List UInt8} {h:A4} (hb:b.length=256):bR [.a (A5 b),.c (.s nm)] h=some (.t [.a (slC (gF b nm)),.c (.b (gF b nm).isSome)],h):=by
 have key:∀ g,∃ g',uM 0 [.a (A5 b),.c (.s nm)] g=some (.t [.a (slC (gF b nm)),.c (.b (gF b nm).isSome)],g'):=by
  intro g;have hbl:(A5 b).length=256:=by rw [A6,hb]
  have emk:A5Q 153 [.c (.p (g.length+1) 0),.c (.p (g.length+3) 0),.c (.p (g.length+4) 0)]=some (.c (.f 153 [(g.length+1,0),(g.length+3,0),(g.length+4,0)])):=rfl;obtain ⟨h',f1,f2,f3,f4⟩:=B6p (b:=b) (nm:=nm) (r0:=g.length+5) (r1:=g.length+1) (r2:=g.length+3) (r3:=g.length+4) (q:=8) (B:=g++[some (Row.mk (A5 b) true),some (Row.mk [.s nm] true),some (Row.mk (slC none) true)]) hb (by simp) (by simp) (by simp) (by omega) (by omega) (by omega) 7 0 8 (g++[some (Row.mk (A5 b) true),some (Row.mk [.s nm] true),some (Row.mk (slC none) true),some (Row.mk (slC none) true),some (Row.mk [.b false] true),some (Row.mk (A5 b) true)]) (by omega) (by omega)
   (by have:=(Low.refl (h:=g++[some (Row.mk (A5 b) true),some (Row.mk [.s nm] true),some (Row.mk (slC none) true)]) (Nat.le_refl _)).new [some (Row.mk (slC none) true),some (Row.mk [.b false] true),some (Row.mk (A5 b) true)];simpa using this) (by simp) (by simp) (by simp)
  have hS:Q6 [.a (A5 b),.c (.f 153 [(g.length+1,0),(g.length+3,0),(g.length+4,0)])] (g++[some (Row.mk (A5 b) true),some (Row.mk [.s nm] true),some (Row.mk (slC none) true),some (Row.mk (slC none) true),some (Row.mk [.b false] true)])=some (.t [],h'):=by
   refine A3E (n:=8) ?_;rw [A3y];simp only [esc,esh,Nat.reduceAdd,Nat.reduceMul,Nat.reduceLT];exact f1
  have hr:rd h' (g.length+2)=some ⟨slC none,true⟩:=by rw [f2.2.2 _ (by simp)];simp
  change rd h' (g.length+3)=some ⟨slC (gF b nm),true⟩ at f3;change rd h' (g.length+4)=some ⟨[.b (gF b nm).isSome],true⟩ at f4;have t1:=D4 (n:=3) f3 jH;have t2:A7 h' (.c (.p (g.length+4) 0))=some (.c (.b (gF b nm).isSome)):=C1 (cs:=[.b (gF b nm).isSome]) f4 rfl rfl;have t3:=storeAll (n:=3) (xs:=slC (gF b nm)) hr jH jH;have f4':rd (h'.set (g.length+2) (some ⟨slC (gF b nm),true⟩)) (g.length+4)=some ⟨[.b (gF b nm).isSome],true⟩:=by rw [B7 (by omega)];exact f4
  have t4:A7 (h'.set (g.length+2) (some ⟨slC (gF b nm),true⟩)) (.c (.p (g.length+4) 0))=some (.c (.b (gF b nm).isSome)):=C1 (cs:=[.b (gF b nm).isSome]) f4' rfl rfl;have t5:=D4 (n:=3) (C8 (x:=some ⟨slC (gF b nm),true⟩) (E4 hr)) jH;have z0:[Cell.i .i64 0,.s [],.i .i64 0]=slC none:=rfl;rw [B5i,z0];generalize slC (gF b nm)=Y at *;generalize slC none=Z at *;generalize (gF b nm).isSome=S at *;generalize A5 b=y at *;exact ⟨_,by simp only [esc,esh,Nat.reduceAdd,Nat.reduceMul,Nat.reduceLT,hbl,emk,hS,t1,t2,t3,t4,t5]<;>rfl⟩
 obtain ⟨g',e⟩:=key (ro h);exact B1X e (by simp [Val.flat,C6Y,Cell.flat])
def B39 (X:List Int) (nm:List UInt8):Nat:=C0U nm%E9 (X.headD 0)
def iY (X:List Int) (nm:List UInt8):Int:=X.tail.getD (B39 X nm) 0
theorem D1A (X:List Int) (nm:List UInt8):B39 X nm<32:=by
 have h1:=bJ (X.headD 0);have h2:0<E9 (X.headD 0):=by unfold E9;exact Nat.two_pow_pos _
 have:=Nat.mod_lt (C0U nm) h2;unfold B39;omega
abbrev Plc:=Int × Nat × Int
def D6Y:Option Plc->List Cell
 | none=>[.i .i64 0,.i .i64 0,.i .i64 0]
 | some p=>[.i .i64 p.1,.i .i64 (p.2.1:Int),.i .i64 p.2.2]
def D34 (D:Dev) (n k:Int) (d:List Int) (nm:List UInt8):Option Plc :=
 if D1C D n k d=true/\uA D.length n (iY (D4L D n k d) nm)=true then (gF (blk D (iY (D4L D n k d) nm)) nm).map fun s=>(iY (D4L D n k d) nm,s.1,s.2.2) else none
def sA (l:List Slt):List Cell:=(l.map fun x=>slC (some x)).flatten
theorem xS {l:List Slt}:(sA l).length=l.length*3:=by
 induction l with
 | nil=>rfl
 | cons x l ih=>simp only [sA,List.map_cons,List.flatten_cons,List.length_append,jH,List.length_cons] at ih ⊢;omega
theorem D0d {l:List Slt} {x:Slt}:sA (l++[x])=sA l++slC (some x):=by simp [sA]
theorem D0c {l:List Slt}:I9 (sA l)=true:=by
 induction l with
 | nil=>rfl
 | cons x l ih =>
  have:sA (x::l)=slC (some x)++sA l:=rfl;rw [this,rQ,C6Y,ih];rfl
theorem D1R {l:List Slt}:noX (sA l)=true:=by
 induction l with
 | nil=>rfl
 | cons x l ih =>
  have:sA (x::l)=[.i .i64 (x.1:Int),.s x.2.1,.i .i64 x.2.2]++sA l:=rfl;rw [this];simp [noX,Cell.isX] at ih ⊢;exact ih
def W2 (b:List UInt8):Nat->Nat->List Slt
 | 0,_=>[]
 | e+1,k=>match jG b k with
  | some x=>(k,x)::W2 b e (k+1)
  | none=>W2 b e (k+1)
def N8 (b:List UInt8):List Slt:=W2 b 7 0
theorem B1i {b:List UInt8} {e k:Nat} (hx:jG b k=none):W2 b (e+1) k=W2 b e (k+1):=by rw [W2,hx]
theorem B1j {b:List UInt8} {e k:Nat} {x:Ent} (hx:jG b k=some x):W2 b (e+1) k=(k,x)::W2 b e (k+1):=by rw [W2,hx]
theorem D4h {h:A4} {jd m sz:Nat} {ys:List Cell} (hy:rd h jd=some ⟨ys,true⟩) (hyl:ys.length=m*sz) (hsz:0<sz) (hn:m<=1073741824) :
  W7 h sz (.c .ns) (.c (.sl jd 0 m sz))=some (.c (.sl h.length 0 m sz),h++[some ⟨ys,true⟩]):=by
 have h2:N6 h sz (.c (.sl jd 0 m sz))=some ys:=by
  simp only [N6,if_true,kK,hy,Option.bind_some,List.drop_zero,Nat.zero_add];rw [<-hyl,List.take_length,if_pos ⟨Nat.le_refl _,rfl⟩]
 have e1:ys.length/sz=m:=by rw [hyl];exact Nat.mul_div_cancel _ hsz
 simp only [W7,h2,Option.bind_some];rw [e1,if_pos hn]
def Held (h:A4) (x:Cell) (l:List Slt) (b r0 r:Nat):Prop:=(l=[]/\x=.ns)\/∃ id,x=.sl id 0 l.length 3/\rd h id=some ⟨sA l,true⟩/\b<=id/\id≠r0/\id≠r
theorem Held.more {h:A4} {x:Cell} {l:List Slt} {b r0 r:Nat} (hd:Held h x l b r0 r) (t:A4):Held (h++t) x l b r0 r:=by
 rcases hd with hd | ⟨id,h1,h2,h3⟩
 ·exact .inl hd
 ·exact .inr ⟨id,h1,B6 h2,h3⟩
theorem D1H {k:Nat} {n:Int} {s:List UInt8} {x:Cell} {l:List Slt} {r0 r:Nat} {B h:A4} {c0:List Cell} (hlow:Low B.length B h) (hr:rd h r=some ⟨[x],true⟩) (h0:rd h r0=some ⟨c0,true⟩) (h0r:r0≠r) (hBr:B.length<=r) (hB0:B.length<=r0) (hd:Held h x l B.length r0 r) (hl:l.length<=7) :
  ∃ x' h',eR [.a [.i .i64 (k:Int),.s s,.i .i64 n],.c (.p r 0)] h=some (.c (.b true),h')/\Low B.length B h'/\rd h' r=some ⟨[x'],true⟩/\rd h' r0=some ⟨c0,true⟩/\Held h' x' (l++[(k,(s,n))]) B.length r0 r:=by
 have R0:=E4 hr;have D7i:=E4 h0;have l1:A7 (h++[some (Row.mk [.i .i64 (k:Int),.s s,.i .i64 n] true)]) (.c (.p r 0))=some (.c x):=C1 (cs:=[x]) (B6 hr) rfl (by simp);have ef:C7 [Cell.i .i64 0,.s [],.i .i64 0] [(0,3,.a [.i .i64 (k:Int),.s s,.i .i64 n])]=some [.i .i64 (k:Int),.s s,.i .i64 n]:=rfl;have hBh:=hlow.2.1;rcases hd with ⟨rfl,rfl⟩ | ⟨id,rfl,hi,hbi,hi0,hir⟩
 ·have hA:=D4h (h:=h++[some (Row.mk [.i .i64 (k:Int),.s s,.i .i64 n] true),some (Row.mk [.i .i64 (k:Int),.s s,.i .i64 n] true)]) (jd:=h.length+1) (m:=1) (sz:=3) (ys:=[.i .i64 (k:Int),.s s,.i .i64 n]) (by simp) rfl (by omega) (by omega);simp only [List.length_append,List.length_cons,List.length_nil,Nat.zero_add,List.append_assoc,List.cons_append,List.nil_append,Nat.reduceAdd] at hA;have hr2:rd (h++[some (Row.mk [.i .i64 (k:Int),.s s,.i .i64 n] true),some (Row.mk [.i .i64 (k:Int),.s s,.i .i64 n] true),some (Row.mk [.i .i64 (k:Int),.s s,.i .i64 n] true)]) r=some ⟨[.ns],true⟩:=B6 hr;have t1:=G3 (x:=.sl (h.length+2) 0 1 3) (off:=0) hr2 (by simp);refine ⟨.sl (h.length+2) 0 1 3,_,A07 (n:=0) (by rw [A02];simp only [esc,esh,Nat.reduceAdd,Nat.reduceMul,Nat.reduceLT,l1,ef,hA,t1]<;>rfl),(hlow.new _).set hBr _,?_,?_,.inr ⟨h.length+2,rfl,?_,by omega,by omega,by omega⟩⟩
  ·exact C8 (E4 hr2)
  ·rw [B7 (Ne.symm h0r)];exact B6 h0
  ·rw [B7 (by omega)];simp [sA,slC]
 ·have hA:=A8z (h:=h++[some (Row.mk [.i .i64 (k:Int),.s s,.i .i64 n] true),some (Row.mk [.i .i64 (k:Int),.s s,.i .i64 n] true)]) (id:=id) (jd:=h.length+1) (n:=l.length) (m:=1) (sz:=3) (cs:=sA l) (ys:=[.i .i64 (k:Int),.s s,.i .i64 n]) (rw:=true) (B6 hi) xS (by simp) rfl rfl (by omega) (by omega);have hli:=E4 hi;have es:(h++[some (Row.mk [.i .i64 (k:Int),.s s,.i .i64 n] true),some (Row.mk [.i .i64 (k:Int),.s s,.i .i64 n] true)]).length=h.length+2:=by simp
  rw [es] at hA;have hr2:rd ((h++[some (Row.mk [.i .i64 (k:Int),.s s,.i .i64 n] true),some (Row.mk [.i .i64 (k:Int),.s s,.i .i64 n] true)]).set id none++[some (Row.mk (sA l++[.i .i64 (k:Int),.s s,.i .i64 n]) true)]) r=some ⟨[.sl id 0 l.length 3],true⟩:=by
   refine B6 ?_;rw [B7 hir];exact B6 hr
  have t1:=G3 (x:=.sl (h.length+2) 0 (l.length+1) 3) (off:=0) hr2 (by simp);refine ⟨.sl (h.length+2) 0 (l.length+1) 3,_,A07 (n:=0) (by rw [A02];simp only [esc,esh,Nat.reduceAdd,Nat.reduceMul,Nat.reduceLT,l1,ef,hA,t1]<;>rfl),(((hlow.new _).set hbi _).new _).set hBr _,?_,?_,.inr ⟨h.length+2,by simp,?_,by omega,by omega,by omega⟩⟩
  ·exact C8 (E4 hr2)
  ·rw [B7 (Ne.symm h0r)];refine B6 ?_;rw [B7 hi0];exact B6 h0
  ·rw [B7 (by omega),D0d];have:((h++[some (Row.mk [.i .i64 (k:Int),.s s,.i .i64 n] true),some (Row.mk [.i .i64 (k:Int),.s s,.i .i64 n] true)]).set id none).length=h.length+2:=by simp
   rw [<-this];exact V6
theorem B6q {b:List UInt8} {r0 r q:Nat} {B:A4} (hb:b.length=256) (h0r:r0≠r) (hBr:B.length<=r) (hB0:B.length<=r0):∀ (e k m:Nat) (h:A4) (x:Cell) (l:List Slt),k+e=7->e<m->l.length<=k->Low B.length B h ->
  rd h r=some ⟨[x],true⟩->rd h r0=some ⟨A5 b,true⟩->Held h x l B.length r0 r ->
  ∃ x' h',W9 q m (.c (.f 163 [(r,0)])) (.c (.p r0 0)) (.c (.i .i64 (k:Int))) h=some (.t [],h')/\Low B.length B h'/\rd h' r=some ⟨[x'],true⟩/\Held h' x' (l++W2 b e k) B.length r0 r
 | e,k,0,h,x,l,_,hm,_,_,_,_,_=>by omega
 | 0,k,m+1,h,x,l,hk,hm,hl,hlow,hr,h0,hd=>by
  have e0:k=7:=by omega
  subst e0;have c0:¬ ((7:Nat):Int)<7:=by omega
  refine ⟨x,h,?_,hlow,hr,by rw [W2,List.append_nil];exact hd⟩;rw [kR];simp only [esc,c0]<;>rfl
 | e+1,k,m+1,h,x,l,hk,hm,hl,hlow,hr,h0,hd=>by
  have c0:(k:Int)<7:=by omega
  have hbl:(A5 b).length=256:=by rw [A6,hb]
  have s1:=D4 (h:=h) (id:=r0) h0 hbl;have hR:=A8F (h:=h) (k:=k) hb (by omega);have w1:=E8 (show k+1<9223372036854775808 by omega);have hcv:∀ (x:Val) (h:A4),oJ N2 (.c (.f 163 [(r,0)])) [x] h=eR [x,.c (.p r 0)] h:=fun _ _=>Eq.trans rfl rfl
  rw [kR];cases hx:jG b k with
  | none =>
   rw [hx] at hR;rw [B1i hx];obtain ⟨x',h',f1,f2⟩:=B6q (q:=q) hb h0r hBr hB0 e (k+1) m (h++[some ⟨[.s [],.i .i64 0],true⟩]) x l (by omega) (by omega) (by omega) (hlow.new _) (B6 hr) (B6 h0) (hd.more _);refine ⟨x',h',?_,f2⟩;generalize A5 b=y at *;simp only [esc,esh,Nat.reduceAdd,Nat.reduceMul,Nat.reduceLT,c0,s1,hR,eW,Option.isSome_none,w1];exact f1
  | some en =>
   obtain ⟨s,n⟩:=en;rw [hx] at hR;rw [B1j hx];have ef:C7 [Cell.i .i64 0,.s [],.i .i64 0] [(0,1,.c (.i .i64 (k:Int))),(1,2,.a [.s s,.i .i64 n])]=some [.i .i64 (k:Int),.s s,.i .i64 n]:=rfl;obtain ⟨x1,h1,g1,g2,g3,g4,g5⟩:=D1H (k:=k) (n:=n) (s:=s) (hlow.new [some (Row.mk [.s s,.i .i64 n] true)]) (B6 hr) (B6 h0) h0r hBr hB0 (hd.more _) (by omega);obtain ⟨x',h',f1,f2,f3,f4⟩:=B6q (q:=q) hb h0r hBr hB0 e (k+1) m h1 x1 (l++[(k,(s,n))]) (by omega) (by omega) (by simp;omega) g2 g3 g4 g5;rw [List.append_assoc,List.singleton_append] at f4;refine ⟨x',h',?_,f2,f3,f4⟩;generalize A5 b=y at *;simp only [esc,esh,Nat.reduceAdd,Nat.reduceMul,Nat.reduceLT,c0,s1,hR,eW,Option.isSome_some,ef,hcv,g1,w1];exact f1
theorem A6R {b:List UInt8} {h:A4} (hb:b.length=256):∃ v t,X5 [.a (A5 b)] h=some (v,h++t)/\Has (h++t) v 3 (N8 b).length (sA (N8 b))/\(t=[]/\v=.c .ns/\N8 b=[]\/t=[some ⟨sA (N8 b),true⟩]/\v=.c (.sl h.length 0 (N8 b).length 3)):=by
 have key:∀ g,∃ x g',mC 8 [.a (A5 b)] g=some (.c x,g')/\Held g' x (N8 b) g.length (g.length+3) (g.length+2):=by
  intro g;have hbl:(A5 b).length=256:=by rw [A6,hb]
  have emk:A5Q 163 [.c (.p (g.length+2) 0)]=some (.c (.f 163 [(g.length+2,0)])):=rfl;obtain ⟨x,h',f1,f2,f3,f4⟩:=B6q (b:=b) (r0:=g.length+3) (r:=g.length+2) (q:=8) (B:=g) hb (by omega) (by omega) (by omega) 7 0 8 (g++[some (Row.mk (A5 b) true),some (Row.mk [] true),some (Row.mk [.ns] true),some (Row.mk (A5 b) true)]) .ns [] (by omega) (by omega) (by simp)
   ((Low.refl (Nat.le_refl _)).new _) (by simp) (by simp) (.inl ⟨rfl,rfl⟩)
  have hS:Q7 [.a (A5 b),.c (.f 163 [(g.length+2,0)])] (g++[some (Row.mk (A5 b) true),some (Row.mk [] true),some (Row.mk [.ns] true)])=some (.t [],h'):=by
   refine A3G (n:=8) ?_;rw [A3z];simp only [esc,esh,Nat.reduceAdd,Nat.reduceMul,Nat.reduceLT];exact f1
  have t1:A7 h' (.c (.p (g.length+2) 0))=some (.c x):=C1 (cs:=[x]) f3 rfl (by simp);rw [B5j];generalize A5 b=y at *;exact ⟨x,h',by simp only [esc,esh,Nat.reduceAdd,Nat.reduceMul,Nat.reduceLT,hbl,emk,hS,t1],f4⟩
 obtain ⟨x,g',e,hd⟩:=key (ro h);rcases hd with ⟨hl,rfl⟩ | ⟨id,rfl,hr,hbi,_⟩
 ·refine ⟨.c .ns,[],?_,?_,.inl ⟨rfl,rfl,hl⟩⟩
  ·rw [List.append_nil];exact B3m e (by simp [Val.low,Cell.low,Cell.flat])
  ·rw [hl];exact .inl ⟨rfl,rfl,rfl⟩
 ·rw [I8] at hbi;refine ⟨.c (.sl h.length 0 (N8 b).length 3),[some ⟨sA (N8 b),true⟩],B3n e ⟨xS,id,rfl,hbi,hr⟩ D0c,Has.row (rw:=true) (by simp) xS D1R,.inr ⟨rfl,rfl⟩⟩
def D5k (h:A4) (x:Cell) (cs:List Cell) (n sz b:Nat) (rs:List Nat):Prop:=(n=0/\cs=[]/\x=.ns)\/∃ id,x=.sl id 0 n sz/\rd h id=some ⟨cs,true⟩/\cs.length=n*sz/\b<=id/\id ∉ rs
def VarC (h:A4) (r:Nat) (cs:List Cell) (n sz b:Nat) (rs:List Nat):Prop:=∃ x,rd h r=some ⟨[x],true⟩/\D5k h x cs n sz b rs
theorem VarC.nil {h:A4} {r sz b:Nat} {rs:List Nat} (hr:rd h r=some ⟨[.ns],true⟩):VarC h r [] 0 sz b rs:=⟨.ns,hr,.inl ⟨rfl,rfl,rfl⟩⟩
theorem VarC.keep {h h':A4} {r n sz b:Nat} {cs:List Cell} {rs:List Nat} (hv:VarC h r cs n sz b rs) (h1:rd h' r=rd h r) (h2:∀ id,id ∉ rs->∀ x,rd h id=some x->rd h' id=some x):VarC h' r cs n sz b rs:=by
 obtain ⟨x,hx,hd⟩:=hv;refine ⟨x,by rw [h1];exact hx,?_⟩;rcases hd with hd | ⟨id,e,hr,hl,hb,hn⟩
 ·exact .inl hd
 ·exact .inr ⟨id,e,h2 id hn _ hr,hl,hb,hn⟩
theorem VarC.more {h:A4} {r n sz b:Nat} {cs:List Cell} {rs rs':List Nat} (hv:VarC h r cs n sz b rs) (t:A4) (hrs:∀ j∈rs',j∈rs\/h.length<=j):VarC (h++t) r cs n sz b rs':=by
 obtain ⟨x,hx,hd⟩:=hv;refine ⟨x,B6 hx,?_⟩;rcases hd with hd | ⟨id,e,hr,hl,hb,hn⟩
 ·exact .inl hd
 ·refine .inr ⟨id,e,B6 hr,hl,hb,fun hm=>?_⟩;have:=E4 hr;rcases hrs id hm with h1 | h1
  ·exact hn h1
  ·omega
theorem VarC.push {h:A4} {r n sz b:Nat} {cs ys:List Cell} {rs:List Nat} (hv:VarC h r cs n sz b rs) (hr:r∈rs) (hbr:b<=r) (hbh:b<=h.length) (R0:∀ j∈rs,j<h.length) (hl:n<=100000) (hy:ys.length=sz) (hsz:0<sz) :
  ∃ x v h2 h3,A7 h (.c (.p r 0))=some (.c x)/\W7 (h++[some ⟨ys,true⟩]) sz (.c x) (.c (.sl h.length 0 1 sz))=some (.c v,h2)/\D3 h2 (.c (.p r 0)) (.c v)=some h3 /\
   VarC h3 r (cs++ys) (n+1) sz b rs/\Low b h h3/\(∀ j∈rs,j≠r->rd h3 j=rd h j)/\h.length<=h3.length:=by
 obtain ⟨x,hx,hd⟩:=hv;have hrl:=E4 hx;have l1:A7 h (.c (.p r 0))=some (.c x):=C1 hx rfl (by simp);rcases hd with ⟨rfl,rfl,rfl⟩ | ⟨id,rfl,hi,xW,hb,hn⟩
 ·have hA:=C32 (h:=h++[some ⟨ys,true⟩]) (jd:=h.length) (m:=1) (sz:=sz) (ys:=ys) (by simp) (by omega) hsz (by omega);have e1:(h++[some (Row.mk ys true)]).length=h.length+1:=by simp
  rw [e1] at hA;have hr2:rd (h++[some (Row.mk ys true)]++[some (Row.mk ys true)]) r=some ⟨[.ns],true⟩:=B6 (B6 hx);have s1:=G3 (x:=.sl (h.length+1) 0 1 sz) (off:=0) hr2 (by simp);refine ⟨.ns,_,_,_,l1,hA,s1,⟨.sl (h.length+1) 0 1 sz,C8 (E4 hr2),.inr ⟨h.length+1,rfl,?_,by simp [hy],by omega,fun h1=>by have:=R0 _ h1;omega⟩⟩,(((Low.refl hbh).new _).new _).set hbr _,fun j hj hjr=>?_,by simp⟩
  ·rw [B7 (by omega)];have:=V6 (h:=h++[some (Row.mk ys true)]) (r:=⟨ys,true⟩);rw [e1] at this;exact this
  ·rw [B7 (Ne.symm hjr)];have:=R0 j hj;rw [E3 (by simp;omega),E3 this]
 ·have S3:=E4 hi;have cK:id≠r:=fun e=>hn (e ▸ hr)
  have hA:=A8z (h:=h++[some ⟨ys,true⟩]) (id:=id) (jd:=h.length) (n:=n) (m:=1) (sz:=sz) (cs:=cs) (ys:=ys) (rw:=true) (B6 hi) xW (by simp) (by omega) rfl hsz (by omega);have e1:(h++[some (Row.mk ys true)]).length=h.length+1:=by simp
  rw [e1] at hA;have hr2:rd ((h++[some (Row.mk ys true)]).set id none++[some (Row.mk (cs++ys) true)]) r=some ⟨[.sl id 0 n sz],true⟩:=by
   refine B6 ?_;rw [B7 cK];exact B6 hx
  have s1:=G3 (x:=.sl (h.length+1) 0 (n+1) sz) (off:=0) hr2 (by simp);refine ⟨_,_,_,_,l1,hA,s1,⟨.sl (h.length+1) 0 (n+1) sz,C8 (E4 hr2),.inr ⟨h.length+1,by simp,?_,by simp [xW,hy,Nat.add_mul],by omega,fun h1=>by have:=R0 _ h1;omega⟩⟩,((((Low.refl hbh).new _).set hb _).new _).set hbr _,fun j hj hjr=>?_,by simp;omega⟩
  ·rw [B7 (by omega)];have:=V6 (h:=(h++[some (Row.mk ys true)]).set id none) (r:=⟨cs++ys,true⟩);rw [List.length_set,e1] at this;exact this
  ·have hji:j≠id:=fun e=>hn (e ▸ hj)
   have:=R0 j hj;rw [B7 (Ne.symm hjr),E3 (by simp;omega),B7 (Ne.symm hji),E3 this]
abbrev Tld:=Plc × List UInt8
def D59 (no:Int) (l:List Slt):List Tld:=l.map fun s=>((no,s.1,s.2.2),s.2.1)
def D6i (D:Dev) (L:List Int):List Tld:=L.flatMap fun no=>D59 no (N8 (blk D no))
theorem C81 {l:List Slt}:∀ {i:Nat} {x:Slt},l[i]?=some x->((sA l).drop (i*3)).take 3=slC (some x):=by
 induction l with
 | nil=>intro i x h;simp at h
 | cons y l ih =>
  intro i x h;have e:sA (y::l)=slC (some y)++sA l:=rfl;cases i with
  | zero=>simp at h;subst h;rw [e];rfl
  | succ i =>
   simp at h;rw [e,show (i+1)*3=3+i*3 by omega,<-List.drop_drop,List.drop_left' (by rw [jH])];exact ih h
theorem vL (b:List UInt8):(N8 b).length<=7:=by
 have:∀ e k,(W2 b e k).length<=e:=by
  intro e
  induction e with
  | zero=>intro k;simp [W2]
  | succ e ih =>
   intro k;have:=ih (k+1);rw [W2];split<;>simp<;>omega
 exact this 7 0
theorem C4O {a b:List UInt8} {h:A4}:wL [.c (.s a),.c (.s b)] h=some (.c (.b (Q9 a b)),h) :=
 B5W (n:=0) (h2:=ro h) (by rw [B9j];simp only [esc]) rfl
end Go.Proofs.YteckncopbicmcaaGreat
namespace Go.Proofs.YteckncopbicmcaaGreat
section
section
variable {α:Type} {lt:α -> α -> Prop}
theorem C6M (tr:∀ a b c,lt a b->lt b c->lt a c) (tot:∀ a b,lt a b\/a=b\/lt b a) {l:List α} {x:α} {p:Nat} (hl:l.Pairwise lt) (hx:x ∉ l) (h1:∀ y∈l.take p,lt y x) (h2:∀ y∈l.drop p,¬ lt y x) :
  (l.take p++x::l.drop p).Pairwise lt:=by
 have hl':=hl;rw [<-List.take_append_drop p l] at hl';rw [List.pairwise_append] at hl';obtain ⟨k1,k2,k3⟩:=hl';rw [List.pairwise_append];refine ⟨k1,?_,?_⟩
 ·rw [List.pairwise_cons];refine ⟨fun y hy=>?_,k2⟩;rcases tot x y with h | h | h
  ·exact h
  ·subst h;exact absurd (List.mem_of_mem_drop hy) hx
  ·exact absurd h (h2 y hy)
 ·intro a ha b hb;rcases List.mem_cons.1 hb with e | hb
  ·subst e;exact h1 a ha
  ·exact k3 a ha b hb
theorem mem_insert {l:List α} {x y:α} {p:Nat}:y∈l.take p++x::l.drop p↔y=x\/y∈l:=by
 have e:y∈l↔y∈l.take p\/y∈l.drop p:=by rw [<-List.mem_append,List.take_append_drop]
 rw [List.mem_append,List.mem_cons,e];constructor
 ·rintro (h | h | h)
  ·exact .inr (.inl h)
  ·exact .inl h
  ·exact .inr (.inr h)
 ·rintro (h | h | h)
  ·exact .inr (.inl h)
  ·exact .inl h
  ·exact .inr (.inr h)
end
end
end Go.Proofs.YteckncopbicmcaaGreat
namespace Go.Proofs.YteckncopbicmcaaGreat
open Go Go.Esc
theorem C20:∀ a:List UInt8,Q9 a a=false
 | []=>rfl
 | x::a=>by simp [Q9,C20 a,UInt8.lt_irrefl]
theorem B3Q:∀ {a b c:List UInt8},Q9 a b=true->Q9 b c=true->Q9 a c=true
 | [],[],_,h,_=>by simp [Q9] at h
 | [],_::_,[],_,h=>by simp [Q9] at h
 | [],_::_,_::_,_,_=>rfl
 | _::_,[],_,h,_=>by simp [Q9] at h
 | _::_,_::_,[],_,h=>by simp [Q9] at h
 | x::a,y::b,z::c,h1,h2=>by
  simp only [Q9,Bool.or_eq_true,Bool.and_eq_true,decide_eq_true_eq,beq_iff_eq] at h1 h2 ⊢;rcases h1 with h1 | ⟨rfl,h1⟩
  ·rcases h2 with h2 | ⟨rfl,h2⟩
   ·exact .inl (UInt8.lt_trans h1 h2)
   ·exact .inl h1
  ·rcases h2 with h2 | ⟨rfl,h2⟩
   ·exact .inl h2
   ·exact .inr ⟨rfl,B3Q h1 h2⟩
theorem C21:∀ a b:List UInt8,Q9 a b=true\/a=b\/Q9 b a=true
 | [],[]=>.inr (.inl rfl)
 | [],_::_=>.inl rfl
 | _::_,[]=>.inr (.inr rfl)
 | x::a,y::b=>by
  simp only [Q9,Bool.or_eq_true,Bool.and_eq_true,decide_eq_true_eq,beq_iff_eq,List.cons.injEq];rcases Nat.lt_trichotomy x.toNat y.toNat with h | h | h
  ·exact .inl (.inl (UInt8.lt_iff_toNat_lt.2 h))
  ·have e:=UInt8.toNat_inj.1 h;subst e;rcases C21 a b with h | h | h
   ·exact .inl (.inr ⟨rfl,h⟩)
   ·exact .inr (.inl ⟨rfl,h⟩)
   ·exact .inr (.inr (.inr ⟨rfl,h⟩))
  ·exact .inr (.inr (.inl (UInt8.lt_iff_toNat_lt.2 h)))
def plc (l:List (List UInt8)) (s:List UInt8):Nat->Nat->Nat->Nat
 | 0,lo,_=>lo
 | f+1,lo,hi=>if lo<hi then (if Q9 (l.getD (lo+(hi-lo)/2) []) s then plc l s f (lo+(hi-lo)/2+1) hi else plc l s f lo (lo+(hi-lo)/2)) else lo
theorem C7Z (l:List (List UInt8)) (s:List UInt8):∀ f lo hi,lo<=hi->plc l s f lo hi<=hi
 | 0,lo,hi,h=>h
 | f+1,lo,hi,h=>by
  unfold plc;split
  ·split
   ·exact C7Z l s f _ hi (by omega)
   ·exact Nat.le_trans (C7Z l s f lo _ (by omega)) (by omega)
  ·exact h
theorem C1e {l:List (List UInt8)} {s:List UInt8} (hl:l.Pairwise fun a b=>Q9 a b=true):∀ f lo hi,lo<=hi->hi<=l.length->hi-lo<=f->(∀ i x,i<lo->l[i]?=some x->Q9 x s=true)->(∀ i x,hi<=i->l[i]?=some x->Q9 x s=false) ->
  (∀ i x,i<plc l s f lo hi->l[i]?=some x->Q9 x s=true)/\(∀ i x,plc l s f lo hi<=i->l[i]?=some x->Q9 x s=false)
 | 0,lo,hi,h,_,hf,h1,h2=>by
  have:hi=lo:=by omega
  subst this;exact ⟨h1,h2⟩
 | f+1,lo,hi,h,hh,hf,h1,h2=>by
  unfold plc;by_cases c:lo<hi
  ·rw [if_pos c];have hm:lo+(hi-lo)/2<hi:=by omega
   have hlo:lo<=lo+(hi-lo)/2:=by omega
   generalize lo+(hi-lo)/2=mid at *;have hg:l[mid]?=some (l.getD mid []):=by rw [List.getD_eq_getElem?_getD,List.getElem?_eq_getElem (by omega)];rfl
   have mono:∀ (i j:Nat) (x y:List UInt8),i<j->l[i]?=some x->l[j]?=some y->Q9 x y=true:=by
    intro i j x y hij hi hj;rw [List.pairwise_iff_getElem] at hl;obtain ⟨a,rfl⟩:=List.getElem?_eq_some_iff.1 hi;obtain ⟨b,rfl⟩:=List.getElem?_eq_some_iff.1 hj;exact hl i j a b hij
   cases cb:Q9 (l.getD mid []) s with
   | true =>
    rw [if_pos rfl];refine C1e hl f (mid+1) hi (by omega) hh (by omega) (fun i x hi hx=>?_) h2;by_cases e:i=mid
    ·subst e;rw [hg] at hx;rw [<-Option.some.inj hx];exact cb
    ·exact B3Q (mono i mid x _ (by omega) hx hg) cb
   | false =>
    rw [if_neg (by simp)];refine C1e hl f lo mid (by omega) (by omega) (by omega) h1 (fun i x hi hx=>?_);by_cases e:i=mid
    ·subst e;rw [hg] at hx;rw [<-Option.some.inj hx];exact cb
    ·cases cx:Q9 x s with
     | false=>rfl
     | true=>rw [B3Q (mono mid i _ x (by omega) hg hx) cx] at cb;exact cb
  ·rw [if_neg c];have:hi=lo:=by omega
   subst this;exact ⟨h1,h2⟩
def B8B (l:List (List UInt8)) (s:List UInt8) (n:Nat):Bool:=decide (l[n]?=some s)
theorem B31 (l:List (List UInt8)) (i:Nat):(encS l)[i]?=(l[i]?).map fun x=>.s x:=by simp [encS]
theorem B2M {v:Val} {nv q:Nat} {l:List (List UInt8)} {s:List UInt8} {h:A4} (hv:Has h v 1 nv (encS l)) (hn:l.length=nv) (h62:nv<4611686018427387904):∀ f m lo hi:Nat,lo<=hi->hi<=nv->hi-lo<=f->f<m ->
  fD q m v (.c (.s s)) (.c (.i .i64 lo)) (.c (.i .i64 hi)) h=some (.t [.c (.i .i64 (plc l s f lo hi:Nat)),.c (.b (B8B l s (plc l s f lo hi)))],h)
 | f,0,lo,hi,_,_,_,hm=>by omega
 | f,m+1,lo,hi,h1,h2,hf,hm=>by
  have hlen:=hv.len;have fin:lo=hi->fD q (m+1) v (.c (.s s)) (.c (.i .i64 lo)) (.c (.i .i64 hi)) h=some (.t [.c (.i .i64 lo),.c (.b (B8B l s lo))],h):=by
   intro e;subst e;have c0:¬ (lo:Int)<lo:=by omega
   rw [A44];unfold B8B;by_cases c1:lo<nv
   ·have c1':(lo:Int)<nv:=by omega
    obtain ⟨id,off,ev,hid,k1,k2⟩:=hv.sl (by omega);have hx:=k1 lo (.s l[lo]) (by rw [B31,List.getElem?_eq_getElem (by omega)];rfl);have eb:C4 1 v (.c (.i .i64 (lo:Int)))=some (.c (.p id (off+lo))):=by rw [ev,E5 (by omega)];simp
    have e2:l[lo]?=some l[lo]:=List.getElem?_eq_getElem (by omega);rw [e2];simp only [esc,hlen,c0,c1',eb,hx]
   ·have c1':¬ (lo:Int)<nv:=by omega
    have e2:l[lo]?=none:=List.getElem?_eq_none (by omega);rw [e2];simp only [esc,hlen,c0,c1',reduceCtorEq]
  cases f with
  | zero =>
   have e:lo=hi:=by omega
   exact fin e
  | succ f =>
   unfold plc;by_cases c:lo<hi
   ·rw [if_pos c];have c':(lo:Int)<hi:=by omega
    obtain ⟨id,off,ev,hid,k1,k2⟩:=hv.sl (by omega);have w1:IntKind.wrap .i64 ((hi:Int)-lo)=((hi-lo:Nat):Int):=by rw [wrap_i64 (by omega) (by omega)];omega
    have w2:=A9Z (a:=((hi-lo:Nat):Int)) (b:=2) (by omega) (by omega) (by omega);have w3:((hi-lo:Nat):Int)/2=(((hi-lo)/2:Nat):Int):=by omega
    rw [w3] at w2;have w4:IntKind.wrap .i64 ((lo:Int)+(((hi-lo)/2:Nat):Int))=((lo+(hi-lo)/2:Nat):Int):=A38 (by omega);have hm1:lo+(hi-lo)/2<hi:=by omega
    have hm2:lo<=lo+(hi-lo)/2:=by omega
    generalize (hi-lo)/2=d at *;generalize lo+d=mid at *;have hx:=k1 mid (.s l[mid]) (by rw [B31,List.getElem?_eq_getElem (by omega)];rfl);have eb:C4 1 v (.c (.i .i64 (mid:Int)))=some (.c (.p id (off+mid))):=by rw [ev,E5 (by omega)];simp
    have eg:l.getD mid []=l[mid]:=by rw [List.getD_eq_getElem?_getD,List.getElem?_eq_getElem (by omega)];rfl
    rw [eg];have hL:=fun h=>C4O (a:=l[mid]) (b:=s) (h:=h)
    rw [A44];cases cb:Q9 l[mid] s with
    | true =>
     rw [cb] at hL;have ih:=B2M (q:=q) (s:=s) hv hn h62 f m (mid+1) hi (by omega) h2 (by omega) (by omega);rw [if_pos rfl];simp only [esc,hlen,c',w1,w2,w4,eb,hx,hL,E8 (show mid+1<9223372036854775808 by omega)];exact ih
    | false =>
     rw [cb] at hL;have ih:=B2M (q:=q) (s:=s) hv hn h62 f m lo mid hm2 (by omega) (by omega) (by omega);rw [if_neg (by simp)];simp only [esc,hlen,c',w1,w2,w4,eb,hx,hL];exact ih
   ·rw [if_neg c];exact fin (by omega)
theorem C2x {v:Val} {nv:Nat} {l:List (List UInt8)} {s:List UInt8} {h:A4} (hv:Has h v 1 nv (encS l)) (h62:nv<4611686018427387904) :
  jU [v,.c (.s s)] h=some (.t [.c (.i .i64 (plc l s nv 0 nv:Nat)),.c (.b (B8B l s (plc l s nv 0 nv)))],h):=by
 have hn:l.length=nv:=by simpa [X9] using hv.length
 have key:∀ N,nv<N->∀ g,Has g v 1 nv (encS l)->∃ g',A0l N [v,.c (.s s)] g=some (.t [.c (.i .i64 (plc l s nv 0 nv:Nat)),.c (.b (B8B l s (plc l s nv 0 nv)))],g'):=by
  intro N hN g hv;have e:=B2M (q:=N) (s:=s) hv hn h62 nv N 0 nv (by omega) (by omega) (by omega) hN;rw [B79];exact ⟨_,by simp only [esc,hv.len];exact e⟩
 obtain ⟨g',e⟩:=key (nv+1) (by omega) (ro h) hv.ro;exact B3F e rfl
theorem C6Z {id n a:Nat} (ha:a<=n):C7g 1 (.c (.sl id 0 n 1)) (some (.c (.i .i64 (a:Int)))) none=some (.c (.sl id a (n-a) 1)):=by
 simp only [C7g,bound];rw [if_pos (by omega)];simp only [Option.bind_some,Int.toNat_natCast];rw [if_pos ⟨ha,Nat.le_refl _,trivial⟩];simp
theorem D00 {H:A4} {id k p:Nat} {out:List (List UInt8)} (hr:rd H id=some ⟨encS (out++[[]]),true⟩) (hk:out.length=k) (hp:p<=k) :
  ∃ c,B9O H 1 (.c (.sl id (p+1) (k-p) 1)) (.c (.sl id p (k+1-p) 1))=some (c,H.set id (some ⟨encS ((out++[[]]).take (p+1)++out.drop p),true⟩)):=by
 have hl:(encS (out++[[]])).length=k+1:=by rw [X9];simp [hk]
 have h1:((encS (out++[[]])).drop p).take (k+1-p)=(encS (out++[[]])).drop p:=List.take_of_length_le (by rw [List.length_drop];omega);have h2:N6 H 1 (.c (.sl id p (k+1-p) 1))=some ((encS (out++[[]])).drop p):=by
  simp only [N6,if_true,kK,hr,Option.bind_some,Nat.mul_one,h1];rw [if_pos ⟨by omega,by simp⟩]
 have h3:((encS (out++[[]])).drop p).length=k+1-p:=by rw [List.length_drop];omega
 have h4:Nat.min (k+1-p) (k-p)=k-p:=Nat.min_eq_right (by omega);have h5:lay (encS (out++[[]])) (p+1) (((encS (out++[[]])).drop p).take (k-p))=encS ((out++[[]]).take (p+1)++out.drop p):=by
  unfold lay;have e1:((encS (out++[[]])).drop p).take (k-p)=encS (out.drop p):=by
   unfold encS;rw [List.map_append,List.drop_append_of_le_length (by simp;omega),List.take_append_of_le_length (by simp;omega),List.take_of_length_le (by simp;omega),List.map_drop]
  have e2:(encS (out++[[]])).drop (p+1+(encS (out.drop p)).length)=[]:=List.drop_of_length_le (by rw [hl,X9,List.length_drop];omega);rw [e1,e2];simp only [List.append_nil,encS,List.map_append,List.map_take,List.map_drop]
 refine ⟨.c (.i .i64 ((k-p:Nat):Int)),?_⟩;simp only [B9O,h2,Option.bind_some,hr,h3,Nat.div_one,h4,Nat.mul_one,h5];rw [if_pos ⟨trivial,by omega,trivial⟩]
abbrev sG:=List (List UInt8)
def atS (o:sG) (s:List UInt8):Nat:=plc o s o.length 0 o.length
def A40 (o:sG) (s:List UInt8):sG:=bif B8B o s (atS o s) then o else o.take (atS o s)++s::o.drop (atS o s)
def zP (l:sG):sG:=l.foldl A40 []
theorem D0O (o:sG) (s:List UInt8):atS o s<=o.length:=C7Z o s _ _ _ (Nat.zero_le _)
theorem B7F (o:sG) (s:List UInt8):(A40 o s).length<=o.length+1:=by
 have:=D0O o s;unfold A40;cases B8B o s (atS o s)<;>simp<;>omega
theorem C4e (l:sG):∀ o:sG,(l.foldl A40 o).length<=o.length+l.length:=by
 induction l with
 | nil=>intro o;simp
 | cons x l ih =>
  intro o;have h1:=ih (A40 o x);have h2:=B7F o x;simp only [List.foldl_cons,List.length_cons] at h1 ⊢;omega
theorem B40 (l:sG):(zP l).length<=l.length:=by
 have:=C4e l [];simpa [zP] using this
abbrev Up (l:sG):Prop:=l.Pairwise fun a b=>Q9 a b=true
theorem C5x {o:sG} {s:List UInt8} (ho:Up o):(∀ i x,i<atS o s->o[i]?=some x->Q9 x s=true)/\(∀ i x,atS o s<=i->o[i]?=some x->Q9 x s=false) :=
 C1e ho o.length 0 o.length (Nat.zero_le _) (Nat.le_refl _) (by omega) (fun i x hi=>by omega) (fun i x hi hx=>by
  have:=(List.getElem?_eq_some_iff.1 hx).1;omega)
theorem C6h {o:sG} {s:List UInt8} (ho:Up o):B8B o s (atS o s)=true↔s∈o:=by
 unfold B8B;rw [decide_eq_true_eq];constructor
 ·intro h;exact List.mem_of_getElem? h
 ·intro h;obtain ⟨i,hi⟩:=List.mem_iff_getElem?.1 h;obtain ⟨h1,h2⟩:=C5x (s:=s) ho;have hge:atS o s<=i:=by
   false_or_by_contra
   have:=h1 i s (by omega) hi;rw [C20] at this;cases this
  by_cases e:atS o s=i
  ·rw [e];exact hi
  ·have S3:=(List.getElem?_eq_some_iff.1 hi).1;have hg:o[atS o s]?=some o[atS o s]:=List.getElem?_eq_getElem (by omega);have k1:=h2 _ _ (Nat.le_refl _) hg;have k2:Q9 o[atS o s] s=true:=by
    obtain ⟨a,ha⟩:=List.getElem?_eq_some_iff.1 hi;have:=List.pairwise_iff_getElem.1 ho (atS o s) i (by omega) a (by omega);rw [ha] at this;exact this
   rw [k1] at k2;cases k2
theorem D3h {o:sG} {s:List UInt8} (ho:Up o):Up (A40 o s)/\∀ x,x∈A40 o s↔x=s\/x∈o:=by
 unfold A40;cases c:B8B o s (atS o s) with
 | true =>
  have hm:=(C6h ho).1 c;rw [cond_true];exact ⟨ho,fun x=>⟨fun h=>.inr h,fun h=>by rcases h with h | h;subst h;exact hm;exact h⟩⟩
 | false =>
  have hm:s ∉ o:=fun h=>by rw [(C6h ho).2 h] at c;cases c
  obtain ⟨h1,h2⟩:=C5x (s:=s) ho;rw [cond_false];refine ⟨C6M (lt:=fun a b=>Q9 a b=true) (fun a b c=>B3Q) (fun a b=>C21 a b) ho hm (fun y hy=>?_) (fun y hy=>?_),fun x=>mem_insert⟩
  ·obtain ⟨i,hi⟩:=List.mem_iff_getElem?.1 hy;have hl:=(List.getElem?_eq_some_iff.1 hi).1;rw [List.length_take] at hl;rw [List.getElem?_take_of_lt (by omega)] at hi;exact h1 i y (by omega) hi
  ·obtain ⟨i,hi⟩:=List.mem_iff_getElem?.1 hy;rw [List.getElem?_drop] at hi;have:=h2 _ y (by omega) hi;rw [this];simp
theorem D1m (l:sG):∀ o:sG,Up o->Up (l.foldl A40 o)/\∀ x,x∈l.foldl A40 o↔x∈o\/x∈l:=by
 induction l with
 | nil=>intro o ho;exact ⟨ho,fun x=>by simp⟩
 | cons y l ih =>
  intro o ho;obtain ⟨h1,h2⟩:=D3h (s:=y) ho;obtain ⟨h3,h4⟩:=ih _ h1;refine ⟨h3,fun x=>?_⟩;rw [List.foldl_cons,h4,h2,List.mem_cons];constructor
  ·rintro ((h | h) | h)
   ·exact .inr (.inl h)
   ·exact .inl h
   ·exact .inr (.inr h)
  ·rintro (h | h | h)
   ·exact .inl (.inr h)
   ·exact .inl (.inl h)
   ·exact .inr h
theorem D0e (l:sG) (x:List UInt8):x∈zP l↔x∈l:=by
 have:=(D1m l [] List.Pairwise.nil).2 x;simpa [zP] using this
theorem B6G {v:Val} {nv q:Nat} {l:sG} {g:A4} (hv:Has g v 1 nv (encS l)) (hn:l.length=nv) (h62:nv<1073741824):∀ (e i m:Nat) (o:sG) (h:A4) (id:Nat),i+e=nv->e<m->o.length<=i->Low g.length g h->g.length<=id->rd h id=some ⟨encS o,true⟩ ->
  ∃ v2 h2,A0D q m (.c (.sl id 0 o.length 1)) v (.c (.i .i64 nv)) (.c (.i .i64 i)) h=some (v2,h2)/\Out g.length h2 v2 1 ((l.drop i).foldl A40 o).length (encS ((l.drop i).foldl A40 o))
 | e,i,0,o,h,id,_,hm,_,_,_,_=>by omega
 | 0,i,m+1,o,h,id,hi,hm,hol,hlow,hid,hr=>by
  have e0:i=nv:=by omega
  subst e0;have c0:¬ (i:Int)<i:=by omega
  rw [A69,List.drop_of_length_le (by omega),List.foldl_nil];exact ⟨_,_,by simp only [esc,c0]<;>rfl,by rw [X9];omega,_,rfl,hid,hr⟩
 | e+1,i,m+1,o,h,id,hi,hm,hol,hlow,hid,hr=>by
  have c0:(i:Int)<nv:=by omega
  obtain ⟨jd,off,ev,hjd,k1,k2⟩:=(hv.since hlow).sl (by omega);have hx:=k1 i (.s l[i]) (by rw [B31,List.getElem?_eq_getElem (by omega)];rfl);have eb:C4 1 v (.c (.i .i64 (i:Int)))=some (.c (.p jd (off+i))):=by rw [ev,E5 (by omega)];simp
  have hP:=C2x (s:=l[i]) (Has.row (sz:=1) (n:=o.length) hr (by rw [X9];omega) (C6u o)) (by omega);rw [List.drop_eq_getElem_cons (by omega:i<l.length),List.foldl_cons];change jU _ h=some (.t [.c (.i .i64 (atS o l[i]:Nat)),.c (.b (B8B o l[i] (atS o l[i])))],h) at hP;have hat:=D0O o l[i];rw [A69];generalize hs:l[i]=s at *;cases c:B8B o s (atS o s) with
  | true =>
   have ei:A40 o s=o:=by unfold A40;rw [c,cond_true]
   rw [c] at hP;obtain ⟨v2,h2,f1,f2⟩:=B6G (q:=q) hv hn h62 e (i+1) m o h id (by omega) (by omega) (by omega) hlow hid hr;rw [ei];refine ⟨v2,h2,?_,f2⟩;simp only [esc,c0,eb,hx,hP,A68,E8 (show i+1<9223372036854775808 by omega)];exact f1
  | false =>
   have ei:A40 o s=o.take (atS o s)++s::o.drop (atS o s):=by unfold A40;rw [c,cond_false]
   rw [c] at hP;have il:=B7F o s;generalize hp:atS o s=p at *;obtain ⟨h1,a1,a2,a3,a4,a5⟩:=push (ys:=[.s []]) (sz:=1) (n:=o.length) hlow hr (by rw [X9];omega) hid rfl (by omega) (by omega);have he:encS o++[.s []]=encS (o++[[]]):=by simp [encS]
   rw [he] at a2;have ef:C7 [Cell.s []] [(0,1,.c (.s []))]=some [.s []]:=rfl;have w1:IntKind.wrap .i64 ((p:Int)+1)=((p+1:Nat):Int):=E8 (by omega);have t1:=C6Z (id:=h.length+1) (n:=o.length+1) (a:=p+1) (by omega);have t2:=C6Z (id:=h.length+1) (n:=o.length+1) (a:=p) (by omega);rw [show o.length+1-(p+1)=o.length-p by omega] at t1;obtain ⟨cc,t3⟩:=D00 (H:=h1) (id:=h.length+1) (k:=o.length) (p:=p) a2 rfl hat;have t4:C4 1 (.c (.sl (h.length+1) 0 (o.length+1) 1)) (.c (.i .i64 (p:Int)))=some (.c (.p (h.length+1) p)):=by rw [E5 (by omega)];simp
   have R0:=E4 a2;have t5:rd (h1.set (h.length+1) (some ⟨encS ((o++[[]]).take (p+1)++o.drop p),true⟩)) (h.length+1)=some ⟨encS ((o++[[]]).take (p+1)++o.drop p),true⟩:=C8 R0;have t6:=G3 (x:=.s s) (off:=p) t5 (by rw [X9,List.length_append,List.length_take,List.length_append];simp;omega);have t7:(encS ((o++[[]]).take (p+1)++o.drop p)).set p (.s s)=encS (A40 o s):=by
    rw [ei];have e1:(o++[[]]).take (p+1)=o.take p++[(o++[[]])[p]'(by simp;omega)]:=by
     rw [List.take_succ_eq_append_getElem (by simp;omega),List.take_append_of_le_length hat]
    rw [e1];unfold encS;rw [<-List.map_set]
    congr 1
    rw [List.append_assoc,List.set_append_right _ _ (by simp;omega),List.length_take,Nat.min_eq_left hat,Nat.sub_self];rfl
   rw [List.set_set,t7] at t6;obtain ⟨v2,h2,f1,f2⟩:=B6G (q:=q) hv hn h62 e (i+1) m (A40 o s) (h1.set (h.length+1) (some ⟨encS (A40 o s),true⟩)) (h.length+1) (by omega) (by omega) (by omega) (a3.set a4 _) a4 (C8 R0);have el:(A40 o s).length=o.length+1:=by rw [ei];simp;omega
   rw [el] at f1;refine ⟨v2,h2,?_,f2⟩;simp only [esc,c0,eb,hx,hP,ef,a1,w1,t1,t2,t3,t4,t6,A68,E8 (show i+1<9223372036854775808 by omega)];exact f1
theorem C4R {v:Val} {nv:Nat} {l:sG} {h:A4} (hv:Has h v 1 nv (encS l)) (h62:nv<1073741824) :
  wM [v] h=some (.c (.sl h.length 0 (zP l).length 1),h++[some ⟨encS (zP l),true⟩]):=by
 have hn:l.length=nv:=by simpa [X9] using hv.length
 have key:∀ N,nv<N->∀ g,Has g v 1 nv (encS l)->∃ v2 g',A2n N [v] g=some (v2,g')/\Out g.length g' v2 1 (zP l).length (encS (zP l)):=by
  intro N hN g hv;obtain ⟨v2,g',f1,f2⟩:=B6G (q:=N) hv hn h62 nv 0 N [] ((g++[some (Row.mk [] true)])++[some (Row.mk [] true)]) (g.length+1) (by omega) hN (Nat.le_refl _) (((Low.refl (Nat.le_refl _)).new _).new _) (by omega) (by simp [encS]);rw [List.drop_zero] at f2;rw [B9l];refine ⟨v2,g',?_,f2⟩;rw [hv.len,V9];simpa using f1
 obtain ⟨v2,g',e,ho⟩:=key (nv+1) (by omega) (ro h) hv.ro;exact B8r e (by simpa [I8] using ho) (by simp)
def O3 (l:List Ent):List Cell:=(l.map fun x=>eW (some x)).flatten
theorem A55 {l:List Ent}:(O3 l).length=l.length*2:=by
 induction l with
 | nil=>rfl
 | cons x l ih=>simp only [O3,List.map_cons,List.flatten_cons,List.length_append,eW,List.length_cons,List.length_nil] at ih ⊢;omega
theorem D1g {k:Nat} {x:Ent} {r:List Cell}:List.drop ((k+1)*2) (eW (some x)++r)=List.drop (k*2) r:=by
 rw [show (k+1)*2=k*2+2 by omega];rfl
theorem B33:∀ (l:List Ent) (k:Nat) (hk:k<l.length),((O3 l).drop (k*2)).take 2=eW (some l[k])
 | [],k,hk=>by simp at hk
 | x::l,0,_=>rfl
 | x::l,k+1,hk=>by
  have e:O3 (x::l)=eW (some x)++O3 l:=rfl;rw [e,D1g,List.getElem_cons_succ];exact B33 l k (by simpa using hk)
def dF (l:List Ent) (k:Nat):Ent:=l.getD k ([],0)
theorem B32 {l:List Ent} {k:Nat} (hk:k<l.length):dF l k=l[k]:=by simp [dF,List.getD,hk]
def fT (l:List Ent):Nat->List UInt8
 | 0=>hdB
 | k+1=>I1 (fT l k) (J7 k) (iV (dF l k).1 (dF l k).2)
theorem dM {l:List Ent}:∀ k,k<=7->(fT l k).length=256
 | 0,_=>B2C
 | k+1,hk=>by rw [fT,L8 (by rw [dM k (by omega),iW];unfold J7;omega)];exact dM k (by omega)
def atX (b nm:List UInt8):Nat:=match gF b nm with
 | some x=>x.1
 | none=>0
theorem D5d {o:Option Slt}:(slC o)[0]?=some (.i .i64 ((match o with | some x=>x.1 | none=>0:Nat):Int)):=by cases o<;>rfl
def C3v (l:List Ent) (k:Nat):Bool:=decide (atX (fT l l.length) (dF l k).1=k)
def B4P (l:List Ent):Bool:=(List.range' 0 l.length).all (C3v l)
def C2m (l:List Ent):Bool:=l.all fun x=>B8E x.1 x.2
theorem D1P {v:Val} {nv q:Nat} {l:List Ent} {B:A4} {g:Nat} (hv:Has B v 2 nv (O3 l)) (hn:l.length=nv) (h7:nv<=7) (hg:rd B g=some ⟨A5 (zeros 256),true⟩):∀ (e k m:Nat) (h:A4),k+e=nv->e<m->Low B.length B h->rd h B.length=some ⟨A5 (fT l nv),true⟩ ->
  ∃ h',vF q m (.c (.p g 0)) (.c (.p B.length 0)) v (.c (.i .i64 (nv:Int))) (.c (.i .i64 (k:Int))) h=some (.t [.a (A5 (bif (List.range' k e).all (C3v l) then fT l nv else zeros 256)),.c (.i .i64 (bif (List.range' k e).all (C3v l) then 0 else 5))],h')
 | e,k,0,h,_,hm,_,_=>by omega
 | 0,k,m+1,h,hk,hm,hlow,hr=>by
  have e0:k=nv:=by omega
  subst e0;have c0:¬ (k:Int)<k:=by omega
  have hL:(A5 (fT l k)).length=256:=by rw [A6];exact dM k h7
  have hz:(A5 (zeros 256)).length=256:=by rw [A6];exact zeros_length
  have hrg:=hlow.rd hg;have s1:=D4 hr hL;have s2:=storeAll (xs:=A5 (fT l k)) hrg hz hL;have s3:=D4 (h:=h.set g (some ⟨A5 (fT l k),true⟩)) (id:=g) (C8 (E4 hrg)) hL;rw [A4G,List.range'_zero,List.all_nil,cond_true,cond_true];generalize A5 (fT l k)=y at *;exact ⟨_,by simp only [esc,c0,s1,s2,s3]<;>rfl⟩
 | e+1,k,m+1,h,hk,hm,hlow,hr=>by
  have c0:(k:Int)<nv:=by omega
  have hL:(A5 (fT l nv)).length=256:=by rw [A6];exact dM nv h7
  have hvB:Has h v 2 nv (O3 l):=by
   refine hv.low hlow fun id off m he=>?_
   rcases hv with ⟨rfl,_⟩ | ⟨bP,off',r',rfl,hrd,_⟩
   ·cases he
   ·cases he;exact E4 hrd
  obtain ⟨id,off,ev,hid,k1,k2⟩:=hvB.sl (by omega);have eb:C4 2 v (.c (.i .i64 (k:Int)))=some (.c (.p id (off+k*2))):=by rw [ev,E5 (by omega)]
  have hld:=k2 (k*2) 2 (by rw [A55];omega);rw [B33 l k (by omega),<-B32 (by omega)] at hld;have w1:=E8 (show k+1<9223372036854775808 by omega);have hF:=fun h=>A8C (b:=fT l nv) (nm:=(dF l k).1) (h:=h) (dM nv h7)
  have s1:=fun t=>D4 (h:=h++t) (B6 hr) hL
  have hat:(slC (gF (fT l nv) (dF l k).1))[0]?=some (.i .i64 (atX (fT l nv) (dF l k).1:Nat)):=D5d;have hSl:=jH (o:=gF (fT l nv) (dF l k).1);rw [A4G,List.range'_succ,List.all_cons];have hon:C3v l k=decide (atX (fT l nv) (dF l k).1=k):=by unfold C3v;rw [hn]
  rw [hon];generalize slC (gF (fT l nv) (dF l k).1)=S at *;generalize atX (fT l nv) (dF l k).1=A at *;obtain ⟨h',ih⟩:=D1P (q:=q) hv hn h7 hg e (k+1) m (h++[some (Row.mk (eW (some (dF l k))) true),some (Row.mk S true)]) (by omega) (by omega) (hlow.new _) (B6 hr);simp only [eW] at *;by_cases c:A=k
  ·subst c;rw [decide_eq_true rfl,Bool.true_and];refine ⟨h',?_⟩;generalize A5 (fT l nv)=y at *;simp only [esc,esh,Nat.reduceAdd,Nat.reduceMul,Nat.reduceLT,c0,eb,hld,s1,hF,hat,hSl,w1];exact ih
  ·rw [decide_eq_false c,Bool.false_and,cond_false,cond_false];have c':¬ (A:Int)=k:=by omega
   have hz:(A5 (zeros 256)).length=256:=by rw [A6];exact zeros_length
   have hrg:=fun t:A4=>B6 (g:=t) (hlow.rd hg)
   have haf:C7 (List.replicate 256 (Cell.i .u8 0)) []=some (List.replicate 256 (Cell.i .u8 0)):=rfl;rw [F5] at haf;have s2:=fun t=>storeAll (xs:=A5 (zeros 256)) (hrg t) hz hz
   have s3:=fun t=>D4 (h:=(h++t).set g (some ⟨A5 (zeros 256),true⟩)) (id:=g) (C8 (E4 (hrg t))) hz
   rw [F5];generalize zeros 256=z at *;generalize A5 (fT l nv)=y at *;exact ⟨_,by simp only [esc,esh,Nat.reduceAdd,Nat.reduceMul,Nat.reduceLT,c0,eb,hld,s1,hF,hat,hSl,c',haf,s2,s3]<;>rfl⟩
theorem D1O {v:Val} {nv q:Nat} {l:List Ent} {B:A4} {g:Nat} (hv:Has B v 2 nv (O3 l)) (hn:l.length=nv) (h7:nv<=7) (hs:∀ x∈l,x.1.length<=60) (hg:rd B g=some ⟨A5 (zeros 256),true⟩) (hq:nv<q):∀ (e k m:Nat) (h:A4),k+e=nv->e<m->Low B.length B h->rd h B.length=some ⟨A5 (fT l k),true⟩ ->
  ∃ h',vE q m v (.c (.p g 0)) (.c (.p B.length 0)) v (.c (.i .i64 (nv:Int))) (.c (.i .i64 (k:Int))) h=some (.t [.a (A5 (bif C2m (l.drop k)&&B4P l then fT l nv else zeros 256)),.c (.i .i64 (bif C2m (l.drop k) then (bif B4P l then 0 else 5) else 1))],h')
 | e,k,0,h,_,hm,_,_=>by omega
 | 0,k,m+1,h,hk,hm,hlow,hr=>by
  have e0:k=nv:=by omega
  subst e0;have c0:¬ (k:Int)<k:=by omega
  have hvB:Has h v 2 k (O3 l):=by
   refine hv.low hlow fun id off m he=>?_
   rcases hv with ⟨rfl,_⟩ | ⟨bP,off',r',rfl,hrd,_⟩
   ·cases he
   ·cases he;exact E4 hrd
  obtain ⟨h',e⟩:=D1P (q:=q) hv hn h7 hg k 0 q h (by omega) hq hlow hr;have em:C2m (l.drop k)=true:=by rw [List.drop_of_length_le (by omega)];rfl
  have eo:(List.range' 0 k).all (C3v l)=B4P l:=by unfold B4P;rw [hn]
  rw [eo] at e;rw [A4F,em,Bool.true_and,cond_true];exact ⟨h',by simp only [esc,c0,hvB.len];exact e⟩
 | e+1,k,m+1,h,hk,hm,hlow,hr=>by
  have c0:(k:Int)<nv:=by omega
  have hNl:=dM (l:=l) k (by omega);have hL:(A5 (fT l k)).length=256:=by rw [A6];exact hNl
  have hvB:Has h v 2 nv (O3 l):=by
   refine hv.low hlow fun id off m he=>?_
   rcases hv with ⟨rfl,_⟩ | ⟨bP,off',r',rfl,hrd,_⟩
   ·cases he
   ·cases he;exact E4 hrd
  obtain ⟨id,off,ev,hid,k1,k2⟩:=hvB.sl (by omega);have eb:C4 2 v (.c (.i .i64 (k:Int)))=some (.c (.p id (off+k*2))):=by rw [ev,E5 (by omega)]
  have hld:=k2 (k*2) 2 (by rw [A55];omega);rw [B33 l k (by omega),<-B32 (by omega)] at hld;have w1:=E8 (show k+1<9223372036854775808 by omega);have hsk:(dF l k).1.length<=60:=by rw [B32 (by omega)];exact hs _ (List.getElem_mem _)
  have hM:=fun h=>A3L (s:=(dF l k).1) (n:=(dF l k).2) (h:=h) (by omega)
  have hW:=fun h=>rA (s:=(dF l k).1) (n:=(dF l k).2) (h:=h) (by omega)
  have hF:=fun h=>nN (k:=k) (h:=h) (by omega)
  have hmd:C2m (l.drop k)=(B8E (dF l k).1 (dF l k).2&&C2m (l.drop (k+1))):=by
   rw [List.drop_eq_getElem_cons (by omega:k<l.length),B32 (by omega)];rfl
  have hEl:(iV (dF l k).1 (dF l k).2).length=32:=iW;have hLy:=B2K (v:=.c (.sl (h.length+1) 0 32 1)) (nv:=32) (data:=iV (dF l k).1 (dF l k).2) (l:=fT l k) (h:=h++[some (Row.mk (eW (some (dF l k))) true),some (Row.mk (A5 (iV (dF l k).1 (dF l k).2)) true)]) (Has.row (rw:=true) (by simp) (by rw [A6,iW]) (T4 _)) hNl (by rw [hEl];omega) (a:=(J7 k:Nat));have elay:A9m (fT l k) (J7 k:Nat) (iV (dF l k).1 (dF l k).2)=fT l (k+1):=by
   unfold A9m;have:J7 k<256:=by unfold J7;omega
   rw [if_pos ⟨by omega,by omega⟩,Int.toNat_natCast,List.take_of_length_le (by rw [hEl];unfold J7;omega)];rfl
  rw [elay] at hLy;have hq2:quiet (h++[some (Row.mk (eW (some (dF l k))) true)]) (some (.c (.sl (h.length+1) 0 32 1),h++[some (Row.mk (eW (some (dF l k))) true),some (Row.mk (A5 (iV (dF l k).1 (dF l k).2)) true)]))=_:=D48;have hrk:∀ t:A4,rd (h++t) B.length=some ⟨A5 (fT l k),true⟩:=fun t=>B6 hr
  have s1:=fun t=>D4 (h:=h++t) (hrk t) hL
  have hN1:(A5 (fT l (k+1))).length=256:=by rw [A6];exact dM (k+1) (by omega)
  have s2:=fun t=>storeAll (h:=h++t) (xs:=A5 (fT l (k+1))) (hrk t) hL hN1
  obtain ⟨h',ih⟩:=D1O (q:=q) hv hn h7 hs hg hq e (k+1) m ((h++[some (Row.mk (eW (some (dF l k))) true),some (Row.mk (A5 (iV (dF l k).1 (dF l k).2)) true)]).set B.length (some ⟨A5 (fT l (k+1)),true⟩)) (by omega) (by omega) ((hlow.new _).set (Nat.le_refl _) _) (C8 (E4 (hrk _)));rw [A4F,hmd];generalize iV (dF l k).1 (dF l k).2=E at *;simp only [eW] at *;cases cm:B8E (dF l k).1 (dF l k).2 with
  | true =>
   rw [cm] at hM;rw [Bool.true_and];refine ⟨h',?_⟩;generalize A5 (fT l (k+1))=y1 at *;generalize A5 (fT l k)=y at *;simp only [esc,esh,Nat.reduceAdd,Nat.reduceMul,Nat.reduceLT,c0,eb,hld,hM,hF,hW,hq2,s1,hLy,s2,w1];exact ih
  | false =>
   rw [cm] at hM;rw [Bool.false_and,Bool.false_and,cond_false,cond_false];have hz:(A5 (zeros 256)).length=256:=by rw [A6];exact zeros_length
   have hrg:=fun t:A4=>B6 (g:=t) (hlow.rd hg)
   have haf:C7 (List.replicate 256 (Cell.i .u8 0)) []=some (List.replicate 256 (Cell.i .u8 0)):=rfl;rw [F5] at haf;have s2:=fun t=>storeAll (xs:=A5 (zeros 256)) (hrg t) hz hz
   have s3:=fun t=>D4 (h:=(h++t).set g (some ⟨A5 (zeros 256),true⟩)) (id:=g) (C8 (E4 (hrg t))) hz
   rw [F5];generalize zeros 256=z at *;exact ⟨_,by simp only [esc,esh,Nat.reduceAdd,Nat.reduceMul,Nat.reduceLT,c0,eb,hld,hM,haf,s2,s3]<;>rfl⟩
def C6s (l:List Ent):Int:=if 7<l.length then 11 else if C2m l=true then (if B4P l=true then 0 else 5) else 1
def eY (l:List Ent):List UInt8:=if C6s l=0 then fT l l.length else zeros 256
theorem A2V {l:List Ent}:(eY l).length=256:=by
 unfold eY;split
 ·rename_i h;refine dM _ ?_
  false_or_by_contra
  unfold C6s at h;rw [if_pos (by omega)] at h;omega
 ·exact zeros_length
theorem C1V {v:Val} {nv:Nat} {l:List Ent} {h:A4} (hv:Has h v 2 nv (O3 l)) (hs:∀ x∈l,x.1.length<=60):qJ [v] h=some (.t [.a (A5 (eY l)),.c (.i .i64 (C6s l))],h):=by
 have hn:l.length=nv:=by have:=hv.length;rw [A55] at this;omega
 have key:∀ g,Has g v 2 nv (O3 l)->∃ g',zY 8 [v] g=some (.t [.a (A5 (eY l)),.c (.i .i64 (C6s l))],g'):=by
  intro g hv;have hz:(A5 (zeros 256)).length=256:=by rw [A6];exact zeros_length
  have hd:(A5 hdB).length=256:=by rw [A6];exact B2C
  have hl:=hv.len;have hH:=fun h=>B90 (h:=h)
  rw [B7T,F5];by_cases c:7<nv
  ·have c0:(7:Int)<nv:=by omega
   have e1:C6s l=11:=by unfold C6s;rw [if_pos (by omega)]
   have e2:eY l=zeros 256:=by unfold eY;rw [e1,if_neg (by omega)]
   have haf:C7 (List.replicate 256 (Cell.i .u8 0)) []=some (List.replicate 256 (Cell.i .u8 0)):=rfl;rw [F5] at haf;rw [e1,e2];generalize zeros 256=z at *;exact ⟨_,by simp only [esc,esh,Nat.reduceAdd,Nat.reduceMul,Nat.reduceLT,hl,c0,haf,hz]<;>rfl⟩
  ·have c0:¬ (7:Int)<nv:=by omega
   obtain ⟨h',e⟩:=D1O (q:=8) (B:=g++[some (Row.mk (A5 (zeros 256)) true)]) (g:=g.length) (hv.more _) hn (by omega) hs (by simp) (by omega) nv 0 8 (g++[some (Row.mk (A5 (zeros 256)) true),some (Row.mk (A5 (fT l 0)) true)]) (by omega) (by omega)
    (by have:=(Low.refl (h:=g++[some (Row.mk (A5 (zeros 256)) true)]) (Nat.le_refl _)).new [some (Row.mk (A5 (fT l 0)) true)];simpa using this) (by simp)
   have e1:C6s l=(bif C2m l then (bif B4P l then 0 else 5) else 1):=by
    unfold C6s;rw [if_neg (by omega)];cases C2m l<;>cases B4P l<;>simp
   have e2:eY l=(bif C2m l&&B4P l then fT l nv else zeros 256):=by
    unfold eY;rw [e1,<-hn];cases C2m l<;>cases B4P l<;>simp
   rw [List.drop_zero,<-e1,<-e2] at e;rw [show fT l 0=hdB from rfl] at e;simp only [List.length_append,List.length_cons,List.length_nil,Nat.zero_add] at e;refine ⟨h',?_⟩;generalize eY l=R at *;generalize hdB=H at *;generalize zeros 256=z at *;simp only [esc,esh,Nat.reduceAdd,Nat.reduceMul,Nat.reduceLT,hl,c0,hH,hz,hd];exact e
 obtain ⟨g',e⟩:=key (ro h) hv.ro;exact B3o e (by simp)
def isL (D:Dev) (n k:Int) (d:List Int) (t:Tld):Bool:=decide (D34 D n k d t.2=some t.1)
def D6n (D:Dev) (n k:Int) (d:List Int):List Tld:=D6i D (D6k D n k d)
def C4U (D:Dev) (n k:Int) (d:List Int) (l:List Tld):sG:=(l.filter (isL D n k d)).map (·.2)
def D5X (D:Dev) (n k:Int) (d:List Int) (s:List UInt8):Int:=((D34 D n k d s).getD (0,0,0)).2.2
def D5Y (D:Dev) (n k:Int) (d:List Int):List Ent:=(zP (C4U D n k d (D6n D n k d))).map fun s=>(s,D5X D n k d s)
def D2q (D:Dev) (n k:Int) (d:List Int) (l:List Tld):List Plc:=(l.filter fun t=>!isL D n k d t).map (·.1)
def D56 (l:List Plc):List Cell:=(l.map fun p=>D6Y (some p)).flatten
def MapN (es:P6) (f:List UInt8->Int) (l:sG):Prop:=(∀ e∈es,∃ s,e.1=.s s)/\∀ s∈l,∃ i,A7A (.s s) es=some (i,.c (.i .i64 (f s)))
theorem C8H {es:P6} {s:List UInt8} (h:∀ e∈es,∃ s,e.1=Cell.s s):yL none (.s s) es=true:=by
 simp only [yL,oX,Bool.true_and,List.all_eq_true];intro e he;obtain ⟨x,hx⟩:=h e he;rw [hx]
theorem C8L {k:Cell} {p:Part}:∀ {es:P6} {i j:Nat} {q:Part},mgo k es i=some (j,q)->(es.set (j-i) (k,p)).length=es.length/\mgo k (es.set (j-i) (k,p)) i=some (j,p)/\i<=j/\∀ k'≠k,((mgo k' (es.set (j-i) (k,p)) i)=mgo k' es i)
 | [],i,j,q,h=>by simp [mgo] at h
 | e::es,i,j,q,h=>by
  unfold mgo at h;by_cases c:e.1=k
  ·rw [if_pos c] at h;cases h;simp only [Nat.sub_self,List.set_cons_zero];refine ⟨rfl,by simp [mgo],Nat.le_refl _,fun k' hk'=>?_⟩;have:¬ e.1=k':=fun h=>hk' (by rw [<-h,c])
   simp [mgo,this,Ne.symm hk']
  ·rw [if_neg c] at h;obtain ⟨h1,h2,h3,h4⟩:=C8L (p:=p) h;have e1:j-i=(j-(i+1))+1:=by omega
   rw [e1,List.set_cons_succ];refine ⟨by simp,?_,by omega,fun k' hk'=>?_⟩
   ·simp only [mgo];rw [if_neg c];exact h2
   ·simp only [mgo];rw [h4 k' hk']
theorem C6p {k k':Cell} {p:Part}:∀ {es:P6} {i:Nat},mgo k es i=none->mgo k' (es++[(k,p)]) i=if k'=k then some (i+es.length,p) else mgo k' es i
 | [],i,_=>by
  by_cases c:k'=k
  ·subst c;simp [mgo]
  ·simp [mgo,c,Ne.symm c]
 | e::es,i,h=>by
  unfold mgo at h;by_cases c:e.1=k
  ·rw [if_pos c] at h;cases h
  ·rw [if_neg c] at h;have ih:=C6p (k':=k') (p:=p) h;simp only [List.cons_append,mgo,ih];by_cases c2:k'=k
   ·subst c2;rw [if_neg c,if_pos rfl,if_pos rfl,List.length_cons]
    congr 2;omega
   ·simp only [if_neg c2]
theorem A0K {k k':Cell} {p:Part} {es:P6}:A7A k (A7B k p es)=some (((A7A k es).map (·.1)).getD es.length,p)/\(k'≠k->A7A k' (A7B k p es)=A7A k' es):=by
 unfold A7B A7A;cases c:mgo k es 0 with
 | none =>
  simp only [C6p c];exact ⟨by simp,fun h=>by rw [if_neg h]⟩
 | some jq =>
  obtain ⟨j,q⟩:=jq;obtain ⟨_,h2,_,h4⟩:=C8L (p:=p) c;simp only [Nat.sub_zero] at h2 h4;exact ⟨by simp [h2],fun h=>h4 k' h⟩
theorem B6A {k:Cell} {p:Part} {es:P6} {Q:Cell->Prop} (hk:Q k) (h:∀ e∈es,Q e.1):∀ e∈A7B k p es,Q e.1:=by
 intro e he;unfold A7B at he;split at he
 ·rcases List.mem_or_eq_of_mem_set he with he | rfl
  ·exact h e he
  ·exact hk
 ·rcases List.mem_append.1 he with he | he
  ·exact h e he
  ·simp at he;subst he;exact hk
theorem MapN.nil (f:List UInt8->Int):MapN [] f []:=⟨fun e he=>by simp at he,fun s hs=>by simp at hs⟩
theorem MapN.put {es:P6} {f:List UInt8->Int} {l:sG} (hm:MapN es f l) (s:List UInt8):MapN (A7B (.s s) (.c (.i .i64 (f s))) es) f (l++[s]):=by
 refine ⟨B6A (Q:=fun c=>∃ s,c=.s s) ⟨s,rfl⟩ hm.1,fun x hx=>?_⟩;by_cases c:x=s
 ·subst c;exact ⟨_,(A0K (k':=.mh)).1⟩
 ·rcases List.mem_append.1 hx with hx | hx
  ·obtain ⟨i,hi⟩:=hm.2 x hx;refine ⟨i,?_⟩;rw [(A0K (k:=.s s) (k':=.s x)).2 (by simpa using c)];exact hi
  ·simp at hx;exact absurd hx c
theorem D1I {h:A4} {mid:Nat} {es:P6} {f:List UInt8->Int} {l:sG} {s:List UInt8} (hr:rd h mid=some (J3 es)) (hm:MapN es f l) (hs:s∈l):oH h none (.c (.i .i64 0)) false (.c (.m mid)) (.c (.s s))=some (.c (.i .i64 (f s))):=by
 obtain ⟨i,hi⟩:=hm.2 s hs;simp only [oH,B8C,C7H,hr,Option.bind_some,uB];rw [if_pos (C8H hm.1),hi];rfl
theorem D3v {h:A4} {mid:Nat} {es:P6} {f:List UInt8->Int} {l:sG} {s:List UInt8} {x:Int} (hr:rd h mid=some (J3 es)) (hm:MapN es f l):sM h none (.c (.m mid)) (.c (.s s)) (.c (.i .i64 x))=some (h.set mid (some (J3 (A7B (.s s) (.c (.i .i64 x)) es)))):=by
 simp only [sM,B8C,C1j,hr,Option.bind_some,uB];rw [if_pos (C8H hm.1)]
section
theorem C3B {b:List UInt8} {k:Nat} {x:Ent} (h:jG b k=some x):x.1.length<=24:=by
 unfold jG at h;cases hu:sE (nameB b k) with
 | none=>rw [hu] at h;cases h
 | some s =>
  rw [hu,Option.bind_some] at h;split at h
  ·cases h;exact (nO (B48 hu)).2
  ·cases h
theorem A6g {b:List UInt8}:∀ {e k:Nat} {x:Slt},x∈W2 b e k->jG b x.1=some x.2/\k<=x.1/\x.1<k+e
 | 0,k,x,h=>by simp [W2] at h
 | e+1,k,x,h=>by
  cases hr:jG b k with
  | none =>
   rw [B1i hr] at h;have:=A6g h;exact ⟨this.1,by omega,by omega⟩
  | some y =>
   rw [B1j hr] at h;rcases List.mem_cons.1 h with rfl | h
   ·exact ⟨hr,Nat.le_refl _,by dsimp only;omega⟩
   ·have:=A6g h;exact ⟨this.1,by omega,by omega⟩
theorem C3p {b:List UInt8} {x:Slt} (h:x∈N8 b):jG b x.1=some x.2/\x.1<7:=by
 have:=A6g h;exact ⟨this.1,by omega⟩
def RDs (b:Nat):List Nat:=[b,b+1,b+3,b+4,b+5,b+6,b+8]
structure ListP (D:Dev) (n k:Int) (d:List Int) (V I:List Cell) (L:List Int) (g:A4) (rs:List Nat) (c:Nat) (s:List Tld) (h:A4):Prop where
 var:VarC h (g.length+3) (encS (C4U D n k d s)) (C4U D n k d s).length 1 g.length (rs++RDs g.length)
 len:s.length<=c
 low:Low g.length g h
 r0:rd h g.length=some ⟨V,true⟩
 r1:rd h (g.length+1)=some ⟨I,true⟩
 r6:rd h (g.length+6)=some ⟨V,true⟩
 r8:rd h (g.length+8)=some ⟨encI L,true⟩
 r5:rd h (g.length+5)=some ⟨[.m (g.length+4)],true⟩
 r4:∃ es,rd h (g.length+4)=some (J3 es)/\MapN es (D5X D n k d) (C4U D n k d s)
 rs:∀ j∈rs,g.length+9<=j/\j<h.length
section
variable {D:Dev} {n k:Int} {d:List Int} {V I:List Cell} {L:List Int} {g h:A4} {rs:List Nat} {c:Nat} {s:List Tld}
theorem ListP.more (P:ListP D n k d V I L g rs c s h) (t:A4):ListP D n k d V I L g rs c s (h++t) where
 var:=P.var.more t fun j hj=>.inl hj
 len:=P.len
 low:=P.low.new _
 r0:=B6 P.r0
 r1:=B6 P.r1
 r6:=B6 P.r6
 r8:=B6 P.r8
 r5:=B6 P.r5
 r4:=by obtain ⟨es,h1,h2⟩:=P.r4;exact ⟨es,B6 h1,h2⟩
 rs:=fun j hj=>by have:=P.rs j hj;simp;omega
theorem ListP.one (P:ListP D n k d V I L g rs c s h) (r:Option Row):ListP D n k d V I L g (h.length::rs) c s (h++[r]) where
 var:=P.var.more _ fun j hj=>by
  rcases List.mem_cons.1 hj with rfl | hj
  ·exact .inr (Nat.le_refl _)
  ·exact .inl hj
 len:=P.len
 low:=P.low.new _
 r0:=B6 P.r0
 r1:=B6 P.r1
 r6:=B6 P.r6
 r8:=B6 P.r8
 r5:=B6 P.r5
 r4:=by obtain ⟨es,h1,h2⟩:=P.r4;exact ⟨es,B6 h1,h2⟩
 rs:=fun j hj=>by
  have h8:=E4 P.r8;rcases List.mem_cons.1 hj with rfl | hj
  ·simp;omega
  ·have:=P.rs j hj;simp;omega
end
end
section
def RSs (b:Nat):List Nat:=[b,b+1,b+3,b+4,b+6]
structure StrP (D:Dev) (n k:Int) (d:List Int) (V I:List Cell) (L:List Int) (g:A4) (rs:List Nat) (c:Nat) (s:List Tld) (h:A4):Prop where
 var:VarC h (g.length+3) (D56 (D2q D n k d s)) (D2q D n k d s).length 3 g.length (rs++RSs g.length)
 len:s.length<=c
 low:Low g.length g h
 r0:rd h g.length=some ⟨V,true⟩
 r1:rd h (g.length+1)=some ⟨I,true⟩
 r4:rd h (g.length+4)=some ⟨V,true⟩
 r6:rd h (g.length+6)=some ⟨encI L,true⟩
 rs:∀ j∈rs,g.length+7<=j/\j<h.length
section
variable {D:Dev} {n k:Int} {d:List Int} {V I:List Cell} {L:List Int} {g h:A4} {rs:List Nat} {c:Nat} {s:List Tld}
theorem StrP.more (P:StrP D n k d V I L g rs c s h) (t:A4):StrP D n k d V I L g rs c s (h++t) where
 var:=P.var.more t fun j hj=>.inl hj
 len:=P.len
 low:=P.low.new _
 r0:=B6 P.r0
 r1:=B6 P.r1
 r4:=B6 P.r4
 r6:=B6 P.r6
 rs:=fun j hj=>by have:=P.rs j hj;simp;omega
theorem StrP.one (P:StrP D n k d V I L g rs c s h) (r:Option Row):StrP D n k d V I L g (h.length::rs) c s (h++[r]) where
 var:=P.var.more _ fun j hj=>by
  rcases List.mem_cons.1 hj with rfl | hj
  ·exact .inr (Nat.le_refl _)
  ·exact .inl hj
 len:=P.len
 low:=P.low.new _
 r0:=B6 P.r0
 r1:=B6 P.r1
 r4:=B6 P.r4
 r6:=B6 P.r6
 rs:=fun j hj=>by
  have h8:=E4 P.r6;rcases List.mem_cons.1 hj with rfl | hj
  ·simp;omega
  ·have:=P.rs j hj;simp;omega
end
end
def B2l (s:Int):Int:=if s<1 then 0 else if 34304<s then 134 else (s+255)/256
def RS (b:Nat):List Nat:=[b+3,b+4,b+5,b,b+1,b+6,b+7]
def fO (b:Nat):Cell:=.f 267 [(b+4,0),(b+1,0),(b,0),(b+3,0)]
structure OwnP (g h:A4) (V I:List Cell) (told:Bool) (ls:List Int):Prop where
 var:VarI h (g.length+3) ls g.length (RS g.length)
 low:Low g.length g h
 len:g.length+8<=h.length
 t:rd h (g.length+4)=some ⟨[.b told],true⟩
 f:rd h (g.length+5)=some ⟨[fO g.length],true⟩
 v:rd h g.length=some ⟨V,true⟩
 i:rd h (g.length+1)=some ⟨I,true⟩
 v2:rd h (g.length+6)=some ⟨V,true⟩
 i2:rd h (g.length+7)=some ⟨I,true⟩
theorem OwnP.push {g h:A4} {V I:List Cell} {told:Bool} {ls:List Int} (P:OwnP g h V I told ls) (hl:ls.length<=1000) (n:Int) :
  ∃ x v h2 h3,A7 h (.c (.p (g.length+3) 0))=some (.c x)/\W7 (h++[some ⟨[.i .i64 n],true⟩]) 1 (.c x) (.c (.sl h.length 0 1 1))=some (.c v,h2)/\D3 h2 (.c (.p (g.length+3) 0)) (.c v)=some h3/\OwnP g h3 V I told (ls++[n]):=by
 have hlen:=P.len;have hm:∀ j∈RS g.length,j<h.length:=by intro j hj;simp only [RS,List.mem_cons,List.not_mem_nil,or_false] at hj;omega
 obtain ⟨x,v,h2,h3,a1,a2,a3,a4,a5,a6,a7⟩:=P.var.push (by simp [RS]) (by omega) (by omega) hm (by omega) n;exact ⟨x,v,h2,h3,a1,a2,a3,a4,P.low.trans a5,by omega,by rw [a6 _ (by simp [RS]) (by omega)];exact P.t,by rw [a6 _ (by simp [RS]) (by omega)];exact P.f,by rw [a6 _ (by simp [RS]) (by omega)];exact P.v,by rw [a6 _ (by simp [RS]) (by omega)];exact P.i,by rw [a6 _ (by simp [RS]) (by omega)];exact P.v2,by rw [a6 _ (by simp [RS]) (by omega)];exact P.i2⟩
theorem C8B {h:A4} {v:Val} {D:Dev} (hv:Has h v 256 D.length (D7 D)) (hD:okD D) {i:Nat} (hi:i<D.length) :
  ∃ id off,v=.c (.sl id off D.length 256)/\id<h.length/\C4 256 v (.c (.i .i64 (i:Int)))=some (.c (.p id (off+i*256)))/\A8 h 256 (.c (.p id (off+i*256)))=some (.a (A5 D[i])):=by
 obtain ⟨id,off,rfl,hid,_,h2⟩:=hv.sl (by omega);refine ⟨id,off,rfl,hid,E5 hi,?_⟩;rw [h2 (i*256) 256 (by rw [F7 hD];omega),fC hD hi]
theorem C2P {b:List UInt8} (hb:b.length=256):C7 (List.replicate 256 (Cell.i .u8 0)) [(0,256,.a (A5 b))]=some (A5 b):=by
 have hl:(A5 b).length=256:=by rw [A6,hb]
 have hz:(List.replicate 256 (Cell.i .u8 0)).length=256:=List.length_replicate;generalize List.replicate 256 (Cell.i .u8 0)=z at *;generalize A5 b=y at *;simp only [C7,A8H,Option.bind_some];rw [if_pos ⟨hl,by omega⟩];simp only [lay_all (by omega:y.length=z.length)]
theorem C1b {x:Cell} {a n:Nat} {cs:List Cell} {h:A4} (hv:Has h (.c x) 1 n cs) (hn:1<=n) (han:a+n<=256) :
  mO [.a [.i .i64 a,x]] h=some (.c (.i .i64 0),h):=by
 have key:∀ g,Has g (.c x) 1 n cs->∃ g',uZ 0 [.a [.i .i64 a,x]] g=some (.c (.i .i64 0),g'):=by
  intro g hv;have c1:¬ (n:Int)<1:=by omega
  have c2:¬ (256:Int)<n:=by omega
  have c3:¬ (a:Int)<0:=by omega
  have e1:IntKind.wrap .i64 (256-(n:Int))=256-n:=wrap_i64 (by omega) (by omega);have c4:¬ (256:Int)-n<a:=by omega
  rw [B5y];exact ⟨_,by simp only [esc,esh,Nat.reduceAdd,Nat.reduceMul,Nat.reduceLT,hv.len,c1,c2,c3,e1,c4]<;>rfl⟩
 obtain ⟨g',e⟩:=key (ro h) hv.ro;exact B2d e rfl
theorem A9v {x:Cell} {n:Nat} {data l:List UInt8} {z:List Cell} {g:A4} (hv:Has g (.c x) 1 n (A5 data)) {a q:Nat} (han:a+n<=256) (hl:l.length=256) (hz:z.length=256) (hn:data.length=n):∀ d i m,i+d=n->d<m ->
  A0E q m (.c (.p g.length 0)) (.c (.p (g.length+1) 0)) (.c (.p (g.length+2) 0)) (.c x) (.c (.i .i64 n)) (.c (.i .i64 i)) (g++[some ⟨A5 (I1 l a (data.take i)),true⟩,some ⟨[.i .i64 a,x],true⟩,some ⟨z,true⟩]) =
   some (.a (A5 (I1 l a data)),g++[some ⟨A5 (I1 l a data),true⟩,some ⟨[.i .i64 a,x],true⟩,some ⟨A5 (I1 l a data),true⟩])
 | d,i,0,_,hm=>by omega
 | 0,i,m+1,hi,hm=>by
  have e0:i=n:=by omega
  subst e0;have c0:¬ (i:Int)<i:=by omega
  have hE:(A5 (I1 l a data)).length=256:=by rw [A6,L8 (by omega),hl]
  rw [A7a,List.take_of_length_le (by omega)];simp only [esc,esh,Nat.reduceAdd,Nat.reduceMul,Nat.reduceLT,c0,hE,hz]
 | d+1,i,m+1,hi,hm=>by
  have ih:=A9v hv (z:=z) (q:=q) han hl hz hn d (i+1) m (by omega) (by omega);obtain ⟨id,off,e,hid,h1,h2⟩:=(hv.more [some ⟨A5 (I1 l a (data.take i)),true⟩,some ⟨[.i .i64 a,x],true⟩,some ⟨z,true⟩]).sl (by omega);cases e;have c0:(i:Int)<n:=by omega
  have hx:=h1 i (.i .u8 data[i].toNat) (by rw [rM,List.getElem?_eq_getElem (by omega)];rfl);have eb:C4 1 (.c (.sl id off n 1)) (.c (.i .i64 (i:Int)))=some (.c (.p id (off+i))):=by rw [E5 (by omega)];simp
  have ea:D8 256 1 (.c (.p g.length 0)) (.c (.i .i64 ((a+i:Nat):Int)))=some (.c (.p g.length (a+i))):=by rw [I7 (by omega)];simp
  have hE:(A5 (I1 l a (data.take i))).length=256:=by rw [A6,L8 (by simp;omega),hl]
  have ho:a+i<256:=by omega
  have e5:(I1 l a (data.take i)).set (a+i) data[i]=I1 l a (data.take (i+1)):=by
   have:=A9U (l:=l) (xs:=data.take i) (a:=a) (x:=data[i]) (by simp;omega);rw [List.length_take,Nat.min_eq_left (by omega)] at this;rw [this,List.take_succ_eq_append_getElem (by omega)]
  have es:(A5 (I1 l a (data.take i))).set (a+i) (.i .u8 data[i].toNat)=A5 (I1 l a (data.take (i+1))):=by rw [iU,e5]
  rw [A7a];simp only [esc,esh,Nat.reduceAdd,Nat.reduceMul,Nat.reduceLT,c0,eb,hx,A38 (show a+i<9223372036854775808 by omega),ea,hE,ho,es,E8 (show i+1<9223372036854775808 by omega)];exact ih
theorem B4U {x:Cell} {n a:Nat} {data l:List UInt8} {h:A4} (hv:Has h (.c x) 1 n (A5 data)) (hn:1<=n) (han:a+n<=256) (hl:l.length=256) :
  iH [.a (A5 l),.a [.i .i64 a,x]] h=some (.a (A5 (I1 l a data)),h):=by
 have hd:data.length=n:=by simpa [A6] using hv.length
 have key:∀ N,n<N->∀ g,Has g (.c x) 1 n (A5 data)->∃ g',A2o N [.a (A5 l),.a [.i .i64 a,x]] g=some (.a (A5 (I1 l a data)),g'):=by
  intro N hN g hv;have hz:(List.replicate 256 (Cell.i .u8 0)).length=256:=List.length_replicate;have hE:(A5 l).length=256:=by rw [A6,hl]
  rw [B9o];generalize List.replicate 256 (Cell.i .u8 0)=z at *;have e:=A9v hv (l:=l) (z:=z) (q:=N) han hl hz hd n 0 N (by omega) (by omega);simp only [List.take_zero,B4w] at e;have hc:=C1b (hv.more [some ⟨A5 l,true⟩,some ⟨[.i .i64 a,x],true⟩,some ⟨z,true⟩]) hn han;exact ⟨_,by simp only [esc,esh,Nat.reduceAdd,Nat.reduceMul,Nat.reduceLT,hE,hz,hc,hv.len];exact e⟩
 obtain ⟨g',e⟩:=key (n+1) (by omega) (ro h) hv.ro;exact B51 e (by simp)
theorem C9e {a:Int} {x:Cell}:C7 [Cell.i .i64 0,.ns] [(0,1,.c (.i .i64 a)),(1,1,.c x)]=some [.i .i64 a,x]:=rfl
theorem C7c:C7 ([]:List Cell) []=some []:=rfl
theorem C1u {j:Nat} {k l s p:Int} {d:List Int} {h:A4} (hd:d.length=7) (h8:j<8) (c:A6h k l s p d=true) :
  mQ [.c (.i .i64 j),.a (G9 k l s p d)] h=some (.t [.a [.i .i64 ((32*j:Nat):Int),.sl h.length 0 32 1],.c (.i .i64 0)],h++[some ⟨A5 (pA k l s p d),true⟩]):=by
 have key:∀ g,∃ g',vB 0 [.c (.i .i64 j),.a (G9 k l s p d)] g=some (.t [.a [.i .i64 ((32*j:Nat):Int),.sl (g.length+4) 0 32 1],.c (.i .i64 0)],g')/\rd g' (g.length+4)=some ⟨A5 (pA k l s p d),true⟩:=by
  intro g;have c1:¬ (j:Int)<0:=by omega
  have c2:¬ (8:Int)<=j:=by omega
  have hP:=fun h=>B4u (k:=k) (l:=l) (s:=s) (p:=p) (h:=h) hd
  simp only [c,cond_true] at hP;have hE:(encI d).length=7:=by rw [B9,hd]
  have hz:(List.replicate 32 (Cell.i .u8 0)).length=32:=List.length_replicate;have hB:(A5 (pA k l s p d)).length=32:=by rw [A6,xJ hd]
  have w1:IntKind.wrap .i64 ((j:Int)*32)=((32*j:Nat):Int):=by rw [wrap_i64 (by omega) (by omega)];omega
  have p1:=A8z (h:=g++[some ⟨G9 k l s p d,true⟩,some ⟨[.i .i64 0,.ns],true⟩,some ⟨A5 (pA k l s p d),true⟩,some ⟨[],true⟩]) (id:=g.length+3) (jd:=g.length+2) (n:=0) (m:=32) (sz:=1) (cs:=[]) (ys:=A5 (pA k l s p d)) (rw:=true) (by simp) (by simp) (by simp) (by rw [hB]) rfl (by omega) (by omega);generalize A5 (pA k l s p d)=B at *;simp only [esc] at p1;rw [B5B];generalize List.replicate 32 (Cell.i .u8 0)=z at *;exact ⟨_,by simp only [esc,esh,Nat.reduceAdd,Nat.reduceMul,Nat.reduceLT,c1,c2,hE,hP,hz,hB,w1,C7c,p1,C9e,Int.cast_ofNat_Int]<;>rfl,by simp⟩
 obtain ⟨g',e,hr⟩:=key (ro h);have hr':=hr;rw [I8] at hr';have hc1:L7 g' h.length [] [.i .i64 ((32*j:Nat):Int),.sl ((ro h).length+4) 0 32 1]=some ([.i .i64 ((32*j:Nat):Int),.sl h.length 0 32 1],[h.length+4]):=by
  rw [I8];simp [L7,Cell.low,Cell.flat,A0L hr' (by simp:I9 (A5 (pA k l s p d))=true)]
 have hc2:L7 g' h.length [h.length+4] [.i .i64 0]=some ([.i .i64 0],[h.length+4]):=bE (by simp);have:=B2f e (v2:=.t [.a [.i .i64 ((32*j:Nat):Int),.sl h.length 0 32 1],.c (.i .i64 0)]) (ids:=[h.length+4]) (by
  simp only [S9,dX,hc1,hc2,Option.bind_some,Option.map_some])
 rw [this];simp [hr']
theorem B1E {j:Nat} {k l s p:Int} {d:List Int} {b:List UInt8} {h:A4} (hb:b.length=256) (hd:d.length=7) (h8:j<8) (c:A6h k l s p d=true) :
  bA [.a (A5 b),.c (.i .i64 j),.a (G9 k l s p d)] h=some (.t [.a (A5 (I1 b (32*j) (pA k l s p d))),.c (.i .i64 0)],h):=by
 have key:∀ g,∃ g',A0n 0 [.a (A5 b),.c (.i .i64 j),.a (G9 k l s p d)] g=some (.t [.a (A5 (I1 b (32*j) (pA k l s p d))),.c (.i .i64 0)],g'):=by
  intro g;have hB:(A5 b).length=256:=by rw [A6,hb]
  have hE:(encI d).length=7:=by rw [B9,hd]
  have hI:(A5 (pA k l s p d)).length=32:=by rw [A6,xJ hd]
  have hz:(List.replicate 256 (Cell.i .u8 0)).length=256:=List.length_replicate;have hP:=fun h=>C1u (h:=h) hd h8 c
  rw [B8b];generalize List.replicate 256 (Cell.i .u8 0)=z at *;have hL:=B4U (h:=g++[some (Row.mk (A5 b) true),some (Row.mk (G9 k l s p d) true),some (Row.mk z true),some (Row.mk (A5 (pA k l s p d)) true),some (Row.mk [.i .i64 ((32*j:Nat):Int),.sl (g.length+3) 0 32 1] true)]) (x:=.sl (g.length+3) 0 32 1) (n:=32) (a:=32*j) (data:=pA k l s p d) (l:=b) (Has.tr (by simp) (by rw [hI]) (T4 _)) (by omega) (by omega) hb;have hR:(A5 (I1 b (32*j) (pA k l s p d))).length=256:=by rw [A6,L8 (by rw [xJ hd];omega),hb]
  exact ⟨_,by simp only [esc,esh,Nat.reduceAdd,Nat.reduceMul,Nat.reduceLT,hB,hE,hz,hP,hL,hR]<;>rfl⟩
 obtain ⟨g',e⟩:=key (ro h);exact B3K e (by simp)
def sI (b:List UInt8) (j:Nat):List UInt8:=(b.drop (32*j)).take 32
theorem A9w {b:List UInt8} {j:Nat} (hb:b.length=256) (hj:j<8):(sI b j).length=32:=by unfold sI;simp;omega
theorem C6J {g:A4} {b:List UInt8} {z:List Cell} {j q:Nat} (hb:b.length=256) (hz:z.length=32) (hj:j<8):∀ e i m:Nat,i+e=32->e<m ->
  A0G q m (.c (.i .i64 j)) (.c (.p g.length 0)) (.c (.p (g.length+1) 0)) (.c (.p (g.length+2) 0)) (.c (.i .i64 i)) (g++[some ⟨A5 b,true⟩,some ⟨z,true⟩,some ⟨A5 ((sI b j).take i++zeros (32-i)),true⟩]) =
   some (.a (A5 (sI b j)),g++[some ⟨A5 b,true⟩,some ⟨A5 (sI b j),true⟩,some ⟨A5 (sI b j),true⟩])
 | e,i,0,_,hm=>by omega
 | 0,i,m+1,hi,hm=>by
  have e0:i=32:=by omega
  subst e0;have h1':¬ ((32:Nat):Int)<32:=by omega
  have hR:=A9w hb hj;have hl:(A5 (sI b j)).length=32:=by rw [A6,hR]
  have e1:A5 ((sI b j).take 32++zeros (32-32))=A5 (sI b j):=by rw [List.take_of_length_le (by omega)];simp [zeros]
  rw [A7f,e1];simp only [esc,esh,Nat.reduceAdd,Nat.reduceMul,Nat.reduceLT,h1',hl,hz]
 | e+1,i,m+1,hi,hm=>by
  have ih:=C6J (g:=g) (q:=q) hb hz hj e (i+1) m (by omega) (by omega);have hR:=A9w hb hj;have h1':(i:Int)<32:=by omega
  have w1:IntKind.wrap .i64 ((j:Int)*32)=((32*j:Nat):Int):=by rw [wrap_i64 (by omega) (by omega)];omega
  have a1:D8 256 1 (.c (.p g.length 0)) (.c (.i .i64 ((32*j+i:Nat):Int)))=some (.c (.p g.length (32*j+i))):=by rw [I7 (by omega)];simp
  have a2:D8 32 1 (.c (.p (g.length+2) 0)) (.c (.i .i64 (i:Int)))=some (.c (.p (g.length+2) i)):=by rw [I7 (by omega)];simp
  have l1:(A5 b)[32*j+i]?=some (.i .u8 (sI b j)[i].toNat):=by
   rw [rM,List.getElem?_eq_getElem (by omega)];have:(sI b j)[i]=b[32*j+i]'(by omega):=by simp [sI]
   rw [this];rfl
  have ho:i<(A5 ((sI b j).take i++zeros (32-i))).length:=by rw [A6,List.length_append,zeros_length,List.length_take];omega
  have es:(A5 ((sI b j).take i++zeros (32-i))).set i (.i .u8 (sI b j)[i].toNat)=A5 ((sI b j).take (i+1)++zeros (32-(i+1))):=by
   rw [iU];refine congrArg A5 ?_;have h6:((sI b j).take i).length=i:=by simp;omega
   rw [List.set_append_right _ _ (by omega),h6,Nat.sub_self,List.take_succ_eq_append_getElem (by omega),List.append_assoc];refine congrArg ((sI b j).take i ++ ·) ?_;rw [show 32-i=32-(i+1)+1 by omega];unfold zeros;rw [List.replicate_succ,List.set_cons_zero];rfl
  rw [A7f];simp only [esc,esh,Nat.reduceAdd,Nat.reduceMul,Nat.reduceLT,h1',w1,A38 (show 32*j+i<9223372036854775808 by omega),a1,a2,l1,ho,es,E8 (show i+1<9223372036854775808 by omega)];exact ih
theorem C5a {b:List UInt8} {j:Nat} {h:A4} (hb:b.length=256) (hj:j<8):wP [.a (A5 b),.c (.i .i64 j)] h=some (.a (A5 (sI b j)),h):=by
 have key:∀ N,32<N->∀ g,∃ g',A2s N [.a (A5 b),.c (.i .i64 j)] g=some (.a (A5 (sI b j)),g'):=by
  intro N hN g;have c1:¬ (j:Int)<0:=by omega
  have c2:¬ (8:Int)<=j:=by omega
  have hz:(A5 (zeros 32)).length=32:=by rw [A6];exact zeros_length
  have e:=C6J (g:=g) (z:=A5 (zeros 32)) (q:=N) hb hz hj 32 0 N (by omega) (by omega);simp only [List.take_zero,List.nil_append,Nat.sub_zero] at e;rw [B9s,F5];generalize zeros 32=zz at *;exact ⟨_,by simp only [esc,esh,Nat.reduceAdd,Nat.reduceMul,Nat.reduceLT,c1,c2];exact e⟩
 obtain ⟨g',e⟩:=key (h.length+33) (by omega) (ro h);exact B58 e (by simp)
theorem A9f:(G9 0 0 0 0 (zI 7)).length=11:=rfl
theorem C4v:[Cell.i .i64 0,.i .i64 0,.i .i64 0,.i .i64 0,.i .i64 0,.i .i64 0,.i .i64 0,.i .i64 0,.i .i64 0,.i .i64 0,.i .i64 0]=G9 0 0 0 0 (zI 7):=rfl
theorem B9R:C7 (G9 0 0 0 0 (zI 7)) []=some (G9 0 0 0 0 (zI 7)):=rfl
theorem C49 {b:List UInt8} {j:Nat} {h:A4} (hb:b.length=256) (hj:j<8):wO [.a (A5 b),.c (.i .i64 j)] h=some (.t [.a (rF (sI b j)),.c (.b (rH (sI b j)))],h):=by
 have key:∀ g,∃ g',A2r 0 [.a (A5 b),.c (.i .i64 j)] g=some (.t [.a (rF (sI b j)),.c (.b (rH (sI b j)))],g'):=by
  intro g;have c1:¬ (j:Int)<0:=by omega
  have c2:¬ (8:Int)<=j:=by omega
  have hB:(A5 b).length=256:=by rw [A6,hb]
  have hR:=fun h=>C5a (h:=h) hb hj
  have hC:=fun h=>C0I (b:=sI b j) (h:=h) (A9w hb hj)
  have hl:=A9f;have xW:=B1a (b:=sI b j);rw [B9r,C4v];generalize G9 0 0 0 0 (zI 7)=z at *;exact ⟨_,by simp only [esc,esh,Nat.reduceAdd,Nat.reduceMul,Nat.reduceLT,c1,c2,hB,hR,hC,hl,xW]<;>rfl⟩
 obtain ⟨g',e⟩:=key (ro h);exact B56 e (by simp [B35])
def B0B (D:Dev) (n i:Int):List UInt8:=sI (blk D (uE D.length n i)) (uF D.length n i).toNat
def C0F (D:Dev) (n i:Int):List Cell:=bif aJ D.length n i then rF (B0B D n i) else G9 0 0 0 0 (zI 7)
def kdV (D:Dev) (n i:Int):Int:=bif aJ D.length n i then (bif rH (B0B D n i) then B0A (B0B D n i) else 0) else 0
theorem C9F (D:Dev) (n i:Int):∃ l s p d,C0F D n i=G9 (kdV D n i) l s p d/\d.length=7:=by
 unfold C0F kdV;cases aJ D.length n i with
 | false=>exact ⟨0,0,0,zI 7,rfl,K9⟩
 | true =>
  unfold rF;cases rH (B0B D n i) with
  | false=>exact ⟨0,0,0,zI 7,rfl,K9⟩
  | true=>exact ⟨_,_,_,_,rfl,H1⟩
theorem C7v (D:Dev) (n i:Int):I9 (C0F D n i)=true:=by
 obtain ⟨l,s,p,d,e,hd⟩:=C9F D n i;rw [e];exact C7u (l:=_::_::_::_::d)
theorem C2G {b n m i:Int} {f:Cell} {h:A4} (hi:aJ b n i=false):G1 [.a (vwC b n m f),.c (.i .i64 i)] h=some (.a (G9 0 0 0 0 (zI 7)),h):=by
 have key:∀ g,∃ g',aX 0 [.a (vwC b n m f),.c (.i .i64 i)] g=some (.a (G9 0 0 0 0 (zI 7)),g'):=by
  intro g;have l3:=C64 (b:=b) (n:=n) (m:=m) (f:=f);have hW:=fun h=>A3R (b:=b) (n:=n) (m:=m) (i:=i) (h:=h)
  simp only [hi] at hW;have hf:=B9R;have hl:=A9f;rw [wC,C4v];generalize vwC b n m f=V at *;generalize G9 0 0 0 0 (zI 7)=z at *;exact ⟨_,by simp only [esc,esh,Nat.reduceAdd,Nat.reduceMul,Nat.reduceLT,l3,hW,hf,hl]<;>rfl⟩
 obtain ⟨g',e⟩:=key (ro h);exact qW e rfl
theorem nE {n m i:Int} {f:Cell} {D:Dev} {h:A4} (hD:okD D) (hv:IsView h f D):G1 [.a (vwC D.length n m f),.c (.i .i64 i)] h=some (.a (C0F D n i),h):=by
 cases hi:aJ D.length n i with
 | false =>
  rw [C2G hi];unfold C0F;rw [hi];rfl
 | true =>
  have key:∀ g,IsView g f D->∃ g',aX 0 [.a (vwC D.length n m f),.c (.i .i64 i)] g=some (.a (C0F D n i),g'):=by
   intro g hv;have l3:=C64 (b:=D.length) (n:=n) (m:=m) (f:=f);have l4:=D2v (b:=D.length) (n:=n) (m:=m) (f:=f);have hW:=fun h=>A3R (b:=D.length) (n:=n) (m:=m) (i:=i) (h:=h)
   simp only [hi] at hW;have hf:=B9R;have hl:=A9f;have hK:∃ j:Nat,uF D.length n i=j/\j<8:=by
    refine ⟨(uF D.length n i).toNat,?_,?_⟩<;>unfold uF<;>rw [hi,cond_true]<;>omega
   obtain ⟨j,hj,hj8⟩:=hK;have hB:=Y2 (n:=n) (m:=m) (no:=uE D.length n i) (h:=g++[some (Row.mk (vwC D.length n m f) true),some (Row.mk (G9 0 0 0 0 (zI 7)) true)]) hD (hv.more _);have hG:=fun h=>C49 (b:=blk D (uE D.length n i)) (j:=j) (h:=h) (V4 hD) hj8
   have er:sI (blk D (uE D.length n i)) j=B0B D n i:=by unfold B0B;rw [hj,Int.toNat_natCast]
   simp only [er] at hG;simp only [hj] at hW;have xW:=B1a (b:=B0B D n i);have ei:C0F D n i=rF (B0B D n i):=by unfold C0F;rw [hi];rfl
   rw [wC,C4v,ei];generalize vwC D.length n m f=V at *;generalize G9 0 0 0 0 (zI 7)=z at *;generalize rF (B0B D n i)=y at *;exact ⟨_,by simp only [esc,esh,Nat.reduceAdd,Nat.reduceMul,Nat.reduceLT,l3,l4,hW,hB,hG,hf,hl,xW]<;>rfl⟩
  obtain ⟨g',e⟩:=key (ro h) hv.ro;exact qW e (C7v D n i)
def C7A (b:List UInt8) (i:Int):Bool:=decide (0<=i)&&decide (i<2048)&&decide ((b.getD (i/8).toNat 0).toNat/2 ^ (i%8).toNat%2=1)
def zO (i:Nat):Nat:=2 ^ (i%8)
theorem B4y (i:Nat):zO i<256:=by
 have h:i%8<8:=by omega
 unfold zO;generalize i%8=j at *;have:j=0\/j=1\/j=2\/j=3\/j=4\/j=5\/j=6\/j=7:=by omega
 rcases this with rfl | rfl | rfl | rfl | rfl | rfl | rfl | rfl<;>decide
theorem A8I {i:Nat} {h:A4} (hi:i<2048):X6 [.c (.i .i64 (i:Int))] h=some (.t [.c (.i .i64 ((i/8:Nat):Int)),.c (.i .u8 (zO i:Int)),.c (.b true)],h):=by
 refine A08 (n:=0) (h2:=ro h) ?_ rfl;have c1:¬ (i:Int)<0:=by omega
 have c2:¬ (2048:Int)<=i:=by omega
 have q1:B5 .quo (.c (.i .i64 (i:Int))) (.c (.i .i64 8))=some (.c (.i .i64 ((i/8:Nat):Int))):=by
  rw [A9Z (by omega) (by omega) (by omega)];congr 3
 have r1:B5 .rem (.c (.i .i64 (i:Int))) (.c (.i .i64 8))=some (.c (.i .i64 ((i%8:Nat):Int))):=by
  rw [C8U (by omega) (by omega)];congr 3
 have w1:IntKind.wrap .u64 ((i%8:Nat):Int)=((i%8:Nat):Int):=wrap_u64 (by omega) (by omega);have s1:B5 .shl (.c (.i .u8 1)) (.c (.i .u64 ((i%8:Nat):Int)))=some (.c (.i .u8 (zO i:Int))):=by
  have hm:=B4y i;rw [B3M (by omega),Int.toNat_natCast];have e1:Nat.min (i%8) IntKind.u8.bits=i%8:=by
   have:IntKind.u8.bits=8:=rfl;rw [this];exact Nat.min_eq_left (by omega)
  have e2:(1:Int)*2 ^ (i%8)=(zO i:Int):=by unfold zO;rw [Int.natCast_pow];simp
  rw [e1,e2,wrap_u8 (by omega) (by omega)]
 rw [A4i];simp only [esc,c1,c2,q1,r1,w1,s1]
theorem B8v {i:Int} {h:A4} (hi:i<0\/2048<=i):X6 [.c (.i .i64 i)] h=some (.t [.c (.i .i64 0),.c (.i .u8 0),.c (.b false)],h):=by
 refine A08 (n:=0) (h2:=ro h) ?_ rfl;rw [A4i];by_cases c1:i<0
 ·simp only [esc,c1]
 ·have c2:2048<=i:=by omega
  simp only [esc,c1,c2]
theorem D4g {a b:Nat} (ha:a<256) (hb:b<256):B5 .and (.c (.i .u8 a)) (.c (.i .u8 b))=some (.c (.i .u8 ((a &&& b:Nat):Int))):=by
 have h1:a &&& b<2 ^ 8:=Nat.and_lt_two_pow _ hb;rw [C5p];have e:(BitVec.ofInt IntKind.u8.bits (a:Int) &&& BitVec.ofInt IntKind.u8.bits (b:Int)).toNat=a &&& b:=by
  have h8:IntKind.u8.bits=8:=rfl;rw [BitVec.toNat_and,BitVec.toNat_ofInt,BitVec.toNat_ofInt,h8];have e1:((a:Int)%(2 ^ 8:Nat)).toNat=a:=by omega
  have e2:((b:Int)%(2 ^ 8:Nat)).toNat=b:=by omega
  rw [e1,e2]
 rw [e,wrap_u8 (by omega) (by omega)]
theorem D53 {a b:Nat} (ha:a<256) (hb:b<256):B5 .or (.c (.i .u8 a)) (.c (.i .u8 b))=some (.c (.i .u8 ((a ||| b:Nat):Int))):=by
 have h1:a ||| b<2 ^ 8:=Nat.or_lt_two_pow ha hb
 rw [C31];have e:(BitVec.ofInt IntKind.u8.bits (a:Int) ||| BitVec.ofInt IntKind.u8.bits (b:Int)).toNat=a ||| b:=by
  have h8:IntKind.u8.bits=8:=rfl;rw [BitVec.toNat_or,BitVec.toNat_ofInt,BitVec.toNat_ofInt,h8];have e1:((a:Int)%(2 ^ 8:Nat)).toNat=a:=by omega
  have e2:((b:Int)%(2 ^ 8:Nat)).toNat=b:=by omega
  rw [e1,e2]
 rw [e,wrap_u8 (by omega) (by omega)]
theorem D2M {a j:Nat}:(a &&& 2 ^ j=0)↔¬ a/2 ^ j%2=1:=by
 have h:=Nat.testBit_eq_decide_div_mod_eq (x:=a) (i:=j);constructor
 ·intro h0 h1;rw [decide_eq_true h1] at h;have h2:(a &&& 2 ^ j).testBit j=true:=by rw [Nat.testBit_and,h,Nat.testBit_two_pow,decide_eq_true rfl];rfl
  rw [h0,Nat.zero_testBit] at h2;cases h2
 ·intro h1;rw [decide_eq_false h1] at h;refine Nat.eq_of_testBit_eq fun i=>?_
  rw [Nat.testBit_and,Nat.testBit_two_pow,Nat.zero_testBit];by_cases c:j=i
  ·subst c;rw [h];rfl
  ·rw [decide_eq_false c,Bool.and_false]
theorem C35 {b:List UInt8} {i:Int} {h:A4} (hb:b.length=256):wE [.a (A5 b),.c (.i .i64 i)] h=some (.c (.b (C7A b i)),h):=by
 have key:∀ g,∃ g',A2d 0 [.a (A5 b),.c (.i .i64 i)] g=some (.c (.b (C7A b i)),g'):=by
  intro g;rw [B89];by_cases c:0<=i/\i<2048
  ·obtain ⟨k,rfl⟩:∃ k:Nat,i=k:=⟨i.toNat,by omega⟩;have hk:k<2048:=by omega
   have hW:=fun h=>A8I (h:=h) hk
   have R0:k/8<b.length:=by omega
   have ad:=I7 (k:=.i64) (id:=g.length) (off:=0) (sz:=1) (j:=k/8) (n:=256) (by omega);rw [Nat.mul_one,Nat.zero_add] at ad;have l1:(A5 b)[k/8]?=some (.i .u8 b[k/8].toNat):=by rw [rM,List.getElem?_eq_getElem R0];rfl
   have a1:=D4g (a:=b[k/8].toNat) (b:=zO k) b[k/8].toNat_lt (B4y k);have e:C7A b k=decide (¬ (((b[k/8].toNat &&& zO k:Nat):Int)=0)):=by
    have h1:(k:Int)/8=((k/8:Nat):Int):=rfl;have h2:(k:Int)%8=((k%8:Nat):Int):=rfl;unfold C7A;rw [decide_eq_true c.1,decide_eq_true c.2,Bool.true_and,Bool.true_and,h1,h2,Int.toNat_natCast,Int.toNat_natCast,List.getD_eq_getElem?_getD,List.getElem?_eq_getElem R0,Option.getD_some];have:=D2M (a:=b[k/8].toNat) (j:=k%8);unfold zO;by_cases c:b[k/8].toNat/2 ^ (k%8)%2=1
    ·rw [decide_eq_true c,decide_eq_true];intro h;exact this.1 (by omega) c
    ·rw [decide_eq_false c,decide_eq_false];intro h;exact h (by have:=this.2 c;omega)
   rw [e];generalize A5 b=y at *;exact ⟨_,by simp only [esc,esh,Nat.reduceAdd,Nat.reduceMul,Nat.reduceLT,hW,ad,l1,a1]<;>rfl⟩
  ·have hW:=fun h=>B8v (i:=i) (h:=h) (by omega)
   have e:C7A b i=false:=by
    unfold C7A;rw [Bool.and_eq_false_iff,Bool.and_eq_false_iff,decide_eq_false_iff_not,decide_eq_false_iff_not];omega
   rw [e];generalize A5 b=y at *;exact ⟨_,by simp only [esc,esh,Nat.reduceAdd,Nat.reduceMul,Nat.reduceLT,hW]<;>rfl⟩
 obtain ⟨g',e⟩:=key (ro h);exact B5F e rfl
def C3N (D:Dev) (n i:Int):Bool:=T3 D.length n&&decide (0<=i)&&decide (i<D.length)&&C7A (blk D 1) i
theorem C5e {n m i:Int} {f:Cell} {D:Dev} {h:A4} (hD:okD D) (hv:IsView h f D):Y6 [.a (vwC D.length n m f),.c (.i .i64 i)] h=some (.c (.b (C3N D n i)),h):=by
 have key:∀ g,IsView g f D->∃ g',jR 0 [.a (vwC D.length n m f),.c (.i .i64 i)] g=some (.c (.b (C3N D n i)),g'):=by
  intro g hv;have l3:=C64 (b:=D.length) (n:=n) (m:=m) (f:=f);have l4:=D2v (b:=D.length) (n:=n) (m:=m) (f:=f);have l0:(vwC D.length n m f)[0]?=some (.i .i64 (D.length:Int)):=rfl;have hC:=fun h=>Z6 (b:=D.length) (n:=n) (m:=m) (h:=h)
  have n10:¬ (1:Int)=0:=by decide
  rw [A98];unfold C3N;cases c1:T3 D.length n with
  | false =>
   simp only [c1] at hC;generalize vwC D.length n m f=V at *;exact ⟨_,by simp only [esc,esh,Nat.reduceAdd,Nat.reduceMul,Nat.reduceLT,l3,hC,n10,eq_self,Bool.false_and]<;>rfl⟩
  | true =>
   simp only [c1] at hC;by_cases c2:0<=i
   ·by_cases c3:i<D.length
    ·have hB:=Y2 (n:=n) (m:=m) (no:=1) (h:=g++[some (Row.mk (vwC D.length n m f) true)]) hD (hv.more _);have hH:=fun h=>C35 (i:=i) (h:=h) (V4 hD (i:=1))
     generalize vwC D.length n m f=V at *;exact ⟨_,by simp only [esc,esh,Nat.reduceAdd,Nat.reduceMul,Nat.reduceLT,l3,l4,l0,hC,n10,eq_self,c2,c3,oV,hB,hH,Bool.true_and]<;>rfl⟩
    ·generalize vwC D.length n m f=V at *;exact ⟨_,by simp only [esc,esh,Nat.reduceAdd,Nat.reduceMul,Nat.reduceLT,l3,l4,l0,hC,n10,eq_self,c2,c3,Bool.true_and,Bool.false_and]<;>rfl⟩
   ·generalize vwC D.length n m f=V at *;exact ⟨_,by simp only [esc,esh,Nat.reduceAdd,Nat.reduceMul,Nat.reduceLT,l3,l4,l0,hC,n10,eq_self,c2,Bool.true_and,Bool.false_and]<;>rfl⟩
 obtain ⟨g',e⟩:=key (ro h) hv.ro;exact A7q e rfl
theorem D0G {N:Nat} (hN:N<=1073741823):A8x (.c (.i .i64 (N:Int))) (.c (.i .i64 (N:Int)))=some N:=by
 have:B4I (.c (.i .i64 (N:Int)))=some N:=by simp only [B4I];rw [if_pos (by omega)];simp
 simp [A8x,this]
theorem D2j {D:Dev} {i:Nat} {z:List UInt8} (hi:i<D.length):(D.take i++List.replicate (D.length-i) z).set i D[i]=D.take (i+1)++List.replicate (D.length-(i+1)) z:=by
 have hl:(D.take i).length=i:=by rw [List.length_take];omega
 rw [List.set_append_right _ _ (by omega),hl,Nat.sub_self,show D.length-i=D.length-(i+1)+1 by omega,List.replicate_succ,List.set_cons_zero,List.take_succ_eq_append_getElem hi,List.append_assoc];rfl
theorem D1T {D:Dev} (hD:okD D) (i:Nat):okD (D.take i++List.replicate (D.length-i) (zeros 256)):=fun b hb=>by
 rcases List.mem_append.1 hb with hb | hb
 ·exact hD.take i b hb
 ·exact B6D _ b hb
theorem C0v {n m:Int} {f:Cell} {D:Dev} {g:A4} {p q id:Nat} (hD:okD D) (h60:D.length<=1073741823) (h1:rd g p=some ⟨vwC D.length n m f,true⟩) (hv:IsView g f D) (hid:g.length<=id):∀ (e i M:Nat) (h:A4),i+e=D.length->e<M->Low g.length g h ->
  rd h id=some ⟨D7 (D.take i++List.replicate (D.length-i) (zeros 256)),true⟩ ->
  ∃ h',eJ q M (.c (.p p 0)) (.c (.sl id 0 D.length 256)) (.c (.i .i64 (D.length:Int))) (.c (.i .i64 (i:Int))) h=some (.c (.sl id 0 D.length 256),h')/\rd h' id=some ⟨D7 D,true⟩
 | e,i,0,h,_,hm,_,_=>by omega
 | 0,i,M+1,h,hi,hm,hlow,hr=>by
  have e0:i=D.length:=by omega
  have c0:¬ (i:Int)<(D.length:Nat):=by omega
  rw [e0,List.take_length,Nat.sub_self,List.replicate_zero,List.append_nil] at hr;rw [tB];exact ⟨h,by simp only [esc,c0],hr⟩
 | e+1,i,M+1,h,hi,hm,hlow,hr=>by
  have S3:i<D.length:=by omega
  have c0:(i:Int)<(D.length:Nat):=by omega
  have hV:=D4 (h:=h) (id:=p) (hlow.rd h1) (n:=4) rfl;have hB:=Y2 (n:=n) (m:=m) (no:=(i:Int)) hD (hv.since hlow);rw [C7l S3] at hB;have ad:C4 256 (.c (.sl id 0 D.length 256)) (.c (.i .i64 (i:Int)))=some (.c (.p id (i*256))):=by rw [E5 S3,Nat.zero_add]
  have hl:(D.take i).length=i:=by rw [List.length_take];omega
  have hs:=A0N (i:=i) (b:=D[i]) hr (D1T hD i) (hD.at S3) (by rw [List.length_append,hl,List.length_replicate];omega);rw [D2j S3] at hs;have R0:=E4 hr;obtain ⟨h',g1,g2⟩:=C0v (q:=q) hD h60 h1 hv hid e (i+1) M (h.set id (some ⟨D7 (D.take (i+1)++List.replicate (D.length-(i+1)) (zeros 256)),true⟩)) (by omega) (by omega) (hlow.set hid _) (C8 R0);refine ⟨h',?_,g2⟩;rw [tB];generalize vwC D.length n m f=V at *;generalize A5 D[i]=y at *;simp only [V9,A4z,c0,decide_true,C8w,hV,hB,ad,hs,A1h,E8 (show i+1<9223372036854775808 by omega)];exact g1
theorem C2F {n m:Int} {f:Cell} {D:Dev} {h:A4} (hD:okD D) (hv:IsView h f D) (hm:T3 D.length n=true):bB [.a (vwC D.length n m f)] h=some (.c (.sl h.length 0 D.length 256),h++[some ⟨D7 D,true⟩]):=by
 have key:∀ g,IsView g f D->∃ v g',gA (D.length+1) [.a (vwC D.length n m f)] g=some (v,g')/\Out g.length g' v 256 D.length (D7 D):=by
  intro g hv;have h60:D.length<=512:=by
   unfold T3 at hm;simp only [Bool.and_eq_true,decide_eq_true_eq] at hm;omega
  have l3:=C64 (b:=D.length) (n:=n) (m:=m) (f:=f);have l0:(vwC D.length n m f)[0]?=some (.i .i64 (D.length:Int)):=rfl;have hC:=fun h=>Z6 (b:=D.length) (n:=n) (m:=m) (h:=h)
  simp only [hm] at hC;have mk:=D0G (N:=D.length) (by omega);obtain ⟨h',g1,g2⟩:=C0v (n:=n) (m:=m) (p:=g.length) (q:=D.length+1) (id:=g.length+2) (g:=g++[some (Row.mk (vwC D.length n m f) true),some (Row.mk [] true)]) hD (by omega) (by simp) (hv.more _) (by simp) D.length 0 (D.length+1) (g++[some (Row.mk (vwC D.length n m f) true),some (Row.mk [] true),some (Row.mk (D7 (List.replicate D.length (zeros 256))) true)]) (by omega) (by omega)
   (by
    have:=(Low.refl (h:=g++[some (Row.mk (vwC D.length n m f) true),some (Row.mk [] true)]) (Nat.le_refl _)).new [some (Row.mk (D7 (List.replicate D.length (zeros 256))) true)];simpa using this) (by simp)
  rw [A8a];simp only [C6N];refine ⟨_,h',?_,F7 hD,g.length+2,rfl,by omega,g2⟩;generalize vwC D.length n m f=V at *;simp only [esc,esh,Nat.reduceAdd,Nat.reduceMul,Nat.reduceLT,l3,hC,eq_self,l0,mk];exact g1
 obtain ⟨v,g',e,ho⟩:=key (ro h) hv.ro;exact A7p e (by simpa [I8] using ho) eD
def A32 (b:List UInt8) (i:Nat):List UInt8:=b.set (i/8) (UInt8.ofNat ((b.getD (i/8) 0).toNat ||| zO i))
theorem B7P {b:List UInt8} {i:Nat}:(A32 b i).length=b.length:=by simp [A32]
theorem C14 {b:List UInt8} {i:Nat} {h:A4} (hb:b.length=256) (hi:i<2048):qM [.a (A5 b),.c (.i .i64 (i:Int)),.c (.b true)] h=some (.a (A5 (A32 b i)),h):=by
 have key:∀ g,∃ g',A0c 0 [.a (A5 b),.c (.i .i64 (i:Int)),.c (.b true)] g=some (.a (A5 (A32 b i)),g'):=by
  intro g;have hW:=fun h=>A8I (h:=h) hi
  have R0:i/8<b.length:=by omega
  have ad:=I7 (k:=.i64) (id:=g.length) (off:=0) (sz:=1) (j:=i/8) (n:=256) (by omega);rw [Nat.mul_one,Nat.zero_add] at ad;have l1:(A5 b)[i/8]?=some (.i .u8 b[i/8].toNat):=by rw [rM,List.getElem?_eq_getElem R0];rfl
  have a1:=D53 (a:=b[i/8].toNat) (b:=zO i) b[i/8].toNat_lt (B4y i);have hor:b[i/8].toNat ||| zO i<2 ^ 8:=Nat.or_lt_two_pow b[i/8].toNat_lt (B4y i)
  have es:(A5 b).set (i/8) (.i .u8 ((b[i/8].toNat ||| zO i:Nat):Int))=A5 (A32 b i):=by
   have ew:(b[i/8].toNat ||| zO i)=(UInt8.ofNat (b[i/8].toNat ||| zO i)).toNat:=by rw [UInt8.toNat_ofNat',Nat.mod_eq_of_lt hor]
   unfold A32;rw [List.getD_eq_getElem?_getD,List.getElem?_eq_getElem R0,Option.getD_some,<-iU,<-ew]
  have hB:(A5 b).length=256:=by rw [A6,hb]
  have hC:(A5 (A32 b i)).length=256:=by rw [A6,B7P,hb]
  have s1:=C83 (cs:=A5 b) (off:=i/8) (x:=.i .u8 ((b[i/8].toNat ||| zO i:Nat):Int)) (by omega);rw [es] at s1;have hz:(List.replicate 256 (Cell.i .u8 0)).length=256:=List.length_replicate;rw [B7X];generalize List.replicate 256 (Cell.i .u8 0)=z at *;generalize A5 b=y at *;generalize A5 (A32 b i)=y2 at *;exact ⟨_,by simp only [esc,Y7,K3,fB,O4,Q1,H7,A5S,A8A,gG,A6f,kM,hW,ad,l1,a1,s1,B6h,hB,hC,hz]<;>rfl⟩
 obtain ⟨g',e⟩:=key (ro h);exact B3t e (by simp [Val.flat])
def mZ (l:List Nat):List UInt8:=l.foldl A32 (zeros 256)
theorem eE {l:List Nat}:∀ {b:List UInt8},(l.foldl A32 b).length=b.length:=by
 induction l with
 | nil=>intro b;rfl
 | cons x l ih=>intro b;rw [List.foldl_cons,ih,B7P]
theorem C0e {g:A4} {l:List Nat} {q p:Nat} {v:Val} {nv:Nat} (hl:∀ x∈l,x<2048) (h60:l.length<=2048) (hv:Has g v 1 nv (encI (l.map fun x:Nat=>(x:Int)))) (hp:p=g.length):∀ (e i m:Nat),i+e=l.length->e<m ->
  vG q m (.c (.p p 0)) (.c (.p (p+1) 0)) v (.c (.i .i64 (l.length:Int))) (.c (.i .i64 (i:Int))) (g++[some (Row.mk (A5 (zeros 256)) true),some (Row.mk (A5 ((l.take i).foldl A32 (zeros 256))) true)]) =
   some (.a (A5 (mZ l)),g++[some (Row.mk (A5 (mZ l)) true),some (Row.mk (A5 (mZ l)) true)])
 | e,i,0,_,hm=>by omega
 | 0,i,m+1,hi,hm=>by
  have e0:i=l.length:=by omega
  subst e0 hp;have c0:¬ (l.length:Int)<(l.length:Nat):=by omega
  have hB:(A5 (mZ l)).length=256:=by rw [A6];unfold mZ;rw [eE];exact zeros_length
  have hz:(A5 (zeros 256)).length=256:=by rw [A6];exact zeros_length
  rw [A4I,List.take_length];have em:l.foldl A32 (zeros 256)=mZ l:=rfl;rw [em];generalize A5 (zeros 256)=z at *;generalize A5 (mZ l)=y at *;simp only [esc,esh,Nat.reduceAdd,Nat.reduceMul,Nat.reduceLT,c0,hB,hz]
 | e+1,i,m+1,hi,hm=>by
  have S3:i<l.length:=by omega
  have ih:=C0e (q:=q) hl h60 hv hp e (i+1) m (by omega) (by omega);subst hp;have c0:(i:Int)<(l.length:Nat):=by omega
  have hnv:l.length=nv:=by
   have:=hv.length;rw [B9,List.length_map] at this;omega
  obtain ⟨id,off,rfl,hid,h1,_⟩:=(hv.more [some (Row.mk (A5 (zeros 256)) true),some (Row.mk (A5 ((l.take i).foldl A32 (zeros 256))) true)]).sl (by omega);have hx:=h1 i (.i .i64 (l[i]:Int)) (by rw [H9,List.getElem?_map,List.getElem?_eq_getElem S3];rfl);have ea:C4 1 (.c (.sl id off nv 1)) (.c (.i .i64 (i:Int)))=some (.c (.p id (off+i))):=by rw [E5 (by omega)];simp
  have hfl:((l.take i).foldl A32 (zeros 256)).length=256:=by rw [eE];exact zeros_length
  have hW:=fun h=>C14 (h:=h) hfl (hl _ (List.getElem_mem S3))
  have et:A32 ((l.take i).foldl A32 (zeros 256)) l[i]=(l.take (i+1)).foldl A32 (zeros 256):=by
   rw [List.take_succ_eq_append_getElem S3,List.foldl_append];rfl
  rw [et] at hW;have hB:(A5 ((l.take i).foldl A32 (zeros 256))).length=256:=by rw [A6,hfl]
  have hB2:(A5 ((l.take (i+1)).foldl A32 (zeros 256))).length=256:=by rw [A6,eE];exact zeros_length
  rw [A4I];generalize A5 (zeros 256)=z at *;generalize A5 ((l.take i).foldl A32 (zeros 256))=y at *;generalize A5 ((l.take (i+1)).foldl A32 (zeros 256))=y2 at *;simp only [esc,esh,Nat.reduceAdd,Nat.reduceMul,Nat.reduceLT,c0,ea,hx,hW,hB,hB2,E8 (show i+1<9223372036854775808 by omega)];exact ih
theorem B06 {v:Val} {nv:Nat} {l:List Nat} {h:A4} (hl:∀ x∈l,x<2048) (h60:l.length<=2048) (hv:Has h v 1 nv (encI (l.map fun x:Nat=>(x:Int)))):dT [v] h=some (.a (A5 (mZ l)),h):=by
 have key:∀ g,Has g v 1 nv (encI (l.map fun x:Nat=>(x:Int)))->∃ g',A0b (l.length+1) [v] g=some (.a (A5 (mZ l)),g'):=by
  intro g hv;have hnv:l.length=nv:=by
   have:=hv.length;rw [B9,List.length_map] at this;omega
  have hL:=C0e (q:=l.length+1) hl h60 hv rfl l.length 0 (l.length+1) (by omega) (by omega);have hlen:=hv.len;rw [<-hnv] at hlen;rw [B7W,F5];rw [List.take_zero,List.foldl_nil] at hL;generalize A5 (zeros 256)=z at *;exact ⟨_,by simp only [esc,hlen];exact hL⟩
 obtain ⟨g',e⟩:=key (ro h) hv.ro;exact B3s e (by simp [Val.flat])
theorem D2z {b:List UInt8} {n:Nat} {v:Int} (hn:n<128):eZ b ((2*n:Nat):Int) 2 v=I1 b (2*n) (D9 2 v):=by
 unfold eZ;rw [if_pos ⟨by omega,Q5.2 (by omega)⟩,Int.toNat_natCast];rfl
theorem B7R {a:Int}:IntKind.wrap .u8 a=a%256:=by
 simp only [IntKind.wrap,IntKind.bits,IntKind.signed,Bool.false_and];rfl
def D2l (k s:Int):Int:=if k=1 then (if 0<(if 34304<s then 34304 else s) then (if 34304<s then 34304 else s) else 0) else 0
def D5w (D:Dev) (n:Int) (d:List Int) (p:Nat):UInt8:=if D3U D n d (p/256)=0 then 0 else (blk D (D3U D n d (p/256))).getD (p%256) 0
def D51 (k s off cnt:Int):Nat:=if 0<=off/\off<D2l k s/\1<=cnt then (min cnt (D2l k s-off)).toNat else 0
def D58 (D:Dev) (n k s:Int) (d:List Int) (off cnt:Int):List UInt8:=(List.range' off.toNat (D51 k s off cnt)).map (D5w D n d)
def B8w (D:Dev) (n i:Int):Bool:=aJ D.length n i&&rH (B0B D n i)
def lnV (D:Dev) (n i:Int):Int:=bif B8w D n i then B2z (B0B D n i) else 0
def szV (D:Dev) (n i:Int):Int:=bif B8w D n i then B2B (B0B D n i) else 0
def paV (D:Dev) (n i:Int):Int:=bif B8w D n i then B2A (B0B D n i) else 0
def drV (D:Dev) (n i:Int):List Int:=bif B8w D n i then W1 (B0B D n i) else zI 7
theorem tV {D:Dev} {n i:Int}:(drV D n i).length=7:=by
 unfold drV;cases B8w D n i with
 | false=>exact K9
 | true=>exact H1
theorem C8G {D:Dev} {n i:Int}:kdV D n i=bif B8w D n i then B0A (B0B D n i) else 0:=by
 unfold kdV B8w;cases aJ D.length n i<;>rfl
theorem B4n (D:Dev) (n i:Int):C0F D n i=G9 (kdV D n i) (lnV D n i) (szV D n i) (paV D n i) (drV D n i):=by
 rw [C8G];unfold C0F lnV szV paV drV B8w;cases aJ D.length n i with
 | false=>rfl
 | true =>
  rw [Bool.true_and,cond_true];unfold rF;cases rH (B0B D n i)<;>rfl
theorem D4T {D:Dev} {n i:Int} (h:kdV D n i≠0):T3 D.length n=true/\1<=i/\i<=n:=by
 rw [<-A9k];unfold kdV at h;cases hi:aJ D.length n i with
 | false=>rw [hi] at h;exact absurd rfl h
 | true=>rfl
structure Nd where
 ino:Int
 kind:Int
 links:Int
 parent:Int
 size:Int
 data:List UInt8
 names:List Ent
 deriving DecidableEq
def D6S (D:Dev) (n:Int) (e:Ent):Bool:=decide (kdV D n e.2=1)||decide (kdV D n e.2=2)
def D6W (D:Dev) (n i:Int):List Ent:=(D5Y D n (kdV D n i) (drV D n i)).filter (D6S D n)
def D6m (D:Dev) (n i:Int):List UInt8:=D58 D n (kdV D n i) (szV D n i) (drV D n i) 0 34304
def D35 (D:Dev) (n i:Int):Nd:=⟨i,kdV D n i,lnV D n i,paV D n i,D2l (kdV D n i) (szV D n i),D6m D n i,D6W D n i⟩
def C6S (r:List Int) (i:Int):List Int:=if i∈r then r else r++[i]
def C46 (r:List Int) (es:List Ent):List Int:=es.foldl (fun r e=>C6S r e.2) r
theorem D2h {r:List Int} {i a:Int}:a∈C6S r i↔a∈r\/a=i:=by
 unfold C6S;split
 ·constructor
  ·exact .inl
  ·rintro (h | rfl)<;>assumption
 ·simp
theorem D2i (r:List Int) (i:Int):r <+: C6S r i:=by
 unfold C6S;split
 ·exact List.prefix_refl _
 ·exact List.prefix_append _ _
theorem C8b {r:List Int} {i:Int} (h:r.Nodup):(C6S r i).Nodup:=by
 unfold C6S;split
 ·exact h
 ·rename_i hn;rw [List.nodup_append];exact ⟨h,by simp,fun a ha b hb e=>by simp at hb;subst hb;subst e;exact hn ha⟩
theorem B6F {r:List Int} {e:Ent} {es:List Ent}:C46 r (e::es)=C46 (C6S r e.2) es:=rfl
theorem B4Y {a:Int}:∀ {es:List Ent} {r:List Int},a∈C46 r es↔a∈r\/∃ e∈es,e.2=a
 | [],r=>by simp [C46]
 | e::es,r=>by
  rw [B6F,B4Y,D2h];constructor
  ·rintro ((h | rfl) | ⟨x,hx,rfl⟩)
   ·exact .inl h
   ·exact .inr ⟨e,by simp,rfl⟩
   ·exact .inr ⟨x,by simp [hx],rfl⟩
  ·rintro (h | ⟨x,hx,rfl⟩)
   ·exact .inl (.inl h)
   ·rw [List.mem_cons] at hx;rcases hx with rfl | hx
    ·exact .inl (.inr rfl)
    ·exact .inr ⟨x,hx,rfl⟩
theorem C6T:∀ (es:List Ent) (r:List Int),r <+: C46 r es
 | [],r=>List.prefix_refl _
 | e::es,r=>by rw [B6F];exact (D2i r e.2).trans (C6T es _)
theorem C1m:∀ {es:List Ent} {r:List Int},r.Nodup->(C46 r es).Nodup
 | [],r,h=>h
 | e::es,r,h=>by rw [B6F];exact C1m (C8b h)
structure RowI (N:Int->List Ent) (i:Nat) (R:List Int):Prop where
 nd:R.Nodup
 hd:1∈R
 rg:∀ a∈R,1<=a/\a<=128
 dn:∀ (j:Nat) (a:Int),j<i->(1::R)[j]?=some a->∀ e∈N a,e.2∈R
 by_:∀ a∈R,a≠1->∃ b∈R,∃ e∈N b,e.2=a
theorem RowI.one {N:Int->List Ent}:RowI N 0 [1] :=
 ⟨by simp,by simp,fun a ha=>by simp at ha;omega,fun j a hj=>by omega,fun a ha hn=>by simp at ha;exact absurd ha hn⟩
theorem RowI.step {N:Int->List Ent} (hN:∀ a,∀ e∈N a,1<=e.2/\e.2<=128) {i:Nat} {R:List Int} (h:RowI N i R) (hi:i<(1::R).length):RowI N (i+1) (C46 R (N ((1::R)[i]))):=by
 have hm:(1::R)[i]∈R:=by
  have:=List.getElem_mem hi;rw [List.mem_cons] at this;rcases this with e | e
  ·rw [e];exact h.hd
  ·exact e
 have hp:=C6T (N ((1::R)[i])) R;refine ⟨C1m h.nd,hp.subset h.hd,fun a ha=>?_,fun j a hj hja e he=>?_,fun a ha hn=>?_⟩
 ·rcases B4Y.1 ha with ha | ⟨e,he,rfl⟩
  ·exact h.rg a ha
  ·exact hN _ e he
 ·by_cases hji:j=i
  ·subst hji;have:a=(1::R)[j]:=by
    have hpre:(1::R) <+: (1::C46 R (N ((1::R)[j]))):=List.cons_prefix_cons.2 ⟨rfl,hp⟩;have h2:=List.prefix_iff_getElem?.1 hpre j hi;rw [h2] at hja;exact (Option.some.inj hja).symm
   subst this;exact B4Y.2 (.inr ⟨e,he,rfl⟩)
  ·have D6B:(1::R)[j]?=some a:=by
    have hpre:(1::R) <+: (1::C46 R (N ((1::R)[i]))):=List.cons_prefix_cons.2 ⟨rfl,hp⟩;have h2:=List.prefix_iff_getElem?.1 hpre j (by omega);rw [List.getElem?_eq_getElem (by omega),<-hja,h2]
   exact hp.subset (h.dn j a (by omega) D6B e he)
 ·rcases B4Y.1 ha with ha | ⟨e,he,rfl⟩
  ·obtain ⟨b,hb,e,he,h3⟩:=h.by_ a ha hn;exact ⟨b,hp.subset hb,e,he,h3⟩
  ·exact ⟨_,hp.subset hm,e,he,rfl⟩
theorem C45 {R:List Int} (hn:R.Nodup) (hr:∀ a∈R,1<=a/\a<=128):R.length<=128:=by
 have:(R.map Int.toNat).Nodup:=by
  rw [List.Nodup,List.pairwise_map];refine hn.imp_of_mem fun {a b} ha hb hab e=>?_
  have:=hr a ha;have:=hr b hb;omega
 have hs:∀ x∈R.map Int.toNat,x∈List.range' 1 128:=by
  intro x hx;rw [List.mem_map] at hx;obtain ⟨a,ha,rfl⟩:=hx;have:=hr a ha;rw [List.mem_range'_1];omega
 have:=List.Nodup.length_le_of_subset this hs;simpa using this
def D1l (t:List Nd) (i:Int):Option Nd:=t.find? fun x=>decide (x.ino=i)
def A1L (t:List Nd) (a:Int):List Ent:=match D1l t a with
 | some x=>if x.kind=2 then x.names else []
 | none=>[]
def C63 (t:List Nd):Nat:=(t.map fun x=>x.names.length).sum
abbrev B2g:=List (Int × List UInt8) × sG
def C5f (q:List UInt8) (s:B2g) (e:Ent):B2g:=(if e.2∈s.1.map (·.1) then s.1 else s.1++[(e.2,q++47::e.1)],s.2++[q++47::e.1])
def D2x (q:List UInt8) (s:B2g) (es:List Ent):B2g:=es.foldl (C5f q) s
theorem D0n {q:List UInt8} {s:B2g} {e:Ent} {es:List Ent}:D2x q s (e::es)=D2x q (C5f q s e) es:=rfl
theorem D2w {q:List UInt8} {s:B2g} {e:Ent}:s.1 <+: (C5f q s e).1:=by
 unfold C5f;dsimp only;split
 ·exact List.prefix_refl _
 ·exact List.prefix_append _ _
structure WayI (c:Nat) (N:Int->List Ent) (i:Nat) (s:B2g):Prop where
 nd:(s.1.map (·.1)).Nodup
 len:s.1.length<=1+s.2.length
 out:s.2.length=((s.1.take i).map fun p=>(N p.1).length).sum
 txt:∀ (j:Nat) (p:Int × List UInt8),s.1[j]?=some p->p.2.length<=j*(c+1)
 hi:i<=s.1.length
theorem WayI.one {c:Nat} {N:Int->List Ent}:WayI c N 0 ([(1,[])],[]) :=
 ⟨by simp,by simp,rfl,fun j p h=>by
  cases j with
  | zero=>simp at h;subst h;simp
  | succ j=>simp at h,by simp⟩
structure WayJ (c i:Nat) (q:List UInt8) (s:B2g) (k:Nat) (s':B2g):Prop where
 nd:(s'.1.map (·.1)).Nodup
 pre:s.1 <+: s'.1
 len:s'.1.length<=1+s'.2.length
 out:s'.2.length=s.2.length+k
 txt:∀ (j:Nat) (p:Int × List UInt8),s'.1[j]?=some p->p.2.length<=j*(c+1)
theorem WayJ.step {c i:Nat} {q:List UInt8} {s s':B2g} {k:Nat} {e:Ent} (h:WayJ c i q s k s') (hi:i<s.1.length) (hq:q.length<=i*(c+1)) (he:e.1.length<=c):WayJ c i q s (k+1) (C5f q s' e):=by
 have hpl:=h.pre.length_le;refine ⟨?_,h.pre.trans D2w,?_,?_,fun j p hj=>?_⟩
 ·unfold C5f;dsimp only;split
  ·exact h.nd
  ·rename_i hn;rw [List.map_append,List.nodup_append];exact ⟨h.nd,by simp,fun a ha b hb e=>by simp at hb;subst hb;subst e;exact hn ha⟩
 ·have:=h.len;unfold C5f;dsimp only;split<;>simp<;>omega
 ·have:=h.out;unfold C5f;simp;omega
 ·unfold C5f at hj;dsimp only at hj;split at hj
  ·exact h.txt j p hj
  ·by_cases hl:j<s'.1.length
   ·rw [List.getElem?_append_left hl] at hj;exact h.txt j p hj
   ·rw [List.getElem?_append_right (by omega)] at hj;cases hjj:j-s'.1.length with
    | zero =>
     rw [hjj] at hj;simp at hj;subst hj;have h1:i*(c+1)+(c+1)<=j*(c+1):=by
      rw [<-Nat.succ_mul];exact Nat.mul_le_mul_right _ (by omega)
     simp;omega
    | succ y=>rw [hjj] at hj;simp at hj
theorem WayJ.all {c i:Nat} {q:List UInt8} {s:B2g} (hi:i<s.1.length) (hq:q.length<=i*(c+1)):∀ (es:List Ent) (k:Nat) (s':B2g),(∀ e∈es,e.1.length<=c)->WayJ c i q s k s'->WayJ c i q s (k+es.length) (D2x q s' es)
 | [],k,s',_,h=>h
 | e::es,k,s',he,h=>by
  rw [D0n,List.length_cons,show k+(es.length+1)=k+1+es.length by omega];exact WayJ.all hi hq es (k+1) _ (fun x hx=>he x (by simp [hx])) (h.step hi hq (he e (by simp)))
theorem WayI.begin {c:Nat} {N:Int->List Ent} {i:Nat} {s:B2g} (h:WayI c N i s) (q:List UInt8):WayJ c i q s 0 s :=
 ⟨h.nd,List.prefix_refl _,h.len,by omega,h.txt⟩
theorem D2r {α:Type} {l m:List α} {i:Nat} (h:l <+: m) (hi:i<=l.length):m.take i=l.take i:=by
 obtain ⟨t,rfl⟩:=h;rw [List.take_append_of_le_length hi]
theorem WayI.step {c:Nat} {N:Int->List Ent} (hN:∀ a,∀ e∈N a,e.1.length<=c) {i:Nat} {s:B2g} (h:WayI c N i s) (hi:i<s.1.length):WayI c N (i+1) (D2x (s.1[i]).2 s (N (s.1[i]).1)):=by
 have hq:(s.1[i]).2.length<=i*(c+1):=h.txt i _ (List.getElem?_eq_getElem hi);have J:=WayJ.all hi hq (N (s.1[i]).1) 0 s (hN _) (h.begin _);have hpl:=J.pre.length_le;refine ⟨J.nd,J.len,?_,J.txt,by omega⟩;rw [J.out,h.out,List.take_add_one];have h2:(D2x (s.1[i]).2 s (N (s.1[i]).1)).1[i]?=some s.1[i]:=List.prefix_iff_getElem?.1 J.pre i hi;rw [h2,D2r J.pre (by omega),List.map_append,List.sum_append,Option.toList_some,List.map_cons,List.map_nil,List.sum_cons,List.sum_nil,Nat.zero_add,Nat.add_zero]
theorem C5Z {K:List Int} (hK:K.Nodup):∀ t:List Nd,(K.map fun a=>(A1L t a).length).sum<=C63 t
 | []=>by
  have:∀ K:List Int,(K.map fun a=>(A1L [] a).length).sum=0:=by
   intro K
   induction K with
   | nil=>rfl
   | cons a K ih=>rw [List.map_cons,List.sum_cons,ih];rfl
  rw [this];exact Nat.zero_le _
 | x::t=>by
  have key:∀ K:List Int,K.Nodup->(K.map fun a=>(A1L (x::t) a).length).sum<=(if x.ino∈K then x.names.length else 0)+(K.map fun a=>(A1L t a).length).sum:=by
   intro K hK
   induction K with
   | nil=>simp
   | cons a K ih =>
    have ih:=ih hK.of_cons;rw [List.map_cons,List.sum_cons,List.map_cons,List.sum_cons];by_cases e:x.ino=a
    ·have hn:x.ino ∉ K:=by rw [e];exact (List.nodup_cons.1 hK).1
     rw [if_neg hn] at ih;rw [if_pos (by simp [e])];have h1:(A1L (x::t) a).length<=x.names.length:=by
      unfold A1L D1l;rw [List.find?_cons_of_pos (by simpa using e)];dsimp only;split<;>simp
     omega
    ·have h1:A1L (x::t) a=A1L t a:=by
      unfold A1L D1l;rw [List.find?_cons_of_neg (by simpa using e)]
     rw [h1];have h2:(x.ino∈a::K)↔x.ino∈K:=by simp [e]
     simp only [h2];omega
  have h1:=key K hK;have h2:=C5Z hK t;have h3:C63 (x::t)=x.names.length+C63 t:=by simp [C63]
  rw [h3];split at h1<;>omega
theorem WayI.tot {c:Nat} {t:List Nd} {i:Nat} {s:B2g} (h:WayI c (A1L t) i s):s.2.length<=C63 t/\s.1.length<=C63 t+1:=by
 have h1:=h.out;have h2:(((s.1.take i).map (·.1)).map fun a=>(A1L t a).length).sum<=C63 t:=by
  refine C5Z ?_ t;rw [List.map_take];exact h.nd.sublist (List.take_sublist _ _)
 rw [List.map_map] at h2;have h3:=h.len;have h4:s.2.length<=C63 t:=by rw [h1];exact h2
 omega
theorem A9T {l:List Ent}:(O3 l).length=l.length*2:=by
 induction l with
 | nil=>rfl
 | cons x l ih=>simp only [O3,List.map_cons,List.flatten_cons,List.length_append,List.length_cons,eW,List.length_nil] at ih ⊢;omega
theorem C7s {l:List Ent}:I9 (O3 l)=true:=by
 induction l with
 | nil=>rfl
 | cons x l ih =>
  have:O3 (x::l)=eW (some x)++O3 l:=rfl;rw [this,rQ,ih];rfl
theorem C9r {l:List Ent}:noX (O3 l)=true:=by
 induction l with
 | nil=>rfl
 | cons x l ih =>
  have:O3 (x::l)=[.s x.1,.i .i64 x.2]++O3 l:=rfl;rw [this];simp [noX,Cell.isX] at ih ⊢;exact ih
def ndC (i k l p s:Int) (x y:Cell):List Cell:=[.i .i64 i,.i .i64 k,.i .i64 l,.i .i64 p,.i .i64 s,x,y]
def IsNd (h:A4) (cs:List Cell) (nd:Nd):Prop:=∃ x y,cs=ndC nd.ino nd.kind nd.links nd.parent nd.size x y/\Has h (.c x) 1 nd.data.length (A5 nd.data)/\Has h (.c y) 2 nd.names.length (O3 nd.names)
def IsNds (h:A4):List Cell->List Nd->Prop
 | cs,[]=>cs=[]
 | cs,x::t=>∃ c1 c2,cs=c1++c2/\IsNd h c1 x/\IsNds h c2 t
def IsTree (h:A4) (v:Val) (t:List Nd):Prop:=∃ cs,Has h v 7 t.length cs/\IsNds h cs t
theorem C59 {h:A4} {x:Cell} {sz n:Nat} {cs:List Cell} (hv:Has h (.c x) sz n cs):x.isX=false:=by
 rcases hv with ⟨e,_⟩ | ⟨id,off,r,e,_⟩<;>cases e<;>rfl
theorem IsNd.length {h:A4} {cs:List Cell} {x:Nd} (hx:IsNd h cs x):cs.length=7:=by
 obtain ⟨a,b,rfl,_⟩:=hx;rfl
theorem IsNd.noX {h:A4} {cs:List Cell} {x:Nd} (hx:IsNd h cs x):noX cs=true:=by
 obtain ⟨a,b,rfl,h1,h2⟩:=hx;simp only [Esc.noX,ndC,List.all_cons,List.all_nil,C59 h1,C59 h2];rfl
theorem IsNds.noX {h:A4}:∀ {t:List Nd} {cs:List Cell},IsNds h cs t->noX cs=true/\cs.length=t.length*7
 | [],_,hx=>by
  have hx:_=[]:=hx;subst hx;exact ⟨rfl,rfl⟩
 | x::t,_,⟨c1,c2,e,h1,h2⟩=>by
  subst e;have h3:=h1.noX;have h4:=IsNds.noX h2;refine ⟨?_,by rw [List.length_append,h1.length,h4.2,List.length_cons];omega⟩;have h5:=h4.1;unfold Esc.noX at h3 h5 ⊢;rw [List.all_append,h3,h5];rfl
theorem IsNd.ro {h:A4} {cs:List Cell} {x:Nd} (hx:IsNd h cs x):IsNd (ro h) cs x:=by
 obtain ⟨a,b,e,h1,h2⟩:=hx;exact ⟨a,b,e,h1.ro,h2.ro⟩
theorem IsNd.since {g h:A4} {cs:List Cell} {x:Nd} (hx:IsNd g cs x) (h1:Low g.length g h):IsNd h cs x:=by
 obtain ⟨a,b,e,h2,h3⟩:=hx;exact ⟨a,b,e,h2.since h1,h3.since h1⟩
theorem IsNds.ro {h:A4}:∀ {t:List Nd} {cs:List Cell},IsNds h cs t->IsNds (Esc.ro h) cs t
 | [],_,hx=>hx
 | x::t,_,⟨c1,c2,e,h1,h2⟩=>⟨c1,c2,e,h1.ro,IsNds.ro h2⟩
theorem IsNds.since {g h:A4} (h1:Low g.length g h):∀ {t:List Nd} {cs:List Cell},IsNds g cs t->IsNds h cs t
 | [],_,hx=>hx
 | x::t,_,⟨c1,c2,e,h2,h3⟩=>⟨c1,c2,e,h2.since h1,IsNds.since h1 h3⟩
theorem IsTree.ro {h:A4} {v:Val} {t:List Nd} (ht:IsTree h v t):IsTree (Esc.ro h) v t:=by
 obtain ⟨cs,h1,h2⟩:=ht;exact ⟨cs,h1.ro,h2.ro⟩
theorem IsTree.since {g h:A4} {v:Val} {t:List Nd} (ht:IsTree g v t) (h1:Low g.length g h):IsTree h v t:=by
 obtain ⟨cs,h2,h3⟩:=ht;exact ⟨cs,h2.since h1,h3.since h1⟩
theorem IsTree.more {g:A4} {v:Val} {t:List Nd} (ht:IsTree g v t) (l:A4):IsTree (g++l) v t:=ht.since ((Low.refl (Nat.le_refl _)).new l)
theorem IsTree.len {h:A4} {v:Val} {t:List Nd} (ht:IsTree h v t):O0 v=some (.c (.i .i64 t.length)):=by
 obtain ⟨cs,h1,_⟩:=ht;exact h1.len
theorem IsNds.at {h:A4}:∀ {t:List Nd} {cs:List Cell},IsNds h cs t->∀ {i:Nat} {x:Nd},t[i]?=some x->IsNd h ((cs.drop (i*7)).take 7) x
 | [],_,_,i,x,hx=>by simp at hx
 | y::t,_,⟨c1,c2,e,h1,h2⟩,0,x,hx=>by
  subst e;simp at hx;subst hx;rw [Nat.zero_mul,List.drop_zero,List.take_left' h1.length];exact h1
 | y::t,_,⟨c1,c2,e,h1,h2⟩,i+1,x,hx=>by
  subst e;rw [show (i+1)*7=7+i*7 by omega,<-List.drop_drop,List.drop_left' h1.length];exact IsNds.at h2 (by simpa using hx)
theorem IsTree.at {h:A4} {v:Val} {t:List Nd} (ht:IsTree h v t) {i:Nat} (hi:i<t.length) :
  ∃ a cs,C4 7 v (.c (.i .i64 (i:Int)))=some a/\A8 h 7 a=some (.a cs)/\IsNd h cs t[i]:=by
 obtain ⟨cs,h1,h2⟩:=ht;have hcs:=h2.noX;obtain ⟨id,off,rfl,hid,_,hB⟩:=h1.sl (by omega);refine ⟨.c (.p id (off+i*7)),_,E5 hi,hB (i*7) 7 (by rw [hcs.2];omega),h2.at (List.getElem?_eq_getElem hi)⟩
theorem C9s {h:A4} {y:Cell} {l:List Ent} (hy:Has h (.c y) 2 l.length (O3 l)) {i:Nat} (hi:i<l.length):∃ a,C4 2 (.c y) (.c (.i .i64 (i:Int)))=some a/\A8 h 2 a=some (.a (eW (some l[i]))):=by
 obtain ⟨id,off,e,hid,_,hB⟩:=hy.sl (by omega);cases e;refine ⟨.c (.p id (off+i*2)),E5 hi,?_⟩;rw [hB (i*2) 2 (by rw [A9T];omega),B33 l i hi]
theorem D5e {h:A4} {x:Ent}:B4 (h++[some (Row.mk [.s [],.i .i64 0] true)]) 2 (.c (.p h.length 0)) (.a (eW (some x)))=some (h++[some ⟨eW (some x),true⟩]):=by rw [H7];rfl
def HeldX (h:A4) (x:Cell) (cs:List Cell) (n sz r:Nat):Prop:=(n=0/\cs=[]/\x=.ns)\/∃ id,x=.sl id 0 n sz/\rd h id=some ⟨cs,true⟩/\cs.length=n*sz/\id≠r
theorem HeldX.keep {h h':A4} {x:Cell} {cs:List Cell} {n sz r:Nat} (hx:HeldX h x cs n sz r) (hk:∀ id m,x=.sl id 0 m sz->rd h' id=rd h id):HeldX h' x cs n sz r:=by
 rcases hx with hx | ⟨id,e,hr,hl,cK⟩
 ·exact .inl hx
 ·exact .inr ⟨id,e,by rw [hk id n e];exact hr,hl,cK⟩
theorem HeldX.lt {h:A4} {x:Cell} {cs:List Cell} {n sz r id m:Nat} (hx:HeldX h x cs n sz r) (e:x=.sl id 0 m sz):id<h.length:=by
 rcases hx with ⟨_,_,e2⟩ | ⟨bP,e2,hr,_,_⟩
 ·rw [e] at e2;cases e2
 ·rw [e] at e2;cases e2;exact E4 hr
theorem D5z {h:A4} {x:Cell} {cs0 cs ys:List Cell} {r off n sz:Nat} (hr:rd h r=some ⟨cs0,true⟩) (hx:cs0[off]?=some x) (hd:HeldX h x cs n sz r) (hl:n<=100000) (hy:ys.length=sz) (hsz:0<sz) :
  ∃ id h2 h3,A7 h (.c (.p r off))=some (.c x)/\W7 (h++[some ⟨ys,true⟩]) sz (.c x) (.c (.sl h.length 0 1 sz))=some (.c (.sl id 0 (n+1) sz),h2)/\D3 h2 (.c (.p r off)) (.c (.sl id 0 (n+1) sz))=some h3 /\
   rd h3 r=some ⟨cs0.set off (.sl id 0 (n+1) sz),true⟩/\h.length<id/\rd h3 id=some ⟨cs++ys,true⟩/\(cs++ys).length=(n+1)*sz/\(∀ j,j<h.length->j≠r->(∀ m,x≠.sl j 0 m sz)->rd h3 j=rd h j)/\h.length<h3.length:=by
 have hrl:=E4 hr;have l1:A7 h (.c (.p r off))=some (.c x):=C1 hr hx (by simp);have hof:off<cs0.length:=(List.getElem?_eq_some_iff.1 hx).1;have e1:(h++[some (Row.mk ys true)]).length=h.length+1:=by simp
 rcases hd with ⟨rfl,rfl,rfl⟩ | ⟨id,rfl,hi,xW,cK⟩
 ·have hA:=C32 (h:=h++[some ⟨ys,true⟩]) (jd:=h.length) (m:=1) (sz:=sz) (ys:=ys) (by simp) (by omega) hsz (by omega);rw [e1] at hA;have hr2:rd (h++[some (Row.mk ys true)]++[some (Row.mk ys true)]) r=some ⟨cs0,true⟩:=B6 (B6 hr);have s1:=G3 (x:=.sl (h.length+1) 0 1 sz) (off:=off) hr2 hof;refine ⟨h.length+1,_,_,l1,hA,s1,C8 (E4 hr2),by omega,?_,by simp [hy],fun j hj hjr _=>?_,by simp⟩
  ·rw [B7 (by omega)];have:=V6 (h:=h++[some (Row.mk ys true)]) (r:=⟨ys,true⟩);rw [e1] at this;exact this
  ·rw [B7 (Ne.symm hjr),E3 (by simp;omega),E3 hj]
 ·have S3:=E4 hi;have hA:=A8z (h:=h++[some ⟨ys,true⟩]) (id:=id) (jd:=h.length) (n:=n) (m:=1) (sz:=sz) (cs:=cs) (ys:=ys) (rw:=true) (B6 hi) xW (by simp) (by omega) rfl hsz (by omega);rw [e1] at hA;have hr2:rd ((h++[some (Row.mk ys true)]).set id none++[some (Row.mk (cs++ys) true)]) r=some ⟨cs0,true⟩:=by
   refine B6 ?_;rw [B7 cK];exact B6 hr
  have s1:=G3 (x:=.sl (h.length+1) 0 (n+1) sz) (off:=off) hr2 hof;refine ⟨h.length+1,_,_,l1,hA,s1,C8 (E4 hr2),by omega,?_,by simp [xW,hy,Nat.add_mul],fun j hj hjr hjx=>?_,by simp;omega⟩
  ·rw [B7 (by omega)];have:=V6 (h:=(h++[some (Row.mk ys true)]).set id none) (r:=⟨cs++ys,true⟩);rw [List.length_set,e1] at this;exact this
  ·have hji:j≠id:=fun e=>hjx n (by rw [e])
   rw [B7 (Ne.symm hjr),E3 (by simp;omega),B7 (Ne.symm hji),E3 hj]
structure NodeP (D:Dev) (n:Int) (V:List Cell) (z:Nd) (L:List Ent) (g:A4) (F:List Ent) (h:A4):Prop where
 low:Low g.length g h
 r0:rd h g.length=some ⟨V,true⟩
 r1:rd h (g.length+1)=some ⟨ndC 0 0 0 0 0 .ns .ns,true⟩
 r4:rd h (g.length+4)=some ⟨A5 z.data,true⟩
 r5:rd h (g.length+5)=some ⟨O3 L,true⟩
 r3:∃ x,rd h (g.length+3)=some ⟨ndC z.ino z.kind z.links z.parent z.size (.sl (g.length+4) 0 z.data.length 1) x,true⟩/\HeldX h x (O3 F) F.length 2 (g.length+3)/\∀ id m,x=.sl id 0 m 2->g.length+6<=id
theorem NodeP.more {D:Dev} {n:Int} {V:List Cell} {z:Nd} {L:List Ent} {g h:A4} {F:List Ent} (P:NodeP D n V z L g F h) (t:A4):NodeP D n V z L g F (h++t):=by
 obtain ⟨x,h1,h2,h3⟩:=P.r3;exact ⟨P.low.new _,B6 P.r0,B6 P.r1,B6 P.r4,B6 P.r5,x,B6 h1,h2.keep fun id m e=>E3 (h2.lt e),h3⟩
def NdF (P:Nat->Prop) (cs:List Cell):Prop:=∀ id off m sz,Cell.sl id off m sz∈cs->P id
theorem C58 {h h':A4} {x:Cell} {sz n:Nat} {cs:List Cell} (hv:Has h (.c x) sz n cs) (hk:∀ id off m s,x=.sl id off m s->rd h' id=rd h id):Has h' (.c x) sz n cs:=by
 rcases hv with hv | ⟨id,off,r,e,hr,h2⟩
 ·exact .inl hv
 ·cases e;exact .inr ⟨id,off,r,rfl,by rw [hk id off n sz rfl];exact hr,h2⟩
theorem IsNd.keep {h h':A4} {cs:List Cell} {x:Nd} {P:Nat->Prop} (hx:IsNd h cs x) (hf:NdF P cs) (hk:∀ id,P id->rd h' id=rd h id):IsNd h' cs x:=by
 obtain ⟨a,b,rfl,h1,h2⟩:=hx;exact ⟨a,b,rfl,C58 h1 fun id off m s e=>hk id (hf id off m s (by simp [ndC,e])),C58 h2 fun id off m s e=>hk id (hf id off m s (by simp [ndC,e]))⟩
def KeysI (es:P6) (R:List Int):Prop:=es.map (·.1)=R.map fun i=>Cell.i .i64 i
theorem KeysI.len {es:P6} {R:List Int} (hk:KeysI es R):es.length=R.length:=by
 have:=congrArg List.length hk;simpa using this
theorem KeysI.ok {es:P6} {R:List Int} (hk:KeysI es R) (a:Int):yL (some .i64) (.i .i64 a) es=true:=by
 unfold yL;rw [Bool.and_eq_true];refine ⟨by simp [oX],List.all_eq_true.2 fun e he=>?_⟩;have:e.1∈R.map fun i=>Cell.i .i64 i:=by rw [<-hk];exact List.mem_map.2 ⟨e,he,rfl⟩
 rw [List.mem_map] at this;obtain ⟨i,_,hi⟩:=this;rw [<-hi];simp [oX]
theorem KeysI.snoc {es:P6} {R:List Int} (hk:KeysI es R) (a:Int) (p:Part):KeysI (es++[(.i .i64 a,p)]) (R++[a]):=by
 unfold KeysI at *;rw [List.map_append,List.map_append,hk];rfl
theorem C8M {a:Int}:∀ {es:P6} {R:List Int} {i j:Nat} {p:Part},KeysI es R->R.Nodup->es[j]?=some (.i .i64 a,p)->mgo (.i .i64 a) es i=some (i+j,p)
 | [],_,_,_,_,_,_,h=>by simp at h
 | e::es,[],i,j,p,hk,_,_=>by simp [KeysI] at hk
 | e::es,r::R,i,j,p,hk,hn,h=>by
  have hk1:e.1=.i .i64 r:=(List.cons.inj hk).1;have hk2:KeysI es R:=(List.cons.inj hk).2;cases j with
  | zero =>
   simp at h;subst h;rw [mgo,if_pos rfl];simp
  | succ j =>
   have h':es[j]?=some (.i .i64 a,p):=by simpa using h
   have A1S:a∈R:=by
    have h3:(es.map (·.1))[j]?=some (.i .i64 a):=by rw [List.getElem?_map,h'];rfl
    rw [hk2,List.getElem?_map,Option.map_eq_some_iff] at h3;obtain ⟨r',hr',e'⟩:=h3;cases e';exact List.mem_of_getElem? hr'
   have cK:¬ e.1=.i .i64 a:=by
    rw [hk1];intro e';cases e';exact (List.nodup_cons.1 hn).1 A1S
   rw [mgo,if_neg cK,C8M (i:=i+1) hk2 (List.nodup_cons.1 hn).2 h'];simp;omega
theorem C9M {h:A4} {mid:Nat} {es:P6} {R:List Int} {a:Int} {z p:Part} {ok:Bool} {j:Nat} (hr:rd h mid=some (J3 es)) (hk:KeysI es R) (hn:R.Nodup) (hj:es[j]?=some (.i .i64 a,p)):oH h (some .i64) z ok (.c (.m mid)) (.c (.i .i64 a))=some (A1T ok p true):=by
 simp only [oH,B8C,C7H,hr,Option.bind_some,uB];rw [if_pos (hk.ok a)];unfold A7A;rw [C8M hk hn hj]
def D4l (b:Nat) (h:A4):Nat:=match rd h (b+5) with
 | some ⟨.sl L _ _ _::_,_⟩=>L
 | _=>0
def Pr (b:Nat) (h:A4) (id:Nat):Prop:=b+6<=id/\id<h.length/\id≠D4l b h
theorem B8P {b L n:Nat} {h:A4} (hr:rd h (b+5)=some ⟨[.sl L 0 n 1],true⟩):D4l b h=L:=by
 unfold D4l;rw [hr]
structure OfP (D:Dev) (n:Int) (V:List Cell) (g:A4) (R:List Int) (h:A4):Prop where
 low:Low g.length g h
 nd:R.Nodup
 r0:rd h g.length=some ⟨V,true⟩
 r3:rd h (g.length+3)=some ⟨[.m (g.length+2)],true⟩
 rw_:∃ L es,rd h (g.length+5)=some ⟨[.sl L 0 (R.length+1) 1],true⟩/\rd h L=some ⟨encI (1::R),true⟩/\g.length+4<=L/\L≠g.length+5 /\
  rd h (g.length+2)=some (J3 es)/\KeysI es R/\∀ (j:Nat) (e:Cell × Part),es[j]?=some e->∃ a cs,e=(.i .i64 a,.a cs)/\IsNd h cs (D35 D n a)/\NdF (Pr g.length h) cs
theorem OfP.since {D:Dev} {n:Int} {V:List Cell} {g h h':A4} {R:List Int} (P:OfP D n V g R h) (hl:Low h.length h h'):OfP D n V g R h':=by
 obtain ⟨L,es,h1,h2,h3,h4,h5,h6,h7⟩:=P.rw_;have R0:=hl.2.1;have c1:=B8P h1;have c2:=B8P (hl.rd h1);refine ⟨P.low.trans ⟨by have:=P.low.2.1;omega,R0,fun id hid=>hl.2.2 id (by have:=P.low.2.1;omega)⟩,P.nd,hl.rd P.r0,hl.rd P.r3,L,es,hl.rd h1,hl.rd h2,h3,h4,hl.rd h5,h6,fun j e he=>?_⟩;obtain ⟨a,cs,e1,e2,e3⟩:=h7 j e he;exact ⟨a,cs,e1,e2.keep e3 fun id hid=>hl.2.2 id hid.2.1,fun id off m sz hm=>by have:=e3 id off m sz hm;unfold Pr at *;omega⟩
theorem OfP.more {D:Dev} {n:Int} {V:List Cell} {g h:A4} {R:List Int} (P:OfP D n V g R h) (t:A4):OfP D n V g R (h++t):=P.since ((Low.refl (Nat.le_refl _)).new t)
theorem OfP.pr {D:Dev} {n:Int} {V:List Cell} {g h h':A4} {R:List Int} (P:OfP D n V g R h) (hl:Low h.length h h') {id:Nat} (hp:Pr g.length h id):Pr g.length h' id/\rd h' id=rd h id:=by
 obtain ⟨L,es,h1,_⟩:=P.rw_;have c1:=B8P h1;have c2:=B8P (hl.rd h1);have R0:=hl.2.1;unfold Pr at *;exact ⟨by omega,hl.2.2 id hp.2.1⟩
theorem OfP.look {D:Dev} {n:Int} {V:List Cell} {g h:A4} {R:List Int} (P:OfP D n V g R h) {a:Int} (ha:a∈R):∃ cs,IsNd h cs (D35 D n a)/\NdF (Pr g.length h) cs/\∀ z ok,oH h (some .i64) z ok (.c (.m (g.length+2))) (.c (.i .i64 a))=some (A1T ok (.a cs) true):=by
 obtain ⟨L,es,h1,h2,h3,h4,h5,h6,h7⟩:=P.rw_;obtain ⟨j,hj⟩:=List.mem_iff_getElem?.1 ha;have hlen:=h6.len;have hjl:j<es.length:=by rw [hlen];exact (List.getElem?_eq_some_iff.1 hj).1
 obtain ⟨b,cs,e1,e2,e3⟩:=h7 j es[j] (List.getElem?_eq_getElem hjl);have hb:b=a:=by
  have h8:(es.map (·.1))[j]?=some (.i .i64 b):=by rw [List.getElem?_map,List.getElem?_eq_getElem hjl,e1];rfl
  rw [h6,List.getElem?_map,hj] at h8;simpa using h8.symm
 subst hb;exact ⟨cs,e2,e3,fun z ok=>C9M h5 h6 P.nd (by rw [List.getElem?_eq_getElem hjl,e1])⟩
theorem IsNds.snoc {h:A4} {cs:List Cell} {x:Nd} (hx:IsNd h cs x):∀ {t:List Nd} {C:List Cell},IsNds h C t->IsNds h (C++cs) (t++[x])
 | [],C,hC=>by
  have hC:C=[]:=hC;subst hC;exact ⟨cs,[],by simp,hx,rfl⟩
 | y::t,C,⟨c1,c2,e,h1,h2⟩=>by
  subst e;exact ⟨c1,c2++cs,by simp,h1,IsNds.snoc hx h2⟩
def nmC:Cell->Option Nat
 | .sl id _ _ _=>some id
 | .m id=>some id
 | _=>none
def Nam (h:A4) (r id:Nat):Prop:=∃ R x,rd h r=some R/\x∈R.cells/\nmC x=some id
structure Fr (r:Nat) (h h':A4):Prop where
 size:h.length<=h'.length
 keep:∀ id,id<h.length->id≠r->¬ Nam h r id->rd h' id=rd h id
 nam:∀ id,Nam h' r id->Nam h r id\/h.length<=id
theorem Fr.refl (r:Nat) (h:A4):Fr r h h:=⟨Nat.le_refl _,fun _ _ _ _=>rfl,fun _ hn=>.inl hn⟩
theorem Fr.trans {r:Nat} {h h' h'':A4} (a:Fr r h h') (b:Fr r h' h''):Fr r h h'':=by
 refine ⟨Nat.le_trans a.size b.size,fun id hid hr hn=>?_,fun id hn=>?_⟩
 ·rw [b.keep id (by have:=a.size;omega) hr fun hm=>?_,a.keep id hid hr hn];rcases a.nam id hm with h1 | h1
  ·exact hn h1
  ·omega
 ·rcases b.nam id hn with h1 | h1
  ·exact a.nam id h1
  ·exact .inr (by have:=a.size;omega)
theorem Nam.same {h h':A4} {r id:Nat} (e:rd h' r=rd h r):Nam h' r id↔Nam h r id:=by unfold Nam;rw [e]
theorem Fr.low {r:Nat} {h h':A4} (hl:Low h.length h h') (hr:r<h.length):Fr r h h' :=
 ⟨hl.2.1,fun id hid _ _=>hl.2.2 id hid,fun id hn=>.inl ((Nam.same (hl.2.2 r hr)).1 hn)⟩
def Loc (h:A4) (r id:Nat):Prop:=id<h.length/\id≠r/\¬ Nam h r id
theorem Fr.loc {r id:Nat} {h h':A4} (a:Fr r h h') (hl:Loc h r id):Loc h' r id/\rd h' id=rd h id:=by
 refine ⟨⟨Nat.lt_of_lt_of_le hl.1 a.size,hl.2.1,fun hn=>?_⟩,a.keep id hl.1 hl.2.1 hl.2.2⟩;rcases a.nam id hn with h1 | h1
 ·exact hl.2.2 h1
 ·have:=hl.1;omega
def Apt (cs:List Cell) (r:Nat):Prop:=(∀ (i j a:Nat) (x y:Cell),cs[i]?=some x->cs[j]?=some y->nmC x=some a->nmC y=some a->i=j)/\∀ x∈cs,nmC x≠some r
theorem Apt.set {cs:List Cell} {r:Nat} (ha:Apt cs r) (off:Nat) {x:Cell} (hx:∀ id,nmC x=some id->id≠r/\∀ (j:Nat) y,j≠off->cs[j]?=some y->nmC y≠some id):Apt (cs.set off x) r:=by
 have look:∀ (j:Nat) (y:Cell),(cs.set off x)[j]?=some y->(j=off/\y=x)\/(j≠off/\cs[j]?=some y):=by
  intro j y hj;by_cases e:j=off
  ·subst e
   left
   rw [List.getElem?_set] at hj;simp only [if_true] at hj;split at hj
   ·cases hj;exact ⟨rfl,rfl⟩
   ·cases hj
  ·right
   rw [List.getElem?_set_ne (Ne.symm e)] at hj;exact ⟨e,hj⟩
 refine ⟨fun i j a y z hi hj hy hz=>?_,fun y hy=>?_⟩
 ·rcases look i y hi with ⟨e1,e2⟩ | ⟨e1,e2⟩<;>rcases look j z hj with ⟨e3,e4⟩ | ⟨e3,e4⟩
  ·rw [e1,e3]
  ·subst e2;exact absurd hz ((hx a hy).2 j z e3 e4)
  ·subst e4;exact absurd hy ((hx a hz).2 i y e1 e2)
  ·exact ha.1 i j a y z e2 e4 hy hz
 ·obtain ⟨j,hj⟩:=List.mem_iff_getElem?.1 hy;rcases look j y hj with ⟨e1,e2⟩ | ⟨e1,e2⟩
  ·subst e2;intro e;exact (hx r e).1 rfl
  ·exact ha.2 y (List.mem_of_getElem? e2)
theorem Apt.ne {cs:List Cell} {r:Nat} (ha:Apt cs r) {i j a b:Nat} {x y:Cell} (hi:cs[i]?=some x) (hj:cs[j]?=some y) (hx:nmC x=some a) (hy:nmC y=some b) (cK:i≠j):a≠b:=by
 intro e;subst e;exact cK (ha.1 i j a x y hi hj hx hy)
theorem HeldX.nm {h:A4} {x:Cell} {cs:List Cell} {n sz r:Nat} (hx:HeldX h x cs n sz r) {id:Nat} (e:nmC x=some id):x=.sl id 0 n sz/\rd h id=some ⟨cs,true⟩/\cs.length=n*sz/\id≠r:=by
 rcases hx with ⟨_,_,e2⟩ | ⟨bP,e2,h1,h2,h3⟩
 ·rw [e2] at e;cases e
 ·subst e2;cases e;exact ⟨rfl,h1,h2,h3⟩
theorem HeldX.kept {h h':A4} {x:Cell} {cs:List Cell} {n sz r:Nat} (hx:HeldX h x cs n sz r) (hk:∀ id,nmC x=some id->rd h' id=rd h id):HeldX h' x cs n sz r :=
 hx.keep fun id m e=>hk id (by rw [e];rfl)
section
structure Cl where
 row:List Int
 ino:List (List Int)
 taken:List Bool
 blocks:List Int
 made:List (List UInt8)
 lost:Int
 lnk:Int->Option Int
 par:Int->Option Int
def MapI (es:P6) (F:Int->Option Int):Prop:=(∀ e∈es,∃ i,e.1=Cell.i .i64 i)/\∀ i,(A7A (.i .i64 i) es).map (·.2)=(F i).map fun v=>Part.c (.i .i64 v)
def A6B (F:Int->Option Int) (a v:Int):Int->Option Int:=fun i=>if i=a then some v else F i
theorem D32 {es:P6} {a:Int} (h:∀ e∈es,∃ i,e.1=Cell.i .i64 i):yL (some .i64) (.i .i64 a) es=true:=by
 simp only [yL,oX,decide_true,Bool.true_and,List.all_eq_true];intro e he;obtain ⟨x,hx⟩:=h e he;rw [hx];simp
theorem MapI.nil:MapI [] fun _=>none:=⟨fun e he=>by simp at he,fun i=>rfl⟩
theorem MapI.put {es:P6} {F:Int->Option Int} (hm:MapI es F) (a v:Int):MapI (A7B (.i .i64 a) (.c (.i .i64 v)) es) (A6B F a v):=by
 refine ⟨B6A (Q:=fun c=>∃ i,c=.i .i64 i) ⟨a,rfl⟩ hm.1,fun i=>?_⟩;unfold A6B;by_cases c:i=a
 ·subst c;rw [if_pos rfl,(A0K (k':=.mh)).1];rfl
 ·rw [if_neg c,(A0K (k:=.i .i64 a) (k':=.i .i64 i)).2 (by simpa using c)];exact hm.2 i
theorem D33 {h:A4} {mid:Nat} {es:P6} {F:Int->Option Int} {a:Int} {ok:Bool} (hr:rd h mid=some (J3 es)) (hm:MapI es F):oH h (some .i64) (.c (.i .i64 0)) ok (.c (.m mid)) (.c (.i .i64 a))=some (A1T ok (.c (.i .i64 ((F a).getD 0))) (F a).isSome):=by
 simp only [oH,B8C,C7H,hr,Option.bind_some,uB];rw [if_pos (D32 hm.1)];have h2:=hm.2 a;cases hg:A7A (.i .i64 a) es with
 | none =>
  rw [hg] at h2;cases hF:F a with
  | none=>rfl
  | some v=>rw [hF] at h2;cases h2
 | some ip =>
  obtain ⟨i,p⟩:=ip;rw [hg] at h2;cases hF:F a with
  | none=>rw [hF] at h2;cases h2
  | some v=>rw [hF] at h2;simp at h2;subst h2;rfl
theorem D47 {h:A4} {mid:Nat} {es:P6} {F:Int->Option Int} {a x:Int} (hr:rd h mid=some (J3 es)) (hm:MapI es F):sM h (some .i64) (.c (.m mid)) (.c (.i .i64 a)) (.c (.i .i64 x))=some (h.set mid (some (J3 (A7B (.i .i64 a) (.c (.i .i64 x)) es)))):=by
 simp only [sM,B8C,C1j,hr,Option.bind_some,uB];rw [if_pos (D32 hm.1)]
def wkC (D:Dev) (n m:Int) (f xr xi xt xb xm:Cell) (lost:Int) (ml mp:Nat):List Cell:=[.i .i64 D.length,.i .i64 n,.i .u64 m,f,xr,xi,xt,xb,xm,.i .i64 lost,.m ml,.m mp]
def jA (l:List (List Int)):List Cell:=(l.map encI).flatten
def bD (l:List Bool):List Cell:=l.map .b
structure WP (D:Dev) (n m:Int) (f:Cell) (g:A4) (r:Nat) (c:Cl) (h:A4):Prop where
 lo:Low g.length g h
 ge:g.length<=r
 low:∀ id,Nam h r id->g.length<=id
 il:∀ x∈c.ino,x.length=11
 ilen:c.ino.length=(n+1).toNat
 tlen:c.taken.length=D.length
 row:∃ xr xi xt xb xm ml mp es1 es2,rd h r=some ⟨wkC D n m f xr xi xt xb xm c.lost ml mp,true⟩/\Apt (wkC D n m f xr xi xt xb xm c.lost ml mp) r /\
  HeldX h xr (encI c.row) c.row.length 1 r/\HeldX h xi (jA c.ino) c.ino.length 11 r/\HeldX h xt (bD c.taken) c.taken.length 1 r /\
  HeldX h xb (encI c.blocks) c.blocks.length 1 r/\HeldX h xm (D7 c.made) c.made.length 256 r /\
  rd h ml=some (J3 es1)/\MapI es1 c.lnk/\rd h mp=some (J3 es2)/\MapI es2 c.par
section
variable {D:Dev} {n m:Int} {f:Cell} {g:A4} {r:Nat} {c:Cl} {h:A4}
theorem WP.rlt (P:WP D n m f g r c h):r<h.length:=by
 obtain ⟨_,_,_,_,_,_,_,_,_,h1,_⟩:=P.row;exact E4 h1
theorem B2G {R:Row} {i id:Nat} {x:Cell} (hr:rd h r=some R) (hi:R.cells[i]?=some x) (hx:nmC x=some id):Nam h r id:=⟨R,x,hr,List.mem_of_getElem? hi,hx⟩
theorem B6B (hv:∃ id cs,f=.f id cs) (P:WP D n m f g r c h) {id:Nat} (hn:Nam h r id):id<h.length:=by
 obtain ⟨xr,xi,xt,xb,xm,ml,mp,es1,es2,h1,h2,h3,h4,h5,h6,h7,h8,h9,h10,h11⟩:=P.row;obtain ⟨R,x,hR,hx,hnm⟩:=hn;rw [h1] at hR;cases hR;obtain ⟨fi,fc,rfl⟩:=hv;simp only [wkC,List.mem_cons,List.not_mem_nil,or_false] at hx;rcases hx with rfl | rfl | rfl | rfl | rfl | rfl | rfl | rfl | rfl | rfl | rfl | rfl
 ·cases hnm
 ·cases hnm
 ·cases hnm
 ·cases hnm
 ·exact E4 (h3.nm hnm).2.1
 ·exact E4 (h4.nm hnm).2.1
 ·exact E4 (h5.nm hnm).2.1
 ·exact E4 (h6.nm hnm).2.1
 ·exact E4 (h7.nm hnm).2.1
 ·cases hnm
 ·cases hnm;exact E4 h8
 ·cases hnm;exact E4 h10
theorem WP.keep {h':A4} (P:WP D n m f g r c h) (hlo:Low g.length g h') (hr:rd h' r=rd h r) (hk:∀ id,Nam h r id->rd h' id=rd h id):WP D n m f g r c h':=by
 obtain ⟨xr,xi,xt,xb,xm,ml,mp,es1,es2,h1,h2,h3,h4,h5,h6,h7,h8,h9,h10,h11⟩:=P.row;have k:∀ (i:Nat) (x:Cell) (id:Nat),(wkC D n m f xr xi xt xb xm c.lost ml mp)[i]?=some x->nmC x=some id->rd h' id=rd h id:=fun i x id hi hx=>hk id (B2G h1 hi hx)
 refine ⟨hlo,P.ge,fun id hn=>P.low id ((Nam.same hr).1 hn),P.il,P.ilen,P.tlen,xr,xi,xt,xb,xm,ml,mp,es1,es2,by rw [hr];exact h1,h2,h3.kept fun id e=>k 4 _ _ rfl e,h4.kept fun id e=>k 5 _ _ rfl e,h5.kept fun id e=>k 6 _ _ rfl e,h6.kept fun id e=>k 7 _ _ rfl e,h7.kept fun id e=>k 8 _ _ rfl e,?_,h9,?_,h11⟩
 ·rw [k 10 (.m ml) ml rfl rfl];exact h8
 ·rw [k 11 (.m mp) mp rfl rfl];exact h10
theorem WP.since {h':A4} (hv:∃ id cs,f=.f id cs) (P:WP D n m f g r c h) (hl:Low h.length h h'):WP D n m f g r c h' :=
 P.keep ⟨P.lo.1,Nat.le_trans P.lo.2.1 hl.2.1,fun id hid=>by rw [hl.2.2 id (by have:=P.lo.2.1;omega)];exact P.lo.2.2 id hid⟩ (hl.2.2 r P.rlt) fun id hn=>hl.2.2 id (B6B hv P hn)
theorem WP.more (hv:∃ id cs,f=.f id cs) (P:WP D n m f g r c h) (t:A4):WP D n m f g r c (h++t):=P.since hv ((Low.refl (Nat.le_refl _)).new t)
theorem WP.set {id:Nat} {x:Option Row} (P:WP D n m f g r c h) (hl:Loc h r id) (hg:g.length<=id):WP D n m f g r c (h.set id x):=by
 refine P.keep (P.lo.set hg x) (B7 hl.2.1) fun j hj=>B7 fun e=>hl.2.2 (by rw [e];exact hj)
theorem Fr.set {id:Nat} {x:Option Row} {h0:A4} (a:Fr r h0 h) (hl:Loc h r id) (h0l:h0.length<=id):Fr r h0 (h.set id x):=by
 have e:rd (h.set id x) r=rd h r:=B7 hl.2.1;exact ⟨by simpa using a.size,fun j hj h1 h2=>by rw [B7 (by omega)];exact a.keep j hj h1 h2,fun j hj=>a.nam j ((Nam.same e).1 hj)⟩
end
end
end Go.Proofs.YteckncopbicmcaaGreat
namespace Go.Proofs.YteckncopbicmcaaGreat
open Go Go.Esc
set_option maxRecDepth 100000
noncomputable section
def pF:AFn:=⟨sO [0,1] [aO 4 (.mv (.v (.c (.i .i64 0))))] (.seq [0,1] (sO [0,1,22] [aM 5 0,aO 6 (.nilc (.t 5)),aF 7 6 0,aF 8 7 0,aL' 9 3 8,aM 10 1,aO 11 (.call 72 [(.t 9),(.t 10)]),aO 12 (.un .not (.t 11)),aM 13 12,gM 14 13 false 0,aG 15 13 false (.nilc (.t 14)),aG 16 13 false (.fAddr (.t 15) 4),aG 17 13 false (.fAddr (.t 16) 2),aG 18 13 false (.load1 (.t 17)),gM 19 13 false 1,aG 20 13 false (.iAddrL 1 (.t 18) (.t 19)),aG 21 13 false (.load1 (.t 20)),aO 22 (.pick (.t 13) (.v (.c (.b true))) (.t 21))] (.cond (.t 22) (sO [4] [aO 4 (.mv (.v (.c (.i .i64 0))))] .ret) .skip)) (sO [1] [aM 23 0,aO 24 (.nilc (.t 23)),aF 25 24 4,aF 26 25 2,aL 27 26,aM 28 1,aO 29 (.iAddrL 1 (.t 27) (.t 28)),aN (.store1 (.t 29) (.v (.c (.b true))))] (sO [4] [aM 30 1,aM 4 30] .ret))),[.tmp 4]⟩
def pQ:E2:=D6 72 mH E6
def qC:=rx pQ pF
theorem gV (n:Nat) (a0 a1:Val) (h:A4):qC n [a0,a1] h=bnd (I5 a0) fun v1=>bnd (A9 v1 0) fun v2=>bnd (A9 v2 0) fun v3=>bnd (A8 h 3 v3) fun v4=>bnd (mH [v4,a1] h) fun p5=>bnd (aun .not p5.1) fun v6=>bnd (gd v6 false (some (a0,p5.2)) (some (.no,p5.2))) fun p7=>bnd (gd v6 false (bnd (I5 p7.1) fun v8=>some (v8,p7.2)) (some (.no,p7.2))) fun p9=>bnd (gd v6 false (bnd (A9 p9.1 4) fun T6=>some (T6,p9.2)) (some (.no,p9.2))) fun p11=>bnd (gd v6 false (bnd (A9 p11.1 2) fun v12=>some (v12,p11.2)) (some (.no,p11.2))) fun p13=>bnd (gd v6 false (bnd (A7 p13.2 p13.1) fun cE=>some (cE,p13.2)) (some (.no,p13.2))) fun lU=>bnd (gd v6 false (some (a1,lU.2)) (some (.no,lU.2))) fun sF=>bnd (gd v6 false (bnd (C4 1 lU.1 sF.1) fun W3=>some (W3,sF.2)) (some (.no,sF.2))) fun pB=>bnd (gd v6 false (bnd (A7 pB.2 pB.1) fun dO=>some (dO,pB.2)) (some (.no,pB.2))) fun gH=>bnd (F0 v6 (.c (.b true)) gH.1) fun v21=>cnd v21 (some ((.c (.i .i64 0)),gH.2)) (bnd (I5 a0) fun v22=>bnd (A9 v22 4) fun v23=>bnd (A9 v23 2) fun v24=>bnd (A7 gH.2 v24) fun v25=>bnd (C4 1 v25 a1) fun v26=>bnd (D3 gH.2 v26 (.c (.b true))) fun h27=>some (a1,h27)):=by kernel_rfl
theorem A16:FnK Tryz.prog 173 pF pQ qC:=.mk2 (B8 B5I C9) Tryz.func173 (by kernel_rfl)
def G7:=Lim pF pQ
theorem aY:SOk Tryz.prog 173 G7:=A16.ok
theorem gW:OfT qC G7:=A16.of
def kU:AFn:=⟨sO [0,1,2,3] [aO 6 (.mv (.v (.c (.b false))))] (sO [6] [aM 7 0,aO 8 (.bin .add (.t 7) (.v (.c (.i .i64 6)))),aL 9 2,aO 10 (.bin .lss (.t 8) (.t 9)),aM 11 10,aG 12 11 true (.load1 (.t 3)),gM 13 11 true 1,aG 14 11 true (.call 173 [(.t 12),(.t 13)]),aG 15 11 true (.bin .neq (.t 14) (.v (.c (.i .i64 0)))),aO 16 (.pick (.t 11) (.t 15) (.v (.c (.b false)))),aM 6 16] .ret),[.tmp 6]⟩
def kW:E2:=D6 173 G7 E6
def kY:=rx kW kU
theorem qB (n:Nat) (a0 a1 a2 a3:Val) (h:A4):kY n [a0,a1,a2,a3] h=bnd (B5 .add a0 (.c (.i .i64 6))) fun v1=>bnd (A7 h a2) fun v2=>bnd (B5 .lss v1 v2) fun v3=>bnd (gd v3 true (bnd (A7 h a3) fun v4=>some (v4,h)) (some (.no,h))) fun p5=>bnd (gd v3 true (some (a1,p5.2)) (some (.no,p5.2))) fun p6=>bnd (gd v3 true (bnd (G7 [p5.1,p6.1] p6.2) fun p7=>some (p7.1,p7.2)) (some (.no,p6.2))) fun p8=>bnd (gd v3 true (bnd (B5 .neq p8.1 (.c (.i .i64 0))) fun v9=>some (v9,p8.2)) (some (.no,p8.2))) fun p10=>bnd (F0 v3 p10.1 (.c (.b false))) fun v11=>some (v11,p10.2):=by kernel_rfl
theorem yR:FnK Tryz.prog 176 kU kW kY:=.mk2 (B8 aY C9) Tryz.func176 (by kernel_rfl)
def V7:=Lim kU kW
theorem A5G:SOk Tryz.prog 176 V7:=yR.ok
theorem qO:OfT kY V7:=yR.of
def rX:ACode:=.ops [aO 30 (.bin .add (.t 7) (.v (.c (.i .i64 1)))),aM 7 30]
def eF:ACode:=sO [1,2,4,7,8] [aO 8 (.bin .lss (.t 7) (.v (.c (.i .i64 128))))] (.seq [1,2,4,7] (.cond (.t 8) .skip (.exit 0)) (.seq [1,2,4,7] (.block 1 (sO [1,2,4,5,7] [aM 9 7,aM 5 9] (sO [1,2,4,5,6,7] [aL' 10 256 2,aM 11 5,aO 12 (.call 208 [(.t 10),(.t 11)]),aM 6 12] (sO [1,2,4,5,7,25] [aM 13 6,aO 14 (.bin .neq (.t 13) (.v (.c (.i .i64 0)))),aM 15 14,gM 16 15 true 1,aG 17 15 true (.eqN true true (.t 16)),aO 18 (.pick (.t 15) (.t 17) (.v (.c (.b false)))),aM 19 18,gM 20 19 true 1,gM 21 19 true 5,gM 22 19 true 6,aG 23 19 true (.callV (.t 20) [(.t 21),(.t 22)]),aG 24 19 true (.un .not (.t 23)),aO 25 (.pick (.t 19) (.t 24) (.v (.c (.b false))))] (.cond (.t 25) (.ops [aL' 26 256 2,aM 27 5,aO 28 (.bin .mul (.v (.c (.i .i64 2))) (.t 27)),aO 29 (.call 213 [(.t 26),(.t 28),(.v (.c (.i .i64 2))),(.v (.c (.i .i64 0)))]),aN (.storeN 256 (.t 2) (.t 29))]) .skip))))) rX))
def rW:ACode:=sO [4] [aL' 31 256 2,aN (.storeN 256 (.t 4) (.t 31))] .ret
def Z9:AFn:=⟨sO [1,2,4] [aB 2 0,aO 4 (.alloc (List.replicate 256 (.i .u8 0)))] (.seq [2,4] (sO [1,2,4,7] [aO 7 (.mv (.v (.c (.i .i64 0))))] (.block 0 (.loop [1,2,4,7] eF))) rW),[.cellN 4 256]⟩
def H6:E2:=D6 208 qV (D6 213 J5 (D6 176 V7 E6))
def A6t (n:Nat):KV:=kQ H6 n rW [2,4] Z9.fin
def rY (n:Nat):KV:=F6 0 (A6t n)
def X4 (n m:Nat) (x1 x2 x4 x7:Val):AtH:=ar H6 n eF [1,2,4,7] (rY n) m [x1,x2,x4,x7]
def fH:=rx H6 Z9
def A6u (n m:Nat):KV:=kL H6 n eF [1,2,4,7] (rY n) m
def eG (n m:Nat) (x1 x2 x4 x7:Val):AtH:=aj H6 n rX (A6u n m) [1,2,4,7] [x1,x2,x4,x7]
theorem A3C (n:Nat) (a0 a1:Val) (h:A4):fH n [a0,a1] h=bnd (cells? a0) fun c1=>X4 n n a1 (.c (.p h.length 0)) (.c (.p (h++[some (Row.mk (c1) true)]).length 0)) (.c (.i .i64 0)) ((h++[some (Row.mk (c1) true)])++[some (Row.mk (List.replicate 256 (.i .u8 0)) true)]):=by kernel_rfl
theorem kT (n m:Nat) (x1 x2 x4 x7:Val) (h:A4):X4 n (m+1) x1 x2 x4 x7 h=bnd (B5 .lss x7 (.c (.i .i64 128))) fun v2=>cnd v2 (bnd (A8 h 256 x2) fun v3=>bnd (qV [v3,x7] h) fun p4=>bnd (B5 .neq p4.1 (.c (.i .i64 0))) fun v5=>bnd (gd v5 true (some (x1,p4.2)) (some (.no,p4.2))) fun p6=>bnd (gd v5 true (bnd (B0k true true p6.1) fun v7=>some (v7,p6.2)) (some (.no,p6.2))) fun p8=>bnd (F0 v5 p8.1 (.c (.b false))) fun v9=>bnd (gd v9 true (some (x1,p8.2)) (some (.no,p8.2))) fun p10=>bnd (gd v9 true (some (x7,p10.2)) (some (.no,p10.2))) fun p11=>bnd (gd v9 true (some (p4.1,p11.2)) (some (.no,p11.2))) fun p12=>bnd (gd v9 true (bnd (oJ H6 p10.1 [p11.1,p12.1] p12.2) fun p13=>some (p13.1,p13.2)) (some (.no,p12.2))) fun dG=>bnd (gd v9 true (bnd (aun .not dG.1) fun dE=>some (dE,dG.2)) (some (.no,dG.2))) fun sF=>bnd (F0 v9 sF.1 (.c (.b false))) fun W3=>cnd W3 (bnd (A8 sF.2 256 x2) fun dN=>bnd (B5 .mul (.c (.i .i64 2)) x7) fun dO=>bnd (J5 [dN,dO,.c (.i .i64 2),.c (.i .i64 0)] sF.2) fun gH=>bnd (B4 gH.2 256 x2 gH.1) fun h21=>eG n m x1 x2 x4 x7 h21) (eG n m x1 x2 x4 x7 sF.2)) (bnd (A8 h 256 x2) fun v22=>bnd (B4 h 256 x4 v22) fun h23=>mp (A8 h23 256 x4) fun v=>(v,h23)):=by kernel_rfl
theorem aK (n m:Nat) (x1 x2 x4 x7:Val) (h:A4):eG n m x1 x2 x4 x7 h=bnd (B5 .add x7 (.c (.i .i64 1))) fun v24=>X4 n m x1 x2 x4 v24 h:=by kernel_rfl
theorem sL:FnK Tryz.prog 175 Z9 H6 fH:=.mk2 (B8 B8t (B8 vD (B8 A5G C9))) Tryz.func175 (by kernel_rfl)
def Q8:=Lim Z9 H6
theorem A3J:SOk Tryz.prog 175 Q8:=sL.ok
theorem A3I:OfT fH Q8:=sL.of
def pG:AFn:=⟨sO [0,1,5] [aB 5 2] (sO [0,5] [aM 6 0,aM 7 0,aO 8 (.nilc (.t 7)),aF 9 8 4,aF 10 9 3,aL 11 10,aM 12 1,aO 13 (.buildSl 1 1 ([.i .i64 0]) [(0,1,(.t 12))]),aO 14 (.app 1 (.t 11) (.t 13)),aO 15 (.nilc (.t 6)),aF 16 15 4,aF 17 16 3,aN (.store1 (.t 17) (.t 14))] (.drawS 1 [aM 18 0,aM 19 0,aO 20 (.nilc (.t 19)),aF 21 20 4,aF 22 21 4,aL 23 22,aL' 24 256 5,aS 25 0 (.buildSl 256 1 (List.replicate 256 (.i .u8 0)) [(0,256,(.t 24))])] (aO 26 (.app 256 (.t 23) (.t 25))) [] [aO 27 (.nilc (.t 18)),aF 28 27 4,aF 29 28 4,aN (.store1 (.t 29) (.t 26))])),[]⟩
def pR:E2:=E6
def qD:=rx pR pG
theorem A76 (n:Nat) (a0 a1 a2:Val) (h:A4):qD n [a0,a1,a2] h=bnd (cells? a2) fun c1=>bnd (I5 a0) fun v2=>bnd (A9 v2 4) fun v3=>bnd (A9 v3 3) fun v4=>bnd (A7 (h++[some (Row.mk (c1) true)]) v4) fun v5=>bnd (C7 ([.i .i64 0]) [(0,1,a1)]) fun c6=>bnd (W7 ((h++[some (Row.mk (c1) true)])++[some (Row.mk (c6) true)]) 1 v5 (.c (.sl (h++[some (Row.mk (c1) true)]).length 0 1 1))) fun p7=>bnd (I5 a0) fun v8=>bnd (A9 v8 4) fun v9=>bnd (A9 v9 3) fun T6=>bnd (D3 p7.2 T6 p7.1) fun h11=>bnd (I5 a0) fun v12=>bnd (A9 v12 4) fun v13=>bnd (A9 v13 4) fun cE=>bnd (A7 h11 cE) fun dE=>bnd (A8 h11 256 (.c (.p h.length 0))) fun T7=>bnd (C7 (List.replicate 256 (.i .u8 0)) [(0,256,T7)]) fun c17=>bnd (W7 ((h11++[none]).set (h11.length+0) (some (Row.mk (c17) true))) 256 dE (.c (.sl (h11.length+0) 0 1 256))) fun pB=>bnd (I5 a0) fun dO=>bnd (A9 dO 4) fun jN=>bnd (A9 jN 4) fun v21=>bnd (D3 pB.2 v21 pB.1) fun h22=>I6 [] h22:=by kernel_rfl
theorem A17:FnK Tryz.prog 174 pG pR qD:=.mk2 C9 Tryz.func174 (by kernel_rfl)
def N0:=Lim pG pR
theorem wG:SOk Tryz.prog 174 N0:=A17.ok
theorem A8f:OfT qD N0:=A17.of
def A1r:ACode:=sO [1,2,4,5,6,21,22,23] [aO 23 (.bin .lss (.t 22) (.t 21))] (.seq [1,2,4,5,6,21,22] (.cond (.t 23) .skip (.exit 0)) (.seq [1,2,4,5,6,21,22] (.block 1 (sO [1,2,4,5,6,7,21,22] [aM 24 22,aM 7 24] (.drawS 0 [aM 25 7,aL 26 2,aM 27 7,aF 28 4 4,aO 29 (.iAddrA 6 1 (.t 28) (.t 27)),aL 30 29,aF 32 5 4] (aO 31 (.call 173 [(.t 26),(.t 30)])) [] [aO 33 (.iAddrA 6 1 (.t 32) (.t 25)),aN (.store1 (.t 33) (.t 31))]))) (.ops [aO 34 (.bin .add (.t 22) (.v (.c (.i .i64 1)))),aM 22 34])))
def A1t:ACode:=.seq [2,5,6] (.draw 0 [aL 42 2,aO 43 (.nilc (.t 42)),aF 44 43 4,aF 45 44 1,aL 46 45,aM 47 1,aL' 48 11 5] [aO 49 (.iAddrL 11 (.t 46) (.t 47)),aN (.storeN 11 (.t 49) (.t 48))]) (.seq [2,5,6] (sO [2,5,6,52] [aF 50 5 10,aL 51 50,aO 52 (.bin .eql (.t 51) (.v (.c (.i .i64 0))))] (.cond (.t 52) .ret .skip)) (.drawS 0 [aL 53 2,aF 54 5 10,aL 55 54,aL 56 2,aO 57 (.nilc (.t 56)),aF 58 57 0,aL' 59 4 58,aF 60 5 10,aL 61 60,aO 62 (.call 71 [(.t 59),(.t 61)]),aO 63 (.mkf 176 [(.t 6),(.t 2)])] (aO 64 (.call 175 [(.t 62),(.t 63)])) [(53,.load1 (.t 2)),(55,.load1 (.t 54))] [aO 65 (.call 174 [(.t 53),(.t 55),(.t 64)])]))
def A1s:ACode:=.seq [1,2,5,6] (sO [1,2,4,5,6,36] [aL 35 6,aO 36 (.bin .gtr (.t 35) (.v (.c (.i .i64 6))))] (.cond (.t 36) (.ops [aL 37 2,aF 38 4 10,aL 39 38,aO 40 (.call 173 [(.t 37),(.t 39)]),aF 41 5 10,aN (.store1 (.t 41) (.t 40))]) .skip)) A1t
def aU:AFn:=⟨sO [1,2] [aB 2 0] (sO [1,2,4] [aL 8 2,aO 9 (.nilc (.t 8)),aF 10 9 0,aL' 11 4 10,aM 12 1,aO 13 (.call 19 [(.t 11),(.t 12)]),aO 4 (.alloc ([.i .i64 0,.i .i64 0,.i .i64 0,.i .i64 0,.i .i64 0,.i .i64 0,.i .i64 0,.i .i64 0,.i .i64 0,.i .i64 0,.i .i64 0])),aN (.storeN 11 (.t 4) (.t 13))] (sO [1,2,4,5] [aF 14 4 2,aL 15 14,aO 16 (.build ([.i .i64 0,.i .i64 0,.i .i64 0,.i .i64 0,.i .i64 0,.i .i64 0,.i .i64 0,.i .i64 0,.i .i64 0,.i .i64 0,.i .i64 0]) [(0,1,(.v (.c (.i .i64 1)))),(1,1,(.v (.c (.i .i64 1)))),(2,1,(.t 15))]),aO 5 (.alloc ([.i .i64 0,.i .i64 0,.i .i64 0,.i .i64 0,.i .i64 0,.i .i64 0,.i .i64 0,.i .i64 0,.i .i64 0,.i .i64 0,.i .i64 0])),aN (.storeN 11 (.t 5) (.t 16))] (sO [1,2,4,5,6] [aF 17 4 2,aL 18 17,aO 19 (.call 172 [(.t 18)]),aO 6 (.alloc ([.i .i64 0])),aN (.store1 (.t 6) (.t 19))] (.seq [1,2,4,5,6] (sO [1,2,4,5,6,21,22] [aL 20 6,aO 21 (.min (.t 20) (.v (.c (.i .i64 6)))),aO 22 (.mv (.v (.c (.i .i64 0))))] (.block 0 (.loop [1,2,4,5,6,21,22] A1r))) A1s)))),[]⟩
def T8:E2:=D6 19 G1 (D6 172 hJ (D6 173 G7 (D6 71 D5 (D6 175 Q8 (D6 174 N0 E6)))))
def B2q (n:Nat):KV:=kQ T8 n A1s [1,2,4,5,6] aU.fin
def B2r (n:Nat):KV:=F6 0 (B2q n)
def R7 (n m:Nat) (x1 x2 x4 x5 x6 xU x22:Val):AtH:=ar T8 n A1r [1,2,4,5,6,21,22] (B2r n) m [x1,x2,x4,x5,x6,xU,x22]
def qA:=rx T8 aU
def Z4 (n:Nat) (x1 x2 x5 x6:Val):AtH:=aj T8 n A1t aU.fin [1,2,5,6] [x1,x2,x5,x6]
theorem A74 (n:Nat) (a0 a1:Val) (h:A4):qA n [a0,a1] h=bnd (cells? a0) fun c1=>bnd (A7 (h++[some (Row.mk (c1) true)]) (.c (.p h.length 0))) fun v2=>bnd (I5 v2) fun v3=>bnd (A9 v3 0) fun v4=>bnd (A8 (h++[some (Row.mk (c1) true)]) 4 v4) fun v5=>bnd (G1 [v5,a1] (h++[some (Row.mk (c1) true)])) fun p6=>bnd (B4 (p6.2++[some (Row.mk ([.i .i64 0,.i .i64 0,.i .i64 0,.i .i64 0,.i .i64 0,.i .i64 0,.i .i64 0,.i .i64 0,.i .i64 0,.i .i64 0,.i .i64 0]) true)]) 11 (.c (.p p6.2.length 0)) p6.1) fun h7=>bnd (A9 (.c (.p p6.2.length 0)) 2) fun v8=>bnd (A7 h7 v8) fun v9=>bnd (C7 ([.i .i64 0,.i .i64 0,.i .i64 0,.i .i64 0,.i .i64 0,.i .i64 0,.i .i64 0,.i .i64 0,.i .i64 0,.i .i64 0,.i .i64 0]) [(0,1,.c (.i .i64 1)),(1,1,.c (.i .i64 1)),(2,1,v9)]) fun c10=>bnd (B4 (h7++[some (Row.mk ([.i .i64 0,.i .i64 0,.i .i64 0,.i .i64 0,.i .i64 0,.i .i64 0,.i .i64 0,.i .i64 0,.i .i64 0,.i .i64 0,.i .i64 0]) true)]) 11 (.c (.p h7.length 0)) (.a c10)) fun h11=>bnd (A9 (.c (.p p6.2.length 0)) 2) fun v12=>bnd (A7 h11 v12) fun v13=>bnd (hJ [v13] h11) fun dG=>bnd (D3 (dG.2++[some (Row.mk ([.i .i64 0]) true)]) (.c (.p dG.2.length 0)) dG.1) fun h15=>bnd (A7 h15 (.c (.p dG.2.length 0))) fun T7=>bnd (A7r T7 (.c (.i .i64 6))) fun W3=>R7 n n a1 (.c (.p h.length 0)) (.c (.p p6.2.length 0)) (.c (.p h7.length 0)) (.c (.p dG.2.length 0)) W3 (.c (.i .i64 0)) h15:=by kernel_rfl
theorem fP (n m:Nat) (x1 x2 x4 x5 x6 xU x22:Val) (h:A4):R7 n (m+1) x1 x2 x4 x5 x6 xU x22 h=bnd (B5 .lss x22 xU) fun dN=>cnd dN (bnd (A7 h x2) fun dO=>bnd (A9 x4 4) fun jN=>bnd (D8 6 1 jN x22) fun v21=>bnd (A7 h v21) fun v22=>bnd (A9 x5 4) fun v23=>bnd (G7 [dO,v22] (h++[])) fun fU=>bnd (D8 6 1 v23 x22) fun v25=>bnd (D3 fU.2 v25 fU.1) fun h26=>bnd (B5 .add x22 (.c (.i .i64 1))) fun v27=>R7 n m x1 x2 x4 x5 x6 xU v27 h26) (bnd (A7 h x6) fun v28=>bnd (B5 .gtr v28 (.c (.i .i64 6))) fun v29=>cnd v29 (bnd (A7 h x2) fun v30=>bnd (A9 x4 10) fun v31=>bnd (A7 h v31) fun v32=>bnd (G7 [v30,v32] h) fun p33=>bnd (A9 x5 10) fun v34=>bnd (D3 p33.2 v34 p33.1) fun h35=>Z4 n x1 x2 x5 x6 h35) (Z4 n x1 x2 x5 x6 h)):=by kernel_rfl
theorem sW (n:Nat) (x1 x2 x5 x6:Val) (h:A4):Z4 n x1 x2 x5 x6 h=bnd (A7 h x2) fun v36=>bnd (I5 v36) fun v37=>bnd (A9 v37 4) fun v38=>bnd (A9 v38 1) fun v39=>bnd (A7 h v39) fun v40=>bnd (A8 h 11 x5) fun v41=>bnd (C4 11 v40 x1) fun v42=>bnd (B4 (h++[]) 11 v42 v41) fun h43=>bnd (A9 x5 10) fun v44=>bnd (A7 h43 v44) fun v45=>bnd (B5 .eql v45 (.c (.i .i64 0))) fun v46=>cnd v46 (I6 [] h43) (bnd (A7 h43 x2) fun v47=>bnd (A9 x5 10) fun v48=>bnd (A7 h43 v48) fun v49=>bnd (A7 h43 x2) fun v50=>bnd (I5 v50) fun v51=>bnd (A9 v51 0) fun v52=>bnd (A8 h43 4 v52) fun v53=>bnd (A9 x5 10) fun v54=>bnd (A7 h43 v54) fun v55=>bnd (quiet (h43++[]) (D5 [v53,v55] (h43++[]))) fun p56=>bnd (A5Q 176 [x6,x2]) fun v57=>bnd (Q8 [p56.1,v57] p56.2) fun p58=>agn (A7 p58.2 x2) v47 <| agn (A7 p58.2 v48) v49 <| bnd (N0 [v47,v49,p58.1] p58.2) fun p59=>I6 [] p59.2):=by kernel_rfl
theorem A14:FnK Tryz.prog 106 aU T8 qA:=.mk2 (B8 S7 (B8 B3C (B8 aY (B8 G5 (B8 A3J (B8 wG C9)))))) Tryz.func106 (by kernel_rfl)
def U0:=Lim aU T8
theorem A8e:SOk Tryz.prog 106 U0:=A14.ok
theorem A8d:OfT qA U0:=A14.of
def sP:ACode:=.ops [aO 33 (.bin .add (.t 21) (.v (.c (.i .i64 1)))),aM 21 33]
def fK:ACode:=sO [0,3,4,6,11,12,13,21,22] [aO 22 (.bin .lss (.t 21) (.v (.c (.i .i64 32))))] (.seq [0,3,4,6,11,12,13,21] (.cond (.t 22) .skip (.exit 2)) (.seq [0,3,4,6,11,12,13,21] (.block 3 (sO [0,3,4,6,7,11,12,13,21] [aM 23 21,aM 7 23] (sO [0,3,4,6,7,11,12,13,21,29] [aM 24 7,aF 25 3 1,aO 26 (.iAddrA 32 1 (.t 25) (.t 24)),aL 27 26,aM 28 6,aO 29 (.bin .eql (.t 27) (.t 28))] (.cond (.t 29) (.ops [aM 30 7,aF 31 3 1,aO 32 (.iAddrA 32 1 (.t 31) (.t 30)),aN (.store1 (.t 32) (.v (.c (.i .i64 0))))]) .skip)))) sP))
def fJ:ACode:=.ops [aO 34 (.bin .add (.t 13) (.v (.c (.i .i64 1)))),aM 13 34]
def fI:ACode:=sO [0,3,4,11,12,13,14] [aO 14 (.bin .lss (.t 13) (.t 12))] (.seq [0,3,4,11,12,13] (.cond (.t 14) .skip (.exit 0)) (.seq [0,3,4,11,12,13] (.block 1 (sO [0,3,4,6,11,12,13] [aO 15 (.iAddrL 1 (.t 11) (.t 13)),aL 16 15,aM 6 16] (.seq [0,3,4,6,11,12,13] (sO [0,3,4,6,11,12,13,20] [aM 17 0,aM 18 6,aO 19 (.call 173 [(.t 17),(.t 18)]),aO 20 (.bin .neq (.t 19) (.v (.c (.i .i64 0))))] (.cond (.t 20) (.exit 1) .skip)) (sO [0,3,4,6,11,12,13,21] [aO 21 (.mv (.v (.c (.i .i64 0))))] (.block 2 (.loop [0,3,4,6,11,12,13,21] fK)))))) fJ))
def sN:ACode:=sO [4] [aL' 35 33 3,aN (.storeN 33 (.t 4) (.t 35))] .ret
def aR:AFn:=⟨sO [0,3,4] [aB 3 1,aO 4 (.alloc ([.i .i64 0]++List.replicate 32 (.i .i64 0)))] (sO [0,3,4] [aL' 8 33 3,aO 9 (.call 232 [(.t 8)]),aN (.storeN 33 (.t 3) (.t 9))] (.seq [3,4] (sO [0,3,4,11,12,13] [aL' 10 33 3,aO 11 (.call 162 [(.t 10)]),aO 12 (.len (.t 11)),aO 13 (.mv (.v (.c (.i .i64 0))))] (.block 0 (.loop [0,3,4,11,12,13] fI))) sN)),[.cellN 4 33]⟩
def G4:E2:=D6 232 wH (D6 162 N9 (D6 173 G7 E6))
def A7s (n:Nat):KV:=kQ G4 n sN [3,4] aR.fin
def sQ (n:Nat):KV:=F6 0 (A7s n)
def aC (n m:Nat) (x0 x3 x4 x11 x12 kN:Val):AtH:=ar G4 n fI [0,3,4,11,12,13] (sQ n) m [x0,x3,x4,x11,x12,kN]
def gT:=rx G4 aR
def sR (n m:Nat):KV:=kL G4 n fI [0,3,4,11,12,13] (sQ n) m
def aA (n m:Nat) (x0 x3 x4 x11 x12 kN:Val):AtH:=aj G4 n fJ (sR n m) [0,3,4,11,12,13] [x0,x3,x4,x11,x12,kN]
def A7t (n m:Nat):KV:=kQ G4 n fJ [0,3,4,11,12,13] (sR n m)
def A7u (n m:Nat):KV:=F6 1 (A7t n m)
def sS (n m:Nat):KV:=F6 2 (A7u n m)
def aD (n m m2:Nat) (x0 x3 x4 x6 x11 x12 kN xU:Val):AtH:=ar G4 n fK [0,3,4,6,11,12,13,21] (sS n m) m2 [x0,x3,x4,x6,x11,x12,kN,xU]
def A7v (n m m2:Nat):KV:=kL G4 n fK [0,3,4,6,11,12,13,21] (sS n m) m2
def fL (n m m2:Nat) (x0 x3 x4 x6 x11 x12 kN xU:Val):AtH:=aj G4 n sP (A7v n m m2) [0,3,4,6,11,12,13,21] [x0,x3,x4,x6,x11,x12,kN,xU]
theorem A4j (n:Nat) (a0 a1:Val) (h:A4):gT n [a0,a1] h=bnd (cells? a1) fun c1=>bnd (A8 ((h++[some (Row.mk (c1) true)])++[some (Row.mk ([.i .i64 0]++List.replicate 32 (.i .i64 0)) true)]) 33 (.c (.p h.length 0))) fun v2=>bnd (wH [v2] ((h++[some (Row.mk (c1) true)])++[some (Row.mk ([.i .i64 0]++List.replicate 32 (.i .i64 0)) true)])) fun p3=>bnd (B4 p3.2 33 (.c (.p h.length 0)) p3.1) fun h4=>bnd (A8 h4 33 (.c (.p h.length 0))) fun v5=>bnd (N9 [v5] h4) fun p6=>bnd (O0 p6.1) fun v7=>aC n n a0 (.c (.p h.length 0)) (.c (.p (h++[some (Row.mk (c1) true)]).length 0)) p6.1 v7 (.c (.i .i64 0)) p6.2:=by kernel_rfl
theorem bY (n m:Nat) (x0 x3 x4 x11 x12 kN:Val) (h:A4):aC n (m+1) x0 x3 x4 x11 x12 kN h=bnd (B5 .lss kN x12) fun v8=>cnd v8 (bnd (C4 1 x11 kN) fun v9=>bnd (A7 h v9) fun T6=>bnd (G7 [x0,T6] h) fun p11=>bnd (B5 .neq p11.1 (.c (.i .i64 0))) fun v12=>cnd v12 (aA n m x0 x3 x4 x11 x12 kN p11.2) (aD n m n x0 x3 x4 T6 x11 x12 kN (.c (.i .i64 0)) p11.2)) (bnd (A8 h 33 x3) fun v13=>bnd (B4 h 33 x4 v13) fun h14=>mp (A8 h14 33 x4) fun v=>(v,h14)):=by kernel_rfl
theorem mT (n m:Nat) (x0 x3 x4 x11 x12 kN:Val) (h:A4):aA n m x0 x3 x4 x11 x12 kN h=bnd (B5 .add kN (.c (.i .i64 1))) fun dE=>aC n m x0 x3 x4 x11 x12 dE h:=by kernel_rfl
theorem bZ (n m m2:Nat) (x0 x3 x4 x6 x11 x12 kN xU:Val) (h:A4):aD n m (m2+1) x0 x3 x4 x6 x11 x12 kN xU h=bnd (B5 .lss xU (.c (.i .i64 32))) fun T7=>cnd T7 (bnd (A9 x3 1) fun W3=>bnd (D8 32 1 W3 xU) fun dN=>bnd (A7 h dN) fun dO=>bnd (B5 .eql dO x6) fun jN=>cnd jN (bnd (A9 x3 1) fun v21=>bnd (D8 32 1 v21 xU) fun v22=>bnd (D3 h v22 (.c (.i .i64 0))) fun h23=>fL n m m2 x0 x3 x4 x6 x11 x12 kN xU h23) (fL n m m2 x0 x3 x4 x6 x11 x12 kN xU h)) (aA n m x0 x3 x4 x11 x12 kN h):=by kernel_rfl
theorem mU (n m m2:Nat) (x0 x3 x4 x6 x11 x12 kN xU:Val) (h:A4):fL n m m2 x0 x3 x4 x6 x11 x12 kN xU h=bnd (B5 .add xU (.c (.i .i64 1))) fun v24=>aD n m m2 x0 x3 x4 x6 x11 x12 kN v24 h:=by kernel_rfl
theorem vZ:FnK Tryz.prog 177 aR G4 gT:=.mk2 (B8 B9A (B8 nY (B8 aY C9))) Tryz.func177 (by kernel_rfl)
def O7:=Lim aR G4
theorem A4q:SOk Tryz.prog 177 O7:=vZ.ok
theorem A4p:OfT gT O7:=vZ.of
def pE:AFn:=⟨sO [0,2,4,6] [aB 4 1,aO 6 (.alloc ([.i .i64 0,.i .i64 0,.s [],.i .i64 0])),aO 7 (.mv (.v (.c (.b false))))] (.seq [0,2,6,8] (.draw 0 [aL' 11 33 4,aM 12 2,aO 13 (.call 78 [(.t 12)]),aO 14 (.call 77 [(.t 11),(.t 13)]),aF 15 4 1] [aO 16 (.iAddrA 32 1 (.t 15) (.t 14)),aL 17 16,aM 8 17]) (.seq [0,2,6,8] (sO [0,2,6,8,19] [aM 18 8,aO 19 (.bin .eql (.t 18) (.v (.c (.i .i64 0))))] (.cond (.t 19) (sO [6,7] [aO 20 (.build ([.i .i64 0,.i .i64 0,.s [],.i .i64 0]) []),aN (.storeN 4 (.t 6) (.t 20)),aO 7 (.mv (.v (.c (.b false))))] .ret) .skip)) (sO [6,8,9,10] [aM 22 0,aO 23 (.nilc (.t 22)),aF 24 23 0,aL' 25 4 24,aM 26 8,aO 27 (.call 71 [(.t 25),(.t 26)]),aM 28 2,aO 29 (.call 73 [(.t 27),(.t 28)]),aM 21 29,aE 30 21 0,aE 31 21 1,aO 9 (.alloc ([.i .i64 0,.s [],.i .i64 0])),aN (.storeN 3 (.t 9) (.t 30)),aM 10 31] (sO [6,7] [aM 32 8,aL' 33 3 9,aO 34 (.build ([.i .i64 0,.i .i64 0,.s [],.i .i64 0]) [(0,1,(.t 32)),(1,3,(.t 33))]),aM 35 10,aN (.storeN 4 (.t 6) (.t 34)),aM 7 35] .ret)))),[.cellN 6 4,.tmp 7]⟩
def pP:E2:=D6 78 A1g (D6 77 mI (D6 71 D5 (D6 73 bR E6)))
def fY:=rx pP pE
theorem A75 (n:Nat) (a0 a1 a2:Val) (h:A4):fY n [a0,a1,a2] h=bnd (cells? a1) fun c1=>bnd (A8 ((h++[some (Row.mk (c1) true)])++[some (Row.mk ([.i .i64 0,.i .i64 0,.s [],.i .i64 0]) true)]) 33 (.c (.p h.length 0))) fun v2=>bnd (quiet (((h++[some (Row.mk (c1) true)])++[some (Row.mk ([.i .i64 0,.i .i64 0,.s [],.i .i64 0]) true)])++[]) (A1g [a2] (((h++[some (Row.mk (c1) true)])++[some (Row.mk ([.i .i64 0,.i .i64 0,.s [],.i .i64 0]) true)])++[]))) fun p3=>bnd (quiet p3.2 (mI [v2,p3.1] p3.2)) fun p4=>bnd (A9 (.c (.p h.length 0)) 1) fun v5=>bnd (D8 32 1 v5 p4.1) fun v6=>bnd (A7 p4.2 v6) fun v7=>bnd (B5 .eql v7 (.c (.i .i64 0))) fun v8=>cnd v8 (bnd (C7 ([.i .i64 0,.i .i64 0,.s [],.i .i64 0]) []) fun c9=>bnd (B4 p4.2 4 (.c (.p (h++[some (Row.mk (c1) true)]).length 0)) (.a c9)) fun h10=>I6 [A8 h10 4 (.c (.p (h++[some (Row.mk (c1) true)]).length 0)),some (.c (.b false))] h10) (bnd (I5 a0) fun v11=>bnd (A9 v11 0) fun v12=>bnd (A8 p4.2 4 v12) fun v13=>bnd (D5 [v13,v7] p4.2) fun dG=>bnd (bR [dG.1,a2] dG.2) fun lU=>bnd (H0 lU.1 0) fun T7=>bnd (H0 lU.1 1) fun W3=>bnd (B4 (lU.2++[some (Row.mk ([.i .i64 0,.s [],.i .i64 0]) true)]) 3 (.c (.p lU.2.length 0)) T7) fun h18=>bnd (A8 h18 3 (.c (.p lU.2.length 0))) fun dO=>bnd (C7 ([.i .i64 0,.i .i64 0,.s [],.i .i64 0]) [(0,1,v7),(1,3,dO)]) fun c20=>bnd (B4 h18 4 (.c (.p (h++[some (Row.mk (c1) true)]).length 0)) (.a c20)) fun h21=>I6 [A8 h21 4 (.c (.p (h++[some (Row.mk (c1) true)]).length 0)),some W3] h21):=by kernel_rfl
theorem A15:FnK Tryz.prog 233 pE pP fY:=.mk2 (B8 B68 (B8 B5L (B8 G5 (B8 A4l C9)))) Tryz.func233 (by kernel_rfl)
def P8:=tl pE pP
theorem wF:SOk Tryz.prog 233 P8:=A15.sok
theorem A5H:G0 fY P8:=A15.flat
def yZ:ACode:=.ops [aO 71 (.bin .add (.t 32) (.v (.c (.i .i64 1)))),aM 32 71]
def lE:ACode:=sO [0,3,5,6,8,18,19,20,30,31,32,33] [aO 33 (.bin .lss (.t 32) (.t 31))] (.seq [0,3,5,6,8,18,19,20,30,31,32] (.cond (.t 33) .skip (.exit 2)) (.seq [0,3,5,6,8,18,19,20,30,31,32] (.block 3 (sO [0,3,5,6,8,10,18,19,20,30,31,32] [aO 34 (.iAddrL 3 (.t 30) (.t 32)),aL' 35 3 34,aO 10 (.alloc ([.i .i64 0,.s [],.i .i64 0])),aN (.storeN 3 (.t 10) (.t 35))] (sO [0,3,5,6,8,10,11,12,18,19,20,30,31,32] [aM 37 0,aL' 38 33 3,aF 39 10 1,aF 40 39 0,aL 41 40,aO 42 (.call 233 [(.t 37),(.t 38),(.t 41)]),aM 36 42,aE 43 36 0,aE 44 36 1,aO 11 (.alloc ([.i .i64 0,.i .i64 0,.s [],.i .i64 0])),aN (.storeN 4 (.t 11) (.t 43)),aM 12 44] (sO [0,3,5,6,8,10,18,19,20,30,31,32,57] [aM 45 12,aM 46 45,aG 47 46 true (.fAddr (.t 11) 0),aG 48 46 true (.load1 (.t 47)),gM 49 46 true 8,aG 50 46 true (.bin .eql (.t 48) (.t 49)),aO 51 (.pick (.t 46) (.t 50) (.v (.c (.b false)))),aM 52 51,aG 53 52 true (.fAddr (.t 11) 1),aG 54 52 true (.loadN 3 (.t 53)),aG 55 52 true (.loadN 3 (.t 10)),aG 56 52 true (.eqA false ([.i .i64,.s,.i .i64]) (.t 54) (.t 55)),aO 57 (.pick (.t 52) (.t 56) (.v (.c (.b false))))] (.cond (.t 57) (sO [0,3,5,6,8,10,18,19,20,30,31,32] [aM 58 5,aF 59 10 1,aF 60 59 0,aL 61 60,aF 62 10 1,aF 63 62 1,aL 64 63,aN (.mput none (.t 58) (.t 61) (.t 64))] (.ops [aM 65 6,aF 66 10 1,aF 67 66 0,aL 68 67,aO 69 (.buildSl 1 1 ([.s []]) [(0,1,(.t 68))]),aO 70 (.app 1 (.t 65) (.t 69)),aM 6 70])) .skip))))) yZ))
def yW:ACode:=.ops [aO 72 (.bin .add (.t 20) (.v (.c (.i .i64 1)))),aM 20 72]
def lD:ACode:=sO [0,3,5,6,18,19,20,21] [aO 21 (.bin .lss (.t 20) (.t 19))] (.seq [0,3,5,6,18,19,20] (.cond (.t 21) .skip (.exit 0)) (.seq [0,3,5,6,18,19,20] (.block 1 (sO [0,3,5,6,8,18,19,20] [aO 22 (.iAddrL 1 (.t 18) (.t 20)),aL 23 22,aM 8 23] (sO [0,3,5,6,8,18,19,20,30,31,32] [aM 24 0,aO 25 (.nilc (.t 24)),aF 26 25 0,aL' 27 4 26,aM 28 8,aO 29 (.call 71 [(.t 27),(.t 28)]),aO 30 (.call 88 [(.t 29)]),aO 31 (.len (.t 30)),aO 32 (.mv (.v (.c (.i .i64 0))))] (.block 2 (.loop [0,3,5,6,8,18,19,20,30,31,32] lE))))) yW))
def yX:ACode:=sO [5,13,74,75,76,77] [aO 77 (.bin .lss (.t 76) (.t 75))] (.seq [5,13,74,75,76] (.cond (.t 77) .skip (.exit 4)) (.seq [5,13,74,75,76] (.block 5 (sO [5,13,15,74,75,76] [aO 78 (.iAddrL 1 (.t 74) (.t 76)),aL 79 78,aM 15 79] (.ops [aM 80 13,aM 81 15,aM 82 5,aM 83 15,aO 84 (.look none (.c (.i .i64 0)) false (.t 82) (.t 83)),aO 85 (.build ([.s [],.i .i64 0]) [(0,1,(.t 81)),(1,1,(.t 84))]),aO 86 (.buildSl 2 1 (([.s [],.i .i64 0])) [(0,2,(.t 85))]),aO 87 (.app 2 (.t 80) (.t 86)),aM 13 87]))) (.ops [aO 88 (.bin .add (.t 76) (.v (.c (.i .i64 1)))),aM 76 88])))
def yY:ACode:=sO [4] [aM 89 13,aM 4 89] .ret
def yV:ACode:=sO [5,6,13] [aO 13 (.nilrow 2)] (.seq [13] (sO [5,13,74,75,76] [aM 73 6,aO 74 (.call 86 [(.t 73)]),aO 75 (.len (.t 74)),aO 76 (.mv (.v (.c (.i .i64 0))))] (.block 4 (.loop [5,13,74,75,76] yX))) yY)
def Y8:AFn:=⟨sO [0,3] [aB 3 1,aO 4 (.nilrow 2)] (sO [0,3,5] [aO 16 (.mkMap),aM 5 16] (sO [0,3,5,6] [aO 6 (.nilrow 1)] (.seq [5,6] (sO [0,3,5,6,18,19,20] [aL' 17 33 3,aO 18 (.call 162 [(.t 17)]),aO 19 (.len (.t 18)),aO 20 (.mv (.v (.c (.i .i64 0))))] (.block 0 (.loop [0,3,5,6,18,19,20] lD))) yV))),[.tmp 4]⟩
def G8:E2:=D6 162 N9 (D6 71 D5 (D6 88 X5 (D6 233 P8 (D6 86 wM E6))))
def B0m (n:Nat):KV:=kQ G8 n yV [5,6] Y8.fin
def zA (n:Nat):KV:=F6 0 (B0m n)
def M6 (n m:Nat) (x0 x3 x5 x6 x18 x19 x20:Val):AtH:=ar G8 n lD [0,3,5,6,18,19,20] (zA n) m [x0,x3,x5,x6,x18,x19,x20]
def dR:=rx G8 Y8
def B0n (n m:Nat):KV:=kL G8 n lD [0,3,5,6,18,19,20] (zA n) m
def B0o (n m:Nat):KV:=kQ G8 n yW [0,3,5,6,18,19,20] (B0n n m)
def B0p (n m:Nat):KV:=F6 1 (B0o n m)
def zB (n m:Nat):KV:=F6 2 (B0p n m)
def M7 (n m m2:Nat) (x0 x3 x5 x6 x8 x18 x19 x20 x30 x31 x32:Val):AtH:=ar G8 n lE [0,3,5,6,8,18,19,20,30,31,32] (zB n m) m2 [x0,x3,x5,x6,x8,x18,x19,x20,x30,x31,x32]
def B0q (n:Nat):KV:=kQ G8 n yY [13] Y8.fin
def B0r (n:Nat):KV:=F6 4 (B0q n)
def cH (n m:Nat) (x5 kN x74 x75 x76:Val):AtH:=ar G8 n yX [5,13,74,75,76] (B0r n) m [x5,kN,x74,x75,x76]
def B0s (n m m2:Nat):KV:=kL G8 n lE [0,3,5,6,8,18,19,20,30,31,32] (zB n m) m2
def lF (n m m2:Nat) (x0 x3 x5 x6 x8 x18 x19 x20 x30 x31 x32:Val):AtH:=aj G8 n yZ (B0s n m m2) [0,3,5,6,8,18,19,20,30,31,32] [x0,x3,x5,x6,x8,x18,x19,x20,x30,x31,x32]
theorem A7h (n:Nat) (a0 a1:Val) (h:A4):dR n [a0,a1] h=bnd (cells? a1) fun c1=>bnd (A8 ((((h++[some (Row.mk (c1) true)])++[some (Row.mk ([]) true)])++[some (J3 [])])++[some (Row.mk ([]) true)]) 33 (.c (.p h.length 0))) fun v2=>bnd (N9 [v2] ((((h++[some (Row.mk (c1) true)])++[some (Row.mk ([]) true)])++[some (J3 [])])++[some (Row.mk ([]) true)])) fun p3=>bnd (O0 p3.1) fun v4=>M6 n n a0 (.c (.p h.length 0)) (.c (.m ((h++[some (Row.mk (c1) true)])++[some (Row.mk ([]) true)]).length)) (.c (.sl (((h++[some (Row.mk (c1) true)])++[some (Row.mk ([]) true)])++[some (J3 [])]).length 0 0 1)) p3.1 v4 (.c (.i .i64 0)) p3.2:=by kernel_rfl
theorem rD (n m:Nat) (x0 x3 x5 x6 x18 x19 x20:Val) (h:A4):M6 n (m+1) x0 x3 x5 x6 x18 x19 x20 h=bnd (B5 .lss x20 x19) fun v5=>cnd v5 (bnd (C4 1 x18 x20) fun v6=>bnd (A7 h v6) fun v7=>bnd (I5 x0) fun v8=>bnd (A9 v8 0) fun v9=>bnd (A8 h 4 v9) fun T6=>bnd (D5 [T6,v7] h) fun p11=>bnd (X5 [p11.1] p11.2) fun p12=>bnd (O0 p12.1) fun v13=>M7 n m n x0 x3 x5 x6 v7 x18 x19 x20 p12.1 v13 (.c (.i .i64 0)) p12.2) (bnd (wM [x6] (h++[some (Row.mk ([]) true)])) fun dG=>bnd (O0 dG.1) fun dE=>cH n n x5 (.c (.sl h.length 0 0 2)) dG.1 dE (.c (.i .i64 0)) dG.2):=by kernel_rfl
theorem dZ (n m m2:Nat) (x0 x3 x5 x6 x8 x18 x19 x20 x30 x31 x32:Val) (h:A4):M7 n m (m2+1) x0 x3 x5 x6 x8 x18 x19 x20 x30 x31 x32 h=bnd (B5 .lss x32 x31) fun T7=>cnd T7 (bnd (C4 3 x30 x32) fun W3=>bnd (A8 h 3 W3) fun dN=>bnd (B4 (h++[some (Row.mk ([.i .i64 0,.s [],.i .i64 0]) true)]) 3 (.c (.p h.length 0)) dN) fun h19=>bnd (A8 h19 33 x3) fun jN=>bnd (A9 (.c (.p h.length 0)) 1) fun v21=>bnd (A9 v21 0) fun v22=>bnd (A7 h19 v22) fun v23=>bnd (P8 [x0,jN,v23] h19) fun fU=>bnd (H0 fU.1 0) fun v25=>bnd (H0 fU.1 1) fun v26=>bnd (B4 (fU.2++[some (Row.mk ([.i .i64 0,.i .i64 0,.s [],.i .i64 0]) true)]) 4 (.c (.p fU.2.length 0)) v25) fun h27=>bnd (gd v26 true (bnd (A9 (.c (.p fU.2.length 0)) 0) fun v28=>some (v28,h27)) (some (.no,h27))) fun p29=>bnd (gd v26 true (bnd (A7 p29.2 p29.1) fun v30=>some (v30,p29.2)) (some (.no,p29.2))) fun p31=>bnd (gd v26 true (some (x8,p31.2)) (some (.no,p31.2))) fun p32=>bnd (gd v26 true (bnd (B5 .eql p31.1 p32.1) fun v33=>some (v33,p32.2)) (some (.no,p32.2))) fun p34=>bnd (F0 v26 p34.1 (.c (.b false))) fun v35=>bnd (gd v35 true (bnd (A9 (.c (.p fU.2.length 0)) 1) fun v36=>some (v36,p34.2)) (some (.no,p34.2))) fun p37=>bnd (gd v35 true (bnd (A8 p37.2 3 p37.1) fun v38=>some (v38,p37.2)) (some (.no,p37.2))) fun p39=>bnd (gd v35 true (bnd (A8 p39.2 3 (.c (.p h.length 0))) fun v40=>some (v40,p39.2)) (some (.no,p39.2))) fun p41=>bnd (gd v35 true (bnd (aeq false ([.i .i64,.s,.i .i64]) p39.1 p41.1) fun v42=>some (v42,p41.2)) (some (.no,p41.2))) fun p43=>bnd (F0 v35 p43.1 (.c (.b false))) fun v44=>cnd v44 (bnd (A9 (.c (.p h.length 0)) 1) fun v45=>bnd (A9 v45 0) fun v46=>bnd (A7 p43.2 v46) fun v47=>bnd (A9 (.c (.p h.length 0)) 1) fun v48=>bnd (A9 v48 1) fun v49=>bnd (A7 p43.2 v49) fun v50=>bnd (sM p43.2 none x5 v47 v50) fun h51=>bnd (A9 (.c (.p h.length 0)) 1) fun v52=>bnd (A9 v52 0) fun v53=>bnd (A7 h51 v53) fun v54=>bnd (C7 ([.s []]) [(0,1,v54)]) fun c55=>bnd (W7 (h51++[some (Row.mk (c55) true)]) 1 x6 (.c (.sl h51.length 0 1 1))) fun p56=>lF n m m2 x0 x3 x5 p56.1 x8 x18 x19 x20 x30 x31 x32 p56.2) (lF n m m2 x0 x3 x5 x6 x8 x18 x19 x20 x30 x31 x32 p43.2)) (bnd (B5 .add x20 (.c (.i .i64 1))) fun v57=>M6 n m x0 x3 x5 x6 x18 x19 v57 h):=by kernel_rfl
theorem rE (n m:Nat) (x5 kN x74 x75 x76:Val) (h:A4):cH n (m+1) x5 kN x74 x75 x76 h=bnd (B5 .lss x76 x75) fun v58=>cnd v58 (bnd (C4 1 x74 x76) fun v59=>bnd (A7 h v59) fun v60=>bnd (oH h none (.c (.i .i64 0)) false x5 v60) fun v61=>bnd (C7 ([.s [],.i .i64 0]) [(0,1,v60),(1,1,v61)]) fun c62=>bnd (C7 (([.s [],.i .i64 0])) [(0,2,(.a c62))]) fun c63=>bnd (W7 (h++[some (Row.mk (c63) true)]) 2 kN (.c (.sl h.length 0 1 2))) fun p64=>bnd (B5 .add x76 (.c (.i .i64 1))) fun v65=>cH n m x5 p64.1 x74 x75 v65 p64.2) (some (kN,h)):=by kernel_rfl
theorem X1 (n m m2:Nat) (x0 x3 x5 x6 x8 x18 x19 x20 x30 x31 x32:Val) (h:A4):lF n m m2 x0 x3 x5 x6 x8 x18 x19 x20 x30 x31 x32 h=bnd (B5 .add x32 (.c (.i .i64 1))) fun v66=>M7 n m m2 x0 x3 x5 x6 x8 x18 x19 x20 x30 x31 v66 h:=by kernel_rfl
theorem A0Z:FnK Tryz.prog 178 Y8 G8 dR:=.mk2 (B8 nY (B8 G5 (B8 A4m (B8 wF (B8 B9F C9))))) Tryz.func178 (by kernel_rfl)
def R3:=tl Y8 G8
theorem A7k:SOk Tryz.prog 178 R3:=A0Z.sok
theorem A5I:B5h dR R3:=A0Z.out
def A1u:ACode:=sO [6] [aO 6 (.mv (.v (.c (.b true))))] .ret
def fV:AFn:=⟨sO [0,1,2] [aO 6 (.mv (.v (.c (.b false))))] (sO [0,1,2,7] [aM 10 0,aO 11 (.nilc (.t 10)),aF 12 11 0,aL' 13 4 12,aM 14 2,aO 15 (.call 19 [(.t 13),(.t 14)]),aO 16 (.fld1 (.t 15) 0),aM 7 16] (sO [0,1,2,7,9] [aM 18 0,aO 19 (.nilc (.t 18)),aF 20 19 11,aL 21 20,aM 22 2,aO 23 (.look (some .i64) (.c (.i .i64 0)) true (.t 21) (.t 22)),aM 17 23,aE 24 17 0,aE 25 17 1,aM 8 24,aM 9 25] (.seq [0,1,2,9] (sO [0,1,2,9,38] [aM 26 2,aO 27 (.bin .eql (.t 26) (.v (.c (.i .i64 1)))),aM 28 27,gM 29 28 false 7,aG 30 28 false (.bin .eql (.t 29) (.v (.c (.i .i64 0)))),aO 31 (.pick (.t 28) (.v (.c (.b true))) (.t 30)),aM 32 31,gM 33 32 false 7,aG 34 32 false (.bin .eql (.t 33) (.v (.c (.i .i64 2)))),gM 35 32 false 34,gM 36 35 true 9,aG 37 32 false (.pick (.t 35) (.t 36) (.v (.c (.b false)))),aO 38 (.pick (.t 32) (.v (.c (.b true))) (.t 37))] (.cond (.t 38) (sO [6] [aO 6 (.mv (.v (.c (.b false))))] .ret) .skip)) (sO [0,1,2,9] [aM 39 0,aO 40 (.nilc (.t 39)),aF 41 40 10,aL 42 41,aM 43 2,aO 44 (.look (some .i64) (.c (.i .i64 0)) false (.t 42) (.t 43)),aO 45 (.bin .add (.t 44) (.v (.c (.i .i64 1)))),aN (.mput (some .i64) (.t 42) (.t 43) (.t 45))] (.seq [] (sO [0,1,2,47] [aM 46 9,aO 47 (.un .not (.t 46))] (.cond (.t 47) (sO [0,2] [aM 48 0,aO 49 (.nilc (.t 48)),aF 50 49 11,aL 51 50,aM 52 2,aM 53 1,aN (.mput (some .i64) (.t 51) (.t 52) (.t 53))] (.ops [aM 54 0,aM 55 0,aO 56 (.nilc (.t 55)),aF 57 56 4,aF 58 57 0,aL 59 58,aM 60 2,aO 61 (.buildSl 1 1 ([.i .i64 0]) [(0,1,(.t 60))]),aO 62 (.app 1 (.t 59) (.t 61)),aO 63 (.nilc (.t 54)),aF 64 63 4,aF 65 64 0,aN (.store1 (.t 65) (.t 62))])) .skip)) A1u))))),[.tmp 6]⟩
def fX:E2:=D6 19 G1 E6
def oC (n:Nat):AtH:=aj fX n A1u fV.fin [] []
def qE:=rx fX fV
theorem aW (n:Nat) (a0 a1 a2:Val) (h:A4):qE n [a0,a1,a2] h=bnd (I5 a0) fun v1=>bnd (A9 v1 0) fun v2=>bnd (A8 h 4 v2) fun v3=>bnd (G1 [v3,a2] h) fun p4=>bnd (B9S p4.1 0) fun v5=>bnd (I5 a0) fun v6=>bnd (A9 v6 11) fun v7=>bnd (A7 p4.2 v7) fun v8=>bnd (oH p4.2 (some .i64) (.c (.i .i64 0)) true v8 a2) fun v9=>bnd (H0 v9 0) fun T6=>bnd (H0 v9 1) fun v11=>bnd (B5 .eql a2 (.c (.i .i64 1))) fun v12=>bnd (gd v12 false (some (v5,p4.2)) (some (.no,p4.2))) fun p13=>bnd (gd v12 false (bnd (B5 .eql p13.1 (.c (.i .i64 0))) fun cE=>some (cE,p13.2)) (some (.no,p13.2))) fun lU=>bnd (F0 v12 (.c (.b true)) lU.1) fun T7=>bnd (gd T7 false (some (v5,lU.2)) (some (.no,lU.2))) fun xQ=>bnd (gd T7 false (bnd (B5 .eql xQ.1 (.c (.i .i64 2))) fun dN=>some (dN,xQ.2)) (some (.no,xQ.2))) fun oY=>bnd (gd T7 false (some (oY.1,oY.2)) (some (.no,oY.2))) fun gH=>bnd (gd gH.1 true (some (v11,gH.2)) (some (.no,gH.2))) fun p21=>bnd (gd T7 false (bnd (F0 gH.1 p21.1 (.c (.b false))) fun v22=>some (v22,p21.2)) (some (.no,p21.2))) fun p23=>bnd (F0 T7 (.c (.b true)) p23.1) fun v24=>cnd v24 (some ((.c (.b false)),p23.2)) (bnd (I5 a0) fun v25=>bnd (A9 v25 10) fun v26=>bnd (A7 p23.2 v26) fun v27=>bnd (oH p23.2 (some .i64) (.c (.i .i64 0)) false v27 a2) fun v28=>bnd (B5 .add v28 (.c (.i .i64 1))) fun v29=>bnd (sM p23.2 (some .i64) v27 a2 v29) fun h30=>bnd (aun .not v11) fun v31=>cnd v31 (bnd (I5 a0) fun v32=>bnd (A9 v32 11) fun v33=>bnd (A7 h30 v33) fun v34=>bnd (sM h30 (some .i64) v34 a2 a1) fun h35=>bnd (I5 a0) fun v36=>bnd (A9 v36 4) fun v37=>bnd (A9 v37 0) fun v38=>bnd (A7 h35 v38) fun v39=>bnd (C7 ([.i .i64 0]) [(0,1,a2)]) fun c40=>bnd (W7 (h35++[some (Row.mk (c40) true)]) 1 v39 (.c (.sl h35.length 0 1 1))) fun p41=>bnd (I5 a0) fun v42=>bnd (A9 v42 4) fun v43=>bnd (A9 v43 0) fun v44=>bnd (D3 p41.2 v44 p41.1) fun h45=>oC n h45) (oC n h30)):=by kernel_rfl
theorem fQ (n:Nat) (h:A4):oC n h=some ((.c (.b true)),h):=by kernel_rfl
theorem A18:FnK Tryz.prog 179 fV fX qE:=.mk2 (B8 S7 C9) Tryz.func179 (by kernel_rfl)
def U1:=Lim fV fX
theorem A8g:SOk Tryz.prog 179 U1:=A18.ok
theorem gX:OfT qE U1:=A18.of
def sU:ACode:=.ops [aO 87 (.bin .add (.t 29) (.v (.c (.i .i64 1)))),aM 29 87]
def fM:ACode:=sO [0,2,3,5,8,9,27,28,29,30] [aO 30 (.bin .lss (.t 29) (.t 28))] (.seq [0,2,3,5,8,9,27,28,29] (.cond (.t 30) .skip (.exit 0)) (.seq [0,2,3,5,8,9,27,28,29] (.block 1 (sO [0,2,3,5,8,9,12,27,28,29] [aO 31 (.iAddrL 3 (.t 27) (.t 29)),aL' 32 3 31,aO 12 (.alloc ([.i .i64 0,.s [],.i .i64 0])),aN (.storeN 3 (.t 12) (.t 32))] (sO [0,2,3,5,8,9,12,13,14,27,28,29] [aM 34 0,aL' 35 33 5,aF 36 12 1,aF 37 36 0,aL 38 37,aO 39 (.call 233 [(.t 34),(.t 35),(.t 38)]),aM 33 39,aE 40 33 0,aE 41 33 1,aO 13 (.alloc ([.i .i64 0,.i .i64 0,.s [],.i .i64 0])),aN (.storeN 4 (.t 13) (.t 40)),aM 14 41] (.seq [0,2,3,5,8,9,12,27,28,29] (sO [0,2,3,5,8,9,12,27,28,29,66] [aM 42 14,aO 43 (.un .not (.t 42)),aM 44 43,aG 45 44 false (.fAddr (.t 13) 0),aG 46 44 false (.load1 (.t 45)),gM 47 44 false 2,aG 48 44 false (.bin .neq (.t 46) (.t 47)),aO 49 (.pick (.t 44) (.v (.c (.b true))) (.t 48)),aM 50 49,aG 51 50 false (.fAddr (.t 13) 1),aG 52 50 false (.loadN 3 (.t 51)),aG 53 50 false (.loadN 3 (.t 12)),aG 54 50 false (.eqA true ([.i .i64,.s,.i .i64]) (.t 52) (.t 53)),aO 55 (.pick (.t 50) (.v (.c (.b true))) (.t 54)),aM 56 55,gM 57 56 false 3,aG 58 56 false (.fAddr (.t 12) 1),aG 59 56 false (.fAddr (.t 58) 0),aG 60 56 false (.load1 (.t 59)),aG 61 56 false (.look none (.c (.i .i64 0)) false (.t 57) (.t 60)),aG 62 56 false (.fAddr (.t 12) 1),aG 63 56 false (.fAddr (.t 62) 1),aG 64 56 false (.load1 (.t 63)),aG 65 56 false (.bin .neq (.t 61) (.t 64)),aO 66 (.pick (.t 56) (.v (.c (.b true))) (.t 65))] (.cond (.t 66) (sO [0,2,3,5,8,9,27,28,29] [aM 67 0,aO 68 (.nilc (.t 67)),aF 69 68 4,aF 70 69 5,aL 71 70,aO 72 (.bin .add (.t 71) (.v (.c (.i .i64 1)))),aO 73 (.nilc (.t 67)),aF 74 73 4,aF 75 74 5,aN (.store1 (.t 75) (.t 72))] (.exit 1)) .skip)) (sO [0,2,3,5,8,9,15,27,28,29] [aF 77 12 0,aL 78 77,aF 79 12 1,aL' 80 2 79,aO 81 (.call 234 [(.t 78),(.t 80)]),aM 76 81,aE 82 76 0,aE 83 76 1,aO 15 (.alloc ([.i .i64 0,.ns])),aN (.storeN 2 (.t 15) (.t 82)),aM 16 83] (.ops [aL' 84 256 9,aL' 85 2 15,aO 86 (.call 191 [(.t 84),(.t 85)]),aN (.storeN 256 (.t 9) (.t 86))])))))) sU))
def sT:ACode:=sO [8] [aL' 88 256 9,aN (.storeN 256 (.t 8) (.t 88))] .ret
def aT:AFn:=⟨sO [0,2,3,5,8] [aB 5 1,aO 8 (.alloc (List.replicate 256 (.i .u8 0)))] (sO [0,2,3,5,8,9] [aO 18 (.call 139 [(.v (.c .ns))]),aM 17 18,aE 19 17 0,aE 20 17 1,aO 9 (.alloc (List.replicate 256 (.i .u8 0))),aN (.storeN 256 (.t 9) (.t 19)),aM 10 20] (.seq [8,9] (sO [0,2,3,5,8,9,27,28,29] [aM 21 0,aO 22 (.nilc (.t 21)),aF 23 22 0,aL' 24 4 23,aM 25 2,aO 26 (.call 71 [(.t 24),(.t 25)]),aO 27 (.call 88 [(.t 26)]),aO 28 (.len (.t 27)),aO 29 (.mv (.v (.c (.i .i64 0))))] (.block 0 (.loop [0,2,3,5,8,9,27,28,29] fM))) sT)),[.cellN 8 256]⟩
def L5:E2:=D6 139 qJ (D6 71 D5 (D6 88 X5 (D6 233 P8 (D6 234 qK (D6 191 iH E6)))))
def A7w (n:Nat):KV:=kQ L5 n sT [8,9] aT.fin
def sV (n:Nat):KV:=F6 0 (A7w n)
def N3 (n m:Nat) (x0 x2 x3 x5 x8 x9 x27 x28 x29:Val):AtH:=ar L5 n fM [0,2,3,5,8,9,27,28,29] (sV n) m [x0,x2,x3,x5,x8,x9,x27,x28,x29]
def gU:=rx L5 aT
def A7x (n m:Nat):KV:=kL L5 n fM [0,2,3,5,8,9,27,28,29] (sV n) m
def fN (n m:Nat) (x0 x2 x3 x5 x8 x9 x27 x28 x29:Val):AtH:=aj L5 n sU (A7x n m) [0,2,3,5,8,9,27,28,29] [x0,x2,x3,x5,x8,x9,x27,x28,x29]
theorem A4k (n:Nat) (a0 a1 a2 a3:Val) (h:A4):gU n [a0,a1,a2,a3] h=bnd (cells? a1) fun c1=>bnd (qJ [.c .ns] ((h++[some (Row.mk (c1) true)])++[some (Row.mk (List.replicate 256 (.i .u8 0)) true)])) fun p2=>bnd (H0 p2.1 0) fun v3=>bnd (H0 p2.1 1) fun v4=>bnd (B4 (p2.2++[some (Row.mk (List.replicate 256 (.i .u8 0)) true)]) 256 (.c (.p p2.2.length 0)) v3) fun h5=>bnd (I5 a0) fun v6=>bnd (A9 v6 0) fun v7=>bnd (A8 h5 4 v7) fun v8=>bnd (D5 [v8,a2] h5) fun p9=>bnd (X5 [p9.1] p9.2) fun p10=>bnd (O0 p10.1) fun v11=>N3 n n a0 a2 a3 (.c (.p h.length 0)) (.c (.p (h++[some (Row.mk (c1) true)]).length 0)) (.c (.p p2.2.length 0)) p10.1 v11 (.c (.i .i64 0)) p10.2:=by kernel_rfl
theorem cA (n m:Nat) (x0 x2 x3 x5 x8 x9 x27 x28 x29:Val) (h:A4):N3 n (m+1) x0 x2 x3 x5 x8 x9 x27 x28 x29 h=bnd (B5 .lss x29 x28) fun v12=>cnd v12 (bnd (C4 3 x27 x29) fun v13=>bnd (A8 h 3 v13) fun cE=>bnd (B4 (h++[some (Row.mk ([.i .i64 0,.s [],.i .i64 0]) true)]) 3 (.c (.p h.length 0)) cE) fun h15=>bnd (A8 h15 33 x5) fun T7=>bnd (A9 (.c (.p h.length 0)) 1) fun W3=>bnd (A9 W3 0) fun dN=>bnd (A7 h15 dN) fun dO=>bnd (P8 [x0,T7,dO] h15) fun gH=>bnd (H0 gH.1 0) fun v21=>bnd (H0 gH.1 1) fun v22=>bnd (B4 (gH.2++[some (Row.mk ([.i .i64 0,.i .i64 0,.s [],.i .i64 0]) true)]) 4 (.c (.p gH.2.length 0)) v21) fun h23=>bnd (aun .not v22) fun v24=>bnd (gd v24 false (bnd (A9 (.c (.p gH.2.length 0)) 0) fun v25=>some (v25,h23)) (some (.no,h23))) fun p26=>bnd (gd v24 false (bnd (A7 p26.2 p26.1) fun v27=>some (v27,p26.2)) (some (.no,p26.2))) fun p28=>bnd (gd v24 false (some (x2,p28.2)) (some (.no,p28.2))) fun p29=>bnd (gd v24 false (bnd (B5 .neq p28.1 p29.1) fun v30=>some (v30,p29.2)) (some (.no,p29.2))) fun p31=>bnd (F0 v24 (.c (.b true)) p31.1) fun v32=>bnd (gd v32 false (bnd (A9 (.c (.p gH.2.length 0)) 1) fun v33=>some (v33,p31.2)) (some (.no,p31.2))) fun p34=>bnd (gd v32 false (bnd (A8 p34.2 3 p34.1) fun v35=>some (v35,p34.2)) (some (.no,p34.2))) fun p36=>bnd (gd v32 false (bnd (A8 p36.2 3 (.c (.p h.length 0))) fun v37=>some (v37,p36.2)) (some (.no,p36.2))) fun p38=>bnd (gd v32 false (bnd (aeq true ([.i .i64,.s,.i .i64]) p36.1 p38.1) fun v39=>some (v39,p38.2)) (some (.no,p38.2))) fun p40=>bnd (F0 v32 (.c (.b true)) p40.1) fun v41=>bnd (gd v41 false (some (x3,p40.2)) (some (.no,p40.2))) fun p42=>bnd (gd v41 false (bnd (A9 (.c (.p h.length 0)) 1) fun v43=>some (v43,p42.2)) (some (.no,p42.2))) fun p44=>bnd (gd v41 false (bnd (A9 p44.1 0) fun v45=>some (v45,p44.2)) (some (.no,p44.2))) fun p46=>bnd (gd v41 false (bnd (A7 p46.2 p46.1) fun v47=>some (v47,p46.2)) (some (.no,p46.2))) fun p48=>bnd (gd v41 false (bnd (oH p48.2 none (.c (.i .i64 0)) false p42.1 p48.1) fun v49=>some (v49,p48.2)) (some (.no,p48.2))) fun p50=>bnd (gd v41 false (bnd (A9 (.c (.p h.length 0)) 1) fun v51=>some (v51,p50.2)) (some (.no,p50.2))) fun p52=>bnd (gd v41 false (bnd (A9 p52.1 1) fun v53=>some (v53,p52.2)) (some (.no,p52.2))) fun p54=>bnd (gd v41 false (bnd (A7 p54.2 p54.1) fun v55=>some (v55,p54.2)) (some (.no,p54.2))) fun p56=>bnd (gd v41 false (bnd (B5 .neq p50.1 p56.1) fun v57=>some (v57,p56.2)) (some (.no,p56.2))) fun p58=>bnd (F0 v41 (.c (.b true)) p58.1) fun v59=>cnd v59 (bnd (I5 x0) fun v60=>bnd (A9 v60 4) fun v61=>bnd (A9 v61 5) fun v62=>bnd (A7 p58.2 v62) fun v63=>bnd (B5 .add v63 (.c (.i .i64 1))) fun v64=>bnd (I5 x0) fun v65=>bnd (A9 v65 4) fun v66=>bnd (A9 v66 5) fun v67=>bnd (D3 p58.2 v67 v64) fun h68=>fN n m x0 x2 x3 x5 x8 x9 x27 x28 x29 h68) (bnd (A9 (.c (.p h.length 0)) 0) fun v69=>bnd (A7 p58.2 v69) fun v70=>bnd (A9 (.c (.p h.length 0)) 1) fun v71=>bnd (A8 p58.2 2 v71) fun v72=>bnd (qK [v70,v72] p58.2) fun p73=>bnd (H0 p73.1 0) fun v74=>bnd (H0 p73.1 1) fun v75=>bnd (B4 (p73.2++[some (Row.mk ([.i .i64 0,.ns]) true)]) 2 (.c (.p p73.2.length 0)) v74) fun h76=>bnd (A8 h76 256 x9) fun v77=>bnd (A8 h76 2 (.c (.p p73.2.length 0))) fun v78=>bnd (iH [v77,v78] h76) fun p79=>bnd (B4 p79.2 256 x9 p79.1) fun h80=>fN n m x0 x2 x3 x5 x8 x9 x27 x28 x29 h80)) (bnd (A8 h 256 x9) fun v81=>bnd (B4 h 256 x8 v81) fun h82=>mp (A8 h82 256 x8) fun v=>(v,h82)):=by kernel_rfl
theorem N7 (n m:Nat) (x0 x2 x3 x5 x8 x9 x27 x28 x29:Val) (h:A4):fN n m x0 x2 x3 x5 x8 x9 x27 x28 x29 h=bnd (B5 .add x29 (.c (.i .i64 1))) fun v83=>N3 n m x0 x2 x3 x5 x8 x9 x27 x28 v83 h:=by kernel_rfl
theorem wA:FnK Tryz.prog 180 aT L5 gU:=.mk2 (B8 B8c (B8 G5 (B8 A4m (B8 wF (B8 B8d (B8 A8r C9)))))) Tryz.func180 (by kernel_rfl)
def S5:=Lim aT L5
theorem A4s:SOk Tryz.prog 180 S5:=wA.ok
theorem A4r:OfT gU S5:=wA.of
def A2E:ACode:=.ops [aO 88 (.bin .add (.t 74) (.v (.c (.i .i64 1)))),aM 74 88]
def rB:ACode:=sO [0,1,4,6,8,72,73,74,75] [aO 75 (.bin .lss (.t 74) (.t 73))] (.seq [0,1,4,6,8,72,73,74] (.cond (.t 75) .skip (.exit 0)) (.seq [0,1,4,6,8,72,73,74] (.block 1 (sO [0,1,4,6,8,10,72,73,74] [aO 76 (.iAddrL 2 (.t 72) (.t 74)),aL' 77 2 76,aO 10 (.alloc ([.s [],.i .i64 0])),aN (.storeN 2 (.t 10) (.t 77))] (sO [0,1,4,6,8,10,72,73,74,82] [aM 78 0,aM 79 1,aF 80 10 1,aL 81 80,aO 82 (.call 179 [(.t 78),(.t 79),(.t 81)])] (.cond (.t 82) (.ops [aM 83 8,aF 84 10 0,aL 85 84,aF 86 10 1,aL 87 86,aN (.mput none (.t 83) (.t 85) (.t 87))]) .skip)))) A2E))
def A2F:ACode:=sO [0,6,8,101,102,103,104] [aO 104 (.bin .lss (.t 103) (.t 102))] (.seq [0,6,8,101,102,103] (.cond (.t 104) .skip (.exit 2)) (.seq [0,6,8,101,102,103] (.block 3 (sO [0,6,8,14,101,102,103] [aO 105 (.iAddrL 1 (.t 101) (.t 103)),aL 106 105,aM 14 106] (.ops [aM 107 0,aM 108 14,aM 109 0,aL' 110 33 6,aM 111 14,aM 112 8,aO 113 (.call 180 [(.t 109),(.t 110),(.t 111),(.t 112)]),aO 114 (.call 174 [(.t 107),(.t 108),(.t 113)])]))) (.ops [aO 115 (.bin .add (.t 103) (.v (.c (.i .i64 1)))),aM 103 115])))
def A2D:ACode:=sO [0,4,6,8,11] [aL' 90 33 6,aO 91 (.call 138 [(.t 90)]),aM 89 91,aE 92 89 0,aE 93 89 1,aO 11 (.alloc (List.replicate 256 (.i .u8 0))),aN (.storeN 256 (.t 11) (.t 92)),aM 12 93] (sO [0,6,8] [aM 94 0,aF 95 4 4,aO 96 (.iAddrA 6 1 (.t 95) (.v (.c (.i .i64 0)))),aL 97 96,aL' 98 256 11,aO 99 (.call 174 [(.t 94),(.t 97),(.t 98)])] (sO [0,6,8,101,102,103] [aL' 100 33 6,aO 101 (.call 162 [(.t 100)]),aO 102 (.len (.t 101)),aO 103 (.mv (.v (.c (.i .i64 0))))] (.block 2 (.loop [0,6,8,101,102,103] A2F))))
def A2C:ACode:=.seq [0,1,4,6] (.draw 0 [aM 54 0,aO 55 (.nilc (.t 54)),aF 56 55 4,aF 57 56 1,aL 58 57,aM 59 1,aL' 60 11 4] [aO 61 (.iAddrL 11 (.t 58) (.t 59)),aN (.storeN 11 (.t 61) (.t 60))]) (.seq [0,1,4,6] (sO [0,1,4,6,65] [aF 62 4 4,aO 63 (.iAddrA 6 1 (.t 62) (.v (.c (.i .i64 0)))),aL 64 63,aO 65 (.bin .eql (.t 64) (.v (.c (.i .i64 0))))] (.cond (.t 65) .ret .skip)) (sO [0,1,4,6] [aM 66 0,aL' 67 33 6,aO 68 (.call 177 [(.t 66),(.t 67)]),aN (.storeN 33 (.t 6) (.t 68))] (sO [0,1,4,6,8] [aO 69 (.mkMap),aM 8 69] (.seq [0,4,6,8] (sO [0,1,4,6,8,72,73,74] [aM 70 0,aL' 71 33 6,aO 72 (.call 178 [(.t 70),(.t 71)]),aO 73 (.len (.t 72)),aO 74 (.mv (.v (.c (.i .i64 0))))] (.block 0 (.loop [0,1,4,6,8,72,73,74] rB))) A2D))))
def Y3:AFn:=⟨sO [0,1,4] [aM 15 0,aO 16 (.nilc (.t 15)),aF 17 16 11,aL 18 17,aM 19 1,aO 20 (.look (some .i64) (.c (.i .i64 0)) false (.t 18) (.t 19)),aO 21 (.build ([.i .i64 0,.i .i64 0,.i .i64 0,.i .i64 0,.i .i64 0,.i .i64 0,.i .i64 0,.i .i64 0,.i .i64 0,.i .i64 0,.i .i64 0]) [(0,1,(.v (.c (.i .i64 2)))),(1,1,(.v (.c (.i .i64 1)))),(3,1,(.t 20))]),aO 4 (.alloc ([.i .i64 0,.i .i64 0,.i .i64 0,.i .i64 0,.i .i64 0,.i .i64 0,.i .i64 0,.i .i64 0,.i .i64 0,.i .i64 0,.i .i64 0])),aN (.storeN 11 (.t 4) (.t 21))] (sO [0,1,4,5] [aM 22 0,aO 23 (.nilc (.t 22)),aF 24 23 0,aL' 25 4 24,aM 26 1,aO 27 (.call 19 [(.t 25),(.t 26)]),aO 5 (.alloc ([.i .i64 0,.i .i64 0,.i .i64 0,.i .i64 0,.i .i64 0,.i .i64 0,.i .i64 0,.i .i64 0,.i .i64 0,.i .i64 0,.i .i64 0])),aN (.storeN 11 (.t 5) (.t 27))] (.seq [0,1,4,5,6,7] (.drawS 1 [aM 29 0,aO 30 (.nilc (.t 29)),aF 31 30 0,aL' 32 4 31,aF 33 5 4,aO 34 (.iAddrA 6 1 (.t 33) (.v (.c (.i .i64 0)))),aL 35 34,aO 36 (.call 71 [(.t 32),(.t 35)]),aO 37 (.call 154 [(.t 36)]),aM 28 37,aE 38 28 0,aE 39 28 1,aS 6 0 (.alloc ([.i .i64 0]++List.replicate 32 (.i .i64 0)))] (aN (.storeN 33 (.t 6) (.t 38))) [] [aM 7 39]) (.seq [0,1,4,6] (sO [0,1,4,5,6,46] [aF 40 5 0,aL 41 40,aO 42 (.bin .eql (.t 41) (.v (.c (.i .i64 2)))),aM 43 42,gM 44 43 true 7,aG 45 43 true (.bin .eql (.t 44) (.v (.c (.i .i64 0)))),aO 46 (.pick (.t 43) (.t 45) (.v (.c (.b false))))] (.cond (.t 46) (.ops [aM 47 0,aF 48 5 4,aO 49 (.iAddrA 6 1 (.t 48) (.v (.c (.i .i64 0)))),aL 50 49,aO 51 (.call 173 [(.t 47),(.t 50)]),aF 52 4 4,aO 53 (.iAddrA 6 1 (.t 52) (.v (.c (.i .i64 0)))),aN (.store1 (.t 53) (.t 51))]) .skip)) A2C))),[]⟩
def M0:E2:=D6 19 G1 (D6 71 D5 (D6 154 wI (D6 173 G7 (D6 177 O7 (D6 178 R3 (D6 179 U1 (D6 138 gZ (D6 174 N0 (D6 162 N9 (D6 180 S5 E6))))))))))
def U5 (n:Nat) (x0 x1 x4 x6:Val):AtH:=aj M0 n A2C Y3.fin [0,1,4,6] [x0,x1,x4,x6]
def tL:=rx M0 Y3
def B3U (n:Nat):KV:=kQ M0 n A2D [0,4,6,8] Y3.fin
def A2G (n:Nat):KV:=F6 0 (B3U n)
def U6 (n m:Nat) (x0 x1 x4 x6 x8 x72 x73 x74:Val):AtH:=ar M0 n rB [0,1,4,6,8,72,73,74] (A2G n) m [x0,x1,x4,x6,x8,x72,x73,x74]
def B3V (n m:Nat):KV:=kL M0 n rB [0,1,4,6,8,72,73,74] (A2G n) m
def rC (n m:Nat) (x0 x1 x4 x6 x8 x72 x73 x74:Val):AtH:=aj M0 n A2E (B3V n m) [0,1,4,6,8,72,73,74] [x0,x1,x4,x6,x8,x72,x73,x74]
def B3W (n:Nat):KV:=F6 2 Y3.fin
def gD (n m:Nat) (x0 x6 x8 D2A D2B D0p:Val):AtH:=ar M0 n A2F [0,6,8,101,102,103] (B3W n) m [x0,x6,x8,D2A,D2B,D0p]
theorem A95 (n:Nat) (a0 a1:Val) (h:A4):tL n [a0,a1] h=bnd (I5 a0) fun v1=>bnd (A9 v1 11) fun v2=>bnd (A7 h v2) fun v3=>bnd (oH h (some .i64) (.c (.i .i64 0)) false v3 a1) fun v4=>bnd (C7 ([.i .i64 0,.i .i64 0,.i .i64 0,.i .i64 0,.i .i64 0,.i .i64 0,.i .i64 0,.i .i64 0,.i .i64 0,.i .i64 0,.i .i64 0]) [(0,1,.c (.i .i64 2)),(1,1,.c (.i .i64 1)),(3,1,v4)]) fun c5=>bnd (B4 (h++[some (Row.mk ([.i .i64 0,.i .i64 0,.i .i64 0,.i .i64 0,.i .i64 0,.i .i64 0,.i .i64 0,.i .i64 0,.i .i64 0,.i .i64 0,.i .i64 0]) true)]) 11 (.c (.p h.length 0)) (.a c5)) fun h6=>bnd (I5 a0) fun v7=>bnd (A9 v7 0) fun v8=>bnd (A8 h6 4 v8) fun v9=>bnd (G1 [v9,a1] h6) fun p10=>bnd (B4 (p10.2++[some (Row.mk ([.i .i64 0,.i .i64 0,.i .i64 0,.i .i64 0,.i .i64 0,.i .i64 0,.i .i64 0,.i .i64 0,.i .i64 0,.i .i64 0,.i .i64 0]) true)]) 11 (.c (.p p10.2.length 0)) p10.1) fun h11=>bnd (I5 a0) fun v12=>bnd (A9 v12 0) fun v13=>bnd (A8 h11 4 v13) fun cE=>bnd (A9 (.c (.p p10.2.length 0)) 4) fun dE=>bnd (D8 6 1 dE (.c (.i .i64 0))) fun T7=>bnd (A7 h11 T7) fun W3=>bnd (quiet (h11++[none]) (D5 [cE,W3] (h11++[none]))) fun pB=>bnd (quiet pB.2 (wI [pB.1] pB.2)) fun oY=>bnd (H0 oY.1 0) fun jN=>bnd (H0 oY.1 1) fun v21=>bnd (B4 (oY.2.set (h11.length+0) (some (Row.mk ([.i .i64 0]++List.replicate 32 (.i .i64 0)) true))) 33 (.c (.p (h11.length+0) 0)) jN) fun h22=>bnd (A9 (.c (.p p10.2.length 0)) 0) fun v23=>bnd (A7 h22 v23) fun v24=>bnd (B5 .eql v24 (.c (.i .i64 2))) fun v25=>bnd (gd v25 true (some (v21,h22)) (some (.no,h22))) fun p26=>bnd (gd v25 true (bnd (B5 .eql p26.1 (.c (.i .i64 0))) fun v27=>some (v27,p26.2)) (some (.no,p26.2))) fun p28=>bnd (F0 v25 p28.1 (.c (.b false))) fun v29=>cnd v29 (bnd (A9 (.c (.p p10.2.length 0)) 4) fun v30=>bnd (D8 6 1 v30 (.c (.i .i64 0))) fun v31=>bnd (A7 p28.2 v31) fun v32=>bnd (G7 [a0,v32] p28.2) fun p33=>bnd (A9 (.c (.p h.length 0)) 4) fun v34=>bnd (D8 6 1 v34 (.c (.i .i64 0))) fun v35=>bnd (D3 p33.2 v35 p33.1) fun h36=>U5 n a0 a1 (.c (.p h.length 0)) (.c (.p (h11.length+0) 0)) h36) (U5 n a0 a1 (.c (.p h.length 0)) (.c (.p (h11.length+0) 0)) p28.2):=by kernel_rfl
theorem A8W (n:Nat) (x0 x1 x4 x6:Val) (h:A4):U5 n x0 x1 x4 x6 h=bnd (I5 x0) fun v37=>bnd (A9 v37 4) fun v38=>bnd (A9 v38 1) fun v39=>bnd (A7 h v39) fun v40=>bnd (A8 h 11 x4) fun v41=>bnd (C4 11 v40 x1) fun v42=>bnd (B4 (h++[]) 11 v42 v41) fun h43=>bnd (A9 x4 4) fun v44=>bnd (D8 6 1 v44 (.c (.i .i64 0))) fun v45=>bnd (A7 h43 v45) fun v46=>bnd (B5 .eql v46 (.c (.i .i64 0))) fun v47=>cnd v47 (I6 [] h43) (bnd (A8 h43 33 x6) fun v48=>bnd (O7 [x0,v48] h43) fun p49=>bnd (B4 p49.2 33 x6 p49.1) fun h50=>bnd (A8 (h50++[some (J3 [])]) 33 x6) fun v51=>bnd (R3 [x0,v51] (h50++[some (J3 [])])) fun p52=>bnd (O0 p52.1) fun v53=>U6 n n x0 x1 x4 x6 (.c (.m h50.length)) p52.1 v53 (.c (.i .i64 0)) p52.2):=by kernel_rfl
theorem iT (n m:Nat) (x0 x1 x4 x6 x8 x72 x73 x74:Val) (h:A4):U6 n (m+1) x0 x1 x4 x6 x8 x72 x73 x74 h=bnd (B5 .lss x74 x73) fun v54=>cnd v54 (bnd (C4 2 x72 x74) fun v55=>bnd (A8 h 2 v55) fun v56=>bnd (B4 (h++[some (Row.mk ([.s [],.i .i64 0]) true)]) 2 (.c (.p h.length 0)) v56) fun h57=>bnd (A9 (.c (.p h.length 0)) 1) fun v58=>bnd (A7 h57 v58) fun v59=>bnd (U1 [x0,x1,v59] h57) fun p60=>cnd p60.1 (bnd (A9 (.c (.p h.length 0)) 0) fun v61=>bnd (A7 p60.2 v61) fun v62=>bnd (A9 (.c (.p h.length 0)) 1) fun v63=>bnd (A7 p60.2 v63) fun v64=>bnd (sM p60.2 none x8 v62 v64) fun h65=>rC n m x0 x1 x4 x6 x8 x72 x73 x74 h65) (rC n m x0 x1 x4 x6 x8 x72 x73 x74 p60.2)) (bnd (A8 h 33 x6) fun v66=>bnd (gZ [v66] h) fun p67=>bnd (H0 p67.1 0) fun v68=>bnd (H0 p67.1 1) fun v69=>bnd (B4 (p67.2++[some (Row.mk (List.replicate 256 (.i .u8 0)) true)]) 256 (.c (.p p67.2.length 0)) v68) fun h70=>bnd (A9 x4 4) fun v71=>bnd (D8 6 1 v71 (.c (.i .i64 0))) fun v72=>bnd (A7 h70 v72) fun v73=>bnd (A8 h70 256 (.c (.p p67.2.length 0))) fun v74=>bnd (N0 [x0,v73,v74] h70) fun p75=>bnd (A8 p75.2 33 x6) fun v76=>bnd (N9 [v76] p75.2) fun p77=>bnd (O0 p77.1) fun v78=>gD n n x0 x6 x8 p77.1 v78 (.c (.i .i64 0)) p77.2):=by kernel_rfl
theorem wV (n m:Nat) (x0 x1 x4 x6 x8 x72 x73 x74:Val) (h:A4):rC n m x0 x1 x4 x6 x8 x72 x73 x74 h=bnd (B5 .add x74 (.c (.i .i64 1))) fun v79=>U6 n m x0 x1 x4 x6 x8 x72 x73 v79 h:=by kernel_rfl
theorem wW (n m:Nat) (x0 x6 x8 D2A D2B D0p:Val) (h:A4):gD n (m+1) x0 x6 x8 D2A D2B D0p h=bnd (B5 .lss D0p D2B) fun v80=>cnd v80 (bnd (C4 1 D2A D0p) fun v81=>bnd (A7 h v81) fun v82=>bnd (A8 h 33 x6) fun v83=>bnd (S5 [x0,v83,v82,x8] h) fun p84=>bnd (N0 [x0,v82,p84.1] p84.2) fun p85=>bnd (B5 .add D0p (.c (.i .i64 1))) fun v86=>gD n m x0 x6 x8 D2A D2B v86 p85.2) (I6 [] h):=by kernel_rfl
theorem A4e:FnK Tryz.prog 107 Y3 M0 tL:=.mk2 (B8 S7 (B8 G5 (B8 B9B (B8 aY (B8 A4q (B8 A7k (B8 A8g (B8 A8m (B8 wG (B8 nY (B8 A4s C9))))))))))) Tryz.func107 (by kernel_rfl)
def Y4:=Lim Y3 M0
theorem B0b:SOk Tryz.prog 107 Y4:=A4e.ok
theorem B0a:OfT tL Y4:=A4e.of
def B7k:ACode:=sO [1,2,3,37,38,39,40] [aO 40 (.bin .lss (.t 39) (.t 38))] (.seq [1,2,3,37,38,39] (.cond (.t 40) .skip (.exit 0)) (.seq [1,2,3,37,38,39] (.block 1 (sO [1,2,3,5,37,38,39] [aO 41 (.iAddrL 1 (.t 37) (.t 39)),aL 42 41,aM 5 42] (.ops [aM 43 3,aO 44 (.nilc (.t 43)),aF 45 44 4,aF 46 45 2,aL 47 46,aM 48 5,aO 49 (.iAddrL 1 (.t 47) (.t 48)),aN (.store1 (.t 49) (.v (.c (.b true))))]))) (.ops [aO 50 (.bin .add (.t 39) (.v (.c (.i .i64 1)))),aM 39 50])))
def B7n:ACode:=.ops [aM 59 6,aO 60 (.bin .add (.t 59) (.v (.c (.i .i64 1)))),aM 6 60]
def A8O:ACode:=.seq [1,2,3,6] (sO [1,2,3,6,58] [aM 51 6,aM 52 3,aO 53 (.nilc (.t 52)),aF 54 53 4,aF 55 54 0,aL 56 55,aO 57 (.len (.t 56)),aO 58 (.bin .lss (.t 51) (.t 57))] (.cond (.t 58) .skip (.exit 2))) (.seq [1,2,3,6] (.block 3 (sO [1,2,3,6,7] [aM 61 3,aO 62 (.nilc (.t 61)),aF 63 62 4,aF 64 63 0,aL 65 64,aM 66 6,aO 67 (.iAddrL 1 (.t 65) (.t 66)),aL 68 67,aM 7 68] (sO [1,2,3,6,7,77] [aM 69 7,aO 70 (.bin .neq (.t 69) (.v (.c (.i .i64 1)))),aM 71 70,aG 72 71 true (.loadN 4 (.t 1)),gM 73 71 true 7,aG 74 71 true (.call 19 [(.t 72),(.t 73)]),aG 75 71 true (.fld1 (.t 74) 0),aG 76 71 true (.bin .eql (.t 75) (.v (.c (.i .i64 1)))),aO 77 (.pick (.t 71) (.t 76) (.v (.c (.b false))))] (.cond (.t 77) (.ops [aM 78 3,aM 79 7,aO 80 (.call 106 [(.t 78),(.t 79)])]) (.ops [aM 81 3,aM 82 7,aO 83 (.call 107 [(.t 81),(.t 82)])]))))) B7n)
def B7p:ACode:=.ops [aO 118 (.bin .add (.t 90) (.v (.c (.i .i64 1)))),aM 90 118]
def A8P:ACode:=sO [2,3,88,89,90,91] [aO 91 (.bin .lss (.t 90) (.t 89))] (.seq [2,3,88,89,90] (.cond (.t 91) .skip (.exit 4)) (.seq [2,3,88,89,90] (.block 5 (sO [2,3,9,88,89,90] [aO 92 (.iAddrL 1 (.t 88) (.t 90)),aL 93 92,aM 9 93] (sO [2,3,9,88,89,90,103] [aM 94 3,aO 95 (.nilc (.t 94)),aF 96 95 4,aF 97 96 1,aL 98 97,aM 99 9,aO 100 (.iAddrL 11 (.t 98) (.t 99)),aF 101 100 0,aL 102 101,aO 103 (.bin .eql (.t 102) (.v (.c (.i .i64 1))))] (.cond (.t 103) (.draw 0 [aM 104 3,aO 105 (.nilc (.t 104)),aF 106 105 4,aF 107 106 1,aL 108 107,aM 109 9,aM 110 3,aO 111 (.nilc (.t 110)),aF 112 111 10,aL 113 112,aM 114 9,aO 115 (.look (some .i64) (.c (.i .i64 0)) false (.t 113) (.t 114))] [aO 116 (.iAddrL 11 (.t 108) (.t 109)),aF 117 116 1,aN (.store1 (.t 117) (.t 115))]) .skip)))) B7p))
def B7o:ACode:=sO [2] [aM 119 3,aO 120 (.nilc (.t 119)),aF 121 120 4,aL' 122 6 121,aN (.storeN 6 (.t 2) (.t 122))] .ret
def B7m:ACode:=.seq [2,3] (sO [2,3,88,89,90] [aM 84 3,aO 85 (.nilc (.t 84)),aF 86 85 4,aF 87 86 0,aL 88 87,aO 89 (.len (.t 88)),aO 90 (.mv (.v (.c (.i .i64 0))))] (.block 4 (.loop [2,3,88,89,90] A8P))) B7o
def B7l:ACode:=.seq [2,3] (sO [1,2,3,6] [aO 6 (.mv (.v (.c (.i .i64 0))))] (.block 2 (.loop [1,2,3,6] A8O))) B7m
def tD:AFn:=⟨sO [1,2] [aB 1 0,aO 2 (.alloc ([.ns,.ns,.ns,.ns,.ns,.i .i64 0]))] (.seq [1,2] (sO [1,2,13] [aF 10 1 0,aL' 11 3 10,aO 12 (.call 104 [(.t 11)]),aO 13 (.bin .neq (.t 12) (.v (.c (.i .i64 0))))] (.cond (.t 13) (sO [2] [aO 14 (.build ([.ns,.ns,.ns,.ns,.ns,.i .i64 0]) []),aN (.storeN 6 (.t 2) (.t 14))] .ret) .skip)) (sO [1,2,3] [aL' 15 4 1,aO 16 (.mkMap),aO 17 (.mkMap),aN (.mput (some .i64) (.t 17) (.v (.c (.i .i64 1))) (.v (.c (.i .i64 1)))),aM 18 17,aO 19 (.build ([.i .i64 0,.i .i64 0,.i .u64 0,.nf,.ns,.ns,.ns,.ns,.ns,.i .i64 0,.nm,.nm]) [(0,4,(.t 15)),(10,1,(.t 16)),(11,1,(.t 18))]),aB 20 19,aM 3 20] (.seq [1,2,3] (.draw 3 [aM 21 3,aS 22 0 (.buildSl 1 1 ([.i .i64 0]) [(0,1,(.v (.c (.i .i64 1))))]),aF 23 1 0,aF 24 23 1,aL 25 24,aO 26 (.bin .add (.t 25) (.v (.c (.i .i64 1)))),aS 27 1 (.mkSl 11 ([.i .i64 0,.i .i64 0,.i .i64 0,.i .i64 0,.i .i64 0,.i .i64 0,.i .i64 0,.i .i64 0,.i .i64 0,.i .i64 0,.i .i64 0]) (.t 26) (.t 26)),aF 28 1 0,aF 29 28 0,aL 30 29,aS 31 2 (.mkSl 1 ([.b false]) (.t 30) (.t 30)),aO 32 (.build ([.ns,.ns,.ns,.ns,.ns,.i .i64 0]) [(0,1,(.t 22)),(1,1,(.t 27)),(2,1,(.t 31))])] [aO 33 (.nilc (.t 21)),aF 34 33 4,aN (.storeN 6 (.t 34) (.t 32))]) (.seq [1,2,3] (sO [1,2,3,37,38,39] [aF 35 1 0,aL' 36 3 35,aO 37 (.call 105 [(.t 36)]),aO 38 (.len (.t 37)),aO 39 (.mv (.v (.c (.i .i64 0))))] (.block 0 (.loop [1,2,3,37,38,39] B7k))) B7l)))),[.cellN 2 6]⟩
def R2:E2:=D6 104 K0 (D6 105 nX (D6 19 G1 (D6 106 U0 (D6 107 Y4 E6))))
def C5I (n:Nat):KV:=kQ R2 n B7l [1,2,3] tD.fin
def C5J (n:Nat):KV:=F6 0 (C5I n)
def A2B (n m:Nat) (x1 x2 x3 x37 x38 x39:Val):AtH:=ar R2 n B7k [1,2,3,37,38,39] (C5J n) m [x1,x2,x3,x37,x38,x39]
def A5y:=rx R2 tD
def C5K (n:Nat):KV:=kQ R2 n B7m [2,3] tD.fin
def B7r (n:Nat):KV:=F6 2 (C5K n)
def dK (n m:Nat) (x1 x2 x3 x6:Val):AtH:=ar R2 n A8O [1,2,3,6] (B7r n) m [x1,x2,x3,x6]
def C5L (n m:Nat):KV:=kL R2 n A8O [1,2,3,6] (B7r n) m
def A8Q (n m:Nat) (x1 x2 x3 x6:Val):AtH:=aj R2 n B7n (C5L n m) [1,2,3,6] [x1,x2,x3,x6]
def C5M (n:Nat):KV:=kQ R2 n B7o [2,3] tD.fin
def B7s (n:Nat):KV:=F6 4 (C5M n)
def wU (n m:Nat) (x2 x3 x88 x89 x90:Val):AtH:=ar R2 n A8P [2,3,88,89,90] (B7s n) m [x2,x3,x88,x89,x90]
def C5N (n m:Nat):KV:=kL R2 n A8P [2,3,88,89,90] (B7s n) m
def A8R (n m:Nat) (x2 x3 x88 x89 x90:Val):AtH:=aj R2 n B7p (C5N n m) [2,3,88,89,90] [x2,x3,x88,x89,x90]
theorem C1E (n:Nat) (a0:Val) (h:A4):A5y n [a0] h=bnd (cells? a0) fun c1=>bnd (A9 (.c (.p h.length 0)) 0) fun v2=>bnd (A8 ((h++[some (Row.mk (c1) true)])++[some (Row.mk ([.ns,.ns,.ns,.ns,.ns,.i .i64 0]) true)]) 3 v2) fun v3=>bnd (K0 [v3] ((h++[some (Row.mk (c1) true)])++[some (Row.mk ([.ns,.ns,.ns,.ns,.ns,.i .i64 0]) true)])) fun p4=>bnd (B5 .neq p4.1 (.c (.i .i64 0))) fun v5=>cnd v5 (bnd (C7 ([.ns,.ns,.ns,.ns,.ns,.i .i64 0]) []) fun c6=>bnd (B4 p4.2 6 (.c (.p (h++[some (Row.mk (c1) true)]).length 0)) (.a c6)) fun h7=>mp (A8 h7 6 (.c (.p (h++[some (Row.mk (c1) true)]).length 0))) fun v=>(v,h7)) (bnd (A8 p4.2 4 (.c (.p h.length 0))) fun v8=>bnd (sM ((p4.2++[some (J3 [])])++[some (J3 [])]) (some .i64) (.c (.m (p4.2++[some (J3 [])]).length)) (.c (.i .i64 1)) (.c (.i .i64 1))) fun h9=>bnd (C7 ([.i .i64 0,.i .i64 0,.i .u64 0,.nf,.ns,.ns,.ns,.ns,.ns,.i .i64 0,.nm,.nm]) [(0,4,v8),(10,1,(.c (.m p4.2.length))),(11,1,(.c (.m (p4.2++[some (J3 [])]).length)))]) fun c10=>bnd (cells? (.a c10)) fun c11=>bnd (C7 ([.i .i64 0]) [(0,1,.c (.i .i64 1))]) fun c12=>bnd (A9 (.c (.p h.length 0)) 0) fun v13=>bnd (A9 v13 1) fun cE=>bnd (A7 (h9++[some (Row.mk (c11) true)]) cE) fun dE=>bnd (B5 .add dE (.c (.i .i64 1))) fun T7=>bnd (A8x T7 T7) fun n17=>bnd (A9 (.c (.p h.length 0)) 0) fun dN=>bnd (A9 dN 0) fun dO=>bnd (A7 (h9++[some (Row.mk (c11) true)]) dO) fun jN=>bnd (A8x jN jN) fun n21=>bnd (C7 ([.ns,.ns,.ns,.ns,.ns,.i .i64 0]) [(0,1,(.c (.sl ((h9++[some (Row.mk (c11) true)]).length+0) 0 1 1))),(1,1,(.c (.sl ((h9++[some (Row.mk (c11) true)]).length+1) 0 n17 11))),(2,1,(.c (.sl ((h9++[some (Row.mk (c11) true)]).length+2) 0 n21 1)))]) fun c22=>bnd (I5 (.c (.p h9.length 0))) fun v23=>bnd (A9 v23 4) fun v24=>bnd (B4 (((((h9++[some (Row.mk (c11) true)])++[none,none,none]).set ((h9++[some (Row.mk (c11) true)]).length+0) (some (Row.mk (c12) true))).set ((h9++[some (Row.mk (c11) true)]).length+1) (some (Row.mk (rows ([.i .i64 0,.i .i64 0,.i .i64 0,.i .i64 0,.i .i64 0,.i .i64 0,.i .i64 0,.i .i64 0,.i .i64 0,.i .i64 0,.i .i64 0]) n17) true))).set ((h9++[some (Row.mk (c11) true)]).length+2) (some (Row.mk (rows ([.b false]) n21) true))) 6 v24 (.a c22)) fun h25=>bnd (A9 (.c (.p h.length 0)) 0) fun v26=>bnd (A8 h25 3 v26) fun v27=>bnd (nX [v27] h25) fun p28=>bnd (O0 p28.1) fun v29=>A2B n n (.c (.p h.length 0)) (.c (.p (h++[some (Row.mk (c1) true)]).length 0)) (.c (.p h9.length 0)) p28.1 v29 (.c (.i .i64 0)) p28.2):=by kernel_rfl
theorem A8T (n m:Nat) (x1 x2 x3 x37 x38 x39:Val) (h:A4):A2B n (m+1) x1 x2 x3 x37 x38 x39 h=bnd (B5 .lss x39 x38) fun v30=>cnd v30 (bnd (C4 1 x37 x39) fun v31=>bnd (A7 h v31) fun v32=>bnd (I5 x3) fun v33=>bnd (A9 v33 4) fun v34=>bnd (A9 v34 2) fun v35=>bnd (A7 h v35) fun v36=>bnd (C4 1 v36 v32) fun v37=>bnd (D3 h v37 (.c (.b true))) fun h38=>bnd (B5 .add x39 (.c (.i .i64 1))) fun v39=>A2B n m x1 x2 x3 x37 x38 v39 h38) (dK n n x1 x2 x3 (.c (.i .i64 0)) h):=by kernel_rfl
theorem A8U (n m:Nat) (x1 x2 x3 x6:Val) (h:A4):dK n (m+1) x1 x2 x3 x6 h=bnd (I5 x3) fun v40=>bnd (A9 v40 4) fun v41=>bnd (A9 v41 0) fun v42=>bnd (A7 h v42) fun v43=>bnd (O0 v43) fun v44=>bnd (B5 .lss x6 v44) fun v45=>cnd v45 (bnd (I5 x3) fun v46=>bnd (A9 v46 4) fun v47=>bnd (A9 v47 0) fun v48=>bnd (A7 h v48) fun v49=>bnd (C4 1 v49 x6) fun v50=>bnd (A7 h v50) fun v51=>bnd (B5 .neq v51 (.c (.i .i64 1))) fun v52=>bnd (gd v52 true (bnd (A8 h 4 x1) fun v53=>some (v53,h)) (some (.no,h))) fun p54=>bnd (gd v52 true (some (v51,p54.2)) (some (.no,p54.2))) fun p55=>bnd (gd v52 true (bnd (G1 [p54.1,p55.1] p55.2) fun p56=>some (p56.1,p56.2)) (some (.no,p55.2))) fun p57=>bnd (gd v52 true (bnd (B9S p57.1 0) fun v58=>some (v58,p57.2)) (some (.no,p57.2))) fun p59=>bnd (gd v52 true (bnd (B5 .eql p59.1 (.c (.i .i64 1))) fun v60=>some (v60,p59.2)) (some (.no,p59.2))) fun p61=>bnd (F0 v52 p61.1 (.c (.b false))) fun v62=>cnd v62 (bnd (U0 [x3,v51] p61.2) fun p63=>A8Q n m x1 x2 x3 x6 p63.2) (bnd (Y4 [x3,v51] p61.2) fun p64=>A8Q n m x1 x2 x3 x6 p64.2)) (bnd (I5 x3) fun v65=>bnd (A9 v65 4) fun v66=>bnd (A9 v66 0) fun v67=>bnd (A7 h v67) fun v68=>bnd (O0 v68) fun v69=>wU n n x2 x3 v68 v69 (.c (.i .i64 0)) h):=by kernel_rfl
theorem A1q (n m:Nat) (x1 x2 x3 x6:Val) (h:A4):A8Q n m x1 x2 x3 x6 h=bnd (B5 .add x6 (.c (.i .i64 1))) fun v70=>dK n m x1 x2 x3 v70 h:=by kernel_rfl
theorem A8V (n m:Nat) (x2 x3 x88 x89 x90:Val) (h:A4):wU n (m+1) x2 x3 x88 x89 x90 h=bnd (B5 .lss x90 x89) fun v71=>cnd v71 (bnd (C4 1 x88 x90) fun v72=>bnd (A7 h v72) fun v73=>bnd (I5 x3) fun v74=>bnd (A9 v74 4) fun v75=>bnd (A9 v75 1) fun v76=>bnd (A7 h v76) fun v77=>bnd (C4 11 v77 v73) fun v78=>bnd (A9 v78 0) fun v79=>bnd (A7 h v79) fun v80=>bnd (B5 .eql v80 (.c (.i .i64 1))) fun v81=>cnd v81 (bnd (I5 x3) fun v82=>bnd (A9 v82 4) fun v83=>bnd (A9 v83 1) fun v84=>bnd (A7 h v84) fun v85=>bnd (I5 x3) fun v86=>bnd (A9 v86 10) fun v87=>bnd (A7 h v87) fun v88=>bnd (oH h (some .i64) (.c (.i .i64 0)) false v88 v73) fun v89=>bnd (C4 11 v85 v73) fun v90=>bnd (A9 v90 1) fun v91=>bnd (D3 (h++[]) v91 v89) fun h92=>A8R n m x2 x3 x88 x89 x90 h92) (A8R n m x2 x3 x88 x89 x90 h)) (bnd (I5 x3) fun v93=>bnd (A9 v93 4) fun v94=>bnd (A8 h 6 v94) fun v95=>bnd (B4 h 6 x2 v95) fun h96=>mp (A8 h96 6 x2) fun v=>(v,h96)):=by kernel_rfl
theorem A8S (n m:Nat) (x2 x3 x88 x89 x90:Val) (h:A4):A8R n m x2 x3 x88 x89 x90 h=bnd (B5 .add x90 (.c (.i .i64 1))) fun v97=>wU n m x2 x3 x88 x89 v97 h:=by kernel_rfl
theorem B8Z:FnK Tryz.prog 44 tD R2 A5y:=.mk2 (B8 cP (B8 B0W (B8 S7 (B8 A8e (B8 B0b C9))))) Tryz.func44 (by kernel_rfl)
def nV:=tl tD R2
theorem B0V:SOk Tryz.prog 44 nV:=B8Z.sok
theorem B8g:C8k A5y nV:=B8Z.tidy
def xZ:AFn:=⟨sO [0,2,4] [aB 4 1] (sO [0,2,4,12] [aM 5 0,aO 6 (.bin .geq (.t 5) (.v (.c (.i .i64 0)))),aM 7 6,gM 8 7 true 0,aG 9 7 true (.load1 (.t 2)),aG 10 7 true (.len (.t 9)),aG 11 7 true (.bin .lss (.t 8) (.t 10)),aO 12 (.pick (.t 7) (.t 11) (.v (.c (.b false))))] (.cond (.t 12) (.ops [aL 13 2,aM 14 0,aL' 15 256 4,aO 16 (.iAddrL 256 (.t 13) (.t 14)),aN (.storeN 256 (.t 16) (.t 15))]) .skip)),[]⟩
def yC:E2:=E6
def yG:=rx yC xZ
theorem nS (n:Nat) (a0 a1 a2:Val) (h:A4):yG n [a0,a1,a2] h=bnd (cells? a1) fun c1=>bnd (B5 .geq a0 (.c (.i .i64 0))) fun v2=>bnd (gd v2 true (some (a0,(h++[some (Row.mk (c1) true)]))) (some (.no,(h++[some (Row.mk (c1) true)])))) fun p3=>bnd (gd v2 true (bnd (A7 p3.2 a2) fun v4=>some (v4,p3.2)) (some (.no,p3.2))) fun p5=>bnd (gd v2 true (bnd (O0 p5.1) fun v6=>some (v6,p5.2)) (some (.no,p5.2))) fun p7=>bnd (gd v2 true (bnd (B5 .lss p3.1 p7.1) fun v8=>some (v8,p7.2)) (some (.no,p7.2))) fun p9=>bnd (F0 v2 p9.1 (.c (.b false))) fun T6=>cnd T6 (bnd (A7 p9.2 a2) fun v11=>bnd (A8 p9.2 256 (.c (.p h.length 0))) fun v12=>bnd (C4 256 v11 a0) fun v13=>bnd (B4 p9.2 256 v13 v12) fun h14=>I6 [] h14) (I6 [] p9.2):=by kernel_rfl
theorem A6G:FnK Tryz.prog 113 xZ yC yG:=.mk2 C9 Tryz.func113 (by kernel_rfl)
def eU:=Lim xZ yC
theorem B11:SOk Tryz.prog 113 eU:=A6G.ok
theorem nU:OfT yG eU:=A6G.of
def oL:ACode:=.ops [aO 57 (.bin .add (.t 39) (.v (.c (.i .i64 1)))),aM 39 57]
def cQ:ACode:=sO [2,3,5,6,37,38,39,40] [aO 40 (.bin .lss (.t 39) (.t 38))] (.seq [2,3,5,6,37,38,39] (.cond (.t 40) .skip (.exit 0)) (.seq [2,3,5,6,37,38,39] (.block 1 (sO [2,3,5,6,7,8,37,38,39] [aM 41 39,aO 42 (.iAddrL 1 (.t 37) (.t 39)),aL 43 42,aM 7 41,aM 8 43] (sO [2,3,5,6,7,8,37,38,39,48] [aM 44 7,aF 45 3 4,aL 46 45,aO 47 (.len (.t 46)),aO 48 (.bin .lss (.t 44) (.t 47))] (.cond (.t 48) (.ops [aM 49 6,aM 50 8,aF 51 3 4,aL 52 51,aM 53 7,aO 54 (.iAddrL 256 (.t 52) (.t 53)),aL' 55 256 54,aO 56 (.callV (.t 49) [(.t 50),(.t 55)])]) .skip)))) oL))
def oM:ACode:=.seq [2,3,5,6,9,10,11] (sO [2,3,5,6,9,10,11,69] [aM 65 11,aM 66 9,aM 67 10,aO 68 (.bin .add (.t 66) (.t 67)),aO 69 (.bin .lss (.t 65) (.t 68))] (.cond (.t 69) .skip (.exit 2))) (.seq [2,3,5,6,9,10,11] (.block 3 (.ops [aM 72 6,aM 73 11,aO 74 (.build (List.replicate 256 (.i .u8 0)) []),aO 75 (.callV (.t 72) [(.t 73),(.t 74)])])) (.ops [aM 70 11,aO 71 (.bin .add (.t 70) (.v (.c (.i .i64 1)))),aM 11 71]))
def oP:ACode:=.ops [aO 112 (.bin .add (.t 79) (.v (.c (.i .i64 1)))),aM 79 112]
def cR:ACode:=sO [2,3,5,6,77,78,79,80] [aO 80 (.bin .lss (.t 79) (.t 78))] (.seq [2,3,5,6,77,78,79] (.cond (.t 80) .skip (.exit 4)) (.seq [2,3,5,6,77,78,79] (.block 5 (sO [2,3,5,6,12,13,77,78,79] [aM 81 79,aO 82 (.iAddrL 11 (.t 77) (.t 79)),aL' 83 11 82,aO 13 (.alloc ([.i .i64 0,.i .i64 0,.i .i64 0,.i .i64 0,.i .i64 0,.i .i64 0,.i .i64 0,.i .i64 0,.i .i64 0,.i .i64 0,.i .i64 0])),aM 12 81,aN (.storeN 11 (.t 13) (.t 83))] (sO [2,3,5,6,13,14,15,16,77,78,79] [aF 85 2 0,aL' 86 3 85,aM 87 12,aO 88 (.call 69 [(.t 86),(.t 87)]),aM 84 88,aE 89 84 0,aE 90 84 1,aE 91 84 2,aM 14 89,aM 15 90,aM 16 91] (sO [2,3,5,6,13,14,15,77,78,79,98] [aM 92 16,aM 93 92,gM 94 93 true 14,aG 95 93 true (.load1 (.t 5)),aG 96 93 true (.len (.t 95)),aG 97 93 true (.bin .lss (.t 94) (.t 96)),aO 98 (.pick (.t 93) (.t 97) (.v (.c (.b false))))] (.cond (.t 98) (.drawS 0 [aL 100 5,aM 101 14,aL 102 5,aM 103 14,aO 104 (.iAddrL 256 (.t 102) (.t 103)),aL' 105 256 104,aM 106 15,aL' 107 11 13,aO 108 (.call 115 [(.t 105),(.t 106),(.t 107)]),aM 99 108,aE 109 99 0,aE 110 99 1,aO 111 (.iAddrL 256 (.t 100) (.t 101))] (aN (.storeN 256 (.t 111) (.t 109))) [] []) .skip))))) oP))
def mS:ACode:=.ops [aO 126 (.bin .add (.t 116) (.v (.c (.i .i64 1)))),aM 116 126]
def cS:ACode:=sO [5,6,17,114,115,116,117] [aO 117 (.bin .lss (.t 116) (.t 115))] (.seq [5,6,17,114,115,116] (.cond (.t 117) .skip (.exit 6)) (.seq [5,6,17,114,115,116] (.block 7 (sO [5,6,17,18,19,114,115,116] [aM 118 116,aO 119 (.iAddrL 1 (.t 114) (.t 116)),aL 120 119,aM 18 118,aM 19 120] (sO [5,6,17,18,114,115,116,121] [aM 121 19] (.cond (.t 121) (.ops [aM 122 17,aM 123 18,aO 124 (.buildSl 1 1 ([.i .i64 0]) [(0,1,(.t 123))]),aO 125 (.app 1 (.t 122) (.t 124)),aM 17 125]) .skip)))) mS))
def oQ:ACode:=sO [5] [aM 127 6,aO 128 (.call 116 []),aM 129 17,aO 130 (.call 117 [(.t 129)]),aO 131 (.callV (.t 127) [(.t 128),(.t 130)])] (sO [4] [aL 132 5,aM 4 132] .ret)
def oO:ACode:=sO [3,5,6,17] [aO 17 (.nilrow 1)] (.seq [5,6,17] (sO [5,6,17,114,115,116] [aF 113 3 2,aL 114 113,aO 115 (.len (.t 114)),aO 116 (.mv (.v (.c (.i .i64 0))))] (.block 6 (.loop [5,6,17,114,115,116] cS))) oQ)
def oN:ACode:=.seq [3,5,6] (sO [2,3,5,6,77,78,79] [aF 76 3 1,aL 77 76,aO 78 (.len (.t 77)),aO 79 (.mv (.v (.c (.i .i64 0))))] (.block 4 (.loop [2,3,5,6,77,78,79] cR))) oO
def oK:ACode:=sO [2,3,5,6,9,10] [aF 59 2 0,aL' 60 3 59,aO 61 (.call 114 [(.t 60)]),aM 58 61,aE 62 58 0,aE 63 58 1,aM 9 62,aM 10 63] (.seq [2,3,5,6] (sO [2,3,5,6,9,10,11] [aM 64 9,aM 11 64] (.block 2 (.loop [2,3,5,6,9,10,11] oM))) oN)
def J4:AFn:=⟨sO [2,3] [aB 2 0,aB 3 1,aO 4 (.nilrow 256)] (.seq [2,3] (sO [2,3,32] [aF 20 3 0,aL 21 20,aO 22 (.len (.t 21)),aO 23 (.bin .eql (.t 22) (.v (.c (.i .i64 0)))),aM 24 23,aG 25 24 false (.fAddr (.t 3) 2),aG 26 24 false (.load1 (.t 25)),aG 27 24 false (.len (.t 26)),aG 28 24 false (.fAddr (.t 2) 0),aG 29 24 false (.fAddr (.t 28) 0),aG 30 24 false (.load1 (.t 29)),aG 31 24 false (.bin .neq (.t 27) (.t 30)),aO 32 (.pick (.t 24) (.v (.c (.b true))) (.t 31))] (.cond (.t 32) (sO [4] [aO 4 (.nilrow 256)] .ret) .skip)) (sO [2,3,5] [aL' 33 4 2,aO 34 (.call 112 [(.t 33)]),aO 5 (.alloc ([.ns])),aN (.store1 (.t 5) (.t 34))] (sO [2,3,5,6] [aO 35 (.mkf 113 [(.t 5)]),aM 6 35] (.seq [2,3,5,6] (sO [2,3,5,6,37,38,39] [aF 36 3 3,aL 37 36,aO 38 (.len (.t 37)),aO 39 (.mv (.v (.c (.i .i64 0))))] (.block 0 (.loop [2,3,5,6,37,38,39] cQ))) oK)))),[.tmp 4]⟩
def D1:E2:=D6 112 bB (D6 114 W6 (D6 69 dU (D6 115 bA (D6 116 R6 (D6 117 dT (D6 113 eU E6))))))
def A4K (n:Nat):KV:=kQ D1 n oK [2,3,5,6] J4.fin
def oR (n:Nat):KV:=F6 0 (A4K n)
def O8 (n m:Nat) (x2 x3 x5 x6 x37 x38 x39:Val):AtH:=ar D1 n cQ [2,3,5,6,37,38,39] (oR n) m [x2,x3,x5,x6,x37,x38,x39]
def W4:=rx D1 J4
def A4L (n m:Nat):KV:=kL D1 n cQ [2,3,5,6,37,38,39] (oR n) m
def cU (n m:Nat) (x2 x3 x5 x6 x37 x38 x39:Val):AtH:=aj D1 n oL (A4L n m) [2,3,5,6,37,38,39] [x2,x3,x5,x6,x37,x38,x39]
def A4M (n:Nat):KV:=kQ D1 n oN [2,3,5,6] J4.fin
def A4N (n:Nat):KV:=F6 2 (A4M n)
def O9 (n m:Nat) (x2 x3 x5 x6 x9 x10 x11:Val):AtH:=ar D1 n oM [2,3,5,6,9,10,11] (A4N n) m [x2,x3,x5,x6,x9,x10,x11]
def A4O (n:Nat):KV:=kQ D1 n oO [3,5,6] J4.fin
def oS (n:Nat):KV:=F6 4 (A4O n)
def P5 (n m:Nat) (x2 x3 x5 x6 x77 x78 x79:Val):AtH:=ar D1 n cR [2,3,5,6,77,78,79] (oS n) m [x2,x3,x5,x6,x77,x78,x79]
def A4P (n m:Nat):KV:=kL D1 n cR [2,3,5,6,77,78,79] (oS n) m
def cV (n m:Nat) (x2 x3 x5 x6 x77 x78 x79:Val):AtH:=aj D1 n oP (A4P n m) [2,3,5,6,77,78,79] [x2,x3,x5,x6,x77,x78,x79]
def A4Q (n:Nat):KV:=kQ D1 n oQ [5,6,17] J4.fin
def oT (n:Nat):KV:=F6 6 (A4Q n)
def U4 (n m:Nat) (x5 x6 x17 C1C C1D B6K:Val):AtH:=ar D1 n cS [5,6,17,114,115,116] (oT n) m [x5,x6,x17,C1C,C1D,B6K]
def A3M (n m:Nat):KV:=kL D1 n cS [5,6,17,114,115,116] (oT n) m
def cX (n m:Nat) (x5 x6 x17 C1C C1D B6K:Val):AtH:=aj D1 n mS (A3M n m) [5,6,17,114,115,116] [x5,x6,x17,C1C,C1D,B6K]
theorem A1P (n:Nat) (a0 a1:Val) (h:A4):W4 n [a0,a1] h=bnd (cells? a0) fun c1=>bnd (cells? a1) fun c2=>bnd (A9 (.c (.p (h++[some (Row.mk (c1) true)]).length 0)) 0) fun v3=>bnd (A7 (((h++[some (Row.mk (c1) true)])++[some (Row.mk (c2) true)])++[some (Row.mk ([]) true)]) v3) fun v4=>bnd (O0 v4) fun v5=>bnd (B5 .eql v5 (.c (.i .i64 0))) fun v6=>bnd (gd v6 false (bnd (A9 (.c (.p (h++[some (Row.mk (c1) true)]).length 0)) 2) fun v7=>some (v7,(((h++[some (Row.mk (c1) true)])++[some (Row.mk (c2) true)])++[some (Row.mk ([]) true)]))) (some (.no,(((h++[some (Row.mk (c1) true)])++[some (Row.mk (c2) true)])++[some (Row.mk ([]) true)])))) fun p8=>bnd (gd v6 false (bnd (A7 p8.2 p8.1) fun v9=>some (v9,p8.2)) (some (.no,p8.2))) fun p10=>bnd (gd v6 false (bnd (O0 p10.1) fun v11=>some (v11,p10.2)) (some (.no,p10.2))) fun p12=>bnd (gd v6 false (bnd (A9 (.c (.p h.length 0)) 0) fun v13=>some (v13,p12.2)) (some (.no,p12.2))) fun dG=>bnd (gd v6 false (bnd (A9 dG.1 0) fun dE=>some (dE,dG.2)) (some (.no,dG.2))) fun sF=>bnd (gd v6 false (bnd (A7 sF.2 sF.1) fun W3=>some (W3,sF.2)) (some (.no,sF.2))) fun pB=>bnd (gd v6 false (bnd (B5 .neq p12.1 pB.1) fun dO=>some (dO,pB.2)) (some (.no,pB.2))) fun gH=>bnd (F0 v6 (.c (.b true)) gH.1) fun v21=>cnd v21 (some ((.c (.sl gH.2.length 0 0 256)),(gH.2++[some (Row.mk ([]) true)]))) (bnd (A8 gH.2 4 (.c (.p h.length 0))) fun v22=>bnd (bB [v22] gH.2) fun p23=>bnd (D3 (p23.2++[some (Row.mk ([.ns]) true)]) (.c (.p p23.2.length 0)) p23.1) fun h24=>bnd (A5Q 113 [(.c (.p p23.2.length 0))]) fun v25=>bnd (A9 (.c (.p (h++[some (Row.mk (c1) true)]).length 0)) 3) fun v26=>bnd (A7 h24 v26) fun v27=>bnd (O0 v27) fun v28=>O8 n n (.c (.p h.length 0)) (.c (.p (h++[some (Row.mk (c1) true)]).length 0)) (.c (.p p23.2.length 0)) v25 v27 v28 (.c (.i .i64 0)) h24):=by kernel_rfl
theorem iR (n m:Nat) (x2 x3 x5 x6 x37 x38 x39:Val) (h:A4):O8 n (m+1) x2 x3 x5 x6 x37 x38 x39 h=bnd (B5 .lss x39 x38) fun v29=>cnd v29 (bnd (C4 1 x37 x39) fun v30=>bnd (A7 h v30) fun v31=>bnd (A9 x3 4) fun v32=>bnd (A7 h v32) fun v33=>bnd (O0 v33) fun v34=>bnd (B5 .lss x39 v34) fun v35=>cnd v35 (bnd (A9 x3 4) fun v36=>bnd (A7 h v36) fun v37=>bnd (C4 256 v37 x39) fun v38=>bnd (A8 h 256 v38) fun v39=>bnd (oJ D1 x6 [v31,v39] h) fun p40=>cU n m x2 x3 x5 x6 x37 x38 x39 p40.2) (cU n m x2 x3 x5 x6 x37 x38 x39 h)) (bnd (A9 x2 0) fun v41=>bnd (A8 h 3 v41) fun v42=>bnd (W6 [v42] h) fun p43=>bnd (H0 p43.1 0) fun v44=>bnd (H0 p43.1 1) fun v45=>O9 n n x2 x3 x5 x6 v44 v45 v44 p43.2):=by kernel_rfl
theorem A1p (n m:Nat) (x2 x3 x5 x6 x37 x38 x39:Val) (h:A4):cU n m x2 x3 x5 x6 x37 x38 x39 h=bnd (B5 .add x39 (.c (.i .i64 1))) fun v46=>O8 n m x2 x3 x5 x6 x37 x38 v46 h:=by kernel_rfl
theorem iS (n m:Nat) (x2 x3 x5 x6 x9 x10 x11:Val) (h:A4):O9 n (m+1) x2 x3 x5 x6 x9 x10 x11 h=bnd (B5 .add x9 x10) fun v47=>bnd (B5 .lss x11 v47) fun v48=>cnd v48 (bnd (C7 (List.replicate 256 (.i .u8 0)) []) fun c49=>bnd (oJ D1 x6 [x11,(.a c49)] h) fun p50=>bnd (B5 .add x11 (.c (.i .i64 1))) fun v51=>O9 n m x2 x3 x5 x6 x9 x10 v51 p50.2) (bnd (A9 x3 1) fun v52=>bnd (A7 h v52) fun v53=>bnd (O0 v53) fun v54=>P5 n n x2 x3 x5 x6 v53 v54 (.c (.i .i64 0)) h):=by kernel_rfl
theorem Z2 (n m:Nat) (x2 x3 x5 x6 x77 x78 x79:Val) (h:A4):P5 n (m+1) x2 x3 x5 x6 x77 x78 x79 h=bnd (B5 .lss x79 x78) fun v55=>cnd v55 (bnd (C4 11 x77 x79) fun v56=>bnd (A8 h 11 v56) fun v57=>bnd (B4 (h++[some (Row.mk ([.i .i64 0,.i .i64 0,.i .i64 0,.i .i64 0,.i .i64 0,.i .i64 0,.i .i64 0,.i .i64 0,.i .i64 0,.i .i64 0,.i .i64 0]) true)]) 11 (.c (.p h.length 0)) v57) fun h58=>bnd (A9 x2 0) fun v59=>bnd (A8 h58 3 v59) fun v60=>bnd (dU [v60,x79] h58) fun p61=>bnd (H0 p61.1 0) fun v62=>bnd (H0 p61.1 1) fun v63=>bnd (H0 p61.1 2) fun v64=>bnd (gd v64 true (some (v62,p61.2)) (some (.no,p61.2))) fun p65=>bnd (gd v64 true (bnd (A7 p65.2 x5) fun v66=>some (v66,p65.2)) (some (.no,p65.2))) fun p67=>bnd (gd v64 true (bnd (O0 p67.1) fun v68=>some (v68,p67.2)) (some (.no,p67.2))) fun p69=>bnd (gd v64 true (bnd (B5 .lss p65.1 p69.1) fun v70=>some (v70,p69.2)) (some (.no,p69.2))) fun p71=>bnd (F0 v64 p71.1 (.c (.b false))) fun v72=>cnd v72 (bnd (A7 p71.2 x5) fun v73=>bnd (A7 p71.2 x5) fun v74=>bnd (C4 256 v74 v62) fun v75=>bnd (A8 p71.2 256 v75) fun v76=>bnd (A8 p71.2 11 (.c (.p h.length 0))) fun v77=>bnd (quiet (p71.2++[]) (bA [v76,v63,v77] (p71.2++[]))) fun p78=>bnd (H0 p78.1 0) fun v79=>bnd (H0 p78.1 1) fun v80=>bnd (C4 256 v73 v62) fun v81=>bnd (B4 p78.2 256 v81 v79) fun h82=>cV n m x2 x3 x5 x6 x77 x78 x79 h82) (cV n m x2 x3 x5 x6 x77 x78 x79 p71.2)) (bnd (A9 x3 2) fun v83=>bnd (A7 (h++[some (Row.mk ([]) true)]) v83) fun v84=>bnd (O0 v84) fun v85=>U4 n n x5 x6 (.c (.sl h.length 0 0 1)) v84 v85 (.c (.i .i64 0)) (h++[some (Row.mk ([]) true)])):=by kernel_rfl
theorem iP (n m:Nat) (x2 x3 x5 x6 x77 x78 x79:Val) (h:A4):cV n m x2 x3 x5 x6 x77 x78 x79 h=bnd (B5 .add x79 (.c (.i .i64 1))) fun v86=>P5 n m x2 x3 x5 x6 x77 x78 v86 h:=by kernel_rfl
theorem Z3 (n m:Nat) (x5 x6 x17 C1C C1D B6K:Val) (h:A4):U4 n (m+1) x5 x6 x17 C1C C1D B6K h=bnd (B5 .lss B6K C1D) fun v87=>cnd v87 (bnd (C4 1 C1C B6K) fun v88=>bnd (A7 h v88) fun v89=>cnd v89 (bnd (C7 ([.i .i64 0]) [(0,1,B6K)]) fun c90=>bnd (W7 (h++[some (Row.mk (c90) true)]) 1 x17 (.c (.sl h.length 0 1 1))) fun p91=>cX n m x5 x6 p91.1 C1C C1D B6K p91.2) (cX n m x5 x6 x17 C1C C1D B6K h)) (bnd (R6 [] h) fun p92=>bnd (dT [x17] p92.2) fun p93=>bnd (oJ D1 x6 [p92.1,p93.1] p93.2) fun p94=>bnd (A7 p94.2 x5) fun v95=>some (v95,p94.2)):=by kernel_rfl
theorem iQ (n m:Nat) (x5 x6 x17 C1C C1D B6K:Val) (h:A4):cX n m x5 x6 x17 C1C C1D B6K h=bnd (B5 .add B6K (.c (.i .i64 1))) fun v96=>U4 n m x5 x6 x17 C1C C1D v96 h:=by kernel_rfl
theorem pY:FnK Tryz.prog 50 J4 D1 W4:=.mk2 (B8 A8u (B8 yI (B8 A6M (B8 A6P (B8 vC (B8 A6K (B8 B11 C9))))))) Tryz.func50 (by kernel_rfl)
def M5:=tl J4 D1
theorem A1Q:SOk Tryz.prog 50 M5:=pY.sok
theorem A09:B5h W4 M5:=pY.out
def B08:ACode:=sO [1,8,9,10,11] [aO 11 (.bin .lss (.t 10) (.t 9))] (.seq [1,8,9,10] (.cond (.t 11) .skip (.exit 0)) (.seq [1,8,9,10] (.block 1 (sO [1,6,8,9,10] [aO 12 (.iAddrL 1 (.t 8) (.t 10)),aL 13 12,aM 6 13] (sO [1,8,9,10,16] [aM 14 6,aM 15 1,aO 16 (.bin .eql (.t 14) (.t 15))] (.cond (.t 16) (sO [4] [aO 4 (.mv (.v (.c (.b true))))] .ret) .skip)))) (.ops [aO 17 (.bin .add (.t 10) (.v (.c (.i .i64 1)))),aM 10 17])))
def B09:ACode:=sO [4] [aO 4 (.mv (.v (.c (.b false))))] .ret
def zS:AFn:=⟨sO [1,2] [aB 2 0,aO 4 (.mv (.v (.c (.b false))))] (.seq [] (sO [1,8,9,10] [aF 7 2 0,aL 8 7,aO 9 (.len (.t 8)),aO 10 (.mv (.v (.c (.i .i64 0))))] (.block 0 (.loop [1,8,9,10] B08))) B09),[.tmp 4]⟩
def pO:E2:=E6
def C17 (n:Nat):KV:=kQ pO n B09 [] zS.fin
def C18 (n:Nat):KV:=F6 0 (C17 n)
def vI (n m:Nat) (x1 x8 x9 x10:Val):AtH:=ar pO n B08 [1,8,9,10] (C18 n) m [x1,x8,x9,x10]
def A0d:=rx pO zS
theorem B7Y (n:Nat) (a0 a1:Val) (h:A4):A0d n [a0,a1] h=bnd (cells? a0) fun c1=>bnd (A9 (.c (.p h.length 0)) 0) fun v2=>bnd (A7 (h++[some (Row.mk (c1) true)]) v2) fun v3=>bnd (O0 v3) fun v4=>vI n n a1 v3 v4 (.c (.i .i64 0)) (h++[some (Row.mk (c1) true)]):=by kernel_rfl
theorem A4R (n m:Nat) (x1 x8 x9 x10:Val) (h:A4):vI n (m+1) x1 x8 x9 x10 h=bnd (B5 .lss x10 x9) fun v5=>cnd v5 (bnd (C4 1 x8 x10) fun v6=>bnd (A7 h v6) fun v7=>bnd (B5 .eql v7 x1) fun v8=>cnd v8 (some ((.c (.b true)),h)) (bnd (B5 .add x10 (.c (.i .i64 1))) fun v9=>vI n m x1 x8 x9 v9 h)) (some ((.c (.b false)),h)):=by kernel_rfl
theorem B21:FnK Tryz.prog 47 zS pO A0d:=.mk2 C9 Tryz.func47 (by kernel_rfl)
def qN:=tl zS pO
theorem B8f:SOk Tryz.prog 47 qN:=B21.sok
theorem B3u:G0 A0d qN:=B21.flat
end
end Go.Proofs.YteckncopbicmcaaGreat
namespace Go.Proofs.YteckncopbicmcaaGreat
open Go Go.Esc
section
def D0Y (D:Dev) (n:Int) (c:Cl) (no:Int):Bool:=uA D.length n no && !(c.taken.getD no.toNat true)
def wX (D:Dev) (n:Int) (c:Cl) (no:Int):Int:=bif D0Y D n c no then no else 0
def A3N (D:Dev) (n:Int) (c:Cl) (no:Int):Cl:=bif D0Y D n c no then { c with taken:=c.taken.set no.toNat true } else c
theorem C6i {b n i:Int} (h:uA b n i=true):0<=i/\i<b:=by
 unfold uA at h;simp only [Bool.and_eq_true,decide_eq_true_eq] at h;have:=A52 (b:=b) (n:=n);omega
section
variable {D:Dev} {n m:Int} {f:Cell} {g:A4} {r:Nat} {c:Cl} {h:A4}
theorem WP.take (P:WP D n m f g r c h) {k:Nat} {v:Bool} {xr xi xt xb xm:Cell} {ml mp:Nat} (h1:rd h r=some ⟨wkC D n m f xr xi xt xb xm c.lost ml mp,true⟩) (h0:D.length≠0) :
  ∃ t,xt=.sl t 0 D.length 1/\rd h t=some ⟨bD c.taken,true⟩/\WP D n m f g r { c with taken:=c.taken.set k v } (h.set t (some ⟨bD (c.taken.set k v),true⟩))/\Fr r h (h.set t (some ⟨bD (c.taken.set k v),true⟩)):=by
 obtain ⟨xr',xi',xt',xb',xm',ml',mp',es1,es2,g1,g2,g3,g4,g5,g6,g7,g8,g9,g10,g11⟩:=P.row;have:=h1.symm.trans g1;simp only [Option.some.injEq,Row.mk.injEq,and_true,wkC,List.cons.injEq,true_and,Cell.m.injEq] at this;obtain ⟨rfl,rfl,rfl,rfl,rfl,rfl,rfl⟩:=this;rcases g5 with ⟨e,_,_⟩ | ⟨t,rfl,t1,t2,t3⟩
 ·rw [P.tlen] at e;exact absurd e h0
 ·rw [P.tlen] at t2 ⊢;have nt:Nam h r t:=B2G (i:=6) g1 rfl rfl;have tg:=P.low t nt;have hr':rd (h.set t (some ⟨bD (c.taken.set k v),true⟩)) r=rd h r:=B7 t3;have oth:∀ (i:Nat) (x:Cell) (id:Nat),(wkC D n m f xr xi (.sl t 0 c.taken.length 1) xb xm c.lost ml mp)[i]?=some x->nmC x=some id->i≠6->rd (h.set t (some ⟨bD (c.taken.set k v),true⟩)) id=rd h id:=by
   intro i x id hi hx cK;exact B7 (fun e=>(g2.ne hi (show (wkC D n m f xr xi (.sl t 0 c.taken.length 1) xb xm c.lost ml mp)[6]?=some (.sl t 0 c.taken.length 1) from rfl) hx rfl cK) e.symm)
  refine ⟨t,rfl,t1,⟨P.lo.set tg _,P.ge,fun id hn=>P.low id ((Nam.same hr').1 hn),P.il,P.ilen,by simpa using P.tlen,xr,xi,.sl t 0 c.taken.length 1,xb,xm,ml,mp,es1,es2,by rw [hr'];exact g1,g2,g3.kept fun id e=>oth 4 _ _ rfl e (by decide),g4.kept fun id e=>oth 5 _ _ rfl e (by decide),.inr ⟨t,by simp,C8 (E4 t1),by simp [bD],t3⟩,g6.kept fun id e=>oth 7 _ _ rfl e (by decide),g7.kept fun id e=>oth 8 _ _ rfl e (by decide),?_,g9,?_,g11⟩,by simp,fun id hid h1 h2=>B7 fun e=>h2 (by rw [<-e];exact nt),fun id hn=>.inl ((Nam.same hr').1 hn)⟩
  ·rw [oth 10 (.m ml) ml rfl rfl (by decide)];exact g8
  ·rw [oth 11 (.m mp) mp rfl rfl (by decide)];exact g10
theorem B4v {no:Int} (P:WP D n m f g r c h):∃ h',G7 [.c (.p r 0),.c (.i .i64 no)] h=some (.c (.i .i64 (wX D n c no)),h')/\WP D n m f g r (A3N D n c no) h'/\Fr r h h':=by
 obtain ⟨xr,xi,xt,xb,xm,ml,mp,es1,es2,g1,g2,g3,g4,g5,g6,g7,g8,g9,g10,g11⟩:=id P.row;have lL:A8 h 3 (.c (.p r 0))=some (.a (J1 D.length n m)):=T2 g1 (by simp [wkC]) rfl;have lT:A7 h (.c (.p r 6))=some (.c xt):=C1 g1 rfl rfl;have hD:=C0r (b:=D.length) (n:=n) (m:=m) (i:=no) (h:=h);unfold wX A3N D0Y;cases hd:uA D.length n no with
 | false =>
  rw [hd] at hD;refine ⟨h,gW (n:=0) ?_,P,Fr.refl r h⟩;rw [gV];simp only [esc,Nat.reduceAdd,lL,hD,Bool.false_and,cond_false]
 | true =>
  rw [hd] at hD;obtain ⟨i0,i1⟩:=C6i hd;obtain ⟨k,rfl⟩:=Int.eq_ofNat_of_zero_le i0;have hk:k<D.length:=by omega
  obtain ⟨t,rfl,t1,t2,t3⟩:=P.take (k:=k) (v:=true) g1 (by omega);have hkt:k<c.taken.length:=by rw [P.tlen];exact hk
  have ad:=E5 (sz:=1) (id:=t) (off:=0) (k:=.i64) hk;have l1:A7 h (.c (.p t (0+k*1)))=some (.c (.b c.taken[k])):=C1 t1 (by simp [bD,hkt]) rfl;have s1:D3 h (.c (.p t (0+k*1))) (.c (.b true))=some (h.set t (some ⟨bD (c.taken.set k true),true⟩)):=by
   rw [G3 t1 (by simp [bD,hkt])];simp [bD,List.map_set]
  rw [Nat.zero_add,Nat.mul_one] at ad l1 s1;have eg:c.taken.getD (Int.toNat (k:Int)) true=c.taken[k]:=by simp [List.getD,hkt]
  rw [eg,Int.toNat_natCast];cases hb:c.taken[k] with
  | true =>
   rw [hb] at l1;refine ⟨h,gW (n:=0) ?_,P,Fr.refl r h⟩;rw [gV];simp only [esc,Nat.reduceAdd,lL,lT,ad,l1,hD,Bool.not_true,Bool.and_false,cond_false]
  | false =>
   rw [hb] at l1;refine ⟨_,gW (n:=0) ?_,t2,t3⟩;rw [gV];simp only [esc,Nat.reduceAdd,lL,lT,ad,l1,s1,hD,Bool.not_true,Bool.not_false,Bool.and_true,cond_true]
end
end
section
section
variable {D:Dev} {n m:Int} {f:Cell} {g:A4} {r:Nat} {c:Cl} {h:A4}
theorem WP.apt (P:WP D n m f g r c h) {cs:List Cell} (g1:rd h r=some ⟨cs,true⟩):Apt cs r:=by
 obtain ⟨xr,xi,xt,xb,xm,ml,mp,es1,es2,h1,h2,_⟩:=P.row;rw [h1] at g1;cases g1;exact h2
theorem WP.pushed {off:Nat} {x y:Cell} {cs:List Cell} {h3:A4} (hv:∃ id cs,f=.f id cs) (P:WP D n m f g r c h) (g1:rd h r=some ⟨cs,true⟩) (hx:cs[off]?=some x) (r3:rd h3 r=some ⟨cs.set off y,true⟩)
  (hid:∀ id,nmC y=some id->h.length<=id) (hk:∀ j,j<h.length->j≠r->nmC x≠some j->rd h3 j=rd h j) (hl:h.length<=h3.length) :
  Fr r h h3/\Low g.length g h3/\Apt (cs.set off y) r/\(∀ id,Nam h3 r id->g.length<=id)/\∀ (i:Nat) (z:Cell) (j:Nat),i≠off->cs[i]?=some z->nmC z=some j->rd h3 j=rd h j:=by
 have ha:=P.apt g1;have lt:∀ (i:Nat) (z:Cell) (j:Nat),cs[i]?=some z->nmC z=some j->j<h.length:=fun i z j hi hz=>B6B hv P (B2G g1 hi hz)
 have nam3:∀ id,Nam h3 r id->Nam h r id\/h.length<=id:=by
  intro id hn;obtain ⟨R,z,hR,hz,hnm⟩:=hn;rw [r3] at hR;cases hR;rcases List.mem_or_eq_of_mem_set hz with h1 | h1
  ·exact .inl ⟨_,z,g1,h1,hnm⟩
  ·subst h1;exact .inr (hid id hnm)
 have lg:=P.lo.2.1;refine ⟨⟨hl,fun id hid hr hn=>hk id hid hr fun e=>hn (B2G g1 hx e),nam3⟩,⟨P.lo.1,by omega,fun id hid=>?_⟩,ha.set off fun id e=>?_,fun id hn=>?_,fun i z j hi hz hj=>?_⟩
 ·rw [hk id (by omega) (by have:=P.ge;omega) fun e=>?_]
  ·exact P.lo.2.2 id hid
  ·have:=P.low id (B2G g1 hx e);omega
 ·have h1:=hid id e;exact ⟨by have:=P.rlt;omega,fun j z _ hz hj=>by have:=lt j z id hz hj;omega⟩
 ·rcases nam3 id hn with h1 | h1
  ·exact P.low id h1
  ·omega
 ·exact hk j (lt i z j hz hj) (fun e=>ha.2 z (List.mem_of_getElem? hz) (by rw [hj,e])) fun e=>ha.ne hz hx hj e hi rfl
theorem WP.mod {off t:Nat} {x:Cell} {cs:List Cell} (P:WP D n m f g r c h) (hv:∃ id cs,f=.f id cs) (g1:rd h r=some ⟨cs,true⟩) (hx:cs[off]?=some x) (hn:nmC x=some t) (R:Option Row) :
  Fr r h (h.set t R)/\Low g.length g (h.set t R)/\rd (h.set t R) r=rd h r/\(∀ (i:Nat) (z:Cell) (j:Nat),i≠off->cs[i]?=some z->nmC z=some j->rd (h.set t R) j=rd h j)/\rd (h.set t R) t=R:=by
 have nt:=B2G g1 hx hn;have tne:t≠r:=fun e=>(P.apt g1).2 x (List.mem_of_getElem? hx) (by rw [hn,e])
 have hr':rd (h.set t R) r=rd h r:=B7 tne;exact ⟨⟨by simp,fun id hid h1 h2=>B7 fun e=>h2 (by rw [<-e];exact nt),fun id hn=>.inl ((Nam.same hr').1 hn)⟩,P.lo.set (P.low t nt) _,hr',fun i z j hi hz hj=>B7 fun e=>(P.apt g1).ne hx hz hn hj (Ne.symm hi) e,C8 (B6B hv P nt)⟩
theorem WP.push (hv:∃ id cs,f=.f id cs) (P:WP D n m f g r c h) {off nn sz:Nat} {x:Cell} {cs l ys:List Cell} (g1:rd h r=some ⟨cs,true⟩) (hx:cs[off]?=some x) (hd:HeldX h x l nn sz r) (hl:nn<=100000) (hy:ys.length=sz) (hsz:0<sz) :
  ∃ id h2 h3,A7 h (.c (.p r off))=some (.c x)/\W7 (h++[some ⟨ys,true⟩]) sz (.c x) (.c (.sl h.length 0 1 sz))=some (.c (.sl id 0 (nn+1) sz),h2)/\D3 h2 (.c (.p r off)) (.c (.sl id 0 (nn+1) sz))=some h3 /\
   rd h3 r=some ⟨cs.set off (.sl id 0 (nn+1) sz),true⟩/\HeldX h3 (.sl id 0 (nn+1) sz) (l++ys) (nn+1) sz r /\
   Fr r h h3/\Low g.length g h3/\Apt (cs.set off (.sl id 0 (nn+1) sz)) r/\(∀ id,Nam h3 r id->g.length<=id)/\∀ (i:Nat) (z:Cell) (j:Nat),i≠off->cs[i]?=some z->nmC z=some j->rd h3 j=rd h j:=by
 obtain ⟨id,h2,h3,p1,p2,p3,p4,p5,p6,p7,p8,p9⟩:=D5z g1 hx hd hl hy hsz;obtain ⟨q1,q2,q3,q4,q5⟩:=P.pushed (h3:=h3) (y:=.sl id 0 (nn+1) sz) hv g1 hx p4 (fun j e=>by cases e;omega) (fun j hj hr hn=>p8 j hj hr fun mm e=>hn (by rw [e];rfl)) (by omega);exact ⟨id,h2,h3,p1,p2,p3,p4,.inr ⟨id,rfl,p6,p7,by have:=P.rlt;omega⟩,q1,q2,q3,q4,q5⟩
theorem WP.pushRow (hv:∃ id cs,f=.f id cs) (P:WP D n m f g r c h) (a:Int) (hl:c.row.length<=100000) :
  ∃ x id h2 h3,A7 h (.c (.p r 4))=some (.c x)/\W7 (h++[some ⟨[.i .i64 a],true⟩]) 1 (.c x) (.c (.sl h.length 0 1 1))=some (.c (.sl id 0 (c.row.length+1) 1),h2)/\D3 h2 (.c (.p r 4)) (.c (.sl id 0 (c.row.length+1) 1))=some h3 /\
   WP D n m f g r { c with row:=c.row++[a] } h3/\Fr r h h3:=by
 obtain ⟨xr,xi,xt,xb,xm,ml,mp,es1,es2,g1,g2,g3,g4,g5,g6,g7,g8,g9,g10,g11⟩:=id P.row;obtain ⟨id,h2,h3,p1,p2,p3,p4,p5,q1,q2,q3,q4,q5⟩:=P.push (off:=4) (ys:=[.i .i64 a]) hv g1 rfl g3 hl rfl (by decide);refine ⟨xr,id,h2,h3,p1,p2,p3,⟨q2,P.ge,q4,P.il,P.ilen,P.tlen,_,xi,xt,xb,xm,ml,mp,es1,es2,p4,q3,?_,g4.kept fun id e=>q5 5 _ _ (by decide) rfl e,g5.kept fun id e=>q5 6 _ _ (by decide) rfl e,g6.kept fun id e=>q5 7 _ _ (by decide) rfl e,g7.kept fun id e=>q5 8 _ _ (by decide) rfl e,?_,g9,?_,g11⟩,q1⟩
 ·have e1:encI (c.row++[a])=encI c.row++[.i .i64 a]:=A2I _ _;rw [e1,List.length_append];exact p5
 ·rw [q5 10 (.m ml) ml (by decide) rfl rfl];exact g8
 ·rw [q5 11 (.m mp) mp (by decide) rfl rfl];exact g10
theorem WP.pushBlk (hv:∃ id cs,f=.f id cs) (P:WP D n m f g r c h) (a:Int) (hl:c.blocks.length<=100000) :
  ∃ x id h2 h3,A7 h (.c (.p r 7))=some (.c x)/\W7 (h++[some ⟨[.i .i64 a],true⟩]) 1 (.c x) (.c (.sl h.length 0 1 1))=some (.c (.sl id 0 (c.blocks.length+1) 1),h2)/\D3 h2 (.c (.p r 7)) (.c (.sl id 0 (c.blocks.length+1) 1))=some h3 /\
   WP D n m f g r { c with blocks:=c.blocks++[a] } h3/\Fr r h h3:=by
 obtain ⟨xr,xi,xt,xb,xm,ml,mp,es1,es2,g1,g2,g3,g4,g5,g6,g7,g8,g9,g10,g11⟩:=id P.row;obtain ⟨id,h2,h3,p1,p2,p3,p4,p5,q1,q2,q3,q4,q5⟩:=P.push (off:=7) (ys:=[.i .i64 a]) hv g1 rfl g6 hl rfl (by decide);refine ⟨xb,id,h2,h3,p1,p2,p3,⟨q2,P.ge,q4,P.il,P.ilen,P.tlen,xr,xi,xt,_,xm,ml,mp,es1,es2,p4,q3,g3.kept fun id e=>q5 4 _ _ (by decide) rfl e,g4.kept fun id e=>q5 5 _ _ (by decide) rfl e,g5.kept fun id e=>q5 6 _ _ (by decide) rfl e,?_,g7.kept fun id e=>q5 8 _ _ (by decide) rfl e,?_,g9,?_,g11⟩,q1⟩
 ·have e1:encI (c.blocks++[a])=encI c.blocks++[.i .i64 a]:=A2I _ _;rw [e1,List.length_append];exact p5
 ·rw [q5 10 (.m ml) ml (by decide) rfl rfl];exact g8
 ·rw [q5 11 (.m mp) mp (by decide) rfl rfl];exact g10
theorem WP.pushMade (hv:∃ id cs,f=.f id cs) (P:WP D n m f g r c h) {b:List UInt8} (hb:b.length=256) (hl:c.made.length<=100000) :
  ∃ x id h2 h3,A7 h (.c (.p r 8))=some (.c x)/\W7 (h++[some ⟨A5 b,true⟩]) 256 (.c x) (.c (.sl h.length 0 1 256))=some (.c (.sl id 0 (c.made.length+1) 256),h2)/\D3 h2 (.c (.p r 8)) (.c (.sl id 0 (c.made.length+1) 256))=some h3 /\
   WP D n m f g r { c with made:=c.made++[b] } h3/\Fr r h h3:=by
 obtain ⟨xr,xi,xt,xb,xm,ml,mp,es1,es2,g1,g2,g3,g4,g5,g6,g7,g8,g9,g10,g11⟩:=id P.row;obtain ⟨id,h2,h3,p1,p2,p3,p4,p5,q1,q2,q3,q4,q5⟩:=P.push (off:=8) (ys:=A5 b) hv g1 rfl g7 hl (by rw [A6,hb]) (by decide);refine ⟨xm,id,h2,h3,p1,p2,p3,⟨q2,P.ge,q4,P.il,P.ilen,P.tlen,xr,xi,xt,xb,_,ml,mp,es1,es2,p4,q3,g3.kept fun id e=>q5 4 _ _ (by decide) rfl e,g4.kept fun id e=>q5 5 _ _ (by decide) rfl e,g5.kept fun id e=>q5 6 _ _ (by decide) rfl e,g6.kept fun id e=>q5 7 _ _ (by decide) rfl e,?_,?_,g9,?_,g11⟩,q1⟩
 ·have e1:D7 (c.made++[b])=D7 c.made++A5 b:=by simp [D7]
  rw [e1,List.length_append];exact p5
 ·rw [q5 10 (.m ml) ml (by decide) rfl rfl];exact g8
 ·rw [q5 11 (.m mp) mp (by decide) rfl rfl];exact g10
def A1E (c:Cl) (no:Int) (b:List UInt8):Cl:={ c with blocks:=c.blocks++[no],made:=c.made++[b] }
theorem C4H {no:Int} {b:List UInt8} (hv:∃ id cs,f=.f id cs) (P:WP D n m f g r c h) (hb:b.length=256) (h1:c.blocks.length<=100000) (h2:c.made.length<=100000) :
  ∃ h',N0 [.c (.p r 0),.c (.i .i64 no),.a (A5 b)] h=some (.t [],h')/\WP D n m f g r (A1E c no b) h'/\Fr r h h':=by
 have hbl:(A5 b).length=256:=by rw [A6,hb]
 have P1:=P.more hv [some (Row.mk (A5 b) true)];have F1:Fr r h (h++[some (Row.mk (A5 b) true)]):=Fr.low ((Low.refl (Nat.le_refl _)).new _) P.rlt;obtain ⟨G,hG⟩:∃ G,G=h++[some (Row.mk (A5 b) true)]:=⟨_,rfl⟩;have hl0:Loc G r h.length:=by
  rw [hG];refine ⟨by simp,by have:=P.rlt;omega,fun hn=>?_⟩;have:=B6B hv P ((Nam.same (E3 P.rlt)).1 hn);omega
 have hr0:rd G h.length=some ⟨A5 b,true⟩:=by rw [hG];exact V6
 rw [<-hG] at P1 F1;obtain ⟨x,id,g2,g3,a1,a2,a3,a4,a5⟩:=P1.pushBlk hv no h1;obtain ⟨l1,l2⟩:=a5.loc hl0;rw [hr0] at l2;have lB:A8 g3 256 (.c (.p h.length 0))=some (.a (A5 b)):=D4 l2 hbl;obtain ⟨x',bP,g4,g5,b1,b2,b3,b4,b5⟩:=a4.pushMade hv hb h2;refine ⟨g5,A8f (n:=0) ?_,b4,F1.trans (a5.trans b5)⟩;rw [A76];have ef:C7 (List.replicate 256 (Cell.i .u8 0)) [(0,256,.a (A5 b))]=some (A5 b):=C2P hb;have ef0:C7 [Cell.i .i64 0] [(0,1,.c (.i .i64 no))]=some [.i .i64 no]:=rfl;have es:(g3++[none]).set g3.length (some (Row.mk (A5 b) true))=g3++[some (Row.mk (A5 b) true)]:=by simp
 rw [hG] at a1 a2;simp only [List.append_assoc,List.cons_append,List.nil_append,List.length_append,List.length_cons,List.length_nil,Nat.zero_add] at a2;generalize A5 b=B at *;generalize List.replicate 256 (Cell.i .u8 0)=Z at *;simp only [esc,Nat.reduceAdd,Nat.add_zero,ef0,a1,a2,a3,lB,ef,es,b1,b2,b3];rfl
end
end
section
def A24 (D:Dev) (n:Int) (c:Cl) (ino:Int):Bool:=!(decide (ino=1)||decide (kdV D n ino=0)||decide (kdV D n ino=2)&&(c.par ino).isSome)
def C4G (c:Cl) (ino:Int):Cl:={ c with lnk:=A6B c.lnk ino ((c.lnk ino).getD 0+1) }
def D3s (c:Cl) (dir ino:Int):Cl:={ c with par:=A6B c.par ino dir,row:=c.row++[ino] }
def A49 (D:Dev) (n:Int) (c:Cl) (dir ino:Int):Cl:=bif A24 D n c ino then (bif (c.par ino).isSome then C4G c ino else D3s (C4G c ino) dir ino) else c
section
variable {D:Dev} {n m:Int} {f:Cell} {g:A4} {r:Nat} {c:Cl} {h:A4}
theorem WP.setLnk (hv:∃ id cs,f=.f id cs) (P:WP D n m f g r c h) (a v:Int):∃ ml h',A7 h (.c (.p r 10))=some (.c (.m ml))/\(∀ ok i,oH h (some .i64) (.c (.i .i64 0)) ok (.c (.m ml)) (.c (.i .i64 i))=some (A1T ok (.c (.i .i64 ((c.lnk i).getD 0))) (c.lnk i).isSome)) /\
  sM h (some .i64) (.c (.m ml)) (.c (.i .i64 a)) (.c (.i .i64 v))=some h'/\WP D n m f g r { c with lnk:=A6B c.lnk a v } h'/\Fr r h h':=by
 obtain ⟨xr,xi,xt,xb,xm,ml,mp,es1,es2,g1,g2,g3,g4,g5,g6,g7,g8,g9,g10,g11⟩:=id P.row;have l1:A7 h (.c (.p r 10))=some (.c (.m ml)):=C1 g1 rfl rfl;obtain ⟨q1,q2,q3,q4,q5⟩:=P.mod (off:=10) (x:=.m ml) hv g1 rfl rfl (some (J3 (A7B (.i .i64 a) (.c (.i .i64 v)) es1)));refine ⟨ml,_,l1,fun ok i=>D33 g8 g9,D47 g8 g9,⟨q2,P.ge,fun id hn=>P.low id ((Nam.same q3).1 hn),P.il,P.ilen,P.tlen,xr,xi,xt,xb,xm,ml,mp,_,es2,by rw [q3];exact g1,g2,g3.kept fun id e=>q4 4 _ _ (by decide) rfl e,g4.kept fun id e=>q4 5 _ _ (by decide) rfl e,g5.kept fun id e=>q4 6 _ _ (by decide) rfl e,g6.kept fun id e=>q4 7 _ _ (by decide) rfl e,g7.kept fun id e=>q4 8 _ _ (by decide) rfl e,q5,g9.put a v,?_,g11⟩,q1⟩;rw [q4 11 (.m mp) mp (by decide) rfl rfl];exact g10
theorem WP.setPar (hv:∃ id cs,f=.f id cs) (P:WP D n m f g r c h) (a v:Int):∃ mp h',A7 h (.c (.p r 11))=some (.c (.m mp))/\(∀ ok i,oH h (some .i64) (.c (.i .i64 0)) ok (.c (.m mp)) (.c (.i .i64 i))=some (A1T ok (.c (.i .i64 ((c.par i).getD 0))) (c.par i).isSome)) /\
  sM h (some .i64) (.c (.m mp)) (.c (.i .i64 a)) (.c (.i .i64 v))=some h'/\WP D n m f g r { c with par:=A6B c.par a v } h'/\Fr r h h':=by
 obtain ⟨xr,xi,xt,xb,xm,ml,mp,es1,es2,g1,g2,g3,g4,g5,g6,g7,g8,g9,g10,g11⟩:=id P.row;have l1:A7 h (.c (.p r 11))=some (.c (.m mp)):=C1 g1 rfl rfl;obtain ⟨q1,q2,q3,q4,q5⟩:=P.mod (off:=11) (x:=.m mp) hv g1 rfl rfl (some (J3 (A7B (.i .i64 a) (.c (.i .i64 v)) es2)));refine ⟨mp,_,l1,fun ok i=>D33 g10 g11,D47 g10 g11,⟨q2,P.ge,fun id hn=>P.low id ((Nam.same q3).1 hn),P.il,P.ilen,P.tlen,xr,xi,xt,xb,xm,ml,mp,es1,_,by rw [q3];exact g1,g2,g3.kept fun id e=>q4 4 _ _ (by decide) rfl e,g4.kept fun id e=>q4 5 _ _ (by decide) rfl e,g5.kept fun id e=>q4 6 _ _ (by decide) rfl e,g6.kept fun id e=>q4 7 _ _ (by decide) rfl e,g7.kept fun id e=>q4 8 _ _ (by decide) rfl e,?_,g9,q5,g11.put a v⟩,q1⟩;rw [q4 10 (.m ml) ml (by decide) rfl rfl];exact g8
theorem WP.view (P:WP D n m f g r c h):A8 h 4 (.c (.p r 0))=some (.a (vwC D.length n m f)):=by
 obtain ⟨xr,xi,xt,xb,xm,ml,mp,es1,es2,g1,_⟩:=P.row;exact T2 g1 (by simp [wkC]) rfl
theorem D3Q {dir ino:Int} (hD:okD D) (hv:IsView g f D) (P:WP D n m f g r c h) (hl:c.row.length<=100000) (hk:0<=(c.lnk ino).getD 0/\(c.lnk ino).getD 0<1000000) :
  ∃ h',U1 [.c (.p r 0),.c (.i .i64 dir),.c (.i .i64 ino)] h=some (.c (.b (A24 D n c ino)),h')/\WP D n m f g r (A49 D n c dir ino) h'/\Fr r h h':=by
 have hv2:=hv.get;have lV:=P.view;have hI:=nE (n:=n) (m:=m) (i:=ino) hD (hv.since P.lo);rw [B4n] at hI;have f0:∀ k l s p d,B9S (.a (G9 k l s p d)) 0=some (.c (.i .i64 k)):=fun _ _ _ _ _=>rfl
 obtain ⟨mp,h9,b1,b2,b3,b4,b5⟩:=P.setPar hv2 ino dir;have b2':=b2 true ino;obtain ⟨ml,h1,a1,a2,a3,a4,a5⟩:=P.setLnk hv2 ino ((c.lnk ino).getD 0+1);have a2':=a2 false ino;have w1:IntKind.wrap .i64 ((c.lnk ino).getD 0+1)=(c.lnk ino).getD 0+1:=wrap_i64 (by omega) (by omega);have no:A24 D n c ino=false->∃ h',U1 [.c (.p r 0),.c (.i .i64 dir),.c (.i .i64 ino)] h=some (.c (.b false),h')/\WP D n m f g r c h'/\Fr r h h':=by
  intro hb;refine ⟨h,gX (n:=0) ?_,P,Fr.refl r h⟩;rw [aW];unfold A24 at hb;simp only [Bool.not_eq_false',Bool.or_eq_true,Bool.and_eq_true,decide_eq_true_eq] at hb;by_cases c1:ino=1
  ·have n1:(1:Int)=1:=rfl;subst c1;generalize vwC D.length n m f=V at *;simp only [esc,Nat.reduceAdd,lV,hI,f0,b1,b2',A1T,A1i,decide_true]
  ·by_cases c2:kdV D n ino=0
   ·generalize vwC D.length n m f=V at *;simp only [esc,Nat.reduceAdd,lV,hI,f0,b1,b2',A1T,A1i,c1,c2,decide_true,decide_false]
   ·have c3:kdV D n ino=2/\(c.par ino).isSome=true:=by
     rcases hb with (h | h) | h
     ·exact absurd h c1
     ·exact absurd h c2
     ·exact h
    obtain ⟨c3,c4⟩:=c3;have n20:¬ (2:Int)=0:=by decide
    generalize vwC D.length n m f=V at *;simp only [esc,Nat.reduceAdd,lV,hI,f0,b1,b2',A1T,A1i,c1,c3,c4,n20,decide_true,decide_false]
 cases hb:A24 D n c ino with
 | false =>
  obtain ⟨h',e1,e2,e3⟩:=no hb;exact ⟨h',e1,by unfold A49;rw [hb];exact e2,e3⟩
 | true =>
  unfold A49;rw [hb];unfold A24 at hb;simp only [Bool.not_eq_true',Bool.or_eq_false_iff,Bool.and_eq_false_iff,decide_eq_false_iff_not] at hb;obtain ⟨⟨c1,c2⟩,c3⟩:=hb;have P1:WP D n m f g r (C4G c ino) h1:=a4;cases hs:(c.par ino).isSome with
  | true =>
   have c4:¬ kdV D n ino=2:=by
    rcases c3 with h | h
    ·exact h
    ·rw [hs] at h;cases h
   refine ⟨h1,gX (n:=0) ?_,P1,a5⟩;rw [aW];rw [hs] at b2';generalize vwC D.length n m f=V at *;simp only [esc,Nat.reduceAdd,lV,hI,f0,b1,b2',A1T,A1i,c1,c2,c4,decide_false,a1,a2',A1h,w1,a3,aW,fQ]
  | false =>
   obtain ⟨mp',h2,d1,d2,d3,d4,d5⟩:=P1.setPar hv2 ino dir;obtain ⟨x,id,g2,g3,e1,e2,e3,e4,e5⟩:=d4.pushRow hv2 ino hl;have e4':WP D n m f g r (D3s (C4G c ino) dir ino) g3:=e4;refine ⟨g3,gX (n:=0) ?_,e4',(a5.trans d5).trans e5⟩;rw [aW];rw [hs] at b2';have ef0:C7 [Cell.i .i64 0] [(0,1,.c (.i .i64 ino))]=some [.i .i64 ino]:=rfl;generalize vwC D.length n m f=V at *;by_cases c4:kdV D n ino=2
   ·have n20:¬ (2:Int)=0:=by decide
    simp only [esc,Nat.reduceAdd,lV,hI,f0,b1,b2',A1T,A1i,c1,c4,n20,decide_true,decide_false,a1,a2',A1h,w1,a3,d1,d3,ef0,e1,e2,e3,fQ]
   ·simp only [esc,Nat.reduceAdd,lV,hI,f0,b1,b2',A1T,A1i,c1,c2,c4,decide_true,decide_false,a1,a2',A1h,w1,a3,d1,d3,ef0,e1,e2,e3,fQ]
end
end
section
def hmS (D:Dev) (X:List Int) (nm:List UInt8):Option Slt:=if iY X nm=0 then none else gF (blk D (iY X nm)) nm
def B6H (no:Int) (o:Option Slt):List Cell:=.i .i64 no::slC o
theorem D3q {D:Dev} {n m:Int} {f xr xi xt xb xm:Cell} {lost:Int} {ml mp:Nat} (hf:f.isX=false) (h1:xr.isX=false) (h2:xi.isX=false) (h3:xt.isX=false) (h4:xb.isX=false) (h5:xm.isX=false):noX (wkC D n m f xr xi xt xb xm lost ml mp)=true:=by
 simp only [noX,wkC,List.all_cons,List.all_nil,hf,h1,h2,h3,h4,h5];rfl
theorem HeldX.isX {h:A4} {x:Cell} {cs:List Cell} {n sz r:Nat} (hx:HeldX h x cs n sz r):x.isX=false:=by
 rcases hx with ⟨_,_,rfl⟩ | ⟨id,rfl,_⟩<;>rfl
section
variable {D:Dev} {n m:Int} {f:Cell} {g:A4} {r:Nat} {c:Cl} {h:A4}
def VwR (h:A4) (r:Nat) (V:List Cell):Prop:=∃ cs w,rd h r=some ⟨cs,w⟩/\cs.take 4=V/\4<=cs.length/\noX cs=true
theorem VwR.ro {V:List Cell} (a:VwR h r V):VwR (ro h) r V:=by
 obtain ⟨cs,w,h1,h2,h3,h4⟩:=a;exact ⟨cs,false,B4X h1 h4,h2,h3,h4⟩
theorem VwR.more {V:List Cell} (a:VwR h r V) (t:A4):VwR (h++t) r V:=by
 obtain ⟨cs,w,h1,h2⟩:=a;exact ⟨cs,w,B6 h1,h2⟩
theorem VwR.since {V:List Cell} {h':A4} (a:VwR h r V) (hl:Low h.length h h'):VwR h' r V:=by
 obtain ⟨cs,w,h1,h2⟩:=a;exact ⟨cs,w,hl.rd h1,h2⟩
theorem VwR.load {V:List Cell} (a:VwR h r V):A8 h 4 (.c (.p r 0))=some (.a V):=by
 obtain ⟨cs,w,h1,h2,h3,h4⟩:=a;rw [T2 h1 (by omega) (by
  rw [List.drop_zero];have:noX (cs.take 4)=true:=by
   unfold noX at h4 ⊢;rw [List.all_eq_true] at h4 ⊢;exact fun x hx=>h4 x (List.mem_of_mem_take hx)
  rw [this];simp),List.drop_zero,h2]
theorem WP.vw (hv:∃ id cs,f=.f id cs) (P:WP D n m f g r c h):VwR h r (vwC D.length n m f):=by
 obtain ⟨xr,xi,xt,xb,xm,ml,mp,es1,es2,g1,g2,g3,g4,g5,g6,g7,_⟩:=P.row;obtain ⟨_,_,rfl⟩:=hv;exact ⟨_,true,g1,rfl,by simp [wkC],D3q rfl g3.isX g4.isX g5.isX g6.isX g7.isX⟩
theorem C8E {d:Int} {t:List Int} {nm:List UInt8} (hD:okD D) (hv:IsView h f D) (hr:VwR h r (vwC D.length n m f)) (ht:t.length=32) (hs:nm.length<9223372036854775807) :
  P8 [.c (.p r 0),.a (encI (d::t)),.c (.s nm)] h=some (.t [.a (B6H (iY (d::t) nm) (hmS D (d::t) nm)),.c (.b (hmS D (d::t) nm).isSome)],h):=by
 have hX:(encI (d::t)).length=33:=by simp [B9,ht]
 have hv1:=hv.ro;have lV:=fun tt=>(hr.ro.more tt).load
 have key:∃ g',fY 0 [.c (.p r 0),.a (encI (d::t)),.c (.s nm)] (ro h)=some (.t [.a (B6H (iY (d::t) nm) (hmS D (d::t) nm)),.c (.b (hmS D (d::t) nm).isSome)],g'):=by
  generalize ro h=g at *;have hM:=fun h=>C3q (s:=nm) hs (h:=h)
  have hP:=fun h=>C0w (d:=d) (h:=h) ht (C8N (s:=nm))
  have R0:=D1A (d::t) nm;have eP:C0U nm%E9 d=B39 (d::t) nm:=rfl;rw [eP] at hP;have ad:∀ q,D8 32 1 (.c (.p q 1)) (.c (.i .i64 (B39 (d::t) nm:Nat)))=some (.c (.p q (1+B39 (d::t) nm))):=fun q=>by
   rw [D4a (by omega) (by omega)];simp
  have l1:ld1 (some (Row.mk (encI (d::t)) true)) (1+B39 (d::t) nm)=some (.c (.i .i64 (iY (d::t) nm))):=by
   rw [A6f];have:(encI (d::t))[1+B39 (d::t) nm]?=some (.i .i64 (iY (d::t) nm)):=by
    rw [H9,Nat.add_comm,List.getElem?_cons_succ,List.getElem?_eq_getElem (by omega)];unfold iY;rw [List.tail_cons,List.getD_eq_getElem?_getD,List.getElem?_eq_getElem (by omega)];rfl
   rw [this];rfl
  have ef0:C7 [Cell.i .i64 0,.i .i64 0,.s [],.i .i64 0] []=some (B6H 0 none):=rfl;have ef1:∀ (no:Int) (o:Option Slt),C7 [Cell.i .i64 0,.i .i64 0,.s [],.i .i64 0] [(0,1,.c (.i .i64 no)),(1,3,.a (slC o))]=some (B6H no o):=fun no o=>by cases o<;>rfl
  have z4:∀ o no,stN (some (Row.mk [Cell.i .i64 0,.i .i64 0,.s [],.i .i64 0] true)) 0 4 (B6H no o)=some ⟨B6H no o,true⟩:=fun o no=>by cases o<;>rfl
  have l4:∀ o no,ldN (some (Row.mk (B6H no o) true)) 0 4=some (.a (B6H no o)):=fun o no=>by cases o<;>rfl
  have s3:∀ o,stN (some (Row.mk [Cell.i .i64 0,.s [],.i .i64 0] true)) 0 3 (slC o)=some ⟨slC o,true⟩:=fun o=>by cases o<;>rfl
  have l3:∀ o,ldN (some (Row.mk (slC o) true)) 0 3=some (.a (slC o)):=fun o=>by cases o<;>rfl
  have l33:ldN (some (Row.mk (encI (d::t)) true)) 0 33=some (.a (encI (d::t))):=gG hX;rw [A75];unfold hmS;have hB:=fun tt=>Y2 (n:=n) (m:=m) (no:=iY (d::t) nm) (h:=g++tt) hD (hv1.more _)
  have hF:=fun h=>A8C (b:=blk D (iY (d::t) nm)) (nm:=nm) (h:=h) (V4 hD)
  generalize iY (d::t) nm=B at *;generalize B39 (d::t) nm=P at *;by_cases c0:B=0
  ·rw [if_pos c0,c0];rw [c0] at l1;generalize encI (d::t)=X at *;generalize vwC D.length n m f=V at *;exact ⟨_,by simp only [esc,Y7,K3,fB,O4,Q1,H7,gG,kM,Nat.reduceAdd,hX,hM,hP,ad,l1,l33,decide_true,ef0,z4,l4,Option.isSome_none]<;>rfl⟩
  ·rw [if_neg c0];generalize gF (blk D B) nm=o at *;generalize A5 (blk D B)=y at *;generalize encI (d::t)=X at *;generalize vwC D.length n m f=V at *;exact ⟨_,by simp only [esc,Y7,K3,fB,O4,Q1,H7,gG,kM,Nat.reduceAdd,hX,hM,hP,ad,l1,l33,c0,decide_false,lV,hB,hF,ef1,z4,l4,s3,l3]<;>rfl⟩
 obtain ⟨g',e⟩:=key;exact A5H e (by cases hmS D (d::t) nm<;>rfl)
end
end
section
def LocV (h:A4) (r id:Nat) (cs:List Cell):Prop:=Loc h r id/\rd h id=some ⟨cs,true⟩
section
variable {D:Dev} {n m:Int} {f:Cell} {g:A4} {r:Nat} {c:Cl} {h:A4}
theorem LocV.fr {h':A4} {id:Nat} {cs:List Cell} (a:LocV h r id cs) (b:Fr r h h'):LocV h' r id cs:=by
 obtain ⟨h1,h2⟩:=b.loc a.1;exact ⟨h1,by rw [h2];exact a.2⟩
theorem LocV.set {id j:Nat} {cs:List Cell} {x:Option Row} (a:LocV h r id cs) (hj:j≠id) (hl:j≠r):LocV (h.set j x) r id cs:=by
 refine ⟨⟨by simpa using a.1.1,a.1.2.1,fun hn=>a.1.2.2 ((Nam.same (B7 hl)).1 hn)⟩,by rw [B7 hj];exact a.2⟩
theorem LocV.self {id:Nat} {cs cs':List Cell} (a:LocV h r id cs):LocV (h.set id (some ⟨cs',true⟩)) r id cs' :=
 ⟨⟨by simpa using a.1.1,a.1.2.1,fun hn=>a.1.2.2 ((Nam.same (B7 a.1.2.1)).1 hn)⟩,C8 a.1.1⟩
theorem LocV.new (hv:∃ id cs,f=.f id cs) (P:WP D n m f g r c h) {t:A4} {k:Nat} {cs:List Cell} (hk:t[k]?=some (some ⟨cs,true⟩)):LocV (h++t) r (h.length+k) cs:=by
 have hk2:=(List.getElem?_eq_some_iff.1 hk).1;refine ⟨⟨by simp;omega,by have:=P.rlt;omega,fun hn=>?_⟩,?_⟩
 ·have:=B6B hv P ((Nam.same (E3 P.rlt)).1 hn);omega
 ·unfold rd;rw [List.getElem?_append_right (by omega),show h.length+k-h.length=k by omega,hk];rfl
theorem D1j {k:Nat} {x many:Int} {pm pw:Nat} (P:WP D n m f g r c h) (hm:LocV h r pm [.i .i64 many]) (hw:LocV h r pw [.p r 0]) (hk:k<128) :
  ∃ h',V7 [.c (.i .i64 (k:Int)),.c (.i .i64 x),.c (.p pm 0),.c (.p pw 0)] h=some (.c (.b (decide ((k:Int)+6<many) && !decide (wX D n c x=0))),h') /\
   WP D n m f g r (if (k:Int)+6<many then A3N D n c x else c) h'/\Fr r h h':=by
 have l1:A7 h (.c (.p pm 0))=some (.c (.i .i64 many)):=C1 hm.2 rfl rfl;have l2:A7 h (.c (.p pw 0))=some (.c (.p r 0)):=C1 hw.2 rfl rfl;have w1:IntKind.wrap .i64 ((k:Int)+6)=(k:Int)+6:=wrap_i64 (by omega) (by omega);by_cases c1:(k:Int)+6<many
 ·obtain ⟨h',e1,e2,e3⟩:=B4v (no:=x) P;refine ⟨h',qO (n:=0) ?_,by rw [if_pos c1];exact e2,e3⟩;rw [qB];simp only [esc,w1,l1,l2,c1,e1,Bool.true_and]
 ·refine ⟨h,qO (n:=0) ?_,by rw [if_neg c1];exact P,Fr.refl r h⟩;rw [qB];simp only [esc,w1,l1,l2,c1,Bool.false_and]
def A6T (D:Dev) (n many:Int) (s:Cl × List UInt8) (k:Nat):Cl × List UInt8 :=
 if ptP s.2 k=0 then s else
  (if (k:Int)+6<many then A3N D n s.1 (ptP s.2 k) else s.1,bif decide ((k:Int)+6<many) && !decide (wX D n s.1 (ptP s.2 k)=0) then s.2 else I1 s.2 (2*k) (D9 2 0))
def xD (D:Dev) (n many:Int):Nat->Nat->Cl × List UInt8->Cl × List UInt8
 | 0,_,s=>s
 | e+1,k,s=>xD D n many e (k+1) (A6T D n many s k)
theorem C3i {D:Dev} {n many:Int} {s:Cl × List UInt8} {k:Nat} (hs:s.2.length=256) (hk:k<128):(A6T D n many s k).2.length=256:=by
 unfold A6T;split
 ·exact hs
 ·dsimp only;cases (decide ((k:Int)+6<many) && !decide (wX D n s.1 (ptP s.2 k)=0)) with
  | true=>exact hs
  | false=>rw [cond_false,L8 (by rw [hs,X8];omega)];exact hs
theorem B6r {D:Dev} {n many:Int}:∀ {e k:Nat} {s:Cl × List UInt8},k+e<=128->s.2.length=256->(xD D n many e k s).2.length=256
 | 0,_,s,_,hs=>hs
 | e+1,k,s,hk,hs=>by
  rw [xD];exact B6r (by omega) (C3i hs (by omega))
theorem C6F {many:Int} {pm pw q0 q1 q:Nat} {h0:A4} (h0g:g.length<=h0.length) (a0:h0.length<=q0) (a1:h0.length<=q1) (n1:q0≠q1) (n2:q0≠pm) (n3:q0≠pw):∀ (e k M:Nat) (s:Cl × List UInt8) (h:A4),k+e=128->e<M->s.2.length=256 ->
  WP D n m f g r s.1 h->Fr r h0 h->LocV h r pm [.i .i64 many]->LocV h r pw [.p r 0]->LocV h r q0 (A5 s.2)->(∃ z,z.length=256/\LocV h r q1 z) ->
  ∃ h',X4 q M (.c (.f 176 [(pm,0),(pw,0)])) (.c (.p q0 0)) (.c (.p q1 0)) (.c (.i .i64 (k:Int))) h=some (.a (A5 (xD D n many e k s).2),h')/\WP D n m f g r (xD D n many e k s).1 h'/\Fr r h0 h'
 | e,k,0,s,h,_,hM,_,_,_,_,_,_,_=>by omega
 | 0,k,M+1,s,h,hk,hM,hs,P,F,hm,hw,hb,hz=>by
  have c0:¬ ((k:Int)<128):=by omega
  obtain ⟨z,xX,hz⟩:=hz;have hl:(A5 s.2).length=256:=by rw [A6,hs]
  have l1:=D4 (n:=256) hb.2 hl;have s1:=storeAll (n:=256) (xs:=A5 s.2) hz.2 xX hl;have hz2:=hz.self (cs':=A5 s.2);have l2:=D4 (n:=256) hz2.2 hl;refine ⟨h.set q1 (some ⟨A5 s.2,true⟩),?_,P.set hz.1 (by omega),F.set hz.1 a1⟩;rw [kT];unfold xD;generalize A5 s.2=B at *;simp only [esc,c0,l1,s1,l2]
 | e+1,k,M+1,s,h,hk,hM,hs,P,F,hm,hw,hb,hz=>by
  have c0:((k:Int)<128):=by omega
  have hk1:k<128:=by omega
  have hl:(A5 s.2).length=256:=by rw [A6,hs]
  have l1:=D4 (n:=256) hb.2 hl;have hG:=C2C (h:=h) hs hk1;have w1:=E8 (show k+1<9223372036854775808 by omega);have hfs:=C3i (D:=D) (n:=n) (many:=many) hs hk1;have ih:=fun h=>C6F (q:=q) (many:=many) h0g a0 a1 n1 n2 n3 e (k+1) M (A6T D n many s k) h (by omega) (by omega) hfs
  have hcv:∀ (k x:Val) (h:A4),oJ H6 (.c (.f 176 [(pm,0),(pw,0)])) [k,x] h=V7 [k,x,.c (.p pm 0),.c (.p pw 0)] h:=fun _ _ _=>Eq.trans rfl rfl
  rw [kT,xD];by_cases cz:ptP s.2 k=0
  ·have ef:A6T D n many s k=s:=by unfold A6T;rw [if_pos cz]
   rw [ef] at ih ⊢;obtain ⟨h',e1,e2⟩:=ih h P F hm hw hb hz;refine ⟨h',?_,e2⟩;rw [cz] at hG;generalize A5 s.2=B at *;simp only [esc,c0,l1,hG,aK,w1];exact e1
  ·obtain ⟨h1,f1,f2,f3⟩:=D1j (x:=ptP s.2 k) P hm hw hk1;have hb1:=hb.fr f3;have hm1:=hm.fr f3;have hw1:=hw.fr f3;obtain ⟨z,xX,hz⟩:=hz;have hz1:=hz.fr f3;cases hok:(decide ((k:Int)+6<many) && !decide (wX D n s.1 (ptP s.2 k)=0)) with
   | true =>
    have ef:A6T D n many s k=(if (k:Int)+6<many then A3N D n s.1 (ptP s.2 k) else s.1,s.2):=by unfold A6T;rw [if_neg cz,hok];rfl
    rw [ef] at ih ⊢;obtain ⟨h',e1,e2⟩:=ih h1 f2 (F.trans f3) hm1 hw1 hb1 ⟨z,xX,hz1⟩;refine ⟨h',?_,e2⟩;rw [hok] at f1
    try dsimp only at e1
    generalize A5 s.2=B at *;simp only [esc,c0,l1,hG,cz,hcv,f1,aK,w1];exact e1
   | false =>
    have ef:A6T D n many s k=(if (k:Int)+6<many then A3N D n s.1 (ptP s.2 k) else s.1,I1 s.2 (2*k) (D9 2 0)):=by unfold A6T;rw [if_neg cz,hok];rfl
    rw [ef] at ih hfs ⊢;have hW:=fun h=>T5 (h:=h) (l:=s.2) hs (a:=((2*k:Nat):Int)) (w:=2) (v:=0)
    rw [D2z (by omega)] at hW;have lb1:=D4 (n:=256) hb1.2 hl;have hl2:(A5 (I1 s.2 (2*k) (D9 2 0))).length=256:=by rw [A6];exact hfs
    have sb1:=storeAll (n:=256) (xs:=A5 (I1 s.2 (2*k) (D9 2 0))) hb1.2 hl hl2;obtain ⟨h',e1,e2⟩:=ih _ (f2.set hb1.1 (by omega)) ((F.trans f3).set hb1.1 a0) (hm1.set n2 hb1.1.2.1) (hw1.set n3 hb1.1.2.1) hb1.self ⟨z,xX,hz1.set n1 hb1.1.2.1⟩;refine ⟨h',?_,e2⟩;rw [hok] at f1
    try dsimp only at e1
    generalize A5 (I1 s.2 (2*k) (D9 2 0))=B2 at *;generalize A5 s.2=B at *;simp only [esc,c0,l1,hG,cz,hcv,f1,lb1,D2y (show k<128 by omega),hW,sb1,aK,w1];exact e1
end
end
section
theorem V5 {x:List Int} {l:List (List Int)}:jA (x::l)=encI x++jA l:=rfl
theorem kB:∀ {l:List (List Int)},(∀ x∈l,x.length=11)->(jA l).length=l.length*11
 | [],_=>rfl
 | x::l,h=>by
  rw [V5,List.length_append,B9,h x (List.mem_cons_self ..),kB fun y hy=>h y (List.mem_cons_of_mem _ hy),List.length_cons];omega
theorem C9T (l:List (List Int)):noX (jA l)=true:=by
 induction l with
 | nil=>rfl
 | cons x l ih =>
  rw [V5];have h1:=A9s x;simp only [noX,List.all_append,Bool.and_eq_true] at h1 ih ⊢;exact ⟨h1,ih⟩
theorem C0J:∀ {l:List (List Int)} {i:Nat} (h:∀ x∈l,x.length=11) (hi:i<l.length),((jA l).drop (i*11)).take 11=encI l[i]
 | x::l,0,h,_=>by
  have:=h x (List.mem_cons_self ..);rw [V5,Nat.zero_mul,List.drop_zero,List.take_left' (by rw [B9,this])];rfl
 | x::l,i+1,h,hi=>by
  have:=h x (List.mem_cons_self ..);rw [V5,show (i+1)*11=11+i*11 by omega,<-List.drop_drop,List.drop_left' (by rw [B9,this])];exact C0J (fun y hy=>h y (List.mem_cons_of_mem _ hy)) (by simpa using hi)
theorem C6k:∀ {l:List (List Int)} {i:Nat} {y:List Int} (h:∀ x∈l,x.length=11) (hy:y.length=11) (hi:i<l.length),lay (jA l) (i*11) (encI y)=jA (l.set i y)
 | x::l,0,y,h,hy,_=>by
  have:=h x (List.mem_cons_self ..);unfold lay;rw [V5,Nat.zero_mul,List.take_zero,List.nil_append,B9,Nat.zero_add,hy,List.drop_left' (by rw [B9,this])];rfl
 | x::l,i+1,y,h,hy,hi=>by
  have hx:=h x (List.mem_cons_self ..);have ih:=C6k (l:=l) (i:=i) (y:=y) (fun y hy=>h y (List.mem_cons_of_mem _ hy)) hy (by simpa using hi);rw [List.set_cons_succ,V5,V5,<-ih];unfold lay;rw [show (i+1)*11=(encI x).length+i*11 by rw [B9,hx];omega,List.take_length_add_append,Nat.add_assoc,List.drop_length_add_append,List.append_assoc]
section
variable {D:Dev} {n m:Int} {f:Cell} {g:A4} {r:Nat} {c:Cl} {h:A4}
theorem WP.setIno (hv:∃ id cs,f=.f id cs) (P:WP D n m f g r c h) {k:Nat} {l:List Int} (hk:k<c.ino.length) (hl:l.length=11) :
  ∃ id h',A7 h (.c (.p r 5))=some (.c (.sl id 0 c.ino.length 11))/\rd h id=some ⟨jA c.ino,true⟩/\B4 h 11 (.c (.p id (k*11))) (.a (encI l))=some h'/\WP D n m f g r { c with ino:=c.ino.set k l } h'/\Fr r h h':=by
 obtain ⟨xr,xi,xt,xb,xm,ml,mp,es1,es2,g1,g2,g3,g4,g5,g6,g7,g8,g9,g10,g11⟩:=id P.row;rcases g4 with ⟨e,_,_⟩ | ⟨t,rfl,t1,t2,t3⟩
 ·omega
 ·have l1:A7 h (.c (.p r 5))=some (.c (.sl t 0 c.ino.length 11)):=C1 g1 rfl rfl;have st:=B6I (n:=11) (off:=k*11) (xs:=encI l) t1 (by rw [B9,hl]) (by rw [t2];omega);rw [C6k P.il hl hk] at st;obtain ⟨q1,q2,q3,q4,q5⟩:=P.mod (off:=5) (x:=.sl t 0 c.ino.length 11) hv g1 rfl rfl (some ⟨jA (c.ino.set k l),true⟩);have S3:∀ x∈c.ino.set k l,x.length=11:=fun x hx=>by
   rcases List.mem_or_eq_of_mem_set hx with h1 | h1
   ·exact P.il x h1
   ·rw [h1];exact hl
  refine ⟨t,_,l1,t1,st,⟨q2,P.ge,fun id hn=>P.low id ((Nam.same q3).1 hn),S3,by simpa using P.ilen,P.tlen,xr,_,xt,xb,xm,ml,mp,es1,es2,by rw [q3];exact g1,g2,g3.kept fun id e=>q4 4 _ _ (by decide) rfl e,.inr ⟨t,by simp,q5,by rw [kB S3],t3⟩,g5.kept fun id e=>q4 6 _ _ (by decide) rfl e,g6.kept fun id e=>q4 7 _ _ (by decide) rfl e,g7.kept fun id e=>q4 8 _ _ (by decide) rfl e,?_,g9,?_,g11⟩,q1⟩
  ·rw [q4 10 (.m ml) ml (by decide) rfl rfl];exact g8
  ·rw [q4 11 (.m mp) mp (by decide) rfl rfl];exact g10
theorem WP.setLost (hv:∃ id cs,f=.f id cs) (P:WP D n m f g r c h) (a:Int):∃ h',A7 h (.c (.p r 9))=some (.c (.i .i64 c.lost))/\D3 h (.c (.p r 9)) (.c (.i .i64 a))=some h'/\WP D n m f g r { c with lost:=a } h'/\Fr r h h':=by
 obtain ⟨xr,xi,xt,xb,xm,ml,mp,es1,es2,g1,g2,g3,g4,g5,g6,g7,g8,g9,g10,g11⟩:=id P.row;have l1:A7 h (.c (.p r 9))=some (.c (.i .i64 c.lost)):=C1 g1 rfl rfl;have s1:=G3 (x:=.i .i64 a) (off:=9) g1 (by simp [wkC]);obtain ⟨q1,q2,q3,q4,q5⟩:=P.pushed (off:=9) (y:=.i .i64 a) (h3:=h.set r (some ⟨(wkC D n m f xr xi xt xb xm c.lost ml mp).set 9 (.i .i64 a),true⟩)) hv g1 rfl (C8 (E4 g1)) (fun j e=>by cases e) (fun j hj hr hn=>B7 (Ne.symm hr)) (by simp);refine ⟨_,l1,s1,⟨q2,P.ge,q4,P.il,P.ilen,P.tlen,xr,xi,xt,xb,xm,ml,mp,es1,es2,C8 (E4 g1),q3,g3.kept fun id e=>q5 4 _ _ (by decide) rfl e,g4.kept fun id e=>q5 5 _ _ (by decide) rfl e,g5.kept fun id e=>q5 6 _ _ (by decide) rfl e,g6.kept fun id e=>q5 7 _ _ (by decide) rfl e,g7.kept fun id e=>q5 8 _ _ (by decide) rfl e,?_,g9,?_,g11⟩,q1⟩
 ·rw [q5 10 (.m ml) ml (by decide) rfl rfl];exact g8
 ·rw [q5 11 (.m mp) mp (by decide) rfl rfl];exact g10
theorem D3u {many:Int} {pm pw:Nat} {b:List UInt8} (hv:∃ id cs,f=.f id cs) (P:WP D n m f g r c h) (hm:LocV h r pm [.i .i64 many]) (hw:LocV h r pw [.p r 0]) (hb:b.length=256) :
  ∃ h',Q8 [.a (A5 b),.c (.f 176 [(pm,0),(pw,0)])] h=some (.a (A5 (xD D n many 128 0 (c,b)).2),h')/\WP D n m f g r (xD D n many 128 0 (c,b)).1 h'/\Fr r h h':=by
 have hl:(A5 b).length=256:=by rw [A6,hb]
 have P1:=P.more hv [some (Row.mk (A5 b) true),some (Row.mk (A5 (zeros 256)) true)];have F1:Fr r h (h++[some (Row.mk (A5 b) true),some (Row.mk (A5 (zeros 256)) true)]):=Fr.low ((Low.refl (Nat.le_refl _)).new _) P.rlt;obtain ⟨h',e1,e2,e3⟩:=C6F (q:=200) (many:=many) (h0:=h) (q0:=h.length) (q1:=h.length+1) (pm:=pm) (pw:=pw) P.lo.2.1 (Nat.le_refl _) (by omega) (by omega) (by have:=hm.1.1;omega) (by have:=hw.1.1;omega) 128 0 200 (c,b) _ (by omega) (by omega) hb P1 F1 (hm.fr F1) (hw.fr F1) (LocV.new (k:=0) hv P rfl) ⟨A5 (zeros 256),by rw [A6];exact zeros_length,LocV.new (k:=1) hv P rfl⟩;refine ⟨h',A3I (n:=200) ?_,e2,e3⟩;rw [A3C,F5];generalize zeros 256=z at *;simp only [esc];exact e1
end
end
end Go.Proofs.YteckncopbicmcaaGreat
