/- What the proof of this claim leans on, part 4. -/
import Derived.Test.YtdgggnlbdoiloaaFDreadOncep3
set_option linter.all false
section
namespace Go.Proofs.Ytdgggnlbdoiloaa
open Go Go.Esc
def K7 (d:List Int):List UInt8:=(d.map (C1 2)).flatten
theorem A7L {d:List Int}:(K7 d).length=2 * d.length:=by
  induction d with
  | nil=>rfl
  | cons x d ih=>simp only [K7,List.map_cons,List.flatten_cons,List.length_append,A2c,List.length_cons] at ih ⊢;omega
theorem G4O {d:List Int} {x:Int}:K7 (d ++ [x])=K7 d ++ C1 2 x:=by simp [K7]
def magX:List UInt8:=[105,100,120,33]
def O8 (d:Int):List UInt8:=magX ++ C1 1 d ++ zeros 27
theorem A6W {d:Int}:(O8 d).length=32:=by simp [O8,magX]
def O7 (d:Int) (t:List Int):List UInt8:=C8 256 (O8 d ++ K7 t)
theorem A96 {d:Int} {t:List Int} (ht:t.length=32):(O7 d t).length=256:=I5 (by rw [List.length_append,A6W,A7L];omega)
theorem H0z {n k:Nat} {l:List UInt8} (h:l.length + k ≤ n):C8 n (l ++ zeros k)=C8 n l:=by
  unfold C8 zeros
  rw [List.append_assoc,List.replicate_append_replicate,List.length_append,List.length_replicate]
  congr 2;omega
def okX (d:Int) (t:List Int):Bool:=decide (0 ≤ d) && (decide (d ≤ 5) && t.all A2l)
theorem B90 {d:Int} {t:List Int} {g:A0} {y:List Cell} {q:Nat} (ht:t.length=32) (hyl:y.length=33):∀ e i m:Nat,i + e=32 → e < m →
    ∃ h',A64 q m (.c (.p (g.length + 1) 0)) (.c (.p (g.length + 3) 0)) (.a (encI t)) (.c (.i .i64 (i:Int))) (g ++ [some (Row.mk y true),some (Row.mk (A3 (zeros 256)) true),some (Row.mk (A3 magX) true),some (Row.mk (A3 (C8 256 (O8 d ++ K7 (t.take i)))) true)]) =
      some (.t [.a (A3 (bif (t.drop i).all A2l then O7 d t else zeros 256)),.c (.i .i64 (bif (t.drop i).all A2l then 0 else 1))],h')
  | e,i,0,_,hm=>by omega
  | 0,i,m + 1,hi,hm=>by
    have e0:i=32:=by omega
    subst e0
    have c0:¬ ((32:Nat):Int) < 32:=by omega
    have hz:(A3 (zeros 256)).length=256:=by rw [B6];exact zeros_length
    have hB:(A3 (O7 d t)).length=256:=by rw [B6];exact A96 ht
    have eB:C8 256 (O8 d ++ K7 t)=O7 d t:=rfl
    rw [B78,List.take_of_length_le (by omega),List.drop_of_length_le (by omega),List.all_nil,cond_true,cond_true,eB]
    generalize O7 d t=B at *
    generalize A3 magX=mg at *
    generalize zeros 256=z at *
    exact ⟨_,by simp only [esc,esh,Nat.reduceAdd,Nat.reduceMul,Nat.reduceLT,c0,hz,hB] <;> rfl⟩
  | e + 1,i,m + 1,hi,hm=>by
    obtain ⟨h',ih⟩:=B90 (d:=d) (g:=g) (q:=q) ht hyl e (i + 1) m (by omega) (by omega)
    have c0:(i:Int) < 32:=by omega
    have hz:(A3 (zeros 256)).length=256:=by rw [B6];exact zeros_length
    have haf:B0 (List.replicate 256 (Cell.i .u8 0)) []=some (List.replicate 256 (Cell.i .u8 0)):=rfl
    rw [K2] at haf
    have hx:T8 32 (.a (encI t)) (.c (.i .i64 (i:Int)))=some (.c (.i .i64 t[i])):=by
      rw [A6V (by omega),V9,List.getElem?_eq_getElem (by omega)];rfl
    have hF:=fun h=>F2L (n:=t[i]) (h:=h)
    have hnl:(O8 d ++ K7 (t.take i)).length=32 + 2 * i:=by rw [List.length_append,A6W,A7L,List.length_take];omega
    have hP0:(C8 256 (O8 d ++ K7 (t.take i))).length=256:=I5 (by omega)
    have hp:(A3 (C8 256 (O8 d ++ K7 (t.take i)))).length=256:=by rw [B6,hP0]
    have hW:=fun h=>A0k (h:=h) (l:=C8 256 (O8 d ++ K7 (t.take i))) hP0 (a:=((32 + 2 * i:Nat):Int)) (w:=2) (v:=t[i])
    have ew:=A0q (l:=O8 d ++ K7 (t.take i)) (a:=32 + 2 * i) (w:=2) (v:=t[i]) (by omega) (by omega) (by omega) (by omega)
    rw [hnl,Nat.sub_self,show zeros 0=[] from rfl,List.append_nil,List.append_assoc,← G4O,← List.take_succ_eq_append_getElem (by omega)] at ew
    rw [show ((2:Nat):Int)=2 from rfl] at ew
    rw [ew] at hW
    have hp2:(A3 (C8 256 (O8 d ++ K7 (t.take (i + 1))))).length=256:=by rw [B6,I5 (by rw [List.length_append,A6W,A7L,List.length_take];omega)]
    have w1:IntKind.wrap .i64 (2 * (i:Int))=((2 * i:Nat):Int):=by rw [wrap_i64 (by omega) (by omega)];omega
    have w2:IntKind.wrap .i64 (32 + ((2 * i:Nat):Int))=((32 + 2 * i:Nat):Int):=by rw [wrap_i64 (by omega) (by omega)];omega
    rw [B78,K2,List.drop_eq_getElem_cons (by omega:i < t.length),List.all_cons]
    generalize C8 256 (O8 d ++ K7 (t.take (i + 1)))=P1 at *
    generalize C8 256 (O8 d ++ K7 (t.take i))=P0 at *
    generalize O7 d t=B at *
    generalize A3 magX=mg at *
    generalize zeros 256=z at *
    cases c:A2l t[i] with
    | false =>
      rw [c] at hF
      rw [Bool.false_and,cond_false,cond_false]
      exact ⟨_,by simp only [esc,esh,Nat.reduceAdd,Nat.reduceMul,Nat.reduceLT,c0,hx,hF,haf,hz] <;> rfl⟩
    | true =>
      rw [c] at hF
      rw [Bool.true_and]
      refine ⟨h',?_⟩
      simp only [esc,esh,Nat.reduceAdd,Nat.reduceMul,Nat.reduceLT,c0,hx,hF,hp,w1,w2,hW,hp2,F4 (show i + 1 < 9223372036854775808 by omega)]
      exact ih
theorem B77 {d:Int} {t:List Int} {h:A0} (ht:t.length=32):A1O [.a (encI (d :: t))] h=some (.t [.a (A3 (bif okX d t then O7 d t else zeros 256)),.c (.i .i64 (bif okX d t then 0 else 1))],h):=by
  have key:∀ N,32 < N → ∀ g,∃ g',A5o N [.a (encI (d :: t))] g=some (.t [.a (A3 (bif okX d t then O7 d t else zeros 256)),.c (.i .i64 (bif okX d t then 0 else 1))],g'):=by
    intro N hN g
    have hB:=O4 (d:=d) ht
    have hz:(A3 (zeros 256)).length=256:=by rw [B6];exact zeros_length
    have hD:=fun h=>B0a (d:=d) (t:=t) (h:=h)
    have l0:(encI (d :: t))[0]? = some (.i .i64 d):=rfl
    have haf:B0 (List.replicate 256 (Cell.i .u8 0)) []=some (List.replicate 256 (Cell.i .u8 0)):=rfl
    rw [K2] at haf
    rw [C6C,K2]
    unfold okX
    by_cases c:0 ≤ d ∧ d ≤ 5
    · rw [decide_eq_true c.1,decide_eq_true c.2,Bool.true_and,Bool.true_and]
      have hd:=D6h c.1 c.2
      rw [hd] at hD
      have ef:B0 [Cell.i .u8 0,.i .u8 0,.i .u8 0,.i .u8 0] [(0,1,.c (.i .u8 105)),(1,1,.c (.i .u8 100)),(2,1,.c (.i .u8 120)),(3,1,.c (.i .u8 33))]=some (A3 magX):=rfl
      have hO:=A7V (data:=magX) (v:=.c (.sl (g.length + 2) 0 4 1)) (nv:=4) (h:=g ++ [some (Row.mk (encI (d :: t)) true),some (Row.mk (A3 (zeros 256)) true),some (Row.mk (A3 magX) true),none]) (Has.row (rw:=true) (by simp) rfl (R3 _)) (by decide)
      rw [A71 (by decide)] at hO
      have hM:S2 (g ++ [some (Row.mk (encI (d :: t)) true),some (Row.mk (A3 (zeros 256)) true),some (Row.mk (A3 magX) true),none]) (.c (.sl (g.length + 2) 0 4 1))=some (.c (.sl (g.length + 2) 0 4 1)):=by simp [S2]
      have hW:=fun h=>A0k (h:=h) (l:=C8 256 magX) (I5 (by decide)) (a:=4) (w:=1) (v:=d)
      have ew:=A0q (l:=magX) (a:=4) (w:=1) (v:=d) (by decide) (by omega) (by omega) (by omega)
      have e5:magX ++ zeros (4 - magX.length) ++ C1 1 d=magX ++ C1 1 d:=rfl
      have e6:C8 256 (magX ++ C1 1 d)=C8 256 (O8 d ++ K7 (t.take 0)):=by
        rw [List.take_zero,show K7 []=[] from rfl,List.append_nil]
        exact (H0z (by simp [magX])).symm
      rw [e5,e6] at ew
      rw [show ((4:Nat):Int)=4 from rfl,show ((1:Nat):Int)=1 from rfl] at ew
      rw [ew] at hW
      have hp2:(A3 (C8 256 (O8 d ++ K7 (t.take 0)))).length=256:=by rw [B6,I5 (by rw [List.length_append,A6W,A7L,List.length_take];omega)]
      have e7:A5 (g ++ [some (Row.mk (encI (d :: t)) true),some (Row.mk (A3 (zeros 256)) true),some (Row.mk (A3 magX) true),some (Row.mk (A3 (C8 256 (O8 d ++ K7 (t.take 0)))) true)]) 32 (.c (.p g.length 1))=some (.a (encI t)):=by
        rw [S1]
        simp only [List.getElem?_cons_zero,Option.join_some,ldN,Option.bind_some]
        rw [if_pos ⟨by rw [hB];omega,rfl⟩]
        have:(encI (d :: t)).drop 1=encI t:=rfl
        rw [this,List.take_of_length_le (by rw [F6];omega)]
      obtain ⟨h',e⟩:=B90 (d:=d) (t:=t) (g:=g) (q:=N) ht hB 32 0 N (by omega) hN
      rw [List.drop_zero] at e
      generalize C8 256 (O8 d ++ K7 (t.take 0))=P1 at *
      generalize C8 256 magX=P2 at *
      generalize O7 d t=B at *
      generalize A3 magX=mg at *
      generalize zeros 256=z at *
      generalize encI (d :: t)=y at *
      refine ⟨h',?_⟩
      simp only [esc,esh,Nat.reduceAdd,Nat.reduceMul,Nat.reduceLT,hB,hz,l0,hD,ef,hM,hO,hW,hp2,e7,show g.length + 2 + 1=g.length + 3 from rfl]
      exact e
    · have cd:¬ d=((O2 d:Nat):Int):=by unfold O2;omega
      have ec:(decide (0 ≤ d) && (decide (d ≤ 5) && t.all A2l))=false:=by
        by_cases c1:0 ≤ d
        · rw [decide_eq_false (show ¬ d ≤ 5 by omega)];simp
        · rw [decide_eq_false c1];rfl
      rw [ec,cond_false,cond_false]
      generalize zeros 256=z at *
      generalize encI (d :: t)=y at *
      exact ⟨_,by simp only [esc,esh,Nat.reduceAdd,Nat.reduceMul,Nat.reduceLT,hB,hz,l0,hD,cd,haf] <;> rfl⟩
  obtain ⟨g',e⟩:=key (h.length + 33) (by omega) (ro h)
  refine C8e e ?_
  cases okX d t <;> simp
def getD (b:List UInt8):Int:=fieldN b 4 1
def B6v (b:List UInt8) (i:Nat):Int:=fieldN b (32 + 2 * i) 2
def E3 (b:List UInt8) (n:Nat):List Int:=(List.range n).map (B6v b) ++ zI (32 - n)
theorem A92 {b:List UInt8} {n:Nat} (hn:n ≤ 32):(E3 b n).length=32:=by simp [E3,zI];omega
theorem E8Y {b:List UInt8} {k:Nat} (hk:k < 32):E3 b (k + 1)=(E3 b k).set k (B6v b k):=by
  unfold E3
  have e:zI (32 - k)=0 :: zI (32 - (k + 1)):=by
    unfold zI
    rw [show 32 - k=(32 - (k + 1)) + 1 by omega,List.replicate_succ]
  rw [e,List.set_append_right _ _ (by simp),List.range_succ,List.map_append,List.append_assoc]
  simp
theorem B1Z {b:List UInt8} {a w:Nat} (h:a + w ≤ 256) (hw:1 ≤ w) (hw4:w ≤ 4):((atN b (a:Int) w:Nat):Int)=fieldN b a w:=by
  unfold atN fieldN
  rw [if_pos ⟨by omega,A0o.2 (by omega)⟩]
  simp only [Int.toNat_natCast]
def A1u (t:List Int) (n e:Nat):Bool:=(List.range' n e).all fun i=>decide (toX t i=0)
def W0 (b:List UInt8):Bool:=okX (getD b) (E3 b 32) && (decide (O7 (getD b) (E3 b 32)=b) && A1u (E3 b 32) (H6 (getD b)) (32 - H6 (getD b)))
theorem B7o {b:List UInt8} {d:Int} {t:List Int} {ix iz q:Nat} {h:A0} (ht:t.length=32) (hx:rd h ix=some ⟨encI (d :: t),true⟩) (hz:rd h iz=some ⟨encI (0 :: zI 32),true⟩):∀ e i m:Nat,i + e=32 → e < m →
    ∃ h',A62 q m (.c (.p iz 0)) (.c (.p ix 0)) (.c (.i .i64 (i:Int))) h=some (.t [.a (encI (bif A1u t i e then d :: t else 0 :: zI 32)),.c (.i .i64 (bif A1u t i e then 0 else 14))],h')
  | e,i,0,_,hm=>by omega
  | 0,i,m + 1,hi,hm=>by
    have e0:i=32:=by omega
    subst e0
    have c0:¬ ((32:Nat):Int) < 32:=by omega
    have hX:=O4 (d:=d) ht
    have hZ:(encI (0 :: zI 32)).length=33:=O4 (d:=0) N6
    have s1:=G1 (h:=h) (id:=ix) hx hX
    have s2:=storeAll (h:=h) (id:=iz) (xs:=encI (d :: t)) hz hZ hX
    have s3:=G1 (h:=h.set iz (some ⟨encI (d :: t),true⟩)) (id:=iz) (I6 (D2 hz)) hX
    have er:A1u t 32 0=true:=rfl
    rw [B7M,er,cond_true,cond_true]
    generalize encI (d :: t)=y at *
    exact ⟨_,by simp only [esc,c0,s1,s2,s3] <;> rfl⟩
  | e + 1,i,m + 1,hi,hm=>by
    obtain ⟨h',ih⟩:=B7o (b:=b) (q:=q) ht hx hz e (i + 1) m (by omega) (by omega)
    have c0:(i:Int) < 32:=by omega
    have hZ:(encI (0 :: zI 32)).length=33:=O4 (d:=0) N6
    have a1:=adX (id:=ix) (i:=i) (by omega)
    have l1:=ldX (h:=h) (id:=ix) hx ht (i:=i) (by omega)
    have haf:B0 (encI (0 :: zI 32)) []=some (encI (0 :: zI 32)):=rfl
    have s2:=storeAll (h:=h) (id:=iz) (xs:=encI (0 :: zI 32)) hz hZ hZ
    have s3:=G1 (h:=h.set iz (some ⟨encI (0 :: zI 32),true⟩)) (id:=iz) (I6 (D2 hz)) hZ
    have er:A1u t i (e + 1)=(decide (toX t i=0) && A1u t (i + 1) e):=by unfold A1u;rw [List.range'_succ,List.all_cons]
    rw [B7M,er,A2A]
    by_cases c:toX t i=0
    · rw [decide_eq_true c,Bool.true_and]
      rw [c] at l1
      generalize encI (0 :: zI 32)=z at *
      exact ⟨h',by simp only [esc,c0,a1,l1,F4 (show i + 1 < 9223372036854775808 by omega)];exact ih⟩
    · rw [decide_eq_false c,Bool.false_and,cond_false,cond_false]
      generalize encI (0 :: zI 32)=z at *
      exact ⟨_,by simp only [esc,c0,a1,l1,c,haf,s2,s3] <;> rfl⟩
theorem B7n {b:List UInt8} {g:A0} {q:Nat} (hb:b.length=256) (hq:32 < q):∀ e i m:Nat,i + e=32 → e < m →
    ∃ h',A61 q m (.c (.p g.length 0)) (.c (.p (g.length + 1) 0)) (.c (.p (g.length + 2) 0)) (.c (.i .i64 (i:Int))) (g ++ [some (Row.mk (A3 b) true),some (Row.mk (encI (0 :: zI 32)) true),some (Row.mk (encI (getD b :: E3 b i)) true)]) =
      some (.t [.a (encI (bif W0 b then getD b :: E3 b 32 else 0 :: zI 32)),.c (.i .i64 (bif W0 b then 0 else 14))],h')
  | e,i,0,_,hm=>by omega
  | 0,i,m + 1,hi,hm=>by
    have e0:i=32:=by omega
    subst e0
    have c0:¬ ((32:Nat):Int) < 32:=by omega
    have hB:(A3 b).length=256:=by rw [B6,hb]
    have ht:=A92 (b:=b) (n:=32) (Nat.le_refl _)
    have hX:=O4 (d:=getD b) ht
    have hZ:(encI (0 :: zI 32)).length=33:=O4 (d:=0) N6
    have hz0:(List.replicate 256 (Cell.i .u8 0)).length=256:=List.length_replicate
    have hP:=fun h=>B77 (d:=getD b) (t:=E3 b 32) (h:=h) ht
    have hM:=fun h=>B8D (d:=getD b) (h:=h) ht
    have hm32:=A4k (getD b)
    have haf:B0 (encI (0 :: zI 32)) []=some (encI (0 :: zI 32)):=rfl
    unfold W0
    rw [B7L,A2A]
    cases co:okX (getD b) (E3 b 32) with
    | false =>
      rw [co] at hP
      simp only [cond_false] at hP
      have hzz:(A3 (zeros 256)).length=256:=by rw [B6];exact zeros_length
      rw [Bool.false_and,cond_false,cond_false]
      generalize encI (0 :: zI 32)=z at *
      generalize encI (getD b :: E3 b 32)=y at *
      generalize List.replicate 256 (Cell.i .u8 0)=zz at *
      generalize zeros 256=zzz at *
      exact ⟨_,by simp only [esc,esh,Nat.reduceAdd,Nat.reduceMul,Nat.reduceLT,c0,hX,hP,hz0,hzz,haf,hZ,show decide ((1:Int)=0)=false from rfl] <;> rfl⟩
    | true =>
      rw [co] at hP
      simp only [cond_true] at hP
      rw [Bool.true_and]
      have hil:=A96 (d:=getD b) ht
      have hI:(A3 (O7 (getD b) (E3 b 32))).length=256:=by rw [B6,hil]
      have hE:=A50 (n:=256) hil hb
      by_cases ce:O7 (getD b) (E3 b 32)=b
      · rw [decide_eq_true ce,Bool.true_and]
        rw [decide_eq_true ce] at hE
        obtain ⟨h',e⟩:=B7o (b:=b) (d:=getD b) (t:=E3 b 32) (ix:=g.length + 2) (iz:=g.length + 1) (q:=q) (h:=g ++ [some (Row.mk (A3 b) true),some (Row.mk (encI (0 :: zI 32)) true),some (Row.mk (encI (getD b :: E3 b 32)) true),some (Row.mk (A3 (O7 (getD b) (E3 b 32))) true)]) ht (by simp) (by simp) (32 - H6 (getD b)) (H6 (getD b)) q (by omega) (by omega)
        refine ⟨h',?_⟩
        generalize A1u (E3 b 32) (H6 (getD b)) (32 - H6 (getD b))=R at *
        generalize O7 (getD b) (E3 b 32)=I at *
        generalize getD b :: E3 b 32=Y at *
        generalize encI (0 :: zI 32)=z at *
        generalize List.replicate 256 (Cell.i .u8 0)=zz at *
        simp only [esc,esh,Nat.reduceAdd,Nat.reduceMul,Nat.reduceLT,c0,hX,hP,hz0,hI,hB,hE,hM]
        exact e
      · rw [decide_eq_false ce,Bool.false_and,cond_false,cond_false]
        rw [decide_eq_false ce] at hE
        generalize O7 (getD b) (E3 b 32)=I at *
        generalize encI (0 :: zI 32)=z at *
        generalize encI (getD b :: E3 b 32)=y at *
        generalize List.replicate 256 (Cell.i .u8 0)=zz at *
        exact ⟨_,by simp only [esc,esh,Nat.reduceAdd,Nat.reduceMul,Nat.reduceLT,c0,hX,hP,hz0,hI,hB,hE,haf,hZ] <;> rfl⟩
  | e + 1,i,m + 1,hi,hm=>by
    obtain ⟨h',ih⟩:=B7n (g:=g) (q:=q) hb hq e (i + 1) m (by omega) (by omega)
    have c0:(i:Int) < 32:=by omega
    have hB:(A3 b).length=256:=by rw [B6,hb]
    have ht:=A92 (b:=b) (n:=i) (by omega)
    have hX:=O4 (d:=getD b) ht
    have hA:=fun h=>A1r (h:=h) hb (a:=((32 + 2 * i:Nat):Int)) (w:=2)
    have ea:=B1Z (b:=b) (a:=32 + 2 * i) (w:=2) (by omega) (by omega) (by omega)
    rw [show ((2:Nat):Int)=2 from rfl] at ea
    rw [ea] at hA
    have w1:IntKind.wrap .i64 (2 * (i:Int))=((2 * i:Nat):Int):=by rw [wrap_i64 (by omega) (by omega)];omega
    have w2:IntKind.wrap .i64 (32 + ((2 * i:Nat):Int))=((32 + 2 * i:Nat):Int):=by rw [wrap_i64 (by omega) (by omega)];omega
    have a1:=adX (id:=g.length + 2) (i:=i) (by omega)
    have hs:(encI (getD b :: E3 b i)).set (1 + i) (.i .i64 (fieldN b (32 + 2 * i) 2))=encI (getD b :: E3 b (i + 1)):=by rw [E5R,E8Y (by omega)];rfl
    have hlt:1 + i < (encI (getD b :: E3 b i)).length:=by rw [hX];omega
    rw [B7L]
    generalize W0 b=G at *
    generalize getD b :: E3 b 32=Y at *
    generalize encI (getD b :: E3 b (i + 1))=y1 at *
    generalize encI (getD b :: E3 b i)=y at *
    generalize encI (0 :: zI 32)=z at *
    refine ⟨h',?_⟩
    simp only [esc,esh,Nat.reduceAdd,Nat.reduceMul,Nat.reduceLT,c0,hB,w1,w2,hA,a1,hlt,hs,F4 (show i + 1 < 9223372036854775808 by omega)]
    exact ih
theorem F1g {b:List UInt8} {h:A0} (hb:b.length=256):A3z [.a (A3 b)] h=some (.t [.a (encI (bif W0 b then getD b :: E3 b 32 else 0 :: zI 32)),.c (.i .i64 (bif W0 b then 0 else 14))],h):=by
  have key:∀ N,32 < N → ∀ g,∃ g',A5m N [.a (A3 b)] g=some (.t [.a (encI (bif W0 b then getD b :: E3 b 32 else 0 :: zI 32)),.c (.i .i64 (bif W0 b then 0 else 14))],g'):=by
    intro N hN g
    have hB:(A3 b).length=256:=by rw [B6,hb]
    have hZ:(encI (0 :: zI 32)).length=33:=O4 (d:=0) N6
    have hA:=fun h=>A1r (h:=h) hb (a:=4) (w:=1)
    have ea:=B1Z (b:=b) (a:=4) (w:=1) (by omega) (by omega) (by omega)
    rw [show ((4:Nat):Int)=4 from rfl,show ((1:Nat):Int)=1 from rfl] at ea
    rw [ea] at hA
    have ef:B0 (encI (0 :: zI 32)) [(0,1,.c (.i .i64 (fieldN b 4 1)))]=some (encI (getD b :: E3 b 0)):=by
      have e1:(0 + 1 ≤ (encI (0 :: zI 32)).length):=by rw [hZ];omega
      simp only [B0,cells?]
      rw [if_pos ⟨rfl,e1⟩]
      rfl
    have hX:=O4 (d:=getD b) (A92 (b:=b) (n:=0) (by omega))
    obtain ⟨h',e⟩:=B7n (g:=g) (q:=N) hb hN 32 0 N (by omega) hN
    rw [C6A,A2A]
    generalize W0 b=G at *
    generalize getD b :: E3 b 32=Y at *
    generalize encI (getD b :: E3 b 0)=y at *
    generalize encI (0 :: zI 32)=z at *
    exact ⟨h',by simp only [esc,esh,Nat.reduceAdd,Nat.reduceMul,Nat.reduceLT,hB,hZ,hA,ef,hX];exact e⟩
  obtain ⟨g',e⟩:=key (h.length + 33) (by omega) (ro h)
  refine C8a e ?_
  cases W0 b <;> simp
end Go.Proofs.Ytdgggnlbdoiloaa
end
section
namespace Go.Proofs.Ytdgggnlbdoiloaa
open Go Go.Esc
def V6 (t:List Int) (i:Nat):Bool:=!decide (toX t i=0) && A0f t i
def G0 (t:List Int) (k:Nat):List Int:=((List.range k).filter (V6 t)).map (toX t)
theorem A6a {t:List Int} {k:Nat}:G0 t (k + 1)=G0 t k ++ (if V6 t k=true then [toX t k] else []):=by
  unfold G0
  rw [List.range_succ,List.filter_append,List.map_append,List.filter_cons]
  by_cases c:V6 t k=true <;> simp [c]
theorem A9k (t:List Int) (k:Nat):(G0 t k).length ≤ k:=by
  unfold G0;rw [List.length_map];exact Nat.le_trans (List.length_filter_le _ _) (by simp)
theorem A9p {d:Int} {t:List Int} {g:A0} {n q:Nat} (ht:t.length=32) (hn:n ≤ 32):∀ (e i m:Nat) (h:A0) (id:Nat),i + e=n → e < m → Low (g ++ [some (Row.mk (encI (d :: t)) true)]).length (g ++ [some (Row.mk (encI (d :: t)) true)]) h → (g ++ [some (Row.mk (encI (d :: t)) true)]).length ≤ id → rd h id=some ⟨encI (G0 t i),true⟩ →
    ∃ v h',A4a q m (.c (.p g.length 0)) (.c (.sl id 0 (G0 t i).length 1)) (.c (.i .i64 (n:Int))) (.c (.i .i64 (i:Int))) h=some (v,h') ∧ Out g.length h' v 1 (G0 t n).length (encI (G0 t n))
  | e,i,0,h,id,_,hm,_,_,_=>by omega
  | 0,i,m + 1,h,id,hi,hm,hlow,hid,hr=>by
    have e0:i=n:=by omega
    subst e0
    have c0:¬ (i:Int) < i:=by omega
    rw [List.length_append] at hid
    rw [B7x]
    exact ⟨_,_,by simp only [esc,c0] <;> rfl,by rw [F6];omega,_,rfl,by omega,hr⟩
  | e + 1,i,m + 1,h,id,hi,hm,hlow,hid,hr=>by
    have c0:(i:Int) < n:=by omega
    have hB:=O4 (d:=d) ht
    have hrd:rd h g.length=some ⟨encI (d :: t),true⟩:=hlow.rd (by simp)
    have s1:=G1 (h:=h) (id:=g.length) (cs:=encI (d :: t)) hrd hB
    have a1:=adX (id:=g.length) (i:=i) (by omega)
    have l1:=ldX (h:=h) (id:=g.length) hrd ht (i:=i) (by omega)
    have hFs:=fun h=>F3u (d:=d) (t:=t) (i:=i) (h:=h) ht (by omega)
    have w1:=F4 (show i + 1 < 9223372036854775808 by omega)
    have hul:=A9k t i
    rw [B7x]
    have skip:V6 t i=false → ∃ v h',A4a q m (.c (.p g.length 0)) (.c (.sl id 0 (G0 t i).length 1)) (.c (.i .i64 (n:Int))) (.c (.i .i64 ((i + 1:Nat):Int))) h=some (v,h') ∧ Out g.length h' v 1 (G0 t n).length (encI (G0 t n)):=by
      intro c
      have hu:G0 t (i + 1)=G0 t i:=by rw [A6a,c];simp
      have:=A9p (q:=q) ht hn e (i + 1) m h id (by omega) (by omega) hlow hid (by rw [hu];exact hr)
      rw [hu] at this;exact this
    by_cases cz:toX t i=0
    · obtain ⟨v,h',f1,f2⟩:=skip (by unfold V6;rw [decide_eq_true cz];rfl)
      rw [cz] at l1
      refine ⟨v,h',?_,f2⟩
      generalize encI (d :: t)=z at *
      simp only [esc,c0,a1,l1,A99,w1]
      exact f1
    · cases cs:A0f t i with
      | false =>
        obtain ⟨v,h',f1,f2⟩:=skip (by unfold V6;rw [cs,Bool.and_false])
        rw [cs] at hFs
        refine ⟨v,h',?_,f2⟩
        generalize encI (d :: t)=z at *
        simp only [esc,c0,a1,l1,cz,s1,hFs,A99,w1]
        exact f1
      | true =>
        rw [cs] at hFs
        have cb:V6 t i=true:=by unfold V6;rw [cs,decide_eq_false cz];rfl
        have hu:G0 t (i + 1)=G0 t i ++ [toX t i]:=by rw [A6a,if_pos cb]
        obtain ⟨h1,b1,b2,b3,b4,b5⟩:=push (ys:=[.i .i64 (toX t i)]) (sz:=1) (n:=(G0 t i).length) hlow hr (by rw [F6];omega) hid rfl (by omega) (by omega)
        have he:encI (G0 t i) ++ [.i .i64 (toX t i)]=encI (G0 t (i + 1)):=by rw [hu];simp [encI]
        rw [he] at b2
        obtain ⟨v,h',f1,f2⟩:=A9p (q:=q) ht hn e (i + 1) m h1 (h.length + 1) (by omega) (by omega) b3 b4 b2
        have hl1:(G0 t (i + 1)).length=(G0 t i).length + 1:=by rw [hu];simp
        rw [hl1] at f1
        have ef:B0 [Cell.i .i64 0] [(0,1,.c (.i .i64 (toX t i)))]=some [.i .i64 (toX t i)]:=rfl
        refine ⟨v,h',?_,f2⟩
        generalize encI (d :: t)=z at *
        simp only [esc,c0,a1,l1,cz,s1,hFs,ef,b1,A99,w1]
        exact f1
theorem E9O {d:Int} {t:List Int} {h:A0} (ht:t.length=32):A3y [.a (encI (d :: t))] h=some (.c (.sl h.length 0 (G0 t (H6 d)).length 1),h ++ [some ⟨encI (G0 t (H6 d)),true⟩]):=by
  have key:∀ N,32 < N → ∀ g,∃ v g',A5l N [.a (encI (d :: t))] g=some (v,g') ∧ Out g.length g' v 1 (G0 t (H6 d)).length (encI (G0 t (H6 d))):=by
    intro N hN g
    have hB:=O4 (d:=d) ht
    have hM:=fun h=>B8D (d:=d) (h:=h) ht
    have hm:=A4k d
    obtain ⟨v,g',f1,f2⟩:=A9p (g:=g) (d:=d) (q:=N) ht hm (H6 d) 0 N (g ++ [some (Row.mk (encI (d :: t)) true),some (Row.mk [] true),some (Row.mk [] true)]) (g.length + 2) (by omega) (by omega)
      (by have:=(Low.refl (h:=g ++ [some (Row.mk (encI (d :: t)) true)]) (Nat.le_refl _)).new [some ⟨[],true⟩,some ⟨[],true⟩]
          simpa using this) (by simp) (by simp [G0,encI])
    rw [show G0 t 0=[] from rfl] at f1
    rw [C6z]
    refine ⟨v,g',?_,f2⟩
    generalize encI (d :: t)=z at *
    simp only [esc,esh,Nat.reduceAdd,Nat.reduceMul,Nat.reduceLT,hB,hM] at f1 ⊢
    exact f1
  obtain ⟨v,g',e,ho⟩:=key (h.length + 33) (by omega) (ro h)
  exact C79 e (by simpa [Q5] using ho) (by simp)
def A4j (h:Nat) (b:Int):Nat:=if b < 1 then 0 else if 32 ≤ b then h else h % 2 ^ b.toNat
theorem F9B {x:Nat} {b:Int} {h:A0} (hx:x < 4294967296):A3G [.c (.i .u32 (x:Int)),.c (.i .i64 b)] h=some (.c (.i .i64 (A4j x b:Nat)),h):=by
  have key:∀ g,∃ g',A5x 0 [.c (.i .u32 (x:Int)),.c (.i .i64 b)] g=some (.c (.i .i64 (A4j x b:Nat)),g'):=by
    intro g
    rw [C6N]
    unfold A4j
    by_cases c1:b < 1
    · rw [if_pos c1]
      exact ⟨_,by simp only [esc,c1] <;> rfl⟩
    · rw [if_neg c1]
      have w1:IntKind.wrap .i64 (x:Int)=(x:Int):=wrap_i64 (by omega) (by omega)
      by_cases c2:32 ≤ b
      · rw [if_pos c2]
        exact ⟨_,by simp only [esc,c1,c2,w1] <;> rfl⟩
      · rw [if_neg c2]
        obtain ⟨k,rfl⟩:∃ k:Nat,b=k:=⟨b.toNat,by omega⟩
        have hk:k < 32:=by omega
        rw [Int.toNat_natCast]
        have w2:=C5Y (k:=k) (by omega)
        have hp:2 ^ k ≤ 2 ^ 31:=Nat.pow_le_pow_right (by omega) (by omega)
        have hp0:0 < 2 ^ k:=Nat.pow_pos (by omega)
        have e1:A4 .shl (.c (.i .u32 1)) (.c (.i .u64 (k:Int)))=some (.c (.i .u32 ((2 ^ k:Nat):Int))):=by
          rw [A84 (by omega)]
          have h1:Nat.min (k:Int).toNat (IntKind.u32).bits=k:=by
            have:(IntKind.u32).bits=32:=rfl
            rw [this,Int.toNat_natCast];exact Nat.min_eq_left (by omega)
          rw [h1,Int.one_mul]
          have e:(2:Int) ^ k=((2 ^ k:Nat):Int):=by simp
          rw [e]
          generalize 2 ^ k=y at hp hp0 ⊢
          rw [wrap_u32 (by omega) (by omega)]
        have w3:IntKind.wrap .u32 (((2 ^ k:Nat):Int) - 1)=((2 ^ k - 1:Nat):Int):=by rw [wrap_u32 (by omega) (by omega)];omega
        have e2:=C9N (a:=x) (b:=2 ^ k - 1) hx (by omega)
        rw [Nat.and_two_pow_sub_one_eq_mod] at e2
        have hm:x % 2 ^ k < 2 ^ k:=Nat.mod_lt _ hp0
        have w4:IntKind.wrap .i64 ((x % 2 ^ k:Nat):Int)=((x % 2 ^ k:Nat):Int):=wrap_i64 (by omega) (by omega)
        generalize 2 ^ k - 1=y at *
        generalize x % 2 ^ k=z at *
        exact ⟨_,by simp only [esc,c1,c2,w2,e1,w3,e2,w4] <;> rfl⟩
  obtain ⟨g',e⟩:=key (ro h)
  exact C8v e rfl
theorem F1r {d:Int} {t:List Int} {x:Nat} {h:A0} (ht:t.length=32) (hx:x < 4294967296):A3A [.a (encI (d :: t)),.c (.i .u32 (x:Int))] h=some (.c (.i .i64 (x % H6 d:Nat)),h):=by
  have key:∀ g,∃ g',A5n 0 [.a (encI (d :: t)),.c (.i .u32 (x:Int))] g=some (.c (.i .i64 (x % H6 d:Nat)),g'):=by
    intro g
    have hB:=O4 (d:=d) ht
    have hD:=fun h=>B0a (d:=d) (t:=t) (h:=h)
    have hL:=fun h=>F9B (x:=x) (b:=(O2 d:Nat)) (h:=h) hx
    have e:A4j x (O2 d:Nat)=x % H6 d:=by
      unfold A4j H6
      have:=A6p d
      rw [Int.toNat_natCast]
      by_cases c:((O2 d:Nat):Int) < 1
      · have:O2 d=0:=by omega
        rw [if_pos c,this];simp [Nat.mod_one]
      · rw [if_neg c,if_neg (by omega)]
    rw [e] at hL
    rw [C6B]
    generalize encI (d :: t)=y at *
    exact ⟨_,by simp only [esc,esh,Nat.reduceAdd,Nat.reduceMul,Nat.reduceLT,hB,hD,hL] <;> rfl⟩
  obtain ⟨g',e⟩:=key (ro h)
  exact C8c e rfl
end Go.Proofs.Ytdgggnlbdoiloaa
end
section
namespace Go.Proofs.Ytdgggnlbdoiloaa
open Go Go.Esc
def S8 (D:Dev) (n k:Int) (d:List Int):Bool:=decide (k=2) && S9 D.length n (d.getD 0 0) && W0 (blk D (d.getD 0 0))
def K1 (D:Dev) (n k:Int) (d:List Int):List Int:=bif S8 D n k d then getD (blk D (d.getD 0 0)) :: E3 (blk D (d.getD 0 0)) 32 else 0 :: zI 32
theorem A93 (b:List UInt8):(E3 b 32).length=32:=by simp [E3,zI]
theorem B7r (D:Dev) (n k:Int) (d:List Int):∃ x t,K1 D n k d=x :: t ∧ t.length=32:=by
  unfold K1
  cases S8 D n k d with
  | false=>exact ⟨_,_,rfl,N6⟩
  | true=>exact ⟨_,_,rfl,A93 _⟩
theorem B7s (D:Dev) (n k:Int) (d:List Int):(encI (K1 D n k d)).length=33:=by
  obtain ⟨x,t,e,h⟩:=B7r D n k d
  rw [e,F6];simp [h]
theorem B6M {D:Dev} {n m k l s p:Int} {d:List Int} {f:Cell} {h:A0} (hD:okD D) (hd:d.length=7) (hv:IsView h f D) :
    A1M [.a (vwC D.length n m f),.a (A7 k l s p d)] h=some (.t [.a (encI (K1 D n k d)),.c (.b (S8 D n k d))],h):=by
  have key:∀ g,IsView g f D → ∃ g',A5e 0 [.a (vwC D.length n m f),.a (A7 k l s p d)] g=some (.t [.a (encI (K1 D n k d)),.c (.b (S8 D n k d))],g'):=by
    intro g hv
    have l3:=A8s (b:=D.length) (n:=n) (m:=m) (f:=f)
    have l4:=A2x (b:=D.length) (n:=n) (m:=m) (f:=f)
    have i0:(A7 k l s p d)[0]? = some (.i .i64 k):=rfl
    have i4:(A7 k l s p d)[4]? = some (.i .i64 (d.getD 0 0)):=by
      have:(A7 k l s p d)[4]? = (encI d)[0]? := rfl
      rw [this,V9,List.getElem?_eq_getElem (by omega),List.getD_eq_getElem?_getD,List.getElem?_eq_getElem (by omega)];rfl
    have ad:∀ q,D6 6 1 (.c (.p q 4)) (.c (.i .i64 0))=some (.c (.p q 4)):=fun q=>rfl
    have hz:(encI (0 :: zI 32)).length=33:=O4 (d:=0) N6
    have ef:B0 (encI (0 :: zI 32)) []=some (encI (0 :: zI 32)):=rfl
    have n12:¬ (14:Int)=0:=by decide
    rw [C6r,A2A]
    unfold K1 S8
    by_cases c1:k=2
    · have hI:=fun h=>A91 (b:=D.length) (n:=n) (m:=m) (i:=d.getD 0 0) (h:=h)
      cases c2:S9 D.length n (d.getD 0 0) with
      | false =>
        simp only [c2] at hI
        simp only [Bool.and_false,Bool.false_and,cond_false]
        generalize vwC D.length n m f=V at *
        generalize A7 k l s p d=I at *
        generalize encI (0 :: zI 32)=z at *
        exact ⟨_,by simp only [esc,esh,Nat.reduceAdd,Nat.reduceMul,Nat.reduceLT,eq_self,i0,c1,l3,ad,i4,hI,hz,ef] <;> rfl⟩
      | true =>
        simp only [c2] at hI
        have hB:=A4D (n:=n) (m:=m) (no:=d.getD 0 0) (h:=g ++ [some (Row.mk (vwC D.length n m f) true),some (Row.mk (A7 k l s p d) true),some (Row.mk (encI (0 :: zI 32)) true)]) hD (hv.more _)
        have hG:=fun h=>F1g (h:=h) (A2T hD (i:=d.getD 0 0))
        have hX:(encI (getD (blk D (d.getD 0 0)) :: E3 (blk D (d.getD 0 0)) 32)).length=33:=O4 (A93 _)
        rw [decide_eq_true c1,Bool.true_and,Bool.true_and]
        cases c3:W0 (blk D (d.getD 0 0)) with
        | false =>
          simp only [c3,cond_false] at hG
          rw [cond_false]
          generalize encI (getD (blk D (d.getD 0 0)) :: E3 (blk D (d.getD 0 0)) 32)=x at *
          generalize A3 (blk D (d.getD 0 0))=y at *
          generalize vwC D.length n m f=V at *
          generalize A7 k l s p d=I at *
          generalize encI (0 :: zI 32)=z at *
          exact ⟨_,by simp only [esc,esh,Nat.reduceAdd,Nat.reduceMul,Nat.reduceLT,eq_self,i0,c1,l3,l4,ad,i4,hI,hB,hG,hz,hX,ef,n12] <;> rfl⟩
        | true =>
          simp only [c3,cond_true] at hG
          rw [cond_true]
          generalize encI (getD (blk D (d.getD 0 0)) :: E3 (blk D (d.getD 0 0)) 32)=x at *
          generalize A3 (blk D (d.getD 0 0))=y at *
          generalize vwC D.length n m f=V at *
          generalize A7 k l s p d=I at *
          generalize encI (0 :: zI 32)=z at *
          exact ⟨_,by simp only [esc,esh,Nat.reduceAdd,Nat.reduceMul,Nat.reduceLT,eq_self,i0,c1,l3,l4,ad,i4,hI,hB,hG,hz,hX,ef,n12] <;> rfl⟩
    · rw [decide_eq_false c1,Bool.false_and,Bool.false_and,cond_false]
      generalize vwC D.length n m f=V at *
      generalize A7 k l s p d=I at *
      generalize encI (0 :: zI 32)=z at *
      exact ⟨_,by simp only [esc,esh,Nat.reduceAdd,Nat.reduceMul,Nat.reduceLT,eq_self,i0,c1,hz,ef] <;> rfl⟩
  obtain ⟨g',e⟩:=key (ro h) hv.ro
  exact C7W e (by simp [Val.flat,Cell.flat])
def D7 (D:Dev) (n k:Int) (d:List Int):List Int:=bif S8 D n k d then (G0 (E3 (blk D (d.getD 0 0)) 32) (H6 (getD (blk D (d.getD 0 0))))).filter (S9 D.length n) else []
theorem A9q {D:Dev} {n m:Int} {f:Cell} {g:A0} {p q sid:Nat} {L:List Int} (h1:rd g p=some ⟨vwC D.length n m f,true⟩) (hL:L.length ≤ 32):∀ (e i M id:Nat) (h:A0) (l:List Int),i + e=L.length → e < M → l.length ≤ i → Low g.length g h → g.length ≤ id → id ≠ sid → rd h sid=some ⟨encI L,true⟩ → rd h id=some ⟨encI l,true⟩ →
    ∃ v' h',A6T q M (.c (.p p 0)) (.c (.sl id 0 l.length 1)) (.c (.sl sid 0 L.length 1)) (.c (.i .i64 (L.length:Int))) (.c (.i .i64 (i:Int))) h=some (v',h') ∧ Out g.length h' v' 1 (l ++ (L.drop i).filter (S9 D.length n)).length (encI (l ++ (L.drop i).filter (S9 D.length n)))
  | e,i,0,id,h,l,_,hm,_,_,_,_,_,_=>by omega
  | 0,i,M + 1,id,h,l,hi,hm,hl,hlow,hid,hne,hs,hr=>by
    have e0:i=L.length:=by omega
    subst e0
    have c0:¬ ((L.length:Nat):Int) < (L.length:Nat):=by omega
    rw [B6z,List.drop_of_length_le (Nat.le_refl _),List.filter_nil,List.append_nil]
    exact ⟨_,_,by simp only [esc,c0] <;> rfl,by rw [F6,Nat.mul_one],id,rfl,hid,hr⟩
  | e + 1,i,M + 1,id,h,l,hi,hm,hl,hlow,hid,hne,hs,hr=>by
    have hil:i < L.length:=by omega
    have c0:(i:Int) < (L.length:Nat):=by omega
    have ad:D1 1 (.c (.sl sid 0 L.length 1)) (.c (.i .i64 (i:Int)))=some (.c (.p sid i)):=by rw [K0 hil];simp
    have l1:A8 h (.c (.p sid i))=some (.c (.i .i64 L[i])):=H8 hs (by rw [V9,List.getElem?_eq_getElem hil];rfl) rfl
    have fa:B7 (.c (.p p 0)) 0=some (.c (.p p 0)):=rfl
    have l3:A5 h 3 (.c (.p p 0))=some (.a (E9 D.length n m)):=by rw [A4i (hlow.rd h1) (by simp [vwC]) rfl];rfl
    have hI:=A91 (b:=D.length) (n:=n) (m:=m) (i:=L[i]) (h:=h)
    have w1:=F4 (show i + 1 < 9223372036854775808 by omega)
    rw [B6z,List.drop_eq_getElem_cons hil]
    cases c:S9 D.length n L[i] with
    | false =>
      rw [c] at hI
      obtain ⟨v',h',f1,f2⟩:=A9q (q:=q) h1 hL e (i + 1) M id h l (by omega) (by omega) (by omega) hlow hid hne hs hr
      rw [List.filter_cons_of_neg (by rw [c];simp)]
      refine ⟨v',h',?_,f2⟩
      simp only [I0,T7,c0,decide_true,Y2,ad,l1,fa,l3,hI,A0d,B6y,A0H,w1]
      exact f1
    | true =>
      rw [c] at hI
      have ef:B0 [Cell.i .i64 0] [(0,1,.c (.i .i64 L[i]))]=some (encI [L[i]]):=rfl
      obtain ⟨h2,a1,a2,a3,a4⟩:=B0z (n:=l.length) (sz:=1) (ys:=encI [L[i]]) hr (by rw [F6,Nat.mul_one]) rfl (by omega) (by omega)
      rw [← A9M] at a2
      have el:(l ++ [L[i]]).length=l.length + 1:=by simp
      have hlt:=D2 hs
      obtain ⟨v',h',f1,f2⟩:=A9q (q:=q) h1 hL e (i + 1) M (h.length + 1) h2 (l ++ [L[i]]) (by omega) (by omega) (by rw [el];omega) (hlow.trans (a4 _ hid (by have:=hlow.2.1;omega))) (by have:=hlow.2.1;omega) (by omega) (a3 _ _ (Ne.symm hne) hs) a2
      rw [List.filter_cons_of_pos (by rw [c])]
      rw [List.append_assoc,List.singleton_append] at f2
      rw [el] at f1
      refine ⟨v',h',?_,f2⟩
      simp only [I0,T7,c0,decide_true,Y2,ad,l1,fa,l3,hI,ef,a1,B6y,A0H,w1]
      exact f1
theorem A9X {D:Dev} {n m k l s p:Int} {d:List Int} {f:Cell} {h:A0} (hD:okD D) (hd:d.length=7) (hv:IsView h f D) :
    A0B [.a (vwC D.length n m f),.a (A7 k l s p d)] h=some (.c (.sl h.length 0 (D7 D n k d).length 1),h ++ [some ⟨encI (D7 D n k d),true⟩]):=by
  have key:∀ g,IsView g f D → ∃ v g',A5d 33 [.a (vwC D.length n m f),.a (A7 k l s p d)] g=some (v,g') ∧ Out g.length g' v 1 (D7 D n k d).length (encI (D7 D n k d)):=by
    intro g hv
    have hIl:(A7 k l s p d).length=11:=by simp [A7,F6,hd]
    have l11:ldN (some (Row.mk (A7 k l s p d) true)) 0 11=some (.a (A7 k l s p d)):=P6 hIl
    have l4:=A2x (b:=D.length) (n:=n) (m:=m) (f:=f)
    have hz:(encI (0 :: zI 32)).length=33:=O4 (d:=0) N6
    have hX:=B7s D n k d
    have hI:=B6M (n:=n) (m:=m) (k:=k) (l:=l) (s:=s) (p:=p) (h:=g ++ [some (Row.mk (vwC D.length n m f) true),some (Row.mk (A7 k l s p d) true),some (Row.mk [] true)]) hD hd (hv.more _)
    rw [C6q,A2A]
    cases c:S8 D n k d with
    | false =>
      rw [c] at hI
      have eb:D7 D n k d=[]:=by unfold D7;rw [c];rfl
      rw [eb]
      generalize encI (K1 D n k d)=x at *
      generalize encI (0 :: zI 32)=z at *
      refine ⟨.c (.sl (g.length + 4) 0 0 1),g ++ [some (Row.mk (vwC D.length n m f) true),some (Row.mk (A7 k l s p d) true),some (Row.mk [] true),some (Row.mk x true),some (Row.mk [] true)],?_,rfl,g.length + 4,rfl,by omega,by simp [encI]⟩
      generalize vwC D.length n m f=V at *
      generalize A7 k l s p d=I at *
      simp only [esc,esh,Nat.reduceAdd,Nat.reduceMul,Nat.reduceLT,l4,l11,hI,hz,hX]
    | true =>
      rw [c] at hI
      have eb:D7 D n k d=(G0 (E3 (blk D (d.getD 0 0)) 32) (H6 (getD (blk D (d.getD 0 0))))).filter (S9 D.length n):=by unfold D7;rw [c];rfl
      have ex:K1 D n k d=getD (blk D (d.getD 0 0)) :: E3 (blk D (d.getD 0 0)) 32:=by unfold K1;rw [c];rfl
      rw [ex] at hI hX
      have hB:=fun h=>E9O (d:=getD (blk D (d.getD 0 0))) (h:=h) (A93 (blk D (d.getD 0 0)))
      have hBl:=A9k (E3 (blk D (d.getD 0 0)) 32) (H6 (getD (blk D (d.getD 0 0))))
      have hml:=A4k (getD (blk D (d.getD 0 0)))
      rw [eb]
      generalize G0 (E3 (blk D (d.getD 0 0)) 32) (H6 (getD (blk D (d.getD 0 0))))=L at *
      generalize encI (getD (blk D (d.getD 0 0)) :: E3 (blk D (d.getD 0 0)) 32)=x at *
      generalize encI (0 :: zI 32)=z at *
      obtain ⟨v',h',f1,f2⟩:=A9q (D:=D) (n:=n) (m:=m) (f:=f) (g:=g ++ [some (Row.mk (vwC D.length n m f) true),some (Row.mk (A7 k l s p d) true),some (Row.mk [] true),some (Row.mk x true)]) (p:=g.length) (q:=33) (sid:=g.length + 5) (L:=L) (by simp) (by omega) L.length 0 33 (g.length + 4) (g ++ [some (Row.mk (vwC D.length n m f) true),some (Row.mk (A7 k l s p d) true),some (Row.mk [] true),some (Row.mk x true),some (Row.mk [] true),some (Row.mk (encI L) true)]) [] (by omega) (by omega) (by simp)
        (by
          have:=(Low.refl (h:=g ++ [some (Row.mk (vwC D.length n m f) true),some (Row.mk (A7 k l s p d) true),some (Row.mk [] true),some (Row.mk x true)]) (Nat.le_refl _)).new [some (Row.mk [] true),some (Row.mk (encI L) true)]
          simpa using this) (by simp) (by omega) (by simp) (by simp [encI])
      rw [List.nil_append,List.drop_zero] at f2
      rw [List.length_nil] at f1
      refine ⟨v',h',?_,f2.1,?_⟩
      · generalize vwC D.length n m f=V at *
        generalize A7 k l s p d=I at *
        simp only [esc,esh,Nat.reduceAdd,Nat.reduceMul,Nat.reduceLT,l4,l11,hI,hz,hX,hB]
        exact f1
      · obtain ⟨id,e,hb,hr⟩:=f2.2
        exact ⟨id,e,by simp at hb;omega,hr⟩
  obtain ⟨v,g',e,ho⟩:=key (ro h) hv.ro
  exact C7V e (by simpa [Q5] using ho) (by simp)
end Go.Proofs.Ytdgggnlbdoiloaa
end
noncomputable section
namespace Go.Proofs.Ytdgggnlbdoiloaa
open Go Go.Esc
set_option maxRecDepth 100000
def C0N:List AOper:=[aO 2 (.mv (.v (.c (.i .i64 0))))]
def G0m:ACode:=.ops C0N
def C0O:List AOper:=[aO 4 (.mv (.t 0)),aO 5 (.lenS (.t 4)),aO 6 (.bin .lss (.t 5) (.v (.c (.i .i64 1)))),aO 7 (.mv (.t 6)),{ dst:=some 8,op:=.mv (.t 0),guard:=some (7,false) },{ dst:=some 9,op:=.lenS (.t 8),guard:=some (7,false) },{ dst:=some 10,op:=.bin .gtr (.t 9) (.v (.c (.i .i64 24))),guard:=some (7,false) },aO 11 (.pick (.t 7) (.v (.c (.b true))) (.t 10)),aO 12 (.mv (.t 11)),{ dst:=some 13,op:=.mv (.t 0),guard:=some (12,false) },{ dst:=some 14,op:=.bin .eql (.t 13) (.v (.c (.s [46]))),guard:=some (12,false) },aO 15 (.pick (.t 12) (.v (.c (.b true))) (.t 14)),aO 16 (.mv (.t 15)),{ dst:=some 17,op:=.mv (.t 0),guard:=some (16,false) },{ dst:=some 18,op:=.bin .eql (.t 17) (.v (.c (.s [46,46]))),guard:=some (16,false) },aO 19 (.pick (.t 16) (.v (.c (.b true))) (.t 18))]
def G0o:ACode:=.ops C0O
def C0P:List AOper:=[aO 2 (.mv (.v (.c (.i .i64 3))))]
def G0K:ACode:=.ops C0P
def G02:ACode:=.seq [2] G0K .ret
def G04:ACode:=.cond (.t 19) G02 .skip
def G06:ACode:=.seq [0,19] G0o G04
def C0Q:List AOper:=[aO 20 (.mv (.t 0)),aO 21 (.lenS (.t 20)),aO 22 (.mv (.v (.c (.i .i64 0))))]
def G08:ACode:=.ops C0Q
def C0R:List AOper:=[aO 23 (.bin .lss (.t 22) (.t 21))]
def G1a:ACode:=.ops C0R
def G1c:ACode:=.cond (.t 23) .skip (.exit 0)
def C0S:List AOper:=[aO 24 (.mv (.t 22)),aO 3 (.mv (.t 24))]
def G1e:ACode:=.ops C0S
def C0T:List AOper:=[aO 25 (.mv (.t 0)),aO 26 (.mv (.t 3)),aO 27 (.idxS (.t 25) (.t 26)),aO 28 (.bin .eql (.t 27) (.v (.c (.i .u8 0)))),aO 29 (.mv (.t 28)),{ dst:=some 30,op:=.mv (.t 0),guard:=some (29,false) },{ dst:=some 31,op:=.mv (.t 3),guard:=some (29,false) },{ dst:=some 32,op:=.idxS (.t 30) (.t 31),guard:=some (29,false) },{ dst:=some 33,op:=.bin .eql (.t 32) (.v (.c (.i .u8 47))),guard:=some (29,false) },aO 34 (.pick (.t 29) (.v (.c (.b true))) (.t 33))]
def G0p:ACode:=.ops C0T
def C0U:List AOper:=[aO 2 (.mv (.v (.c (.i .i64 3))))]
def G0r:ACode:=.ops C0U
def G0t:ACode:=.seq [2] G0r .ret
def G0v:ACode:=.cond (.t 34) G0t .skip
def G0x:ACode:=.seq [0,21,22,34] G0p G0v
def G0z:ACode:=.seq [0,3,21,22] G1e G0x
def G0B:ACode:=.block 1 G0z
def C0V:List AOper:=[aO 35 (.bin .add (.t 22) (.v (.c (.i .i64 1)))),aO 22 (.mv (.t 35))]
def G0D:ACode:=.ops C0V
def G0F:ACode:=.seq [0,21,22] G0B G0D
def G0H:ACode:=.seq [0,21,22] G1c G0F
def G0L:ACode:=.seq [0,21,22,23] G1a G0H
def G0M:ACode:=.loop [0,21,22] G0L
def G0O:ACode:=.block 0 G0M
def G0Q:ACode:=.seq [0,21,22] G08 G0O
def C0W:List AOper:=[aO 2 (.mv (.v (.c (.i .i64 0))))]
def G0S:ACode:=.ops C0W
def G0U:ACode:=.seq [2] G0S .ret
def G0V:ACode:=.seq [] G0Q G0U
def G0X:ACode:=.seq [0] G06 G0V
def G0Z:ACode:=.seq [0] G0m G0X
def A_name_Check:AFn:=⟨G0Z,[.tmp 2]⟩
def U6:B4:=C2
def G0n (n:Nat):SmV:=A2 U6 C0N
def G0J (n:Nat):SmV:=A2 U6 C0O
def G01 (n:Nat):SmV:=A2 U6 C0P
def G03 (n:Nat):SmV:=A1 [2] (G01 n) B5
def G05 (n:Nat):SmV:=B8 (.t 19) (G03 n) B9
def G07 (n:Nat):SmV:=A1 [0,19] (G0J n) (G05 n)
def G09 (n:Nat):SmV:=A2 U6 C0Q
def G1b (n:Nat):SmV:=A2 U6 C0R
def G1d (n:Nat):SmV:=B8 (.t 23) B9 (F0 0)
def G1f (n:Nat):SmV:=A2 U6 C0S
def G0q (n:Nat):SmV:=A2 U6 C0T
def G0s (n:Nat):SmV:=A2 U6 C0U
def G0u (n:Nat):SmV:=A1 [2] (G0s n) B5
def G0w (n:Nat):SmV:=B8 (.t 34) (G0u n) B9
def G0y (n:Nat):SmV:=A1 [0,21,22,34] (G0q n) (G0w n)
def G0A (n:Nat):SmV:=A1 [0,3,21,22] (G1f n) (G0y n)
def G0C (n:Nat):SmV:=C4 1 (G0A n)
def G0E (n:Nat):SmV:=A2 U6 C0V
def G0G (n:Nat):SmV:=A1 [0,21,22] (G0C n) (G0E n)
def G0I (n:Nat):SmV:=A1 [0,21,22] (G1d n) (G0G n)
def C0K (n:Nat):SmV:=A1 [0,21,22,23] (G1b n) (G0I n)
def G0N (n:Nat):SmV:=F2 n [0,21,22] (C0K n)
def G0P (n:Nat):SmV:=C4 0 (G0N n)
def G0R (n:Nat):SmV:=A1 [0,21,22] (G09 n) (G0P n)
def G0T (n:Nat):SmV:=A2 U6 C0W
def C0L (n:Nat):SmV:=A1 [2] (G0T n) B5
def G0W (n:Nat):SmV:=A1 [] (G0R n) (C0L n)
def G0Y (n:Nat):SmV:=A1 [0] (G07 n) (G0W n)
def G00 (n:Nat):SmV:=A1 [0] (G0n n) (G0Y n)
def A7C (n:Nat):AExit → Env → A0 → A6:=fun x e h=>match x with | .normal=>hold ((C0L n) A_name_Check.fin (e.keep []) h) | .exit id=>A_name_Check.fin (.exit id) e h | .ret=>A_name_Check.fin .ret e h
def G1g (n:Nat):AExit → Env → A0 → A6:=fun x e h=>match x with | .exit i=>bif Nat.beq i 0 then (A7C n) .normal e h else (A7C n) (.exit i) e h | .normal=>(A7C n) .normal e h | .ret=>(A7C n) .ret e h
def A7D (n m:Nat) (x0 x21 x22:Val) (h:A0):A6:=E2 (C0K n) [0,21,22] (G1g n) m [(0,x0),(21,x21),(22,x22)] h
def A8N (n:Nat) (args:List Val) (h:A0):A6:=(G00 n) A_name_Check.fin (params 0 args) h
theorem C6Q (n:Nat) (a0:Val) (h:A0):A8N n [a0] h=bnd (Y0 a0) fun v1=>bnd (A4 .lss v1 (.c (.i .i64 1))) fun v2=>bnd (gd v2 false (some (a0,h)) (some (.no,h))) fun p3=>bnd (gd v2 false (bnd (Y0 p3.1) fun v4=>some (v4,p3.2)) (some (.no,p3.2))) fun p5=>bnd (gd v2 false (bnd (A4 .gtr p5.1 (.c (.i .i64 24))) fun v6=>some (v6,p5.2)) (some (.no,p5.2))) fun p7=>bnd (D4 v2 (.c (.b true)) p7.1) fun v8=>bnd (gd v8 false (some (a0,p7.2)) (some (.no,p7.2))) fun p9=>bnd (gd v8 false (bnd (A4 .eql p9.1 (.c (.s [46]))) fun v10=>some (v10,p9.2)) (some (.no,p9.2))) fun p11=>bnd (D4 v8 (.c (.b true)) p11.1) fun v12=>bnd (gd v12 false (some (a0,p11.2)) (some (.no,p11.2))) fun p13=>bnd (gd v12 false (bnd (A4 .eql p13.1 (.c (.s [46,46]))) fun v14=>some (v14,p13.2)) (some (.no,p13.2))) fun p15=>bnd (D4 v12 (.c (.b true)) p15.1) fun v16=>cnd v16 (some ((.c (.i .i64 3)),p15.2)) (bnd (Y0 a0) fun v17=>A7D n n a0 v17 (.c (.i .i64 0)) p15.2):=by kernel_rfl
theorem C0M (n m:Nat) (x0 x21 x22:Val) (h:A0):A7D n (m + 1) x0 x21 x22 h=bnd (A4 .lss x22 x21) fun v18=>cnd v18 (bnd (Z8 x0 x22) fun v19=>bnd (A4 .eql v19 (.c (.i .u8 0))) fun v20=>bnd (gd v20 false (some (x0,h)) (some (.no,h))) fun p21=>bnd (gd v20 false (some (x22,p21.2)) (some (.no,p21.2))) fun p22=>bnd (gd v20 false (bnd (Z8 p21.1 p22.1) fun v23=>some (v23,p22.2)) (some (.no,p22.2))) fun p24=>bnd (gd v20 false (bnd (A4 .eql p24.1 (.c (.i .u8 47))) fun v25=>some (v25,p24.2)) (some (.no,p24.2))) fun p26=>bnd (D4 v20 (.c (.b true)) p26.1) fun v27=>cnd v27 (some ((.c (.i .i64 3)),p26.2)) (bnd (A4 .add x22 (.c (.i .i64 1))) fun v28=>A7D n m x0 x21 v28 p26.2)) (some ((.c (.i .i64 0)),h)):=by kernel_rfl
theorem K_name_Check:FnK Try.prog 160 A_name_Check U6 A8N:=.mk' (C5) Try.func160 (by kernel_rfl) (by intro n args h;kernel_rfl)
def A1U:Fun:=tidy (Lim A_name_Check U6)
theorem B1g:SOk Try.prog 160 A1U:=K_name_Check.sok
theorem C8A {n:Nat} {args:List Val} {h h2:A0} {v:Val} (he:A8N n args (ro h)=some (v,h2)) (hf:v.flat=true):A1U args h=some (v,h):=K_name_Check.flat he hf
def C02:List AOper:=[aO 2 (.alloc (List.replicate 25 (.i .u8 0))),aO 3 (.mv (.v (.c (.i .i64 0))))]
def G1q:ACode:=.ops C02
def C03:List AOper:=[aO 4 (.alloc (List.replicate 25 (.i .u8 0)))]
def G1s:ACode:=.ops C03
def C06:List AOper:=[aO 7 (.mv (.t 0)),aO 8 (.call 160 [(.t 7)]),aO 5 (.mv (.t 8))]
def G1O:ACode:=.ops C06
def C07:List AOper:=[aO 9 (.mv (.t 5)),aO 10 (.bin .neq (.t 9) (.v (.c (.i .i64 0))))]
def G18:ACode:=.ops C07
def C08:List AOper:=[aO 11 (.loadN 25 (.t 4)),aO 12 (.mv (.t 5)),{ dst:=none,op:=.storeN 25 (.t 2) (.t 11) },aO 3 (.mv (.t 12))]
def G2c:ACode:=.ops C08
def G2e:ACode:=.seq [2,3] G2c .ret
def G2g:ACode:=.cond (.t 10) G2e .skip
def G2i:ACode:=.seq [0,2,4,5,10] G18 G2g
def G2k:ACode:=.seq [0,2,4,5] G1O G2i
def C09:List AOper:=[aO 13 (.mv (.t 0)),aO 14 (.lenS (.t 13)),aO 15 (.conv .u8 (.t 14)),aO 16 (.iAddrA 25 1 (.t 4) (.v (.c (.i .i64 0)))),{ dst:=none,op:=.store1 (.t 16) (.t 15) }]
def G2m:ACode:=.ops C09
def C1a:List AOper:=[aO 17 (.mv (.t 0)),aO 18 (.lenS (.t 17)),aO 19 (.mv (.v (.c (.i .i64 0))))]
def G1t:ACode:=.ops C1a
def C1b:List AOper:=[aO 20 (.bin .lss (.t 19) (.t 18))]
def G1v:ACode:=.ops C1b
def G1x:ACode:=.cond (.t 20) .skip (.exit 0)
def C1c:List AOper:=[aO 21 (.mv (.t 19)),aO 6 (.mv (.t 21))]
def G1z:ACode:=.ops C1c
def C1d:List AOper:=[aO 22 (.mv (.t 6)),aO 23 (.bin .add (.v (.c (.i .i64 1))) (.t 22)),aO 24 (.mv (.t 0)),aO 25 (.mv (.t 6)),aO 26 (.idxS (.t 24) (.t 25)),aO 27 (.iAddrA 25 1 (.t 4) (.t 23)),{ dst:=none,op:=.store1 (.t 27) (.t 26) }]
def G1B:ACode:=.ops C1d
def G1D:ACode:=.seq [0,2,4,6,18,19] G1z G1B
def G1F:ACode:=.block 1 G1D
def C04:List AOper:=[aO 28 (.bin .add (.t 19) (.v (.c (.i .i64 1)))),aO 19 (.mv (.t 28))]
def G1H:ACode:=.ops C04
def G1J:ACode:=.seq [0,2,4,18,19] G1F G1H
def G1L:ACode:=.seq [0,2,4,18,19] G1x G1J
def G1P:ACode:=.seq [0,2,4,18,19,20] G1v G1L
def G1Q:ACode:=.loop [0,2,4,18,19] G1P
def G1S:ACode:=.block 0 G1Q
def G1U:ACode:=.seq [0,2,4,18,19] G1t G1S
def C05:List AOper:=[aO 29 (.loadN 25 (.t 4)),{ dst:=none,op:=.storeN 25 (.t 2) (.t 29) },aO 3 (.mv (.v (.c (.i .i64 0))))]
def G1W:ACode:=.ops C05
def G1Y:ACode:=.seq [2,3] G1W .ret
def G1Z:ACode:=.seq [2,4] G1U G1Y
def G11:ACode:=.seq [0,2,4] G2m G1Z
def G13:ACode:=.seq [0,2,4] G2k G11
def G15:ACode:=.seq [0,2,4] G1s G13
def G19:ACode:=.seq [0,2] G1q G15
def A_name_Pack:AFn:=⟨G19,[.cellN 2 25,.tmp 3]⟩
def R9:B4:=A9 160 A1U C2
def G1r (n:Nat):SmV:=A2 R9 C02
def G1N (n:Nat):SmV:=A2 R9 C03
def G17 (n:Nat):SmV:=A2 R9 C06
def G2b (n:Nat):SmV:=A2 R9 C07
def G2d (n:Nat):SmV:=A2 R9 C08
def G2f (n:Nat):SmV:=A1 [2,3] (G2d n) B5
def G2h (n:Nat):SmV:=B8 (.t 10) (G2f n) B9
def G2j (n:Nat):SmV:=A1 [0,2,4,5,10] (G2b n) (G2h n)
def G2l (n:Nat):SmV:=A1 [0,2,4,5] (G17 n) (G2j n)
def G2n (n:Nat):SmV:=A2 R9 C09
def G1u (n:Nat):SmV:=A2 R9 C1a
def G1w (n:Nat):SmV:=A2 R9 C1b
def G1y (n:Nat):SmV:=B8 (.t 20) B9 (F0 0)
def G1A (n:Nat):SmV:=A2 R9 C1c
def G1C (n:Nat):SmV:=A2 R9 C1d
def G1E (n:Nat):SmV:=A1 [0,2,4,6,18,19] (G1A n) (G1C n)
def G1G (n:Nat):SmV:=C4 1 (G1E n)
def G1I (n:Nat):SmV:=A2 R9 C04
def G1K (n:Nat):SmV:=A1 [0,2,4,18,19] (G1G n) (G1I n)
def G1M (n:Nat):SmV:=A1 [0,2,4,18,19] (G1y n) (G1K n)
def C0Z (n:Nat):SmV:=A1 [0,2,4,18,19,20] (G1w n) (G1M n)
def G1R (n:Nat):SmV:=F2 n [0,2,4,18,19] (C0Z n)
def G1T (n:Nat):SmV:=C4 0 (G1R n)
def G1V (n:Nat):SmV:=A1 [0,2,4,18,19] (G1u n) (G1T n)
def G1X (n:Nat):SmV:=A2 R9 C05
def C00 (n:Nat):SmV:=A1 [2,3] (G1X n) B5
def G10 (n:Nat):SmV:=A1 [2,4] (G1V n) (C00 n)
def G12 (n:Nat):SmV:=A1 [0,2,4] (G2n n) (G10 n)
def G14 (n:Nat):SmV:=A1 [0,2,4] (G2l n) (G12 n)
def G16 (n:Nat):SmV:=A1 [0,2,4] (G1N n) (G14 n)
def G2a (n:Nat):SmV:=A1 [0,2] (G1r n) (G16 n)
def A7E (n:Nat):AExit → Env → A0 → A6:=fun x e h=>match x with | .normal=>hold ((C00 n) A_name_Pack.fin (e.keep [2,4]) h) | .exit id=>A_name_Pack.fin (.exit id) e h | .ret=>A_name_Pack.fin .ret e h
def G2o (n:Nat):AExit → Env → A0 → A6:=fun x e h=>match x with | .exit i=>bif Nat.beq i 0 then (A7E n) .normal e h else (A7E n) (.exit i) e h | .normal=>(A7E n) .normal e h | .ret=>(A7E n) .ret e h
def A7F (n m:Nat) (x0 x2 x4 x18 x19:Val) (h:A0):A6:=E2 (C0Z n) [0,2,4,18,19] (G2o n) m [(0,x0),(2,x2),(4,x4),(18,x18),(19,x19)] h
def A5y (n:Nat) (args:List Val) (h:A0):A6:=(G2a n) A_name_Pack.fin (params 0 args) h
theorem C6S (n:Nat) (a0:Val) (h:A0):A5y n [a0] h=bnd (A1U [a0] (((h ++ [some (Row.mk (List.replicate 25 (.i .u8 0)) true)]) ++ [some (Row.mk (List.replicate 25 (.i .u8 0)) true)]))) fun p1=>bnd (A4 .neq p1.1 (.c (.i .i64 0))) fun v2=>cnd v2 (bnd (A5 p1.2 25 ((.c (.p ((h ++ [some (Row.mk (List.replicate 25 (.i .u8 0)) true)])).length 0)))) fun v3=>bnd (B1 p1.2 25 ((.c (.p h.length 0))) v3) fun h4=>D3 [A5 h4 25 ((.c (.p h.length 0))),some p1.1] h4) (bnd (Y0 a0) fun v5=>bnd (J9 .u8 v5) fun v6=>bnd (D6 25 1 ((.c (.p ((h ++ [some (Row.mk (List.replicate 25 (.i .u8 0)) true)])).length 0))) (.c (.i .i64 0))) fun v7=>bnd (E8 p1.2 v7 v6) fun h8=>bnd (Y0 a0) fun v9=>A7F n n a0 ((.c (.p h.length 0))) ((.c (.p ((h ++ [some (Row.mk (List.replicate 25 (.i .u8 0)) true)])).length 0))) v9 (.c (.i .i64 0)) h8):=by kernel_rfl
theorem C01 (n m:Nat) (x0 x2 x4 x18 x19:Val) (h:A0):A7F n (m + 1) x0 x2 x4 x18 x19 h=bnd (A4 .lss x19 x18) fun v10=>cnd v10 (bnd (A4 .add (.c (.i .i64 1)) x19) fun v11=>bnd (Z8 x0 x19) fun v12=>bnd (D6 25 1 x4 v11) fun v13=>bnd (E8 h v13 v12) fun h14=>bnd (A4 .add x19 (.c (.i .i64 1))) fun v15=>A7F n m x0 x2 x4 x18 v15 h14) (bnd (A5 h 25 x4) fun v16=>bnd (B1 h 25 x2 v16) fun h17=>D3 [A5 h17 25 x2,some (.c (.i .i64 0))] h17):=by kernel_rfl
theorem K_name_Pack:FnK Try.prog 161 A_name_Pack R9 A5y:=.mk' (B3 B1g C5) Try.func161 (by kernel_rfl) (by intro n args h;kernel_rfl)
def A1V:Fun:=tidy (Lim A_name_Pack R9)
theorem B1h:SOk Try.prog 161 A1V:=K_name_Pack.sok
theorem C8D {n:Nat} {args:List Val} {h h2:A0} {v:Val} (he:A5y n args (ro h)=some (v,h2)) (hf:v.flat=true):A1V args h=some (v,h):=K_name_Pack.flat he hf
def C1H:List AOper:=[aO 1 (.box (.t 0)),aO 2 (.mv (.v (.c (.s [])))),aO 3 (.mv (.v (.c (.i .i64 0))))]
def G34:ACode:=.ops C1H
def C1I:List AOper:=[aO 8 (.iAddrA 25 1 (.t 1) (.v (.c (.i .i64 0)))),aO 9 (.load1 (.t 8)),aO 10 (.conv .i64 (.t 9)),aO 4 (.mv (.t 10))]
def G36:ACode:=.ops C1I
def C1J:List AOper:=[aO 11 (.mv (.t 4)),aO 12 (.bin .gtr (.t 11) (.v (.c (.i .i64 24))))]
def G4s:ACode:=.ops C1J
def C1K:List AOper:=[aO 2 (.mv (.v (.c (.s [])))),aO 3 (.mv (.v (.c (.i .i64 3))))]
def G4y:ACode:=.ops C1K
def G4A:ACode:=.seq [2,3] G4y .ret
def G4C:ACode:=.cond (.t 12) G4A .skip
def G4E:ACode:=.seq [1,4,12] G4s G4C
def C1L:List AOper:=[aO 13 (.mv (.t 4)),aO 14 (.bin .add (.v (.c (.i .i64 1))) (.t 13)),aO 15 (.slA 25 1 (.t 1) (some (.v (.c (.i .i64 1)))) (some (.t 14))),aO 16 (.b2s (.t 15)),aO 5 (.mv (.t 16))]
def G4G:ACode:=.ops C1L
def C1M:List AOper:=[aO 18 (.mv (.t 5)),aO 19 (.call 161 [(.t 18)]),aO 17 (.mv (.t 19)),aO 20 (.ext (.t 17) 0),aO 21 (.ext (.t 17) 1),aO 6 (.alloc (List.replicate 25 (.i .u8 0))),{ dst:=none,op:=.storeN 25 (.t 6) (.t 20) },aO 7 (.mv (.t 21))]
def G4I:ACode:=.ops C1M
def C1N:List AOper:=[aO 22 (.mv (.t 7)),aO 23 (.bin .neq (.t 22) (.v (.c (.i .i64 0)))),aO 24 (.mv (.t 23)),{ dst:=some 25,op:=.loadN 25 (.t 6),guard:=some (24,false) },{ dst:=some 26,op:=.loadN 25 (.t 1),guard:=some (24,false) },{ dst:=some 27,op:=.eqA true (List.replicate 25 (.i .u8)) (.t 25) (.t 26),guard:=some (24,false) },aO 28 (.pick (.t 24) (.v (.c (.b true))) (.t 27))]
def G4K:ACode:=.ops C1N
def C1O:List AOper:=[aO 2 (.mv (.v (.c (.s [])))),aO 3 (.mv (.v (.c (.i .i64 3))))]
def G37:ACode:=.ops C1O
def G39:ACode:=.seq [2,3] G37 .ret
def G4b:ACode:=.cond (.t 28) G39 .skip
def G4d:ACode:=.seq [5,28] G4K G4b
def G4f:ACode:=.seq [1,5,6,7] G4I G4d
def C1P:List AOper:=[aO 29 (.mv (.t 5)),aO 2 (.mv (.t 29)),aO 3 (.mv (.v (.c (.i .i64 0))))]
def G4h:ACode:=.ops C1P
def G4j:ACode:=.seq [2,3] G4h .ret
def G4l:ACode:=.seq [5] G4f G4j
def G4n:ACode:=.seq [1,5] G4G G4l
def G4p:ACode:=.seq [1,4] G4E G4n
def G4t:ACode:=.seq [1,4] G36 G4p
def G4v:ACode:=.seq [1] G34 G4t
def A_name_Unpack:AFn:=⟨G4v,[.tmp 2,.tmp 3]⟩
def X3:B4:=A9 161 A1V C2
def G35 (n:Nat):SmV:=A2 X3 C1H
def G4r (n:Nat):SmV:=A2 X3 C1I
def G4x (n:Nat):SmV:=A2 X3 C1J
def G4z (n:Nat):SmV:=A2 X3 C1K
def G4B (n:Nat):SmV:=A1 [2,3] (G4z n) B5
def G4D (n:Nat):SmV:=B8 (.t 12) (G4B n) B9
def G4F (n:Nat):SmV:=A1 [1,4,12] (G4x n) (G4D n)
def G4H (n:Nat):SmV:=A2 X3 C1L
def G4J (n:Nat):SmV:=A2 X3 C1M
def G4L (n:Nat):SmV:=A2 X3 C1N
def G38 (n:Nat):SmV:=A2 X3 C1O
def G4a (n:Nat):SmV:=A1 [2,3] (G38 n) B5
def G4c (n:Nat):SmV:=B8 (.t 28) (G4a n) B9
def G4e (n:Nat):SmV:=A1 [5,28] (G4L n) (G4c n)
def G4g (n:Nat):SmV:=A1 [1,5,6,7] (G4J n) (G4e n)
def G4i (n:Nat):SmV:=A2 X3 C1P
def G4k (n:Nat):SmV:=A1 [2,3] (G4i n) B5
def G4m (n:Nat):SmV:=A1 [5] (G4g n) (G4k n)
def G4o (n:Nat):SmV:=A1 [1,5] (G4H n) (G4m n)
def G4q (n:Nat):SmV:=A1 [1,4] (G4F n) (G4o n)
def G4u (n:Nat):SmV:=A1 [1,4] (G4r n) (G4q n)
def G4w (n:Nat):SmV:=A1 [1] (G35 n) (G4u n)
def A5B (n:Nat) (args:List Val) (h:A0):A6:=(G4w n) A_name_Unpack.fin (params 0 args) h
theorem C6V (n:Nat) (a0:Val) (h:A0):A5B n [a0] h=bnd (cells? a0) fun c1=>bnd (D6 25 1 ((.c (.p h.length 0))) (.c (.i .i64 0))) fun v2=>bnd (A8 ((h ++ [some (Row.mk (c1) true)])) v2) fun v3=>bnd (J9 .i64 v3) fun v4=>bnd (A4 .gtr v4 (.c (.i .i64 24))) fun v5=>cnd v5 (D3 [some (.c (.s [])),some (.c (.i .i64 3))] ((h ++ [some (Row.mk (c1) true)]))) (bnd (A4 .add (.c (.i .i64 1)) v4) fun v6=>bnd (V5 ((h ++ [some (Row.mk (c1) true)])) 25 1 ((.c (.p h.length 0))) (some (.c (.i .i64 1))) (some v6)) fun v7=>bnd (N8 ((h ++ [some (Row.mk (c1) true)])) v7) fun v8=>bnd (A1V [v8] ((h ++ [some (Row.mk (c1) true)]))) fun p9=>bnd (C3 p9.1 0) fun v10=>bnd (C3 p9.1 1) fun v11=>bnd (B1 ((p9.2 ++ [some (Row.mk (List.replicate 25 (.i .u8 0)) true)])) 25 ((.c (.p p9.2.length 0))) v10) fun h12=>bnd (A4 .neq v11 (.c (.i .i64 0))) fun v13=>bnd (gd v13 false (bnd (A5 h12 25 ((.c (.p p9.2.length 0)))) fun v14=>some (v14,h12)) (some (.no,h12))) fun p15=>bnd (gd v13 false (bnd (A5 p15.2 25 ((.c (.p h.length 0)))) fun v16=>some (v16,p15.2)) (some (.no,p15.2))) fun p17=>bnd (gd v13 false (bnd (aeq true (List.replicate 25 (.i .u8)) p15.1 p17.1) fun v18=>some (v18,p17.2)) (some (.no,p17.2))) fun p19=>bnd (D4 v13 (.c (.b true)) p19.1) fun v20=>cnd v20 (D3 [some (.c (.s [])),some (.c (.i .i64 3))] p19.2) (D3 [some v8,some (.c (.i .i64 0))] p19.2)):=by kernel_rfl
theorem K_name_Unpack:FnK Try.prog 162 A_name_Unpack X3 A5B:=.mk' (B3 B1h C5) Try.func162 (by kernel_rfl) (by intro n args h;kernel_rfl)
def A3K:Fun:=tidy (Lim A_name_Unpack X3)
theorem C8J:SOk Try.prog 162 A3K:=K_name_Unpack.sok
theorem C8I {n:Nat} {args:List Val} {h h2:A0} {v:Val} (he:A5B n args (ro h)=some (v,h2)) (hf:v.flat=true):A3K args h=some (v,h):=K_name_Unpack.flat he hf
def C0X:List AOper:=[aO 4 (.mv (.v (.c (.b false))))]
def G1h:ACode:=.ops C0X
def C0Y:List AOper:=[aO 5 (.mv (.t 0)),aO 6 (.mv (.t 1)),aO 7 (.bin .lss (.t 5) (.t 6)),aO 4 (.mv (.t 7))]
def G1j:ACode:=.ops C0Y
def G1l:ACode:=.seq [4] G1j .ret
def G1n:ACode:=.seq [0,1] G1h G1l
def A_name_Less:AFn:=⟨G1n,[.tmp 4]⟩
def A4S:B4:=C2
def G1i (n:Nat):SmV:=A2 A4S C0X
def G1k (n:Nat):SmV:=A2 A4S C0Y
def G1m (n:Nat):SmV:=A1 [4] (G1k n) B5
def G1o (n:Nat):SmV:=A1 [0,1] (G1i n) (G1m n)
def A8O (n:Nat) (args:List Val) (h:A0):A6:=(G1o n) A_name_Less.fin (params 0 args) h
theorem C6R (n:Nat) (a0 a1:Val) (h:A0):A8O n [a0,a1] h=bnd (A4 .lss a0 a1) fun v1=>some (v1,h):=by kernel_rfl
theorem K_name_Less:FnK Try.prog 152 A_name_Less A4S A8O:=.mk' (C5) Try.func152 (by kernel_rfl) (by intro n args h;kernel_rfl)
def A3I:Fun:=tidy (Lim A_name_Less A4S)
theorem C8C:SOk Try.prog 152 A3I:=K_name_Less.sok
theorem C8B {n:Nat} {args:List Val} {h h2:A0} {v:Val} (he:A8O n args (ro h)=some (v,h2)) (hf:v.flat=true):A3I args h=some (v,h):=K_name_Less.flat he hf
def C1h:List AOper:=[aO 4 (.mv (.v (.c (.i .i64 0)))),aO 5 (.mv (.v (.c (.b false))))]
def G2p:ACode:=.ops C1h
def C1i:List AOper:=[aO 9 (.mv (.t 0)),aO 10 (.len (.t 9)),aO 6 (.mv (.v (.c (.i .i64 0)))),aO 7 (.mv (.t 10))]
def G2r:ACode:=.ops C1i
def C1j:List AOper:=[aO 11 (.mv (.t 6)),aO 12 (.mv (.t 7)),aO 13 (.bin .lss (.t 11) (.t 12))]
def G2L:ACode:=.ops C1j
def G2P:ACode:=.cond (.t 13) .skip (.exit 0)
def G2R:ACode:=.seq [0,1,6,7,13] G2L G2P
def C1k:List AOper:=[aO 14 (.mv (.t 6)),aO 15 (.mv (.t 7)),aO 16 (.mv (.t 6)),aO 17 (.bin .sub (.t 15) (.t 16)),aO 18 (.bin .quo (.t 17) (.v (.c (.i .i64 2)))),aO 19 (.bin .add (.t 14) (.t 18)),aO 8 (.mv (.t 19))]
def G2T:ACode:=.ops C1k
def C1l:List AOper:=[aO 20 (.mv (.t 0)),aO 21 (.mv (.t 8)),aO 22 (.iAddrL 1 (.t 20) (.t 21)),aO 23 (.load1 (.t 22)),aO 24 (.mv (.t 1)),aO 25 (.call 152 [(.t 23),(.t 24)])]
def G2V:ACode:=.ops C1l
def C1m:List AOper:=[aO 26 (.mv (.t 8)),aO 27 (.bin .add (.t 26) (.v (.c (.i .i64 1)))),aO 6 (.mv (.t 27))]
def G2X:ACode:=.ops C1m
def C1n:List AOper:=[aO 28 (.mv (.t 8)),aO 7 (.mv (.t 28))]
def G2Z:ACode:=.ops C1n
def G21:ACode:=.cond (.t 25) G2X G2Z
def G2s:ACode:=.seq [0,1,6,7,8,25] G2V G21
def G2u:ACode:=.seq [0,1,6,7,8] G2T G2s
def G2w:ACode:=.block 1 G2u
def G2y:ACode:=.seq [0,1,6,7] G2R G2w
def G2z:ACode:=.loop [0,1,6,7] G2y
def G2B:ACode:=.block 0 G2z
def C1o:List AOper:=[aO 29 (.mv (.t 6)),aO 30 (.mv (.t 6)),aO 31 (.mv (.t 0)),aO 32 (.len (.t 31)),aO 33 (.bin .lss (.t 30) (.t 32)),aO 34 (.mv (.t 33)),{ dst:=some 35,op:=.mv (.t 0),guard:=some (34,true) },{ dst:=some 36,op:=.mv (.t 6),guard:=some (34,true) },{ dst:=some 37,op:=.iAddrL 1 (.t 35) (.t 36),guard:=some (34,true) },{ dst:=some 38,op:=.load1 (.t 37),guard:=some (34,true) },{ dst:=some 39,op:=.mv (.t 1),guard:=some (34,true) },{ dst:=some 40,op:=.bin .eql (.t 38) (.t 39),guard:=some (34,true) },aO 41 (.pick (.t 34) (.t 40) (.v (.c (.b false)))),aO 4 (.mv (.t 29))]
def C1p:List AOper:=[aO 5 (.mv (.t 41))]
def G2D:ACode:=.draw 0 C1o C1p
def G2F:ACode:=.seq [4,5] G2D .ret
def G2G:ACode:=.seq [0,1,6] G2B G2F
def G2I:ACode:=.seq [0,1,6,7] G2r G2G
def G2M:ACode:=.seq [0,1] G2p G2I
def A_name_Place:AFn:=⟨G2M,[.tmp 4,.tmp 5]⟩
def Z5:B4:=A9 152 A3I C2
def G2q (n:Nat):SmV:=A2 Z5 C1h
def G2K (n:Nat):SmV:=A2 Z5 C1i
def G2O (n:Nat):SmV:=A2 Z5 C1j
def G2Q (n:Nat):SmV:=B8 (.t 13) B9 (F0 0)
def G2S (n:Nat):SmV:=A1 [0,1,6,7,13] (G2O n) (G2Q n)
def G2U (n:Nat):SmV:=A2 Z5 C1k
def G2W (n:Nat):SmV:=A2 Z5 C1l
def G2Y (n:Nat):SmV:=A2 Z5 C1m
def G20 (n:Nat):SmV:=A2 Z5 C1n
def G22 (n:Nat):SmV:=B8 (.t 25) (G2Y n) (G20 n)
def G2t (n:Nat):SmV:=A1 [0,1,6,7,8,25] (G2W n) (G22 n)
def G2v (n:Nat):SmV:=A1 [0,1,6,7,8] (G2U n) (G2t n)
def G2x (n:Nat):SmV:=C4 1 (G2v n)
def C1e (n:Nat):SmV:=A1 [0,1,6,7] (G2S n) (G2x n)
def G2A (n:Nat):SmV:=F2 n [0,1,6,7] (C1e n)
def G2C (n:Nat):SmV:=C4 0 (G2A n)
def G2E (n:Nat):SmV:=P8 Z5 0 C1o C1p
def C1f (n:Nat):SmV:=A1 [4,5] (G2E n) B5
def G2H (n:Nat):SmV:=A1 [0,1,6] (G2C n) (C1f n)
def G2J (n:Nat):SmV:=A1 [0,1,6,7] (G2K n) (G2H n)
def G2N (n:Nat):SmV:=A1 [0,1] (G2q n) (G2J n)
def A7G (n:Nat):AExit → Env → A0 → A6:=fun x e h=>match x with | .normal=>hold ((C1f n) A_name_Place.fin (e.keep [0,1,6]) h) | .exit id=>A_name_Place.fin (.exit id) e h | .ret=>A_name_Place.fin .ret e h
def G24 (n:Nat):AExit → Env → A0 → A6:=fun x e h=>match x with | .exit i=>bif Nat.beq i 0 then (A7G n) .normal e h else (A7G n) (.exit i) e h | .normal=>(A7G n) .normal e h | .ret=>(A7G n) .ret e h
def A24 (n m:Nat) (x0 x1 x6 x7:Val) (h:A0):A6:=E2 (C1e n) [0,1,6,7] (G24 n) m [(0,x0),(1,x1),(6,x6),(7,x7)] h
def A5z (n:Nat) (args:List Val) (h:A0):A6:=(G2N n) A_name_Place.fin (params 0 args) h
theorem C6T (n:Nat) (a0 a1:Val) (h:A0):A5z n [a0,a1] h=bnd (F5 a0) fun v1=>A24 n n a0 a1 (.c (.i .i64 0)) v1 h:=by kernel_rfl
theorem C1g (n m:Nat) (x0 x1 x6 x7:Val) (h:A0):A24 n (m + 1) x0 x1 x6 x7 h=bnd (A4 .lss x6 x7) fun v2=>cnd v2 (bnd (A4 .sub x7 x6) fun v3=>bnd (A4 .quo v3 (.c (.i .i64 2))) fun v4=>bnd (A4 .add x6 v4) fun v5=>bnd (D1 1 x0 v5) fun v6=>bnd (A8 h v6) fun v7=>bnd (A3I [v7,x1] h) fun p8=>cnd p8.1 (bnd (A4 .add v5 (.c (.i .i64 1))) fun v9=>A24 n m x0 x1 v9 x7 p8.2) (A24 n m x0 x1 x6 v5 p8.2)) (bnd (F5 x0) fun v10=>bnd (A4 .lss x6 v10) fun v11=>bnd (gd v11 true (some (x0,(h ++ []))) (some (.no,(h ++ [])))) fun p12=>bnd (gd v11 true (some (x6,p12.2)) (some (.no,p12.2))) fun p13=>bnd (gd v11 true (bnd (D1 1 p12.1 p13.1) fun v14=>some (v14,p13.2)) (some (.no,p13.2))) fun p15=>bnd (gd v11 true (bnd (A8 h p15.1) fun v16=>some (v16,p15.2)) (some (.no,p15.2))) fun p17=>bnd (gd v11 true (some (x1,p17.2)) (some (.no,p17.2))) fun p18=>bnd (gd v11 true (bnd (A4 .eql p17.1 p18.1) fun v19=>some (v19,p18.2)) (some (.no,p18.2))) fun p20=>bnd (D4 v11 p20.1 (.c (.b false))) fun v21=>D3 [some x6,some v21] p20.2):=by kernel_rfl
theorem K_name_Place:FnK Try.prog 126 A_name_Place Z5 A5z:=.mk' (B3 C8C C5) Try.func126 (by kernel_rfl) (by intro n args h;kernel_rfl)
def A2K:Fun:=tidy (Lim A_name_Place Z5)
theorem C8F:SOk Try.prog 126 A2K:=K_name_Place.sok
theorem C8E {n:Nat} {args:List Val} {h h2:A0} {v:Val} (he:A5z n args (ro h)=some (v,h2)) (hf:v.flat=true):A2K args h=some (v,h):=K_name_Place.flat he hf
def C1u:List AOper:=[aO 2 (.nilrow 1)]
def G25:ACode:=.ops C1u
def C1v:List AOper:=[aO 3 (.nilrow 1)]
def G27:ACode:=.ops C1v
def C1z:List AOper:=[aO 8 (.mv (.t 0)),aO 9 (.len (.t 8)),aO 10 (.mv (.v (.c (.i .i64 0))))]
def G3s:ACode:=.ops C1z
def C1A:List AOper:=[aO 11 (.bin .lss (.t 10) (.t 9))]
def G3M:ACode:=.ops C1A
def G3Q:ACode:=.cond (.t 11) .skip (.exit 0)
def C1B:List AOper:=[aO 12 (.iAddrL 1 (.t 8) (.t 10)),aO 13 (.load1 (.t 12)),aO 5 (.mv (.t 13))]
def G3S:ACode:=.ops C1B
def C1C:List AOper:=[aO 15 (.mv (.t 3)),aO 16 (.mv (.t 5)),aO 17 (.call 126 [(.t 15),(.t 16)]),aO 14 (.mv (.t 17)),aO 18 (.ext (.t 14) 0),aO 19 (.ext (.t 14) 1),aO 6 (.mv (.t 18)),aO 7 (.mv (.t 19))]
def G3U:ACode:=.ops C1C
def C1D:List AOper:=[aO 20 (.mv (.t 7))]
def G3W:ACode:=.ops C1D
def G3Y:ACode:=.cond (.t 20) (.exit 1) .skip
def G30:ACode:=.seq [3,5,6,8,9,10,20] G3W G3Y
def C1E:List AOper:=[aO 21 (.mv (.t 3)),aO 22 (.buildSl 1 1 ([.s []]) [(0,1,(.v (.c (.s []))))]),aO 23 (.app 1 (.t 21) (.t 22)),aO 3 (.mv (.t 23))]
def G28:ACode:=.ops C1E
def C1F:List AOper:=[aO 24 (.mv (.t 3)),aO 25 (.mv (.t 6)),aO 26 (.bin .add (.t 25) (.v (.c (.i .i64 1)))),aO 27 (.slL 1 (.t 24) (some (.t 26)) none),aO 28 (.mv (.t 3)),aO 29 (.mv (.t 6)),aO 30 (.slL 1 (.t 28) (some (.t 29)) none)]
def C1G:List AOper:=[aO 31 (.copy 1 (.t 27) (.t 30))]
def G3a:ACode:=.draw 0 C1F C1G
def C1w:List AOper:=[aO 32 (.mv (.t 3)),aO 33 (.mv (.t 6)),aO 34 (.mv (.t 5)),aO 35 (.iAddrL 1 (.t 32) (.t 33)),{ dst:=none,op:=.store1 (.t 35) (.t 34) }]
def G3c:ACode:=.ops C1w
def G3e:ACode:=.seq [3,5,6,8,9,10] G3a G3c
def G3g:ACode:=.seq [3,5,6,8,9,10] G28 G3e
def G3i:ACode:=.seq [3,5,6,8,9,10] G30 G3g
def G3k:ACode:=.seq [3,5,6,7,8,9,10] G3U G3i
def G3m:ACode:=.seq [3,5,8,9,10] G3S G3k
def G3o:ACode:=.block 1 G3m
def C1x:List AOper:=[aO 36 (.bin .add (.t 10) (.v (.c (.i .i64 1)))),aO 10 (.mv (.t 36))]
def G3q:ACode:=.ops C1x
def G3t:ACode:=.seq [3,8,9,10] G3o G3q
def G3v:ACode:=.seq [3,8,9,10] G3Q G3t
def G3x:ACode:=.seq [3,8,9,10,11] G3M G3v
def G3y:ACode:=.loop [3,8,9,10] G3x
def G3A:ACode:=.block 0 G3y
def G3C:ACode:=.seq [3,8,9,10] G3s G3A
def C1y:List AOper:=[aO 37 (.mv (.t 3)),aO 2 (.mv (.t 37))]
def G3E:ACode:=.ops C1y
def G3G:ACode:=.seq [2] G3E .ret
def G3H:ACode:=.seq [3] G3C G3G
def G3J:ACode:=.seq [0,3] G27 G3H
def G3N:ACode:=.seq [0] G25 G3J
def A_name_Sort:AFn:=⟨G3N,[.tmp 2]⟩
def S0:B4:=A9 126 A2K C2
def G26 (n:Nat):SmV:=A2 S0 C1u
def G3r (n:Nat):SmV:=A2 S0 C1v
def G3L (n:Nat):SmV:=A2 S0 C1z
def G3P (n:Nat):SmV:=A2 S0 C1A
def G3R (n:Nat):SmV:=B8 (.t 11) B9 (F0 0)
def G3T (n:Nat):SmV:=A2 S0 C1B
def G3V (n:Nat):SmV:=A2 S0 C1C
def G3X (n:Nat):SmV:=A2 S0 C1D
def G3Z (n:Nat):SmV:=B8 (.t 20) (F0 1) B9
def G31 (n:Nat):SmV:=A1 [3,5,6,8,9,10,20] (G3X n) (G3Z n)
def G29 (n:Nat):SmV:=A2 S0 C1E
def G3b (n:Nat):SmV:=P8 S0 0 C1F C1G
def G3d (n:Nat):SmV:=A2 S0 C1w
def G3f (n:Nat):SmV:=A1 [3,5,6,8,9,10] (G3b n) (G3d n)
def G3h (n:Nat):SmV:=A1 [3,5,6,8,9,10] (G29 n) (G3f n)
def G3j (n:Nat):SmV:=A1 [3,5,6,8,9,10] (G31 n) (G3h n)
def G3l (n:Nat):SmV:=A1 [3,5,6,7,8,9,10] (G3V n) (G3j n)
def G3n (n:Nat):SmV:=A1 [3,5,8,9,10] (G3T n) (G3l n)
def G3p (n:Nat):SmV:=C4 1 (G3n n)
def C1q (n:Nat):SmV:=A2 S0 C1x
def G3u (n:Nat):SmV:=A1 [3,8,9,10] (G3p n) (C1q n)
def G3w (n:Nat):SmV:=A1 [3,8,9,10] (G3R n) (G3u n)
def B0l (n:Nat):SmV:=A1 [3,8,9,10,11] (G3P n) (G3w n)
def G3z (n:Nat):SmV:=F2 n [3,8,9,10] (B0l n)
def G3B (n:Nat):SmV:=C4 0 (G3z n)
def G3D (n:Nat):SmV:=A1 [3,8,9,10] (G3L n) (G3B n)
def G3F (n:Nat):SmV:=A2 S0 C1y
def C1r (n:Nat):SmV:=A1 [2] (G3F n) B5
def G3I (n:Nat):SmV:=A1 [3] (G3D n) (C1r n)
def G3K (n:Nat):SmV:=A1 [0,3] (G3r n) (G3I n)
def G3O (n:Nat):SmV:=A1 [0] (G26 n) (G3K n)
def A7H (n:Nat):AExit → Env → A0 → A6:=fun x e h=>match x with | .normal=>hold ((C1r n) A_name_Sort.fin (e.keep [3]) h) | .exit id=>A_name_Sort.fin (.exit id) e h | .ret=>A_name_Sort.fin .ret e h
def A7I (n:Nat):AExit → Env → A0 → A6:=fun x e h=>match x with | .exit i=>bif Nat.beq i 0 then (A7H n) .normal e h else (A7H n) (.exit i) e h | .normal=>(A7H n) .normal e h | .ret=>(A7H n) .ret e h
def A7J (n m:Nat) (x3 x8 x9 x10:Val) (h:A0):A6:=E2 (B0l n) [3,8,9,10] (A7I n) m [(3,x3),(8,x8),(9,x9),(10,x10)] h
def A5A (n:Nat) (args:List Val) (h:A0):A6:=(G3O n) A_name_Sort.fin (params 0 args) h
def G33 (n m:Nat):AExit → Env → A0 → A6:=fun x e h=>match x with | .normal=>E2 (B0l n) [3,8,9,10] (A7I n) m (e.keep [3,8,9,10]) h | .exit id=>(A7I n) (.exit id) e h | .ret=>(A7I n) .ret e h
def B0m (n m:Nat) (x3 x8 x9 x10:Val) (h:A0):A6:=hold ((C1q n) (G33 n m) [(3,x3),(8,x8),(9,x9),(10,x10)] h)
theorem C6U (n:Nat) (a0:Val) (h:A0):A5A n [a0] h=bnd (F5 a0) fun v1=>A7J n n ((.c (.sl ((h ++ [some (Row.mk ([]) true)])).length 0 0 1))) a0 v1 (.c (.i .i64 0)) (((h ++ [some (Row.mk ([]) true)]) ++ [some (Row.mk ([]) true)])):=by kernel_rfl
theorem C1t (n m:Nat) (x3 x8 x9 x10:Val) (h:A0):A7J n (m + 1) x3 x8 x9 x10 h=bnd (A4 .lss x10 x9) fun v2=>cnd v2 (bnd (D1 1 x8 x10) fun v3=>bnd (A8 h v3) fun v4=>bnd (A2K [x3,v4] h) fun p5=>bnd (C3 p5.1 0) fun v6=>bnd (C3 p5.1 1) fun v7=>cnd v7 (B0m n m x3 x8 x9 x10 p5.2) (bnd (B0 ([.s []]) [(0,1,.c (.s []))]) fun c8=>bnd (F9 ((p5.2 ++ [some (Row.mk (c8) true)])) 1 x3 ((.c (.sl p5.2.length 0 1 1)))) fun p9=>bnd (A4 .add v6 (.c (.i .i64 1))) fun v10=>bnd (A19 1 p9.1 (some v10) none) fun v11=>bnd (A19 1 p9.1 (some v6) none) fun v12=>bnd (A1Z ((p9.2 ++ [])) 1 v11 v12) fun p13=>bnd (D1 1 p9.1 v6) fun v14=>bnd (E8 p13.2 v14 v4) fun h15=>B0m n m p9.1 x8 x9 x10 h15)) (some (x3,h)):=by kernel_rfl
theorem C1s (n m:Nat) (x3 x8 x9 x10:Val) (h:A0):B0m n m x3 x8 x9 x10 h=bnd (A4 .add x10 (.c (.i .i64 1))) fun v16=>A7J n m x3 x8 x9 v16 h:=by kernel_rfl
theorem K_name_Sort:FnK Try.prog 90 A_name_Sort S0 A5A:=.mk' (B3 C8F C5) Try.func90 (by kernel_rfl) (by intro n args h;kernel_rfl)
def A3J:Fun:=tidy (Lim A_name_Sort S0)
theorem C8G:SOk Try.prog 90 A3J:=K_name_Sort.sok
theorem C8H {n:Nat} {args:List Val} {h h2:A0} {v:Val} {sz k:Nat} {cs:List Cell} (he:A5A n args (ro h)=some (v,h2)) (ho:Out h.length h2 v sz k cs) (hf:D8 cs=true):A3J args h=some (.c (.sl h.length 0 k sz),h ++ [some ⟨cs,true⟩]):=K_name_Sort.out he ho hf
end Go.Proofs.Ytdgggnlbdoiloaa
end
section
namespace Go.Proofs.Ytdgggnlbdoiloaa
open Go Go.Esc
def A1g (c:UInt8):Bool:=!(decide ((c.toNat:Int)=0) || decide ((c.toNat:Int)=47))
def S4 (s:List UInt8):Bool:=!(decide ((s.length:Int) < 1) || decide (24 < (s.length:Int)) || decide (s=[46]) || decide (s=[46,46])) && s.all A1g
theorem A6P {s:List UInt8} (h:S4 s=true):1 ≤ s.length ∧ s.length ≤ 24:=by
  unfold S4 at h
  simp at h
  omega
theorem B3N (s:List UInt8) (hs:s.length < 9223372036854775807) (n:Nat) (h:A0):∀ d i m:Nat,i + d=s.length → d < m →
    A7D n m (.c (.s s)) (.c (.i .i64 s.length)) (.c (.i .i64 i)) h=some (.c (.i .i64 (bif (s.drop i).all A1g then 0 else 3)),h)
  | d,i,0,_,hm=>by omega
  | 0,i,m + 1,hi,hm=>by
    have c0:¬ ((i:Int) < s.length):=by omega
    rw [C0M,show s.drop i=[] from List.drop_of_length_le (by omega)]
    simp only [esc,c0,List.all_nil]
  | d + 1,i,m + 1,hi,hm=>by
    have h1:(i:Int) < s.length:=by omega
    have h2:i < s.length:=by omega
    have ih:=B3N s hs n h d (i + 1) m (by omega) (by omega)
    rw [C0M,List.drop_eq_getElem_cons h2,List.all_cons]
    by_cases c1:(s[i].toNat:Int)=0
    · have f:A1g s[i]=false:=by unfold A1g;rw [decide_eq_true c1];rfl
      simp only [esc,h1,A39 h2,c1,f,Bool.false_and]
    · by_cases c2:(s[i].toNat:Int)=47
      · have f:A1g s[i]=false:=by unfold A1g;rw [decide_eq_true c2];simp
        simp only [esc,h1,A39 h2,c1,c2,f,Bool.false_and,Int.reduceEq]
      · have f:A1g s[i]=true:=by unfold A1g;rw [decide_eq_false c1,decide_eq_false c2];rfl
        simp only [esc,h1,A39 h2,c1,c2,f,Bool.true_and,F4 (show i + 1 < 9223372036854775808 by omega)]
        exact ih
theorem A9u {s:List UInt8} (hs:s.length < 9223372036854775807) (h:A0):A1U [.c (.s s)] h=some (.c (.i .i64 (bif S4 s then 0 else 3)),h):=by
  refine C8A (n:=s.length + 1) (h2:=ro h) ?_ rfl
  rw [C6Q]
  have hl:=B3N s hs (s.length + 1) (ro h) s.length 0 (s.length + 1) (by omega) (by omega)
  rw [List.drop_zero] at hl
  unfold S4
  by_cases c1:(s.length:Int) < 1
  · simp only [esc,c1,Bool.true_or,Bool.false_and]
  · by_cases c2:(24:Int) < s.length
    · simp only [esc,c1,c2,Bool.true_or,Bool.false_and,Bool.or_true]
    · by_cases c3:s=[46]
      · subst c3;simp only [esc];rfl
      · by_cases c4:s=[46,46]
        · subst c4;simp only [esc];rfl
        · simp only [esc,c1,c2,c3,c4,Bool.or_self,Bool.true_and]
          exact hl
def T0 (s:List UInt8) (i:Nat):List UInt8:=UInt8.ofNat s.length :: (s.take i ++ zeros (24 - i))
def K8 (s:List UInt8):List UInt8:=bif S4 s then T0 s s.length else zeros 25
theorem B0u {s:List UInt8} {i:Nat} (hi:i ≤ s.length) (hs:s.length ≤ 24):(T0 s i).length=25:=by
  unfold T0
  rw [List.length_cons,List.length_append,zeros_length,List.length_take]
  omega
theorem A4r {s:List UInt8}:(K8 s).length=25:=by
  unfold K8
  cases hf:S4 s with
  | false=>exact zeros_length
  | true=>exact B0u (Nat.le_refl _) (A6P hf).2
theorem H0x {s:List UInt8} {i:Nat} (hi:i < s.length) (hs:s.length ≤ 24):(T0 s i).set (1 + i) s[i]=T0 s (i + 1):=by
  unfold T0
  rw [Nat.add_comm 1 i,List.set_cons_succ]
  refine congrArg (UInt8.ofNat s.length :: ·) ?_
  have hlen:(List.take i s).length=i:=by simp;omega
  rw [List.set_append_right _ _ (by omega),hlen,Nat.sub_self,List.take_succ_eq_append_getElem hi,List.append_assoc]
  refine congrArg (List.take i s ++ ·) ?_
  have e:24 - i=(24 - (i + 1)) + 1:=by omega
  rw [e]
  unfold zeros
  rw [List.replicate_succ,List.set_cons_zero];rfl
theorem C3v (s:List UInt8) (hs:s.length ≤ 24) (h:A0) (c2:List Cell) (l2:c2.length=25) (n:Nat):∀ d i m:Nat,i + d=s.length → d < m →
    A7F n m (.c (.s s)) (.c (.p h.length 0)) (.c (.p (h.length + 1) 0)) (.c (.i .i64 s.length)) (.c (.i .i64 i)) (h ++ [some ⟨c2,true⟩,some ⟨A3 (T0 s i),true⟩]) =
      some (.t [.a (A3 (T0 s s.length)),.c (.i .i64 0)],h ++ [some ⟨A3 (T0 s s.length),true⟩,some ⟨A3 (T0 s s.length),true⟩])
  | d,i,0,_,hm=>by omega
  | 0,i,m + 1,hi,hm=>by
    have h1:¬ ((i:Int) < s.length):=by omega
    have e:i=s.length:=by omega
    subst e
    have hl:(A3 (T0 s s.length)).length=25:=by rw [B6];exact B0u (Nat.le_refl _) hs
    rw [C01]
    simp only [esc,esh,Nat.reduceAdd,Nat.reduceMul,Nat.reduceLT,h1,hl,l2]
  | d + 1,i,m + 1,hi,hm=>by
    have h1:(i:Int) < s.length:=by omega
    have h3:i < s.length:=by omega
    have hl:(A3 (T0 s i)).length=25:=by rw [B6];exact B0u (by omega) hs
    have ih:=C3v s hs h c2 l2 n d (i + 1) m (by omega) (by omega)
    have e1:IntKind.wrap .i64 (1 + (i:Int))=((1 + i:Nat):Int):=by rw [wrap_i64 (by omega) (by omega)];omega
    have ea:D6 25 1 (.c (.p (h.length + 1) 0)) (.c (.i .i64 ((1 + i:Nat):Int)))=some (.c (.p (h.length + 1) (1 + i))):=by rw [R0 (by omega)];simp
    have ho:1 + i < (A3 (T0 s i)).length:=by omega
    rw [C01]
    simp only [esc,esh,Nat.reduceAdd,Nat.reduceMul,Nat.reduceLT,h1,e1,A39 h3,ea,ho,A0e,H0x h3 hs,F4 (show i + 1 < 9223372036854775808 by omega)]
    exact ih
theorem C3u {s:List UInt8} (hs:s.length < 9223372036854775807) (h:A0) :
    A1V [.c (.s s)] h=some (.t [.a (A3 (K8 s)),.c (.i .i64 (bif S4 s then 0 else 3))],h):=by
  have key:∀ g,∃ g',A5y (s.length + 1) [.c (.s s)] g=some (.t [.a (A3 (K8 s)),.c (.i .i64 (bif S4 s then 0 else 3))],g'):=by
    intro g
    have hz:=K2 25
    have hl:(A3 (zeros 25)).length=25:=by rw [B6];exact zeros_length
    rw [C6S,hz]
    unfold K8
    cases hf:S4 s with
    | false =>
      generalize zeros 25=Z at *
      exact ⟨_,by simp only [esc,esh,Nat.reduceAdd,Nat.reduceMul,Nat.reduceLT,A9u hs,hf,hl,Int.reduceEq] <;> rfl⟩
    | true =>
      have hs24:=(A6P hf).2
      have e0:(A3 (zeros 25)).set 0 (.i .u8 (IntKind.wrap .u8 s.length))=A3 (T0 s 0):=by
        rw [wrap_u8 (by omega) (by omega)]
        have:((s.length:Nat):Int)=((UInt8.ofNat s.length).toNat:Int):=by rw [UInt8.toNat_ofNat'];omega
        rw [this,A0e]
        rfl
      have:=C3v s hs24 g (A3 (zeros 25)) hl (s.length + 1) s.length 0 (s.length + 1) (by omega) (by omega)
      rw [← e0] at this
      generalize zeros 25=Z at *
      have a0:D6 25 1 (.c (.p (g.length + 1) 0)) (.c (.i .i64 0))=some (.c (.p (g.length + 1) 0)):=rfl
      have ho:0 < (A3 Z).length:=by omega
      exact ⟨_,by simp only [esc,esh,Nat.reduceAdd,Nat.reduceMul,Nat.reduceLT,A9u hs,hf,a0,ho];exact this⟩
  obtain ⟨g',e⟩:=key (ro h)
  exact C8D e (by simp)
def A0p (l:List UInt8):Option (List UInt8) :=
  if (l.headD 0).toNat ≤ 24 then
    if S4 ((l.drop 1).take (l.headD 0).toNat)=true ∧ K8 ((l.drop 1).take (l.headD 0).toNat)=l then some ((l.drop 1).take (l.headD 0).toNat) else none
  else none
theorem H7O {l:List UInt8} (hl:l.length=25) (h:A0) :
    A3K [.a (A3 l)] h=some (.t [.c (.s ((A0p l).getD [])),.c (.i .i64 (if (A0p l).isSome then 0 else 3))],h):=by
  have key:∀ g,∃ g',A5B 0 [.a (A3 l)] g=some (.t [.c (.s ((A0p l).getD [])),.c (.i .i64 (if (A0p l).isSome then 0 else 3))],g'):=by
    intro g
    obtain ⟨x,r,rfl⟩:∃ x r,l=x :: r:=by
      cases l with
      | nil=>simp at hl
      | cons x r=>exact ⟨x,r,rfl⟩
    have hx:=x.toNat_lt
    rw [C6V]
    have a0:D6 25 1 (.c (.p g.length 0)) (.c (.i .i64 0))=some (.c (.p g.length 0)):=rfl
    have l0:(A3 (x :: r))[0]? = some (.i .u8 x.toNat):=rfl
    have e1:IntKind.wrap .i64 (x.toNat:Int)=x.toNat:=wrap_i64 (by omega) (by omega)
    have hle:(A3 (x :: r)).length=25:=by rw [B6,hl]
    unfold A0p
    simp only [List.headD_cons,List.drop_succ_cons,List.drop_zero]
    by_cases c1:x.toNat ≤ 24
    · rw [if_pos c1]
      have c1':¬ (24:Int) < x.toNat:=by omega
      have e2:IntKind.wrap .i64 (1 + (x.toNat:Int))=((1 + x.toNat:Nat):Int):=by rw [wrap_i64 (by omega) (by omega)];omega
      have e3:=H2V (h:=g) (l:=[some ⟨A3 (x :: r),true⟩]) (k:=0) (n:=25) (a:=1) (b:=1 + x.toNat) (cs:=A3 (x :: r)) rfl hle (by omega) (by omega)
      rw [Nat.add_zero,show 1 + x.toNat - 1=x.toNat by omega,show ((1:Nat):Int)=1 from rfl] at e3
      have hh:Has (g ++ [some ⟨A3 (x :: r),true⟩]) (.c (.sl g.length 1 x.toNat 1)) 1 x.toNat (A3 (r.take x.toNat)):=Has.part M9 (by omega) (by
        rw [E5N,E5P];simp) (R3 _)
      have hs:(r.take x.toNat).length < 9223372036854775807:=by simp;omega
      have hp:=C3u hs (g ++ [some ⟨A3 (x :: r),true⟩])
      have hpl:(A3 (K8 (r.take x.toNat))).length=25:=by rw [B6,A4r]
      have hz:(List.replicate 25 (Cell.i .u8 0)).length=25:=List.length_replicate
      have hq:=A50 (l:=K8 (r.take x.toNat)) (m:=x :: r) A4r hl
      generalize List.replicate 25 (Cell.i .u8 0)=z at *
      cases hf:S4 (r.take x.toNat) with
      | false =>
        rw [hf] at hp
        rw [if_neg (by simp)]
        exact ⟨_,by simp only [esc,esh,Nat.reduceAdd,Nat.reduceMul,Nat.reduceLT,a0,l0,e1,c1',e2,e3,hh.str,hp,hpl,hz,Int.reduceEq,Option.getD_none,Option.isSome_none,Bool.false_eq_true] <;> rfl⟩
      | true =>
        rw [hf] at hp
        by_cases c2:K8 (r.take x.toNat)=x :: r
        · rw [if_pos ⟨rfl,c2⟩]
          exact ⟨_,by simp only [esc,esh,Nat.reduceAdd,Nat.reduceMul,Nat.reduceLT,a0,l0,e1,c1',e2,e3,hh.str,hp,hpl,hz,hle,hq,decide_eq_true c2,Int.reduceEq,Option.getD_some,Option.isSome_some,Bool.false_eq_true] <;> rfl⟩
        · rw [if_neg (fun h=>c2 h.2)]
          exact ⟨_,by simp only [esc,esh,Nat.reduceAdd,Nat.reduceMul,Nat.reduceLT,a0,l0,e1,c1',e2,e3,hh.str,hp,hpl,hz,hle,hq,decide_eq_false c2,Int.reduceEq,Option.getD_none,Option.isSome_none,Bool.false_eq_true] <;> rfl⟩
    · rw [if_neg c1]
      have c1':(24:Int) < x.toNat:=by omega
      exact ⟨_,by simp only [esc,esh,Nat.reduceAdd,Nat.reduceMul,Nat.reduceLT,a0,l0,e1,c1',Option.getD_none,Option.isSome_none,Bool.false_eq_true] <;> rfl⟩
  obtain ⟨g',e⟩:=key (ro h)
  exact C8I e (by simp)
end Go.Proofs.Ytdgggnlbdoiloaa
end
noncomputable section
namespace Go.Proofs.Ytdgggnlbdoiloaa
open Go Go.Esc
set_option maxRecDepth 100000
def B3b:List AOper:=[aO 0 (.alloc (List.replicate 256 (.i .u8 0)))]
def D4l:ACode:=.ops B3b
def B3c:List AOper:=[aO 1 (.buildSl 1 4 ([.i .u8 0,.i .u8 0,.i .u8 0,.i .u8 0]) [(0,1,(.v (.c (.i .u8 98)))),(1,1,(.v (.c (.i .u8 107)))),(2,1,(.v (.c (.i .u8 116)))),(3,1,(.v (.c (.i .u8 33))))]),aO 2 (.mark (.t 1)),aO 3 (.call 95 [(.t 2)]),{ dst:=none,op:=.storeN 256 (.t 0) (.t 3) }]
def D4n:ACode:=.ops B3c
def D4p:ACode:=.seq [0] D4n .ret
def D4r:ACode:=.seq [0] D4l D4p
def A_bucket_head:AFn:=⟨D4r,[.cellN 0 256]⟩
def A4F:B4:=A9 95 X7 C2
def D4m (n:Nat):SmV:=A2 A4F B3b
def D4o (n:Nat):SmV:=A2 A4F B3c
def D4q (n:Nat):SmV:=A1 [0] (D4o n) B5
def D4s (n:Nat):SmV:=A1 [0] (D4m n) (D4q n)
def A41 (n:Nat) (args:List Val) (h:A0):A6:=(D4s n) A_bucket_head.fin (params 0 args) h
theorem C6b (n:Nat) (h:A0):A41 n [] h=bnd (B0 ([.i .u8 0,.i .u8 0,.i .u8 0,.i .u8 0]) [(0,1,.c (.i .u8 98)),(1,1,.c (.i .u8 107)),(2,1,.c (.i .u8 116)),(3,1,.c (.i .u8 33))]) fun c1=>bnd (S2 (((h ++ [some (Row.mk (List.replicate 256 (.i .u8 0)) true)]) ++ [some (Row.mk (c1) true)])) ((.c (.sl ((h ++ [some (Row.mk (List.replicate 256 (.i .u8 0)) true)])).length 0 4 1)))) fun v2=>bnd (X7 [v2] (((h ++ [some (Row.mk (List.replicate 256 (.i .u8 0)) true)]) ++ [some (Row.mk (c1) true)]))) fun p3=>bnd (B1 p3.2 256 ((.c (.p h.length 0))) p3.1) fun h4=>mp (A5 h4 256 ((.c (.p h.length 0)))) fun v=>(v,h4):=by kernel_rfl
theorem K_bucket_head:FnK Try.prog 148 A_bucket_head A4F A41:=.mk' (B3 A5W C5) Try.func148 (by kernel_rfl) (by intro n args h;kernel_rfl)
def A3k:Fun:=tidy (Lim A_bucket_head A4F)
theorem C7t:SOk Try.prog 148 A3k:=K_bucket_head.sok
theorem C7s {n:Nat} {args:List Val} {h h2:A0} {v:Val} (he:A41 n args (ro h)=some (v,h2)) (hf:v.flat=true):A3k args h=some (v,h):=K_bucket_head.flat he hf
def B3e:List AOper:=[aO 1 (.box (.t 0)),aO 2 (.mv (.v (.c (.b false))))]
def D4u:ACode:=.ops B3e
def B3f:List AOper:=[aO 3 (.fAddr (.t 1) 0),aO 4 (.load1 (.t 3)),aO 5 (.call 160 [(.t 4)]),aO 6 (.bin .eql (.t 5) (.v (.c (.i .i64 0)))),aO 7 (.mv (.t 6)),{ dst:=some 8,op:=.fAddr (.t 1) 1,guard:=some (7,true) },{ dst:=some 9,op:=.load1 (.t 8),guard:=some (7,true) },{ dst:=some 10,op:=.bin .geq (.t 9) (.v (.c (.i .i64 1))),guard:=some (7,true) },aO 11 (.pick (.t 7) (.t 10) (.v (.c (.b false)))),aO 12 (.mv (.t 11)),{ dst:=some 13,op:=.fAddr (.t 1) 1,guard:=some (12,true) },{ dst:=some 14,op:=.load1 (.t 13),guard:=some (12,true) },{ dst:=some 15,op:=.bin .leq (.t 14) (.v (.c (.i .i64 128))),guard:=some (12,true) },aO 16 (.pick (.t 12) (.t 15) (.v (.c (.b false)))),aO 2 (.mv (.t 16))]
def D4w:ACode:=.ops B3f
def D4y:ACode:=.seq [2] D4w .ret
def D4A:ACode:=.seq [1] D4u D4y
def A_bucket_may:AFn:=⟨D4A,[.tmp 2]⟩
def A4G:B4:=A9 160 A1U C2
def D4v (n:Nat):SmV:=A2 A4G B3e
def D4x (n:Nat):SmV:=A2 A4G B3f
def D4z (n:Nat):SmV:=A1 [2] (D4x n) B5
def D4B (n:Nat):SmV:=A1 [1] (D4v n) (D4z n)
def A42 (n:Nat) (args:List Val) (h:A0):A6:=(D4B n) A_bucket_may.fin (params 0 args) h
theorem C6c (n:Nat) (a0:Val) (h:A0):A42 n [a0] h=bnd (cells? a0) fun c1=>bnd (B7 ((.c (.p h.length 0))) 0) fun v2=>bnd (A8 ((h ++ [some (Row.mk (c1) true)])) v2) fun v3=>bnd (A1U [v3] ((h ++ [some (Row.mk (c1) true)]))) fun p4=>bnd (A4 .eql p4.1 (.c (.i .i64 0))) fun v5=>bnd (gd v5 true (bnd (B7 ((.c (.p h.length 0))) 1) fun v6=>some (v6,p4.2)) (some (.no,p4.2))) fun p7=>bnd (gd v5 true (bnd (A8 p7.2 p7.1) fun v8=>some (v8,p7.2)) (some (.no,p7.2))) fun p9=>bnd (gd v5 true (bnd (A4 .geq p9.1 (.c (.i .i64 1))) fun v10=>some (v10,p9.2)) (some (.no,p9.2))) fun p11=>bnd (D4 v5 p11.1 (.c (.b false))) fun v12=>bnd (gd v12 true (bnd (B7 ((.c (.p h.length 0))) 1) fun v13=>some (v13,p11.2)) (some (.no,p11.2))) fun p14=>bnd (gd v12 true (bnd (A8 p14.2 p14.1) fun v15=>some (v15,p14.2)) (some (.no,p14.2))) fun p16=>bnd (gd v12 true (bnd (A4 .leq p16.1 (.c (.i .i64 128))) fun v17=>some (v17,p16.2)) (some (.no,p16.2))) fun p18=>bnd (D4 v12 p18.1 (.c (.b false))) fun v19=>some (v19,p18.2):=by kernel_rfl
theorem K_bucket_may:FnK Try.prog 149 A_bucket_may A4G A42:=.mk' (B3 B1g C5) Try.func149 (by kernel_rfl) (by intro n args h;kernel_rfl)
def A1I:Fun:=tidy (Lim A_bucket_may A4G)
theorem B04:SOk Try.prog 149 A1I:=K_bucket_may.sok
theorem C7u {n:Nat} {args:List Val} {h h2:A0} {v:Val} (he:A42 n args (ro h)=some (v,h2)) (hf:v.flat=true):A1I args h=some (v,h):=K_bucket_may.flat he hf
def B29:List AOper:=[aO 2 (.mv (.v (.c (.i .i64 0))))]
def D4d:ACode:=.ops B29
def B3a:List AOper:=[aO 3 (.mv (.t 0)),aO 4 (.bin .add (.t 3) (.v (.c (.i .i64 1)))),aO 5 (.bin .mul (.v (.c (.i .i64 32))) (.t 4)),aO 2 (.mv (.t 5))]
def D4f:ACode:=.ops B3a
def D4h:ACode:=.seq [2] D4f .ret
def D4j:ACode:=.seq [0] D4d D4h
def A_bucket_first:AFn:=⟨D4j,[.tmp 2]⟩
def A4E:B4:=C2
def D4e (n:Nat):SmV:=A2 A4E B29
def D4g (n:Nat):SmV:=A2 A4E B3a
def D4i (n:Nat):SmV:=A1 [2] (D4g n) B5
def D4k (n:Nat):SmV:=A1 [0] (D4e n) (D4i n)
def A40 (n:Nat) (args:List Val) (h:A0):A6:=(D4k n) A_bucket_first.fin (params 0 args) h
theorem C6a (n:Nat) (a0:Val) (h:A0):A40 n [a0] h=bnd (A4 .add a0 (.c (.i .i64 1))) fun v1=>bnd (A4 .mul (.c (.i .i64 32)) v1) fun v2=>some (v2,h):=by kernel_rfl
theorem K_bucket_first:FnK Try.prog 150 A_bucket_first A4E A40:=.mk' (C5) Try.func150 (by kernel_rfl) (by intro n args h;kernel_rfl)
def A0y:Fun:=tidy (Lim A_bucket_first A4E)
theorem B03:SOk Try.prog 150 A0y:=K_bucket_first.sok
theorem C7r {n:Nat} {args:List Val} {h h2:A0} {v:Val} (he:A40 n args (ro h)=some (v,h2)) (hf:v.flat=true):A0y args h=some (v,h):=K_bucket_first.flat he hf
def B3z:List AOper:=[aO 1 (.box (.t 0)),aO 2 (.nilrow 1)]
def D5B:ACode:=.ops B3z
def B3A:List AOper:=[aO 6 (.fAddr (.t 1) 1),aO 7 (.load1 (.t 6)),aO 8 (.conv .u8 (.t 7)),aO 9 (.fAddr (.t 1) 1),aO 10 (.load1 (.t 9)),aO 11 (.bin .shr (.t 10) (.v (.c (.i .u64 8)))),aO 12 (.conv .u8 (.t 11)),aO 13 (.buildSl 1 2 ([.i .u8 0,.i .u8 0]) [(0,1,(.t 8)),(1,1,(.t 12))]),aO 3 (.mv (.t 13))]
def D5D:ACode:=.ops B3A
def B3B:List AOper:=[aO 15 (.fAddr (.t 1) 0),aO 16 (.load1 (.t 15)),aO 17 (.call 161 [(.t 16)]),aO 14 (.mv (.t 17)),aO 18 (.ext (.t 14) 0),aO 19 (.ext (.t 14) 1),aO 4 (.alloc (List.replicate 25 (.i .u8 0))),{ dst:=none,op:=.storeN 25 (.t 4) (.t 18) },aO 5 (.mv (.t 19))]
def D5F:ACode:=.ops B3B
def B3C:List AOper:=[aO 20 (.mv (.t 3)),aO 21 (.slA 25 1 (.t 4) none none),aO 22 (.app 1 (.t 20) (.t 21)),aO 3 (.mv (.t 22))]
def D5H:ACode:=.ops B3C
def B3D:List AOper:=[aO 23 (.mv (.t 3)),aO 24 (.buildSl 1 5 ([.i .u8 0,.i .u8 0,.i .u8 0,.i .u8 0,.i .u8 0]) [(0,1,(.v (.c (.i .u8 0)))),(1,1,(.v (.c (.i .u8 0)))),(2,1,(.v (.c (.i .u8 0)))),(3,1,(.v (.c (.i .u8 0)))),(4,1,(.v (.c (.i .u8 0))))]),aO 25 (.app 1 (.t 23) (.t 24)),aO 2 (.mv (.t 25))]
def D5J:ACode:=.ops B3D
def D5L:ACode:=.seq [2] D5J .ret
def D5N:ACode:=.seq [3] D5H D5L
def D5P:ACode:=.seq [3,4] D5F D5N
def D5R:ACode:=.seq [1,3] D5D D5P
def D5T:ACode:=.seq [1] D5B D5R
def A_bucket_written:AFn:=⟨D5T,[.tmp 2]⟩
def A1A:B4:=A9 161 A1V C2
def D5C (n:Nat):SmV:=A2 A1A B3z
def D5E (n:Nat):SmV:=A2 A1A B3A
def D5G (n:Nat):SmV:=A2 A1A B3B
def D5I (n:Nat):SmV:=A2 A1A B3C
def D5K (n:Nat):SmV:=A2 A1A B3D
def D5M (n:Nat):SmV:=A1 [2] (D5K n) B5
def D5O (n:Nat):SmV:=A1 [3] (D5I n) (D5M n)
def D5Q (n:Nat):SmV:=A1 [3,4] (D5G n) (D5O n)
def D5S (n:Nat):SmV:=A1 [1,3] (D5E n) (D5Q n)
def D5U (n:Nat):SmV:=A1 [1] (D5C n) (D5S n)
def A44 (n:Nat) (args:List Val) (h:A0):A6:=(D5U n) A_bucket_written.fin (params 0 args) h
theorem C6e (n:Nat) (a0:Val) (h:A0):A44 n [a0] h=bnd (cells? a0) fun c1=>bnd (B7 ((.c (.p h.length 0))) 1) fun v2=>bnd (A8 (((h ++ [some (Row.mk (c1) true)]) ++ [some (Row.mk ([]) true)])) v2) fun v3=>bnd (J9 .u8 v3) fun v4=>bnd (B7 ((.c (.p h.length 0))) 1) fun v5=>bnd (A8 (((h ++ [some (Row.mk (c1) true)]) ++ [some (Row.mk ([]) true)])) v5) fun v6=>bnd (A4 .shr v6 (.c (.i .u64 8))) fun v7=>bnd (J9 .u8 v7) fun v8=>bnd (B0 ([.i .u8 0,.i .u8 0]) [(0,1,v4),(1,1,v8)]) fun c9=>bnd (B7 ((.c (.p h.length 0))) 0) fun v10=>bnd (A8 ((((h ++ [some (Row.mk (c1) true)]) ++ [some (Row.mk ([]) true)]) ++ [some (Row.mk (c9) true)])) v10) fun v11=>bnd (A1V [v11] ((((h ++ [some (Row.mk (c1) true)]) ++ [some (Row.mk ([]) true)]) ++ [some (Row.mk (c9) true)]))) fun p12=>bnd (C3 p12.1 0) fun v13=>bnd (C3 p12.1 1) fun v14=>bnd (B1 ((p12.2 ++ [some (Row.mk (List.replicate 25 (.i .u8 0)) true)])) 25 ((.c (.p p12.2.length 0))) v13) fun h15=>bnd (V5 h15 25 1 ((.c (.p p12.2.length 0))) none none) fun v16=>bnd (F9 h15 1 ((.c (.sl (((h ++ [some (Row.mk (c1) true)]) ++ [some (Row.mk ([]) true)])).length 0 2 1))) v16) fun p17=>bnd (B0 ([.i .u8 0,.i .u8 0,.i .u8 0,.i .u8 0,.i .u8 0]) [(0,1,.c (.i .u8 0)),(1,1,.c (.i .u8 0)),(2,1,.c (.i .u8 0)),(3,1,.c (.i .u8 0)),(4,1,.c (.i .u8 0))]) fun c18=>bnd (F9 ((p17.2 ++ [some (Row.mk (c18) true)])) 1 p17.1 ((.c (.sl p17.2.length 0 5 1)))) fun p19=>some (p19.1,p19.2):=by kernel_rfl
theorem K_bucket_written:FnK Try.prog 151 A_bucket_written A1A A44:=.mk' (B3 B1h C5) Try.func151 (by kernel_rfl) (by intro n args h;kernel_rfl)
def A1K:Fun:=tidy (Lim A_bucket_written A1A)
theorem B06:SOk Try.prog 151 A1K:=K_bucket_written.sok
theorem C7w {n:Nat} {args:List Val} {h h2:A0} {v:Val} {sz k:Nat} {cs:List Cell} (he:A44 n args (ro h)=some (v,h2)) (ho:Out h.length h2 v sz k cs) (hf:D8 cs=true):A1K args h=some (.c (.sl h.length 0 k sz),h ++ [some ⟨cs,true⟩]):=K_bucket_written.out he ho hf
def B3k:List AOper:=[aO 2 (.box (.t 0)),aO 4 (.alloc ([.s [],.i .i64 0])),aO 5 (.mv (.v (.c (.b false))))]
def D4C:ACode:=.ops B3k
def B3l:List AOper:=[aO 6 (.alloc (List.replicate 25 (.i .u8 0)))]
def D4E:ACode:=.ops B3l
def B3q:List AOper:=[aO 11 (.mv (.v (.c (.i .i64 0))))]
def D4Z:ACode:=.ops B3q
def B3r:List AOper:=[aO 12 (.bin .lss (.t 11) (.v (.c (.i .i64 25))))]
def D5k:ACode:=.ops B3r
def D5o:ACode:=.cond (.t 12) .skip (.exit 0)
def B3s:List AOper:=[aO 13 (.mv (.t 11)),aO 7 (.mv (.t 13))]
def D5q:ACode:=.ops B3s
def B3t:List AOper:=[aO 14 (.mv (.t 7)),aO 15 (.mv (.t 1)),aO 16 (.call 150 [(.t 15)]),aO 17 (.bin .add (.t 16) (.v (.c (.i .i64 2)))),aO 18 (.mv (.t 7)),aO 19 (.bin .add (.t 17) (.t 18)),aO 20 (.iAddrA 256 1 (.t 2) (.t 19)),aO 21 (.load1 (.t 20)),aO 22 (.iAddrA 25 1 (.t 6) (.t 14)),{ dst:=none,op:=.store1 (.t 22) (.t 21) }]
def D5s:ACode:=.ops B3t
def D5u:ACode:=.seq [1,2,4,6,7,11] D5q D5s
def D5w:ACode:=.block 1 D5u
def B3u:List AOper:=[aO 23 (.bin .add (.t 11) (.v (.c (.i .i64 1)))),aO 11 (.mv (.t 23))]
def D5y:ACode:=.ops B3u
def D4F:ACode:=.seq [1,2,4,6,11] D5w D5y
def D4H:ACode:=.seq [1,2,4,6,11] D5o D4F
def D4J:ACode:=.seq [1,2,4,6,11,12] D5k D4H
def D4K:ACode:=.loop [1,2,4,6,11] D4J
def D4M:ACode:=.block 0 D4K
def D4O:ACode:=.seq [1,2,4,6,11] D4Z D4M
def B3v:List AOper:=[aO 25 (.loadN 25 (.t 6)),aO 26 (.call 162 [(.t 25)]),aO 24 (.mv (.t 26)),aO 27 (.ext (.t 24) 0),aO 28 (.ext (.t 24) 1),aO 8 (.mv (.t 27)),aO 9 (.mv (.t 28))]
def D4Q:ACode:=.ops B3v
def B3w:List AOper:=[aO 29 (.mv (.t 8)),aO 30 (.loadN 256 (.t 2)),aO 31 (.mv (.t 1)),aO 32 (.call 150 [(.t 31)]),aO 33 (.call 101 [(.t 30),(.t 32),(.v (.c (.i .i64 2)))]),aO 34 (.build ([.s [],.i .i64 0]) [(0,1,(.t 29)),(1,1,(.t 33))]),{ dst:=some 10,op:=.alloc ([.s [],.i .i64 0]),slot:=some 0 }]
def B3x:List AOper:=[{ dst:=none,op:=.storeN 2 (.t 10) (.t 34) }]
def D4S:ACode:=.draw 1 B3w B3x
def B3m:List AOper:=[aO 35 (.mv (.t 9)),aO 36 (.bin .neq (.t 35) (.v (.c (.i .i64 0)))),aO 37 (.mv (.t 36)),{ dst:=some 38,op:=.loadN 2 (.t 10),guard:=some (37,false) },{ dst:=some 39,op:=.call 149 [(.t 38)],guard:=some (37,false) },{ dst:=some 40,op:=.un .not (.t 39),guard:=some (37,false) },aO 41 (.pick (.t 37) (.v (.c (.b true))) (.t 40)),aO 42 (.mv (.t 41)),{ dst:=some 43,op:=.loadN 2 (.t 10),guard:=some (42,false) },{ dst:=some 44,op:=.call 151 [(.t 43)],guard:=some (42,false) },{ dst:=some 45,op:=.b2sN none (.t 44),guard:=some (42,false) },{ dst:=some 46,op:=.loadN 256 (.t 2),guard:=some (42,false) },{ dst:=some 47,op:=.mv (.t 1),guard:=some (42,false) },{ dst:=some 48,op:=.call 150 [(.t 47)],guard:=some (42,false) },{ dst:=some 49,op:=.call 57 [(.t 46),(.t 48),(.v (.c (.i .i64 32)))],guard:=some (42,false) },{ dst:=some 50,op:=.b2sN none (.t 49),guard:=some (42,false) }]
def B3n:List AOper:=[{ dst:=some 51,op:=.bin .neq (.t 45) (.t 50),guard:=some (42,false) },aO 52 (.pick (.t 42) (.v (.c (.b true))) (.t 51))]
def D4U:ACode:=.draw 0 B3m B3n
def B3o:List AOper:=[aO 53 (.build ([.s [],.i .i64 0]) []),{ dst:=none,op:=.storeN 2 (.t 4) (.t 53) },aO 5 (.mv (.v (.c (.b false))))]
def D4W:ACode:=.ops B3o
def D40:ACode:=.seq [4,5] D4W .ret
def D42:ACode:=.cond (.t 52) D40 .skip
def D44:ACode:=.seq [4,10,52] D4U D42
def B3p:List AOper:=[aO 54 (.loadN 2 (.t 10)),{ dst:=none,op:=.storeN 2 (.t 4) (.t 54) },aO 5 (.mv (.v (.c (.b true))))]
def D46:ACode:=.ops B3p
def D48:ACode:=.seq [4,5] D46 .ret
def D5a:ACode:=.seq [4,10] D44 D48
def D5c:ACode:=.seq [1,2,4,9,10] D4S D5a
def D5e:ACode:=.seq [1,2,4,8,9] D4Q D5c
def D5f:ACode:=.seq [1,2,4,6] D4O D5e
def D5h:ACode:=.seq [1,2,4,6] D4E D5f
def D5l:ACode:=.seq [1,2,4] D4C D5h
def A_bucket_read:AFn:=⟨D5l,[.cellN 4 2,.tmp 5]⟩
def R4:B4:=A9 150 A0y (A9 162 A3K (A9 101 M4 (A9 149 A1I (A9 151 A1K (A9 57 A0F C2)))))
def D4D (n:Nat):SmV:=A2 R4 B3k
def D4Y (n:Nat):SmV:=A2 R4 B3l
def D5j (n:Nat):SmV:=A2 R4 B3q
def D5n (n:Nat):SmV:=A2 R4 B3r
def D5p (n:Nat):SmV:=B8 (.t 12) B9 (F0 0)
def D5r (n:Nat):SmV:=A2 R4 B3s
def D5t (n:Nat):SmV:=A2 R4 B3t
def D5v (n:Nat):SmV:=A1 [1,2,4,6,7,11] (D5r n) (D5t n)
def D5x (n:Nat):SmV:=C4 1 (D5v n)
def D5z (n:Nat):SmV:=A2 R4 B3u
def D4G (n:Nat):SmV:=A1 [1,2,4,6,11] (D5x n) (D5z n)
def D4I (n:Nat):SmV:=A1 [1,2,4,6,11] (D5p n) (D4G n)
def B3g (n:Nat):SmV:=A1 [1,2,4,6,11,12] (D5n n) (D4I n)
def D4L (n:Nat):SmV:=F2 n [1,2,4,6,11] (B3g n)
def D4N (n:Nat):SmV:=C4 0 (D4L n)
def D4P (n:Nat):SmV:=A1 [1,2,4,6,11] (D5j n) (D4N n)
def D4R (n:Nat):SmV:=A2 R4 B3v
def D4T (n:Nat):SmV:=P8 R4 1 B3w B3x
def D4V (n:Nat):SmV:=P8 R4 0 B3m B3n
def D4X (n:Nat):SmV:=A2 R4 B3o
def D41 (n:Nat):SmV:=A1 [4,5] (D4X n) B5
def D43 (n:Nat):SmV:=B8 (.t 52) (D41 n) B9
def D45 (n:Nat):SmV:=A1 [4,10,52] (D4V n) (D43 n)
def D47 (n:Nat):SmV:=A2 R4 B3p
def D49 (n:Nat):SmV:=A1 [4,5] (D47 n) B5
def D5b (n:Nat):SmV:=A1 [4,10] (D45 n) (D49 n)
def D5d (n:Nat):SmV:=A1 [1,2,4,9,10] (D4T n) (D5b n)
def B3h (n:Nat):SmV:=A1 [1,2,4,8,9] (D4R n) (D5d n)
def D5g (n:Nat):SmV:=A1 [1,2,4,6] (D4P n) (B3h n)
def D5i (n:Nat):SmV:=A1 [1,2,4,6] (D4Y n) (D5g n)
def D5m (n:Nat):SmV:=A1 [1,2,4] (D4D n) (D5i n)
def A6h (n:Nat):AExit → Env → A0 → A6:=fun x e h=>match x with | .normal=>hold ((B3h n) A_bucket_read.fin (e.keep [1,2,4,6]) h) | .exit id=>A_bucket_read.fin (.exit id) e h | .ret=>A_bucket_read.fin .ret e h
def D5A (n:Nat):AExit → Env → A0 → A6:=fun x e h=>match x with | .exit i=>bif Nat.beq i 0 then (A6h n) .normal e h else (A6h n) (.exit i) e h | .normal=>(A6h n) .normal e h | .ret=>(A6h n) .ret e h
def A6i (n m:Nat) (x1 x2 x4 x6 x11:Val) (h:A0):A6:=E2 (B3g n) [1,2,4,6,11] (D5A n) m [(1,x1),(2,x2),(4,x4),(6,x6),(11,x11)] h
def A43 (n:Nat) (args:List Val) (h:A0):A6:=(D5m n) A_bucket_read.fin (params 0 args) h
theorem C6d (n:Nat) (a0 a1:Val) (h:A0):A43 n [a0,a1] h=bnd (cells? a0) fun c1=>A6i n n a1 ((.c (.p h.length 0))) ((.c (.p ((h ++ [some (Row.mk (c1) true)])).length 0))) ((.c (.p (((h ++ [some (Row.mk (c1) true)]) ++ [some (Row.mk ([.s [],.i .i64 0]) true)])).length 0))) (.c (.i .i64 0)) ((((h ++ [some (Row.mk (c1) true)]) ++ [some (Row.mk ([.s [],.i .i64 0]) true)]) ++ [some (Row.mk (List.replicate 25 (.i .u8 0)) true)])):=by kernel_rfl
theorem B3j (n m:Nat) (x1 x2 x4 x6 x11:Val) (h:A0):A6i n (m + 1) x1 x2 x4 x6 x11 h=bnd (A4 .lss x11 (.c (.i .i64 25))) fun v2=>cnd v2 (bnd (A0y [x1] h) fun p3=>bnd (A4 .add p3.1 (.c (.i .i64 2))) fun v4=>bnd (A4 .add v4 x11) fun v5=>bnd (D6 256 1 x2 v5) fun v6=>bnd (A8 p3.2 v6) fun v7=>bnd (D6 25 1 x6 x11) fun v8=>bnd (E8 p3.2 v8 v7) fun h9=>bnd (A4 .add x11 (.c (.i .i64 1))) fun v10=>A6i n m x1 x2 x4 x6 v10 h9) (bnd (A5 h 25 x6) fun v11=>bnd (A3K [v11] h) fun p12=>bnd (C3 p12.1 0) fun v13=>bnd (C3 p12.1 1) fun v14=>bnd (A5 p12.2 256 x2) fun v15=>bnd (quiet ((p12.2 ++ [none])) (A0y [x1] ((p12.2 ++ [none])))) fun p16=>bnd (quiet p16.2 (M4 [v15,p16.1,.c (.i .i64 2)] p16.2)) fun p17=>bnd (B0 ([.s [],.i .i64 0]) [(0,1,v13),(1,1,p17.1)]) fun c18=>bnd (B1 ((p17.2.set (p12.2.length + 0) (some (Row.mk ([.s [],.i .i64 0]) true)))) 2 ((.c (.p (p12.2.length + 0) 0))) ((.a c18))) fun h19=>bnd (A4 .neq v14 (.c (.i .i64 0))) fun v20=>bnd (gd v20 false (bnd (A5 h19 2 ((.c (.p (p12.2.length + 0) 0)))) fun v21=>some (v21,(h19 ++ []))) (some (.no,(h19 ++ [])))) fun p22=>bnd (gd v20 false (bnd (quiet p22.2 (A1I [p22.1] p22.2)) fun p23=>some (p23.1,p23.2)) (some (.no,p22.2))) fun p24=>bnd (gd v20 false (bnd (aun .not p24.1) fun v25=>some (v25,p24.2)) (some (.no,p24.2))) fun p26=>bnd (D4 v20 (.c (.b true)) p26.1) fun v27=>bnd (gd v27 false (bnd (A5 h19 2 ((.c (.p (p12.2.length + 0) 0)))) fun v28=>some (v28,p26.2)) (some (.no,p26.2))) fun p29=>bnd (gd v27 false (bnd (quiet p29.2 (A1K [p29.1] p29.2)) fun p30=>some (p30.1,p30.2)) (some (.no,p29.2))) fun p31=>bnd (gd v27 false (bnd (N8 p31.2 p31.1) fun v32=>some (v32,p31.2)) (some (.no,p31.2))) fun p33=>bnd (gd v27 false (bnd (A5 h19 256 x2) fun v34=>some (v34,p33.2)) (some (.no,p33.2))) fun p35=>bnd (gd v27 false (some (x1,p35.2)) (some (.no,p35.2))) fun p36=>bnd (gd v27 false (bnd (quiet p36.2 (A0y [p36.1] p36.2)) fun p37=>some (p37.1,p37.2)) (some (.no,p36.2))) fun p38=>bnd (gd v27 false (bnd (quiet p38.2 (A0F [p35.1,p38.1,.c (.i .i64 32)] p38.2)) fun p39=>some (p39.1,p39.2)) (some (.no,p38.2))) fun p40=>bnd (gd v27 false (bnd (N8 p40.2 p40.1) fun v41=>some (v41,p40.2)) (some (.no,p40.2))) fun p42=>bnd (gd v27 false (bnd (A4 .neq p33.1 p42.1) fun v43=>some (v43,p42.2)) (some (.no,p42.2))) fun p44=>bnd (D4 v27 (.c (.b true)) p44.1) fun v45=>cnd v45 (bnd (B0 ([.s [],.i .i64 0]) []) fun c46=>bnd (B1 p44.2 2 x4 ((.a c46))) fun h47=>D3 [A5 h47 2 x4,some (.c (.b false))] h47) (bnd (A5 p44.2 2 ((.c (.p (p12.2.length + 0) 0)))) fun v48=>bnd (B1 p44.2 2 x4 v48) fun h49=>D3 [A5 h49 2 x4,some (.c (.b true))] h49)):=by kernel_rfl
theorem K_bucket_read:FnK Try.prog 154 A_bucket_read R4 A43:=.mk' (B3 B03 (B3 C8J (B3 A5V (B3 B04 (B3 B06 (B3 A81 C5)))))) Try.func154 (by kernel_rfl) (by intro n args h;kernel_rfl)
def A1J:Fun:=tidy (Lim A_bucket_read R4)
theorem B05:SOk Try.prog 154 A1J:=K_bucket_read.sok
theorem C7v {n:Nat} {args:List Val} {h h2:A0} {v:Val} (he:A43 n args (ro h)=some (v,h2)) (hf:v.flat=true):A1J args h=some (v,h):=K_bucket_read.flat he hf
def B17:List AOper:=[aO 4 (.box (.t 0)),aO 5 (.mv (.v (.c (.b false))))]
def C99:ACode:=.ops B17
def B18:List AOper:=[aO 6 (.fAddr (.t 4) 1),aO 7 (.fAddr (.t 6) 0),aO 8 (.load1 (.t 7)),aO 9 (.load1 (.t 1)),aO 10 (.bin .eql (.t 8) (.t 9))]
def D0b:ACode:=.ops B18
def B19:List AOper:=[aO 11 (.loadN 3 (.t 4)),{ dst:=none,op:=.storeN 3 (.t 2) (.t 11) },{ dst:=none,op:=.store1 (.t 3) (.v (.c (.b true))) }]
def D0d:ACode:=.ops B19
def D0f:ACode:=.cond (.t 10) D0d .skip
def D0h:ACode:=.seq [2,3,4,10] D0b D0f
def B2a:List AOper:=[aO 12 (.load1 (.t 3)),aO 13 (.un .not (.t 12)),aO 5 (.mv (.t 13))]
def D0j:ACode:=.ops B2a
def D0l:ACode:=.seq [5] D0j .ret
def D0m:ACode:=.seq [3] D0h D0l
def D0o:ACode:=.seq [1,2,3,4] C99 D0m
def A_bucket_Find_1:AFn:=⟨D0o,[.tmp 5]⟩
def A2B:B4:=C2
def D0a (n:Nat):SmV:=A2 A2B B17
def D0c (n:Nat):SmV:=A2 A2B B18
def D0e (n:Nat):SmV:=A2 A2B B19
def D0g (n:Nat):SmV:=B8 (.t 10) (D0e n) B9
def D0i (n:Nat):SmV:=A1 [2,3,4,10] (D0c n) (D0g n)
def D0k (n:Nat):SmV:=A2 A2B B2a
def B15 (n:Nat):SmV:=A1 [5] (D0k n) B5
def D0n (n:Nat):SmV:=A1 [3] (D0i n) (B15 n)
def D0p (n:Nat):SmV:=A1 [1,2,3,4] (D0a n) (D0n n)
def A9m (n:Nat) (x3:Val) (h:A0):A6:=hold ((B15 n) A_bucket_Find_1.fin [(3,x3)] h)
def A8y (n:Nat) (args:List Val) (h:A0):A6:=(D0p n) A_bucket_Find_1.fin (params 0 args) h
theorem B0W (n:Nat) (a0 a1 a2 a3:Val) (h:A0):A8y n [a0,a1,a2,a3] h=bnd (cells? a0) fun c1=>bnd (B7 ((.c (.p h.length 0))) 1) fun v2=>bnd (B7 v2 0) fun v3=>bnd (A8 ((h ++ [some (Row.mk (c1) true)])) v3) fun v4=>bnd (A8 ((h ++ [some (Row.mk (c1) true)])) a1) fun v5=>bnd (A4 .eql v4 v5) fun v6=>cnd v6 (bnd (A5 ((h ++ [some (Row.mk (c1) true)])) 3 ((.c (.p h.length 0)))) fun v7=>bnd (B1 ((h ++ [some (Row.mk (c1) true)])) 3 a2 v7) fun h8=>bnd (E8 h8 a3 (.c (.b true))) fun h9=>A9m n a3 h9) (A9m n a3 ((h ++ [some (Row.mk (c1) true)]))):=by kernel_rfl
theorem B16 (n:Nat) (x3:Val) (h:A0):A9m n x3 h=bnd (A8 h x3) fun v10=>bnd (aun .not v10) fun v11=>some (v11,h):=by kernel_rfl
theorem K_bucket_Find_1:FnK Try.prog 129 A_bucket_Find_1 A2B A8y:=.mk' (C5) Try.func129 (by kernel_rfl) (by intro n args h;kernel_rfl)
def A2I:Fun:=Lim A_bucket_Find_1 A2B
theorem C7g:SOk Try.prog 129 A2I:=K_bucket_Find_1.ok
theorem B00 {n:Nat} {args:List Val} {h:A0} {p:Val × A0} (he:A8y n args h=some p):A2I args h=some p:=K_bucket_Find_1.of he
def B2T:List AOper:=[aO 2 (.box (.t 0))]
def D2U:ACode:=.ops B2T
def B2U:List AOper:=[aO 7 (.mv (.v (.c (.i .i64 0))))]
def D2W:ACode:=.ops B2U
def B2V:List AOper:=[aO 8 (.bin .lss (.t 7) (.v (.c (.i .i64 7))))]
def D3i:ACode:=.ops B2V
def D3k:ACode:=.cond (.t 8) .skip (.exit 0)
def B2W:List AOper:=[aO 9 (.mv (.t 7)),aO 4 (.mv (.t 9))]
def D3m:ACode:=.ops B2W
def B2X:List AOper:=[aO 11 (.loadN 256 (.t 2)),aO 12 (.mv (.t 4)),aO 13 (.call 154 [(.t 11),(.t 12)]),aO 10 (.mv (.t 13)),aO 14 (.ext (.t 10) 0),aO 15 (.ext (.t 10) 1),aO 5 (.alloc ([.s [],.i .i64 0])),{ dst:=none,op:=.storeN 2 (.t 5) (.t 14) },aO 6 (.mv (.t 15))]
def D3o:ACode:=.ops B2X
def B2Y:List AOper:=[aO 16 (.mv (.t 6)),aO 17 (.mv (.t 16)),{ dst:=some 18,op:=.mv (.t 1),guard:=some (17,true) },{ dst:=some 19,op:=.mv (.t 4),guard:=some (17,true) },{ dst:=some 20,op:=.loadN 2 (.t 5),guard:=some (17,true) },{ dst:=some 21,op:=.build ([.i .i64 0,.s [],.i .i64 0]) [(0,1,(.t 19)),(1,2,(.t 20))],guard:=some (17,true) },{ dst:=some 22,op:=.callV (.t 18) [(.t 21)],guard:=some (17,true) },{ dst:=some 23,op:=.un .not (.t 22),guard:=some (17,true) },aO 24 (.pick (.t 17) (.t 23) (.v (.c (.b false))))]
def D3q:ACode:=.ops B2Y
def D3s:ACode:=.cond (.t 24) .ret .skip
def D3u:ACode:=.seq [1,2,7,24] D3q D3s
def D3w:ACode:=.seq [1,2,4,5,6,7] D3o D3u
def D2X:ACode:=.seq [1,2,4,7] D3m D3w
def D2Z:ACode:=.block 1 D2X
def B2Z:List AOper:=[aO 25 (.bin .add (.t 7) (.v (.c (.i .i64 1)))),aO 7 (.mv (.t 25))]
def D21:ACode:=.ops B2Z
def D23:ACode:=.seq [1,2,7] D2Z D21
def D26:ACode:=.seq [1,2,7] D3k D23
def D28:ACode:=.seq [1,2,7,8] D3i D26
def D29:ACode:=.loop [1,2,7] D28
def D3b:ACode:=.block 0 D29
def D3d:ACode:=.seq [1,2,7] D2W D3b
def D3f:ACode:=.seq [1,2] D2U D3d
def A_bucket_each__Find_1:AFn:=⟨D3f,[]⟩
def W9:B4:=A9 154 A1J (A9 129 A2I C2)
def D2V (n:Nat):SmV:=A2 W9 B2T
def D3h (n:Nat):SmV:=A2 W9 B2U
def D3j (n:Nat):SmV:=A2 W9 B2V
def D3l (n:Nat):SmV:=B8 (.t 8) B9 (F0 0)
def D3n (n:Nat):SmV:=A2 W9 B2W
def D3p (n:Nat):SmV:=A2 W9 B2X
def D3r (n:Nat):SmV:=A2 W9 B2Y
def D3t (n:Nat):SmV:=B8 (.t 24) B5 B9
def D3v (n:Nat):SmV:=A1 [1,2,7,24] (D3r n) (D3t n)
def D3x (n:Nat):SmV:=A1 [1,2,4,5,6,7] (D3p n) (D3v n)
def D2Y (n:Nat):SmV:=A1 [1,2,4,7] (D3n n) (D3x n)
def D20 (n:Nat):SmV:=C4 1 (D2Y n)
def D22 (n:Nat):SmV:=A2 W9 B2Z
def D25 (n:Nat):SmV:=A1 [1,2,7] (D20 n) (D22 n)
def D27 (n:Nat):SmV:=A1 [1,2,7] (D3l n) (D25 n)
def B2R (n:Nat):SmV:=A1 [1,2,7,8] (D3j n) (D27 n)
def D3a (n:Nat):SmV:=F2 n [1,2,7] (B2R n)
def D3c (n:Nat):SmV:=C4 0 (D3a n)
def D3e (n:Nat):SmV:=A1 [1,2,7] (D3h n) (D3c n)
def D3g (n:Nat):SmV:=A1 [1,2] (D2V n) (D3e n)
def D3y (n:Nat):AExit → Env → A0 → A6:=fun x e h=>match x with | .exit i=>bif Nat.beq i 0 then A_bucket_each__Find_1.fin .normal e h else A_bucket_each__Find_1.fin (.exit i) e h | .normal=>A_bucket_each__Find_1.fin .normal e h | .ret=>A_bucket_each__Find_1.fin .ret e h
def A6f (n m:Nat) (x1 x2 x7:Val) (h:A0):A6:=E2 (B2R n) [1,2,7] (D3y n) m [(1,x1),(2,x2),(7,x7)] h
def A8A (n:Nat) (args:List Val) (h:A0):A6:=(D3g n) A_bucket_each__Find_1.fin (params 0 args) h
theorem C58 (n:Nat) (a0 a1:Val) (h:A0):A8A n [a0,a1] h=bnd (cells? a0) fun c1=>A6f n n a1 ((.c (.p h.length 0))) (.c (.i .i64 0)) ((h ++ [some (Row.mk (c1) true)])):=by kernel_rfl
theorem B2S (n m:Nat) (x1 x2 x7:Val) (h:A0):A6f n (m + 1) x1 x2 x7 h=bnd (A4 .lss x7 (.c (.i .i64 7))) fun v2=>cnd v2 (bnd (A5 h 256 x2) fun v3=>bnd (A1J [v3,x7] h) fun p4=>bnd (C3 p4.1 0) fun v5=>bnd (C3 p4.1 1) fun v6=>bnd (B1 ((p4.2 ++ [some (Row.mk ([.s [],.i .i64 0]) true)])) 2 ((.c (.p p4.2.length 0))) v5) fun h7=>bnd (gd v6 true (some (x1,h7)) (some (.no,h7))) fun p8=>bnd (gd v6 true (some (x7,p8.2)) (some (.no,p8.2))) fun p9=>bnd (gd v6 true (bnd (A5 p9.2 2 ((.c (.p p4.2.length 0)))) fun v10=>some (v10,p9.2)) (some (.no,p9.2))) fun p11=>bnd (gd v6 true (bnd (B0 ([.i .i64 0,.s [],.i .i64 0]) [(0,1,p9.1),(1,2,p11.1)]) fun c12=>some ((.a c12),p11.2)) (some (.no,p11.2))) fun p13=>bnd (gd v6 true (bnd (L7 W9 p8.1 [p13.1] p13.2) fun p14=>some (p14.1,p14.2)) (some (.no,p13.2))) fun p15=>bnd (gd v6 true (bnd (aun .not p15.1) fun v16=>some (v16,p15.2)) (some (.no,p15.2))) fun p17=>bnd (D4 v6 p17.1 (.c (.b false))) fun v18=>cnd v18 (D3 [] p17.2) (bnd (A4 .add x7 (.c (.i .i64 1))) fun v19=>A6f n m x1 x2 v19 p17.2)) (D3 [] h):=by kernel_rfl
theorem K_bucket_each__Find_1:FnK Try.prog 128 A_bucket_each__Find_1 W9 A8A:=.mk' (B3 B05 (B3 C7g C5)) Try.func128 (by kernel_rfl) (by intro n args h;kernel_rfl)
def A3i:Fun:=Lim A_bucket_each__Find_1 W9
theorem C7o:SOk Try.prog 128 A3i:=K_bucket_each__Find_1.ok
theorem C7n {n:Nat} {args:List Val} {h:A0} {p:Val × A0} (he:A8A n args h=some p):A3i args h=some p:=K_bucket_each__Find_1.of he
def B2c:List AOper:=[aO 2 (.box (.t 0)),aO 3 (.box (.t 1)),aO 4 (.alloc ([.i .i64 0,.s [],.i .i64 0])),aO 5 (.mv (.v (.c (.b false))))]
def D0q:ACode:=.ops B2c
def B2d:List AOper:=[aO 6 (.alloc ([.i .i64 0,.s [],.i .i64 0]))]
def D0s:ACode:=.ops B2d
def B2e:List AOper:=[aO 7 (.alloc ([.b false])),{ dst:=none,op:=.store1 (.t 7) (.v (.c (.b false))) }]
def D0u:ACode:=.ops B2e
def B2f:List AOper:=[aO 8 (.loadN 256 (.t 2)),aO 9 (.mkf 129 [(.t 3),(.t 6),(.t 7)]),aO 10 (.call 128 [(.t 8),(.t 9)])]
def D0w:ACode:=.ops B2f
def B2g:List AOper:=[aO 11 (.loadN 3 (.t 6)),aO 12 (.load1 (.t 7))]
def B2h:List AOper:=[aO 5 (.mv (.t 12))]
def D0y:ACode:=.drawS 0 B2g { dst:=none,op:=.storeN 3 (.t 4) (.t 11) } [(12,.load1 (.t 7))] B2h
def D0A:ACode:=.seq [4,5] D0y .ret
def D0C:ACode:=.seq [4,6,7] D0w D0A
def D0E:ACode:=.seq [2,3,4,6,7] D0u D0C
def D0G:ACode:=.seq [2,3,4,6] D0s D0E
def D0I:ACode:=.seq [2,3,4] D0q D0G
def A_bucket_Find:AFn:=⟨D0I,[.cellN 4 3,.tmp 5]⟩
def A1z:B4:=A9 128 A3i C2
def D0r (n:Nat):SmV:=A2 A1z B2c
def D0t (n:Nat):SmV:=A2 A1z B2d
def D0v (n:Nat):SmV:=A2 A1z B2e
def D0x (n:Nat):SmV:=A2 A1z B2f
def D0z (n:Nat):SmV:=A4x A1z 0 B2g { dst:=none,op:=.storeN 3 (.t 4) (.t 11) } [(12,.load1 (.t 7))] B2h
def D0B (n:Nat):SmV:=A1 [4,5] (D0z n) B5
def D0D (n:Nat):SmV:=A1 [4,6,7] (D0x n) (D0B n)
def D0F (n:Nat):SmV:=A1 [2,3,4,6,7] (D0v n) (D0D n)
def D0H (n:Nat):SmV:=A1 [2,3,4,6] (D0t n) (D0F n)
def D0J (n:Nat):SmV:=A1 [2,3,4] (D0r n) (D0H n)
def A4Y (n:Nat) (args:List Val) (h:A0):A6:=(D0J n) A_bucket_Find.fin (params 0 args) h
theorem C55 (n:Nat) (a0 a1:Val) (h:A0):A4Y n [a0,a1] h=bnd (cells? a0) fun c1=>bnd (cells? a1) fun c2=>bnd (E8 ((((((h ++ [some (Row.mk (c1) true)]) ++ [some (Row.mk (c2) true)]) ++ [some (Row.mk ([.i .i64 0,.s [],.i .i64 0]) true)]) ++ [some (Row.mk ([.i .i64 0,.s [],.i .i64 0]) true)]) ++ [some (Row.mk ([.b false]) true)])) ((.c (.p (((((h ++ [some (Row.mk (c1) true)]) ++ [some (Row.mk (c2) true)]) ++ [some (Row.mk ([.i .i64 0,.s [],.i .i64 0]) true)]) ++ [some (Row.mk ([.i .i64 0,.s [],.i .i64 0]) true)])).length 0))) (.c (.b false))) fun h3=>bnd (A5 h3 256 ((.c (.p h.length 0)))) fun v4=>bnd (V4 129 [(.c (.p ((h ++ [some (Row.mk (c1) true)])).length 0)),(.c (.p ((((h ++ [some (Row.mk (c1) true)]) ++ [some (Row.mk (c2) true)]) ++ [some (Row.mk ([.i .i64 0,.s [],.i .i64 0]) true)])).length 0)),(.c (.p (((((h ++ [some (Row.mk (c1) true)]) ++ [some (Row.mk (c2) true)]) ++ [some (Row.mk ([.i .i64 0,.s [],.i .i64 0]) true)]) ++ [some (Row.mk ([.i .i64 0,.s [],.i .i64 0]) true)])).length 0))]) fun v5=>bnd (A3i [v4,v5] h3) fun p6=>bnd (A5 p6.2 3 ((.c (.p ((((h ++ [some (Row.mk (c1) true)]) ++ [some (Row.mk (c2) true)]) ++ [some (Row.mk ([.i .i64 0,.s [],.i .i64 0]) true)])).length 0)))) fun v7=>bnd (A8 p6.2 ((.c (.p (((((h ++ [some (Row.mk (c1) true)]) ++ [some (Row.mk (c2) true)]) ++ [some (Row.mk ([.i .i64 0,.s [],.i .i64 0]) true)]) ++ [some (Row.mk ([.i .i64 0,.s [],.i .i64 0]) true)])).length 0)))) fun v8=>bnd (B1 ((p6.2 ++ [])) 3 ((.c (.p (((h ++ [some (Row.mk (c1) true)]) ++ [some (Row.mk (c2) true)])).length 0))) v7) fun h9=>agn (A8 h9 ((.c (.p (((((h ++ [some (Row.mk (c1) true)]) ++ [some (Row.mk (c2) true)]) ++ [some (Row.mk ([.i .i64 0,.s [],.i .i64 0]) true)]) ++ [some (Row.mk ([.i .i64 0,.s [],.i .i64 0]) true)])).length 0)))) v8 <| D3 [A5 h9 3 ((.c (.p (((h ++ [some (Row.mk (c1) true)]) ++ [some (Row.mk (c2) true)])).length 0))),some v8] h9:=by kernel_rfl
theorem K_bucket_Find:FnK Try.prog 92 A_bucket_Find A1z A4Y:=.mk' (B3 C7o C5) Try.func92 (by kernel_rfl) (by intro n args h;kernel_rfl)
def A1H:Fun:=tidy (Lim A_bucket_Find A1z)
theorem B01:SOk Try.prog 92 A1H:=K_bucket_Find.sok
theorem C7h {n:Nat} {args:List Val} {h h2:A0} {v:Val} (he:A4Y n args (ro h)=some (v,h2)) (hf:v.flat=true):A1H args h=some (v,h):=K_bucket_Find.flat he hf
def B2x:List AOper:=[aO 2 (.alloc (List.replicate 256 (.i .u8 0))),aO 3 (.mv (.v (.c (.i .i64 0))))]
def D1c:ACode:=.ops B2x
def B2y:List AOper:=[aO 11 (.mv (.t 0)),aO 12 (.len (.t 11)),aO 13 (.bin .gtr (.t 12) (.v (.c (.i .i64 7))))]
def D1e:ACode:=.ops B2y
def B2J:List AOper:=[aO 14 (.build (List.replicate 256 (.i .u8 0)) []),{ dst:=none,op:=.storeN 256 (.t 2) (.t 14) },aO 3 (.mv (.v (.c (.i .i64 11))))]
def D1A:ACode:=.ops B2J
def D1V:ACode:=.seq [2,3] D1A .ret
def D2h:ACode:=.cond (.t 13) D1V .skip
def D2A:ACode:=.seq [0,2,13] D1e D2h
def B2K:List AOper:=[aO 15 (.call 148 []),aO 4 (.alloc (List.replicate 256 (.i .u8 0))),{ dst:=none,op:=.storeN 256 (.t 4) (.t 15) }]
def D2K:ACode:=.ops B2K
def B2L:List AOper:=[aO 16 (.mv (.t 0)),aO 17 (.len (.t 16)),aO 18 (.mv (.v (.c (.i .i64 0))))]
def D2M:ACode:=.ops B2L
def B2M:List AOper:=[aO 19 (.bin .lss (.t 18) (.t 17))]
def D2O:ACode:=.ops B2M
def D2Q:ACode:=.cond (.t 19) .skip (.exit 0)
def B2N:List AOper:=[aO 20 (.mv (.t 18)),aO 21 (.iAddrL 2 (.t 16) (.t 18)),aO 22 (.loadN 2 (.t 21)),aO 6 (.alloc ([.s [],.i .i64 0])),aO 5 (.mv (.t 20)),{ dst:=none,op:=.storeN 2 (.t 6) (.t 22) }]
def D1f:ACode:=.ops B2N
def B2O:List AOper:=[aO 23 (.loadN 2 (.t 6)),aO 24 (.call 149 [(.t 23)]),aO 25 (.un .not (.t 24))]
def D1h:ACode:=.ops B2O
def B2P:List AOper:=[aO 26 (.build (List.replicate 256 (.i .u8 0)) []),{ dst:=none,op:=.storeN 256 (.t 2) (.t 26) },aO 3 (.mv (.v (.c (.i .i64 1))))]
def D1j:ACode:=.ops B2P
def D1l:ACode:=.seq [2,3] D1j .ret
def D1n:ACode:=.cond (.t 25) D1l .skip
def D1p:ACode:=.seq [0,2,4,5,6,16,17,18,25] D1h D1n
def B2Q:List AOper:=[aO 27 (.loadN 256 (.t 4)),aO 28 (.mv (.t 5)),aO 29 (.call 150 [(.t 28)]),aO 30 (.loadN 2 (.t 6)),aO 31 (.call 151 [(.t 30)])]
def B2z:List AOper:=[aO 32 (.call 98 [(.t 27),(.t 29),(.t 31)]),{ dst:=none,op:=.storeN 256 (.t 4) (.t 32) }]
def D1r:ACode:=.draw 0 B2Q B2z
def D1t:ACode:=.seq [0,2,4,5,6,16,17,18] D1p D1r
def D1v:ACode:=.seq [0,2,4,5,6,16,17,18] D1f D1t
def D1x:ACode:=.block 1 D1v
def B2A:List AOper:=[aO 33 (.bin .add (.t 18) (.v (.c (.i .i64 1)))),aO 18 (.mv (.t 33))]
def D1B:ACode:=.ops B2A
def D1D:ACode:=.seq [0,2,4,16,17,18] D1x D1B
def D1F:ACode:=.seq [0,2,4,16,17,18] D2Q D1D
def D1H:ACode:=.seq [0,2,4,16,17,18,19] D2O D1F
def D1I:ACode:=.loop [0,2,4,16,17,18] D1H
def D1K:ACode:=.block 0 D1I
def D1M:ACode:=.seq [0,2,4,16,17,18] D2M D1K
def B2B:List AOper:=[aO 34 (.mv (.t 0)),aO 35 (.len (.t 34)),aO 36 (.mv (.v (.c (.i .i64 0))))]
def D1O:ACode:=.ops B2B
def B2C:List AOper:=[aO 37 (.bin .lss (.t 36) (.t 35))]
def D1Q:ACode:=.ops B2C
def D1S:ACode:=.cond (.t 37) .skip (.exit 2)
def B2D:List AOper:=[aO 38 (.mv (.t 36)),aO 39 (.iAddrL 2 (.t 34) (.t 36)),aO 40 (.loadN 2 (.t 39)),aO 8 (.alloc ([.s [],.i .i64 0])),aO 7 (.mv (.t 38)),{ dst:=none,op:=.storeN 2 (.t 8) (.t 40) }]
def D1W:ACode:=.ops B2D
def B2E:List AOper:=[aO 42 (.loadN 256 (.t 4)),aO 43 (.fAddr (.t 8) 0),aO 44 (.load1 (.t 43)),aO 45 (.call 92 [(.t 42),(.t 44)]),aO 41 (.mv (.t 45)),aO 46 (.ext (.t 41) 0),aO 47 (.ext (.t 41) 1),aO 9 (.alloc ([.i .i64 0,.s [],.i .i64 0])),{ dst:=none,op:=.storeN 3 (.t 9) (.t 46) },aO 10 (.mv (.t 47))]
def D1Y:ACode:=.ops B2E
def B2F:List AOper:=[aO 48 (.fAddr (.t 9) 0),aO 49 (.load1 (.t 48)),aO 50 (.mv (.t 7)),aO 51 (.bin .neq (.t 49) (.t 50))]
def D10:ACode:=.ops B2F
def B2G:List AOper:=[aO 52 (.build (List.replicate 256 (.i .u8 0)) []),{ dst:=none,op:=.storeN 256 (.t 2) (.t 52) },aO 3 (.mv (.v (.c (.i .i64 5))))]
def D12:ACode:=.ops B2G
def D14:ACode:=.seq [2,3] D12 .ret
def D16:ACode:=.cond (.t 51) D14 .skip
def D18:ACode:=.seq [2,4,34,35,36,51] D10 D16
def D2a:ACode:=.seq [2,4,7,9,34,35,36] D1Y D18
def D2c:ACode:=.seq [2,4,7,8,34,35,36] D1W D2a
def D2e:ACode:=.block 3 D2c
def B2H:List AOper:=[aO 53 (.bin .add (.t 36) (.v (.c (.i .i64 1)))),aO 36 (.mv (.t 53))]
def D2i:ACode:=.ops B2H
def D2k:ACode:=.seq [2,4,34,35,36] D2e D2i
def D2m:ACode:=.seq [2,4,34,35,36] D1S D2k
def D2o:ACode:=.seq [2,4,34,35,36,37] D1Q D2m
def D2p:ACode:=.loop [2,4,34,35,36] D2o
def D2r:ACode:=.block 2 D2p
def D2t:ACode:=.seq [2,4,34,35,36] D1O D2r
def B2I:List AOper:=[aO 54 (.loadN 256 (.t 4)),{ dst:=none,op:=.storeN 256 (.t 2) (.t 54) },aO 3 (.mv (.v (.c (.i .i64 0))))]
def D2v:ACode:=.ops B2I
def D2x:ACode:=.seq [2,3] D2v .ret
def D2y:ACode:=.seq [2,4] D2t D2x
def D2B:ACode:=.seq [0,2,4] D1M D2y
def D2D:ACode:=.seq [0,2,4] D2K D2B
def D2F:ACode:=.seq [0,2] D2A D2D
def D2H:ACode:=.seq [0,2] D1c D2F
def A_bucket_New:AFn:=⟨D2H,[.cellN 2 256,.tmp 3]⟩
def K3:B4:=A9 148 A3k (A9 149 A1I (A9 150 A0y (A9 151 A1K (A9 98 A0G (A9 92 A1H C2)))))
def D1d (n:Nat):SmV:=A2 K3 B2x
def D1z (n:Nat):SmV:=A2 K3 B2y
def D1U (n:Nat):SmV:=A2 K3 B2J
def D2g (n:Nat):SmV:=A1 [2,3] (D1U n) B5
def D2z (n:Nat):SmV:=B8 (.t 13) (D2g n) B9
def D2J (n:Nat):SmV:=A1 [0,2,13] (D1z n) (D2z n)
def D2L (n:Nat):SmV:=A2 K3 B2K
def D2N (n:Nat):SmV:=A2 K3 B2L
def D2P (n:Nat):SmV:=A2 K3 B2M
def D2R (n:Nat):SmV:=B8 (.t 19) B9 (F0 0)
def D1g (n:Nat):SmV:=A2 K3 B2N
def D1i (n:Nat):SmV:=A2 K3 B2O
def D1k (n:Nat):SmV:=A2 K3 B2P
def D1m (n:Nat):SmV:=A1 [2,3] (D1k n) B5
def D1o (n:Nat):SmV:=B8 (.t 25) (D1m n) B9
def D1q (n:Nat):SmV:=A1 [0,2,4,5,6,16,17,18,25] (D1i n) (D1o n)
def D1s (n:Nat):SmV:=P8 K3 0 B2Q B2z
def D1u (n:Nat):SmV:=A1 [0,2,4,5,6,16,17,18] (D1q n) (D1s n)
def D1w (n:Nat):SmV:=A1 [0,2,4,5,6,16,17,18] (D1g n) (D1u n)
def D1y (n:Nat):SmV:=C4 1 (D1w n)
def D1C (n:Nat):SmV:=A2 K3 B2A
def D1E (n:Nat):SmV:=A1 [0,2,4,16,17,18] (D1y n) (D1C n)
def D1G (n:Nat):SmV:=A1 [0,2,4,16,17,18] (D2R n) (D1E n)
def B2q (n:Nat):SmV:=A1 [0,2,4,16,17,18,19] (D2P n) (D1G n)
def D1J (n:Nat):SmV:=F2 n [0,2,4,16,17,18] (B2q n)
def D1L (n:Nat):SmV:=C4 0 (D1J n)
def D1N (n:Nat):SmV:=A1 [0,2,4,16,17,18] (D2N n) (D1L n)
def D1P (n:Nat):SmV:=A2 K3 B2B
def D1R (n:Nat):SmV:=A2 K3 B2C
def D1T (n:Nat):SmV:=B8 (.t 37) B9 (F0 2)
def D1X (n:Nat):SmV:=A2 K3 B2D
def D1Z (n:Nat):SmV:=A2 K3 B2E
def D11 (n:Nat):SmV:=A2 K3 B2F
def D13 (n:Nat):SmV:=A2 K3 B2G
def D15 (n:Nat):SmV:=A1 [2,3] (D13 n) B5
def D17 (n:Nat):SmV:=B8 (.t 51) (D15 n) B9
def D19 (n:Nat):SmV:=A1 [2,4,34,35,36,51] (D11 n) (D17 n)
def D2b (n:Nat):SmV:=A1 [2,4,7,9,34,35,36] (D1Z n) (D19 n)
def D2d (n:Nat):SmV:=A1 [2,4,7,8,34,35,36] (D1X n) (D2b n)
def D2f (n:Nat):SmV:=C4 3 (D2d n)
def D2j (n:Nat):SmV:=A2 K3 B2H
def D2l (n:Nat):SmV:=A1 [2,4,34,35,36] (D2f n) (D2j n)
def D2n (n:Nat):SmV:=A1 [2,4,34,35,36] (D1T n) (D2l n)
def B2r (n:Nat):SmV:=A1 [2,4,34,35,36,37] (D1R n) (D2n n)
def D2q (n:Nat):SmV:=F2 n [2,4,34,35,36] (B2r n)
def D2s (n:Nat):SmV:=C4 2 (D2q n)
def D2u (n:Nat):SmV:=A1 [2,4,34,35,36] (D1P n) (D2s n)
def D2w (n:Nat):SmV:=A2 K3 B2I
def B2s (n:Nat):SmV:=A1 [2,3] (D2w n) B5
def B2t (n:Nat):SmV:=A1 [2,4] (D2u n) (B2s n)
def D2C (n:Nat):SmV:=A1 [0,2,4] (D1N n) (B2t n)
def D2E (n:Nat):SmV:=A1 [0,2,4] (D2L n) (D2C n)
def D2G (n:Nat):SmV:=A1 [0,2] (D2J n) (D2E n)
def D2I (n:Nat):SmV:=A1 [0,2] (D1d n) (D2G n)
def A6b (n:Nat):AExit → Env → A0 → A6:=fun x e h=>match x with | .normal=>hold ((B2t n) A_bucket_New.fin (e.keep [0,2,4]) h) | .exit id=>A_bucket_New.fin (.exit id) e h | .ret=>A_bucket_New.fin .ret e h
def D2S (n:Nat):AExit → Env → A0 → A6:=fun x e h=>match x with | .exit i=>bif Nat.beq i 0 then (A6b n) .normal e h else (A6b n) (.exit i) e h | .normal=>(A6b n) .normal e h | .ret=>(A6b n) .ret e h
def A6d (n m:Nat) (x0 x2 x4 x16 x17 x18:Val) (h:A0):A6:=E2 (B2q n) [0,2,4,16,17,18] (D2S n) m [(0,x0),(2,x2),(4,x4),(16,x16),(17,x17),(18,x18)] h
def A4Z (n:Nat) (args:List Val) (h:A0):A6:=(D2I n) A_bucket_New.fin (params 0 args) h
def A6c (n:Nat):AExit → Env → A0 → A6:=fun x e h=>match x with | .normal=>hold ((B2s n) A_bucket_New.fin (e.keep [2,4]) h) | .exit id=>A_bucket_New.fin (.exit id) e h | .ret=>A_bucket_New.fin .ret e h
def D2T (n:Nat):AExit → Env → A0 → A6:=fun x e h=>match x with | .exit i=>bif Nat.beq i 2 then (A6c n) .normal e h else (A6c n) (.exit i) e h | .normal=>(A6c n) .normal e h | .ret=>(A6c n) .ret e h
def A6e (n m:Nat) (x2 x4 x34 x35 x36:Val) (h:A0):A6:=E2 (B2r n) [2,4,34,35,36] (D2T n) m [(2,x2),(4,x4),(34,x34),(35,x35),(36,x36)] h
theorem C57 (n:Nat) (a0:Val) (h:A0):A4Z n [a0] h=bnd (F5 a0) fun v1=>bnd (A4 .gtr v1 (.c (.i .i64 7))) fun v2=>cnd v2 (bnd (B0 (List.replicate 256 (.i .u8 0)) []) fun c3=>bnd (B1 ((h ++ [some (Row.mk (List.replicate 256 (.i .u8 0)) true)])) 256 ((.c (.p h.length 0))) ((.a c3))) fun h4=>D3 [A5 h4 256 ((.c (.p h.length 0))),some (.c (.i .i64 11))] h4) (bnd (A3k [] ((h ++ [some (Row.mk (List.replicate 256 (.i .u8 0)) true)]))) fun p5=>bnd (B1 ((p5.2 ++ [some (Row.mk (List.replicate 256 (.i .u8 0)) true)])) 256 ((.c (.p p5.2.length 0))) p5.1) fun h6=>bnd (F5 a0) fun v7=>A6d n n a0 ((.c (.p h.length 0))) ((.c (.p p5.2.length 0))) a0 v7 (.c (.i .i64 0)) h6):=by kernel_rfl
theorem B2v (n m:Nat) (x0 x2 x4 x16 x17 x18:Val) (h:A0):A6d n (m + 1) x0 x2 x4 x16 x17 x18 h=bnd (A4 .lss x18 x17) fun v8=>cnd v8 (bnd (D1 2 x16 x18) fun v9=>bnd (A5 h 2 v9) fun v10=>bnd (B1 ((h ++ [some (Row.mk ([.s [],.i .i64 0]) true)])) 2 ((.c (.p h.length 0))) v10) fun h11=>bnd (A5 h11 2 ((.c (.p h.length 0)))) fun v12=>bnd (A1I [v12] h11) fun p13=>bnd (aun .not p13.1) fun v14=>cnd v14 (bnd (B0 (List.replicate 256 (.i .u8 0)) []) fun c15=>bnd (B1 p13.2 256 x2 ((.a c15))) fun h16=>D3 [A5 h16 256 x2,some (.c (.i .i64 1))] h16) (bnd (A5 p13.2 256 x4) fun v17=>bnd (quiet ((p13.2 ++ [])) (A0y [x18] ((p13.2 ++ [])))) fun p18=>bnd (A5 p13.2 2 ((.c (.p h.length 0)))) fun v19=>bnd (quiet p18.2 (A1K [v19] p18.2)) fun p20=>bnd (A0G [v17,p18.1,p20.1] p20.2) fun p21=>bnd (B1 p21.2 256 x4 p21.1) fun h22=>bnd (A4 .add x18 (.c (.i .i64 1))) fun v23=>A6d n m x0 x2 x4 x16 x17 v23 h22)) (bnd (F5 x0) fun v24=>A6e n n x2 x4 x0 v24 (.c (.i .i64 0)) h):=by kernel_rfl
theorem B2w (n m:Nat) (x2 x4 x34 x35 x36:Val) (h:A0):A6e n (m + 1) x2 x4 x34 x35 x36 h=bnd (A4 .lss x36 x35) fun v25=>cnd v25 (bnd (D1 2 x34 x36) fun v26=>bnd (A5 h 2 v26) fun v27=>bnd (B1 ((h ++ [some (Row.mk ([.s [],.i .i64 0]) true)])) 2 ((.c (.p h.length 0))) v27) fun h28=>bnd (A5 h28 256 x4) fun v29=>bnd (B7 ((.c (.p h.length 0))) 0) fun v30=>bnd (A8 h28 v30) fun v31=>bnd (A1H [v29,v31] h28) fun p32=>bnd (C3 p32.1 0) fun v33=>bnd (C3 p32.1 1) fun v34=>bnd (B1 ((p32.2 ++ [some (Row.mk ([.i .i64 0,.s [],.i .i64 0]) true)])) 3 ((.c (.p p32.2.length 0))) v33) fun h35=>bnd (B7 ((.c (.p p32.2.length 0))) 0) fun v36=>bnd (A8 h35 v36) fun v37=>bnd (A4 .neq v37 x36) fun v38=>cnd v38 (bnd (B0 (List.replicate 256 (.i .u8 0)) []) fun c39=>bnd (B1 h35 256 x2 ((.a c39))) fun h40=>D3 [A5 h40 256 x2,some (.c (.i .i64 5))] h40) (bnd (A4 .add x36 (.c (.i .i64 1))) fun v41=>A6e n m x2 x4 x34 x35 v41 h35)) (bnd (A5 h 256 x4) fun v42=>bnd (B1 h 256 x2 v42) fun h43=>D3 [A5 h43 256 x2,some (.c (.i .i64 0))] h43):=by kernel_rfl
theorem K_bucket_New:FnK Try.prog 125 A_bucket_New K3 A4Z:=.mk' (B3 C7t (B3 B04 (B3 B03 (B3 B06 (B3 A82 (B3 B01 C5)))))) Try.func125 (by kernel_rfl) (by intro n args h;kernel_rfl)
def A2J:Fun:=tidy (Lim A_bucket_New K3)
theorem C7m:SOk Try.prog 125 A2J:=K_bucket_New.sok
theorem C7l {n:Nat} {args:List Val} {h h2:A0} {v:Val} (he:A4Z n args (ro h)=some (v,h2)) (hf:v.flat=true):A2J args h=some (v,h):=K_bucket_New.flat he hf
def B2i:List AOper:=[aO 2 (.box (.t 0)),aO 3 (.mv (.v (.c (.b false))))]
def D0K:ACode:=.ops B2i
def B2j:List AOper:=[aO 4 (.load1 (.t 1)),aO 5 (.loadN 3 (.t 2)),aO 6 (.buildSl 3 1 (([.i .i64 0,.s [],.i .i64 0])) [(0,3,(.t 5))]),aO 7 (.app 3 (.t 4) (.t 6)),{ dst:=none,op:=.store1 (.t 1) (.t 7) }]
def D0M:ACode:=.ops B2j
def B2k:List AOper:=[aO 3 (.mv (.v (.c (.b true))))]
def D0O:ACode:=.ops B2k
def D0Q:ACode:=.seq [3] D0O .ret
def D0S:ACode:=.seq [] D0M D0Q
def D0U:ACode:=.seq [1,2] D0K D0S
def A_bucket_List_1:AFn:=⟨D0U,[.tmp 3]⟩
def A3b:B4:=C2
def D0L (n:Nat):SmV:=A2 A3b B2i
def D0N (n:Nat):SmV:=A2 A3b B2j
def D0P (n:Nat):SmV:=A2 A3b B2k
def D0R (n:Nat):SmV:=A1 [3] (D0P n) B5
def D0T (n:Nat):SmV:=A1 [] (D0N n) (D0R n)
def D0V (n:Nat):SmV:=A1 [1,2] (D0L n) (D0T n)
def A8z (n:Nat) (args:List Val) (h:A0):A6:=(D0V n) A_bucket_List_1.fin (params 0 args) h
theorem B0X (n:Nat) (a0 a1:Val) (h:A0):A8z n [a0,a1] h=bnd (cells? a0) fun c1=>bnd (A8 ((h ++ [some (Row.mk (c1) true)])) a1) fun v2=>bnd (A5 ((h ++ [some (Row.mk (c1) true)])) 3 ((.c (.p h.length 0)))) fun v3=>bnd (B0 (([.i .i64 0,.s [],.i .i64 0])) [(0,3,v3)]) fun c4=>bnd (F9 (((h ++ [some (Row.mk (c1) true)]) ++ [some (Row.mk (c4) true)])) 3 v2 ((.c (.sl ((h ++ [some (Row.mk (c1) true)])).length 0 1 3)))) fun p5=>bnd (E8 p5.2 a1 p5.1) fun h6=>some ((.c (.b true)),h6):=by kernel_rfl
theorem K_bucket_List_1:FnK Try.prog 130 A_bucket_List_1 A3b A8z:=.mk' (C5) Try.func130 (by kernel_rfl) (by intro n args h;kernel_rfl)
def A3h:Fun:=Lim A_bucket_List_1 A3b
theorem C7i:SOk Try.prog 130 A3h:=K_bucket_List_1.ok
theorem B02 {n:Nat} {args:List Val} {h:A0} {p:Val × A0} (he:A8z n args h=some p):A3h args h=some p:=K_bucket_List_1.of he
def B22:List AOper:=[aO 2 (.box (.t 0))]
def D3z:ACode:=.ops B22
def B23:List AOper:=[aO 7 (.mv (.v (.c (.i .i64 0))))]
def D3B:ACode:=.ops B23
def B24:List AOper:=[aO 8 (.bin .lss (.t 7) (.v (.c (.i .i64 7))))]
def D3W:ACode:=.ops B24
def D3Y:ACode:=.cond (.t 8) .skip (.exit 0)
def B25:List AOper:=[aO 9 (.mv (.t 7)),aO 4 (.mv (.t 9))]
def D30:ACode:=.ops B25
def B26:List AOper:=[aO 11 (.loadN 256 (.t 2)),aO 12 (.mv (.t 4)),aO 13 (.call 154 [(.t 11),(.t 12)]),aO 10 (.mv (.t 13)),aO 14 (.ext (.t 10) 0),aO 15 (.ext (.t 10) 1),aO 5 (.alloc ([.s [],.i .i64 0])),{ dst:=none,op:=.storeN 2 (.t 5) (.t 14) },aO 6 (.mv (.t 15))]
def D32:ACode:=.ops B26
def B27:List AOper:=[aO 16 (.mv (.t 6)),aO 17 (.mv (.t 16)),{ dst:=some 18,op:=.mv (.t 1),guard:=some (17,true) },{ dst:=some 19,op:=.mv (.t 4),guard:=some (17,true) },{ dst:=some 20,op:=.loadN 2 (.t 5),guard:=some (17,true) },{ dst:=some 21,op:=.build ([.i .i64 0,.s [],.i .i64 0]) [(0,1,(.t 19)),(1,2,(.t 20))],guard:=some (17,true) },{ dst:=some 22,op:=.callV (.t 18) [(.t 21)],guard:=some (17,true) },{ dst:=some 23,op:=.un .not (.t 22),guard:=some (17,true) },aO 24 (.pick (.t 17) (.t 23) (.v (.c (.b false))))]
def D34:ACode:=.ops B27
def D36:ACode:=.cond (.t 24) .ret .skip
def D38:ACode:=.seq [1,2,7,24] D34 D36
def D4a:ACode:=.seq [1,2,4,5,6,7] D32 D38
def D3C:ACode:=.seq [1,2,4,7] D30 D4a
def D3E:ACode:=.block 1 D3C
def B28:List AOper:=[aO 25 (.bin .add (.t 7) (.v (.c (.i .i64 1)))),aO 7 (.mv (.t 25))]
def D3G:ACode:=.ops B28
def D3I:ACode:=.seq [1,2,7] D3E D3G
def D3K:ACode:=.seq [1,2,7] D3Y D3I
def D3M:ACode:=.seq [1,2,7,8] D3W D3K
def D3N:ACode:=.loop [1,2,7] D3M
def D3P:ACode:=.block 0 D3N
def D3R:ACode:=.seq [1,2,7] D3B D3P
def D3T:ACode:=.seq [1,2] D3z D3R
def A_bucket_each__List_1:AFn:=⟨D3T,[]⟩
def X0:B4:=A9 154 A1J (A9 130 A3h C2)
def D3A (n:Nat):SmV:=A2 X0 B22
def D3V (n:Nat):SmV:=A2 X0 B23
def D3X (n:Nat):SmV:=A2 X0 B24
def D3Z (n:Nat):SmV:=B8 (.t 8) B9 (F0 0)
def D31 (n:Nat):SmV:=A2 X0 B25
def D33 (n:Nat):SmV:=A2 X0 B26
def D35 (n:Nat):SmV:=A2 X0 B27
def D37 (n:Nat):SmV:=B8 (.t 24) B5 B9
def D39 (n:Nat):SmV:=A1 [1,2,7,24] (D35 n) (D37 n)
def D4b (n:Nat):SmV:=A1 [1,2,4,5,6,7] (D33 n) (D39 n)
def D3D (n:Nat):SmV:=A1 [1,2,4,7] (D31 n) (D4b n)
def D3F (n:Nat):SmV:=C4 1 (D3D n)
def D3H (n:Nat):SmV:=A2 X0 B28
def D3J (n:Nat):SmV:=A1 [1,2,7] (D3F n) (D3H n)
def D3L (n:Nat):SmV:=A1 [1,2,7] (D3Z n) (D3J n)
def B20 (n:Nat):SmV:=A1 [1,2,7,8] (D3X n) (D3L n)
def D3O (n:Nat):SmV:=F2 n [1,2,7] (B20 n)
def D3Q (n:Nat):SmV:=C4 0 (D3O n)
def D3S (n:Nat):SmV:=A1 [1,2,7] (D3V n) (D3Q n)
def D3U (n:Nat):SmV:=A1 [1,2] (D3A n) (D3S n)
def D4c (n:Nat):AExit → Env → A0 → A6:=fun x e h=>match x with | .exit i=>bif Nat.beq i 0 then A_bucket_each__List_1.fin .normal e h else A_bucket_each__List_1.fin (.exit i) e h | .normal=>A_bucket_each__List_1.fin .normal e h | .ret=>A_bucket_each__List_1.fin .ret e h
def A6g (n m:Nat) (x1 x2 x7:Val) (h:A0):A6:=E2 (B20 n) [1,2,7] (D4c n) m [(1,x1),(2,x2),(7,x7)] h
def A8B (n:Nat) (args:List Val) (h:A0):A6:=(D3U n) A_bucket_each__List_1.fin (params 0 args) h
theorem C59 (n:Nat) (a0 a1:Val) (h:A0):A8B n [a0,a1] h=bnd (cells? a0) fun c1=>A6g n n a1 ((.c (.p h.length 0))) (.c (.i .i64 0)) ((h ++ [some (Row.mk (c1) true)])):=by kernel_rfl
theorem B21 (n m:Nat) (x1 x2 x7:Val) (h:A0):A6g n (m + 1) x1 x2 x7 h=bnd (A4 .lss x7 (.c (.i .i64 7))) fun v2=>cnd v2 (bnd (A5 h 256 x2) fun v3=>bnd (A1J [v3,x7] h) fun p4=>bnd (C3 p4.1 0) fun v5=>bnd (C3 p4.1 1) fun v6=>bnd (B1 ((p4.2 ++ [some (Row.mk ([.s [],.i .i64 0]) true)])) 2 ((.c (.p p4.2.length 0))) v5) fun h7=>bnd (gd v6 true (some (x1,h7)) (some (.no,h7))) fun p8=>bnd (gd v6 true (some (x7,p8.2)) (some (.no,p8.2))) fun p9=>bnd (gd v6 true (bnd (A5 p9.2 2 ((.c (.p p4.2.length 0)))) fun v10=>some (v10,p9.2)) (some (.no,p9.2))) fun p11=>bnd (gd v6 true (bnd (B0 ([.i .i64 0,.s [],.i .i64 0]) [(0,1,p9.1),(1,2,p11.1)]) fun c12=>some ((.a c12),p11.2)) (some (.no,p11.2))) fun p13=>bnd (gd v6 true (bnd (L7 X0 p8.1 [p13.1] p13.2) fun p14=>some (p14.1,p14.2)) (some (.no,p13.2))) fun p15=>bnd (gd v6 true (bnd (aun .not p15.1) fun v16=>some (v16,p15.2)) (some (.no,p15.2))) fun p17=>bnd (D4 v6 p17.1 (.c (.b false))) fun v18=>cnd v18 (D3 [] p17.2) (bnd (A4 .add x7 (.c (.i .i64 1))) fun v19=>A6g n m x1 x2 v19 p17.2)) (D3 [] h):=by kernel_rfl
theorem K_bucket_each__List_1:FnK Try.prog 128 A_bucket_each__List_1 X0 A8B:=.mk' (B3 B05 (B3 C7i C5)) Try.func128 (by kernel_rfl) (by intro n args h;kernel_rfl)
def A3j:Fun:=Lim A_bucket_each__List_1 X0
theorem C7q:SOk Try.prog 128 A3j:=K_bucket_each__List_1.ok
theorem C7p {n:Nat} {args:List Val} {h:A0} {p:Val × A0} (he:A8B n args h=some p):A3j args h=some p:=K_bucket_each__List_1.of he
def B2m:List AOper:=[aO 1 (.box (.t 0)),aO 2 (.nilrow 3)]
def D0W:ACode:=.ops B2m
def B2n:List AOper:=[aO 3 (.alloc ([.ns]))]
def D0Y:ACode:=.ops B2n
def B2o:List AOper:=[aO 4 (.loadN 256 (.t 1)),aO 5 (.mkf 130 [(.t 3)]),aO 6 (.call 128 [(.t 4),(.t 5)])]
def D00:ACode:=.ops B2o
def B2p:List AOper:=[aO 7 (.load1 (.t 3)),aO 2 (.mv (.t 7))]
def D02:ACode:=.ops B2p
def D04:ACode:=.seq [2] D02 .ret
def D06:ACode:=.seq [3] D00 D04
def D08:ACode:=.seq [1,3] D0Y D06
def D1a:ACode:=.seq [1] D0W D08
def A_bucket_List:AFn:=⟨D1a,[.tmp 2]⟩
def A2C:B4:=A9 128 A3j C2
def D0X (n:Nat):SmV:=A2 A2C B2m
def D0Z (n:Nat):SmV:=A2 A2C B2n
def D01 (n:Nat):SmV:=A2 A2C B2o
def D03 (n:Nat):SmV:=A2 A2C B2p
def D05 (n:Nat):SmV:=A1 [2] (D03 n) B5
def D07 (n:Nat):SmV:=A1 [3] (D01 n) (D05 n)
def D09 (n:Nat):SmV:=A1 [1,3] (D0Z n) (D07 n)
def D1b (n:Nat):SmV:=A1 [1] (D0X n) (D09 n)
def A3e (n:Nat) (args:List Val) (h:A0):A6:=(D1b n) A_bucket_List.fin (params 0 args) h
theorem C56 (n:Nat) (a0:Val) (h:A0):A3e n [a0] h=bnd (cells? a0) fun c1=>bnd (A5 ((((h ++ [some (Row.mk (c1) true)]) ++ [some (Row.mk ([]) true)]) ++ [some (Row.mk ([.ns]) true)])) 256 ((.c (.p h.length 0)))) fun v2=>bnd (V4 130 [(.c (.p (((h ++ [some (Row.mk (c1) true)]) ++ [some (Row.mk ([]) true)])).length 0))]) fun v3=>bnd (A3j [v2,v3] ((((h ++ [some (Row.mk (c1) true)]) ++ [some (Row.mk ([]) true)]) ++ [some (Row.mk ([.ns]) true)]))) fun p4=>bnd (A8 p4.2 ((.c (.p (((h ++ [some (Row.mk (c1) true)]) ++ [some (Row.mk ([]) true)])).length 0)))) fun v5=>some (v5,p4.2):=by kernel_rfl
theorem K_bucket_List:FnK Try.prog 93 A_bucket_List A2C A3e:=.mk' (B3 C7q C5) Try.func93 (by kernel_rfl) (by intro n args h;kernel_rfl)
def X6:Fun:=tidy (Lim A_bucket_List A2C)
theorem A8T:SOk Try.prog 93 X6:=K_bucket_List.sok
theorem C7j {n:Nat} {args:List Val} {h h2:A0} {v:Val} (he:A3e n args (ro h)=some (v,h2)) (hf:v.low h.length=true):X6 args h=some (v,h):=K_bucket_List.low he hf
theorem C7k {n:Nat} {args:List Val} {h h2:A0} {v:Val} {sz k:Nat} {cs:List Cell} (he:A3e n args (ro h)=some (v,h2)) (ho:Out h.length h2 v sz k cs) (hf:D8 cs=true):X6 args h=some (.c (.sl h.length 0 k sz),h ++ [some ⟨cs,true⟩]):=K_bucket_List.out he ho hf
end Go.Proofs.Ytdgggnlbdoiloaa
end
section
namespace Go.Proofs.Ytdgggnlbdoiloaa
open Go Go.Esc
theorem B0A {g:A0} {l l':List (Option Row)} {v:Val} {cs:List Cell} (hl:l'=l ++ [some ⟨cs,true⟩]):quiet (g ++ l) (some (v,g ++ l'))=some (v,g ++ l'):=by
  subst hl
  have:=B0B ((Grows.rfl' (h:=g ++ l)).new cs) (v:=v)
  rw [List.append_assoc] at this
  exact this
theorem H1W {g:A0} {a:Option Row} {v:Val} {cs:List Cell}:quiet (g ++ [a]) (some (v,g ++ [a,some ⟨cs,true⟩]))=some (v,g ++ [a,some ⟨cs,true⟩]):=B0A rfl
theorem C3U {g:A0} {a b c d:Option Row} {v:Val} {cs:List Cell}:quiet (g ++ [a,b,c,d]) (some (v,g ++ [a,b,c,d,some ⟨cs,true⟩]))=some (v,g ++ [a,b,c,d,some ⟨cs,true⟩]):=B0A rfl
theorem C3V {g:A0} {a b c d e:Option Row} {v:Val} {cs:List Cell}:quiet (g ++ [a,b,c,d,e]) (some (v,g ++ [a,b,c,d,e,some ⟨cs,true⟩]))=some (v,g ++ [a,b,c,d,e,some ⟨cs,true⟩]):=B0A rfl
def G7 (k:Nat):Nat:=32 + 32 * k
theorem A9n {k:Nat} {h:A0} (hk:k < 7):A0y [.c (.i .i64 (k:Int))] h=some (.c (.i .i64 (G7 k:Nat)),h):=by
  have key:∀ g,∃ g',A40 0 [.c (.i .i64 (k:Int))] g=some (.c (.i .i64 (G7 k:Nat)),g'):=by
    intro g
    have w1:=F4 (show k + 1 < 9223372036854775808 by omega)
    have w2:IntKind.wrap .i64 (32 * ((k + 1:Nat):Int))=((G7 k:Nat):Int):=by unfold G7;rw [wrap_i64 (by omega) (by omega)];omega
    rw [C6a]
    exact ⟨_,by simp only [esc,w1,w2] <;> rfl⟩
  obtain ⟨g',e⟩:=key (ro h)
  exact C7r e rfl
def A2b:List UInt8:=[98,107,116,33]
def hdB:List UInt8:=C8 256 A2b
theorem A95:hdB.length=256:=I5 (by decide)
theorem D4t {h:A0}:A3k [] h=some (.a (A3 hdB),h):=by
  have key:∀ g,∃ g',A41 0 [] g=some (.a (A3 hdB),g'):=by
    intro g
    have hz:(A3 (zeros 256)).length=256:=by rw [B6];exact zeros_length
    have hd:(A3 hdB).length=256:=by rw [B6];exact A95
    have ef:B0 [Cell.i .u8 0,.i .u8 0,.i .u8 0,.i .u8 0] [(0,1,.c (.i .u8 98)),(1,1,.c (.i .u8 107)),(2,1,.c (.i .u8 116)),(3,1,.c (.i .u8 33))]=some (A3 A2b):=rfl
    have hO:=A7V (data:=A2b) (v:=.c (.sl (g.length + 1) 0 4 1)) (nv:=4) (h:=g ++ [some (Row.mk (A3 (zeros 256)) true),some (Row.mk (A3 A2b) true)]) (Has.row (rw:=true) (by simp) rfl (R3 _)) (by decide)
    rw [A71 (by decide),show C8 256 A2b=hdB from rfl] at hO
    have hM:S2 (g ++ [some (Row.mk (A3 (zeros 256)) true),some (Row.mk (A3 A2b) true)]) (.c (.sl (g.length + 1) 0 4 1))=some (.c (.sl (g.length + 1) 0 4 1)):=by simp [S2]
    rw [C6b,K2]
    generalize hdB=B at *
    generalize A3 A2b=mg at *
    generalize zeros 256=z at *
    exact ⟨_,by simp only [esc,esh,Nat.reduceAdd,Nat.reduceMul,Nat.reduceLT,ef,hM,hO,hz,hd] <;> rfl⟩
  obtain ⟨g',e⟩:=key (ro h)
  exact C7s e (by simp)
def A1o (s:List UInt8) (n:Int):Bool:=S4 s && (decide (1 ≤ n) && decide (n ≤ 128))
theorem B3d {s:List UInt8} {n:Int} {h:A0} (hs:s.length < 9223372036854775807):A1I [.a [.s s,.i .i64 n]] h=some (.c (.b (A1o s n)),h):=by
  have key:∀ g,∃ g',A42 0 [.a [.s s,.i .i64 n]] g=some (.c (.b (A1o s n)),g'):=by
    intro g
    have hC:=fun h=>A9u hs h
    rw [C6c]
    unfold A1o
    cases hf:S4 s with
    | false =>
      rw [hf] at hC
      exact ⟨_,by simp only [esc,esh,Nat.reduceAdd,Nat.reduceMul,Nat.reduceLT,hC,Int.reduceEq] <;> rfl⟩
    | true =>
      rw [hf] at hC
      by_cases c1:1 ≤ n
      · by_cases c2:n ≤ 128
        · rw [decide_eq_true c1,decide_eq_true c2]
          exact ⟨_,by simp only [esc,esh,Nat.reduceAdd,Nat.reduceMul,Nat.reduceLT,hC,c1,c2] <;> rfl⟩
        · rw [decide_eq_true c1,decide_eq_false c2]
          exact ⟨_,by simp only [esc,esh,Nat.reduceAdd,Nat.reduceMul,Nat.reduceLT,hC,c1,c2] <;> rfl⟩
      · rw [decide_eq_false c1]
        exact ⟨_,by simp only [esc,esh,Nat.reduceAdd,Nat.reduceMul,Nat.reduceLT,hC,c1] <;> rfl⟩
  obtain ⟨g',e⟩:=key (ro h)
  exact C7u e rfl
def K6 (s:List UInt8) (n:Int):List UInt8:=C1 2 n ++ K8 s ++ [0,0,0,0,0]
theorem A35 {s:List UInt8} {n:Int}:(K6 s n).length=32:=by simp [K6,A4r]
theorem B3y {s:List UInt8} {n:Int} {h:A0} (hs:s.length < 9223372036854775807):A1K [.a [.s s,.i .i64 n]] h=some (.c (.sl h.length 0 32 1),h ++ [some ⟨A3 (K6 s n),true⟩]):=by
  have key:∀ g,∃ v g',A44 0 [.a [.s s,.i .i64 n]] g=some (v,g') ∧ Out g.length g' v 1 32 (A3 (K6 s n)):=by
    intro g
    have e4:A4 .shr (.c (.i .i64 n)) (.c (.i .u64 8))=some (.c (.i .i64 (n / 256))):=A85 (by omega)
    have wm:∀ a:Int,IntKind.wrap .u8 a=a % 256:=fun a=>by
      simp only [IntKind.wrap,IntKind.bits,IntKind.signed,Bool.false_and]
      rfl
    have b0:IntKind.wrap .u8 n=((byI n 0).toNat:Int):=by rw [wm,A9r];simp
    have b1:IntKind.wrap .u8 (n / 256)=((byI n 1).toNat:Int):=by rw [wm,A9r];simp
    have ef:B0 [Cell.i .u8 0,.i .u8 0] [(0,1,.c (.i .u8 (byI n 0).toNat)),(1,1,.c (.i .u8 (byI n 1).toNat))]=some (A3 (C1 2 n)):=rfl
    have ef5:B0 [Cell.i .u8 0,.i .u8 0,.i .u8 0,.i .u8 0,.i .u8 0] [(0,1,.c (.i .u8 0)),(1,1,.c (.i .u8 0)),(2,1,.c (.i .u8 0)),(3,1,.c (.i .u8 0)),(4,1,.c (.i .u8 0))]=some (A3 [0,0,0,0,0]):=rfl
    have hP:=fun h=>C3u hs h
    have hpl:(A3 (K8 s)).length=25:=by rw [B6];exact A4r
    have hz:(A3 (zeros 25)).length=25:=by rw [B6];exact zeros_length
    have hA:=A16 (h:=g ++ [some (Row.mk [.s s,.i .i64 n] true),some (Row.mk [] true),some (Row.mk (A3 (C1 2 n)) true),some (Row.mk (A3 (K8 s)) true)]) (id:=g.length + 2) (jd:=g.length + 3) (n:=2) (m:=25) (sz:=1) (cs:=A3 (C1 2 n)) (ys:=A3 (K8 s)) (rw:=true) (by simp) (by simp [B6]) (by simp) (by rw [hpl]) rfl (by omega) (by omega)
    simp only [List.length_append,List.length_cons,List.length_nil,Nat.zero_add,List.append_assoc,List.cons_append,List.nil_append,A8e,List.set_cons_succ,List.set_cons_zero,Nat.reduceAdd,← B6j] at hA
    have hl27:(A3 (C1 2 n ++ K8 s)).length=27 * 1:=by rw [B6,List.length_append,A2c,A4r]
    have hA2:=A16 (h:=g ++ [some (Row.mk [.s s,.i .i64 n] true),some (Row.mk [] true),none,some (Row.mk (A3 (K8 s)) true),some (Row.mk (A3 (C1 2 n ++ K8 s)) true),some (Row.mk (A3 [0,0,0,0,0]) true)]) (id:=g.length + 4) (jd:=g.length + 5) (n:=27) (m:=5) (sz:=1) (cs:=A3 (C1 2 n ++ K8 s)) (ys:=A3 [0,0,0,0,0]) (rw:=true) (by simp) hl27 (by simp) rfl rfl (by omega) (by omega)
    simp only [List.length_append,List.length_cons,List.length_nil,Nat.zero_add,List.append_assoc,List.cons_append,List.nil_append,A8e,List.set_cons_succ,List.set_cons_zero,Nat.reduceAdd,← B6j] at hA2
    rw [← List.append_assoc (C1 2 n),show C1 2 n ++ K8 s ++ [0,0,0,0,0]=K6 s n from rfl] at hA2
    rw [C6e,K2]
    refine ⟨.c (.sl (g.length + 6) 0 32 1),g ++ [some (Row.mk [.s s,.i .i64 n] true),some (Row.mk [] true),none,some (Row.mk (A3 (K8 s)) true),none,some (Row.mk (A3 [0,0,0,0,0]) true),some (Row.mk (A3 (K6 s n)) true)],?_,by rw [B6,A35],g.length + 6,rfl,by omega,?_⟩
    · generalize K6 s n=E at *
      generalize C1 2 n ++ K8 s=Q at *
      generalize A3 [0,0,0,0,0]=F at *
      generalize A3 (K8 s)=P at *
      generalize A3 (C1 2 n)=B2 at *
      generalize zeros 25=z at *
      simp only [esc,esh,Nat.reduceAdd,Nat.reduceMul,Nat.reduceLT,b0,e4,b1,ef,hP,hpl,hz,hA,ef5,hA2]
    · simp
  obtain ⟨v,g',e,ho⟩:=key (ro h)
  exact C7w e (by simpa [Q5] using ho) (by simp)
end Go.Proofs.Ytdgggnlbdoiloaa
end
section
namespace Go.Proofs.Ytdgggnlbdoiloaa
open Go Go.Esc
def A0m (b:List UInt8) (k:Nat):List UInt8:=(b.drop (G7 k)).take 32
def nameB (b:List UInt8) (k:Nat):List UInt8:=(b.drop (G7 k + 2)).take 25
def N9 (b:List UInt8) (k:Nat):Int:=fieldN b (G7 k) 2
abbrev Ent:=List UInt8 × Int
def isE (b:List UInt8) (k:Nat) (s:List UInt8):Bool:=A1o s (N9 b k) && decide (K6 s (N9 b k)=A0m b k)
def J2 (b:List UInt8) (k:Nat):Option Ent:=(A0p (nameB b k)).bind fun s=>if isE b k s=true then some (s,N9 b k) else none
def H0:Option Ent → List Cell
  | none=>[.s [],.i .i64 0]
  | some e=>[.s e.1,.i .i64 e.2]
theorem H20 {b:List UInt8} {k:Nat} (hb:b.length=256) (hk:k < 7):(A0m b k).length=32:=by simp [A0m,G7,hb];omega
theorem C0J {b:List UInt8} {k:Nat} (hb:b.length=256) (hk:k < 7):(nameB b k).length=25:=by simp [nameB,G7,hb];omega
theorem C5z {l s:List UInt8} (h:A0p l=some s):S4 s=true:=by
  unfold A0p at h
  split at h
  · split at h
    · rename_i hc
      cases h;exact hc.1
    · cases h
  · cases h
def cpN (l:List UInt8) (i:Nat):List UInt8:=l.take i ++ zeros (25 - i)
theorem D6b {l:List UInt8} {i:Nat} (hl:l.length=25) (hi:i ≤ 25):(cpN l i).length=25:=by simp [cpN,zeros,hl];omega
theorem D6c {l:List UInt8} {i:Nat} (hl:l.length=25) (hi:i < 25):(cpN l i).set i l[i]=cpN l (i + 1):=by
  unfold cpN
  have hlen:(List.take i l).length=i:=by simp;omega
  rw [List.set_append_right _ _ (by omega),hlen,Nat.sub_self,List.take_succ_eq_append_getElem (by omega),List.append_assoc]
  refine congrArg (List.take i l ++ ·) ?_
  have e:25 - i=(25 - (i + 1)) + 1:=by omega
  rw [e]
  unfold zeros
  rw [List.replicate_succ,List.set_cons_zero];rfl
theorem D6a {l:List UInt8} (hl:l.length=25):cpN l 25=l:=by simp [cpN,zeros,List.take_of_length_le,hl]
theorem D6d {b:List UInt8} {k:Nat}:Q2 b (G7 k:Nat) 32=A0m b k:=by
  unfold Q2 A0m
  rw [if_pos (by omega)]
  simp
theorem C92 {b:List UInt8} {k:Nat} (hk:k < 7):((atN b (G7 k:Nat) 2:Nat):Int)=N9 b k:=by
  unfold atN N9 fieldN G7
  rw [if_pos ⟨by omega,A0o.2 (by omega)⟩]
  simp only [Int.toNat_natCast]
  rfl
theorem B14 {b:List UInt8} {k q:Nat} {g:A0} (hb:b.length=256) (hk:k < 7):∀ e i m:Nat,i + e=25 → e < m →
    ∃ h',A6i q m (.c (.i .i64 (k:Int))) (.c (.p g.length 0)) (.c (.p (g.length + 1) 0)) (.c (.p (g.length + 2) 0)) (.c (.i .i64 (i:Int))) (g ++ [some (Row.mk (A3 b) true),some (Row.mk [.s [],.i .i64 0] true),some (Row.mk (A3 (cpN (nameB b k) i)) true)]) =
      some (.t [.a (H0 (J2 b k)),.c (.b (J2 b k).isSome)],h')
  | e,i,0,_,hm=>by omega
  | 0,i,m + 1,hi,hm=>by
    have e0:i=25:=by omega
    subst e0
    have hnl:=C0J hb hk
    rw [D6a hnl]
    have c0:¬ ((25:Nat):Int) < 25:=by omega
    have hbl:(A3 b).length=256:=by rw [B6,hb]
    have hnc:(A3 (nameB b k)).length=25:=by rw [B6,hnl]
    have hU:=fun h=>H7O hnl h
    have hF:=fun h=>A9n (h:=h) hk
    have hA:=fun h=>A1r (h:=h) hb (a:=(G7 k:Nat)) (w:=2)
    rw [C92 hk] at hA
    have ef:∀ (s:List UInt8) (n:Int),B0 [Cell.s [],.i .i64 0] [(0,1,.c (.s s)),(1,1,.c (.i .i64 n))]=some [.s s,.i .i64 n]:=fun _ _=>rfl
    have ef0:B0 [Cell.s [],.i .i64 0] []=some [.s [],.i .i64 0]:=rfl
    rw [B3j]
    unfold J2
    cases hu:A0p (nameB b k) with
    | none =>
      rw [hu] at hU
      simp only [Option.getD_none,Option.isSome_none,Bool.false_eq_true,if_false] at hU
      generalize N9 b k=n at *
      generalize A3 (nameB b k)=z at *
      generalize A3 b=y at *
      exact ⟨_,by simp only [esc,esh,Nat.reduceAdd,Nat.reduceMul,Nat.reduceLT,c0,hbl,hnc,hU,hF,hA,ef,ef0,Int.reduceEq,Option.bind_none,H0] <;> rfl⟩
    | some s =>
      rw [hu] at hU
      simp only [Option.getD_some,Option.isSome_some,if_true] at hU
      have hfs:=(A6P (C5z hu)).2
      have hM:=fun h=>B3d (s:=s) (n:=N9 b k) (h:=h) (by omega)
      rw [Option.bind_some]
      unfold isE
      cases hm:A1o s (N9 b k) with
      | false =>
        rw [hm] at hM
        rw [Bool.false_and,if_neg (by simp)]
        generalize N9 b k=n at *
        generalize A3 (nameB b k)=z at *
        generalize A3 b=y at *
        exact ⟨_,by simp only [esc,esh,Nat.reduceAdd,Nat.reduceMul,Nat.reduceLT,c0,hbl,hnc,hU,hF,hA,ef,ef0,hM,Int.reduceEq,H0] <;> rfl⟩
      | true =>
        rw [hm] at hM
        rw [Bool.true_and]
        have hW:=fun h=>B3y (s:=s) (n:=N9 b k) (h:=h) (by omega)
        have hsl:=H20 hb hk
        have hC:=fun h=>B0p (h:=h) hb (a:=(G7 k:Nat)) (n:=32)
        rw [D6d,hsl] at hC
        have s1:=fun (c0 c1 c2 c3:Option Row)=>Has.str (l:=K6 s (N9 b k)) (Has.row (h:=g ++ [c0,c1,c2,c3,some (Row.mk (A3 (K6 s (N9 b k))) true)]) (id:=g.length + 4) (sz:=1) (n:=32) (rw:=true) (by simp) (by rw [B6,A35]) (R3 _))
        have s2:=fun (c0 c1 c2 c3 c4:Option Row)=>Has.str (l:=A0m b k) (Has.row (h:=g ++ [c0,c1,c2,c3,c4,some (Row.mk (A3 (A0m b k)) true)]) (id:=g.length + 5) (sz:=1) (n:=32) (rw:=true) (by simp) (by rw [B6,hsl]) (R3 _))
        by_cases ce:K6 s (N9 b k)=A0m b k
        · rw [if_pos (decide_eq_true ce)]
          generalize K6 s (N9 b k)=E at *
          generalize A0m b k=L at *
          generalize N9 b k=n at *
          subst ce
          generalize A3 (nameB b k)=z at *
          generalize A3 b=y at *
          exact ⟨_,by simp only [esc,esh,Nat.reduceAdd,Nat.reduceMul,Nat.reduceLT,c0,hbl,hnc,hU,hF,hA,ef,ef0,hM,hW,C3U,s1,hC,C3V,s2,eq_self,decide_true,Int.reduceEq,H0,Option.isSome_some] <;> rfl⟩
        · rw [if_neg (by rw [decide_eq_true_eq];exact ce)]
          generalize K6 s (N9 b k)=E at *
          generalize A0m b k=L at *
          generalize N9 b k=n at *
          generalize A3 (nameB b k)=z at *
          generalize A3 b=y at *
          exact ⟨_,by simp only [esc,esh,Nat.reduceAdd,Nat.reduceMul,Nat.reduceLT,c0,hbl,hnc,hU,hF,hA,ef,ef0,hM,hW,C3U,s1,hC,C3V,s2,ce,Int.reduceEq,H0,Option.isSome_none] <;> rfl⟩
  | e + 1,i,m + 1,hi,hm=>by
    obtain ⟨h',ih⟩:=B14 (q:=q) (g:=g) hb hk e (i + 1) m (by omega) (by omega)
    have hnl:=C0J hb hk
    have c0:(i:Int) < 25:=by omega
    have hF:=fun h=>A9n (h:=h) hk
    have hbl:(A3 b).length=256:=by rw [B6,hb]
    have hcl:(A3 (cpN (nameB b k) i)).length=25:=by rw [B6];exact D6b hnl (by omega)
    have hlt:i < (A3 (cpN (nameB b k) i)).length:=by omega
    have w1:IntKind.wrap .i64 (((G7 k:Nat):Int) + 2)=((G7 k + 2:Nat):Int):=by unfold G7;rw [wrap_i64 (by omega) (by omega)];omega
    have w2:IntKind.wrap .i64 (((G7 k + 2:Nat):Int) + (i:Int))=((G7 k + 2 + i:Nat):Int):=by unfold G7;rw [wrap_i64 (by omega) (by omega)];omega
    have hj:G7 k + 2 + i < 256:=by unfold G7;omega
    have a1:D6 256 1 (.c (.p g.length 0)) (.c (.i .i64 ((G7 k + 2 + i:Nat):Int)))=some (.c (.p g.length (G7 k + 2 + i))):=by rw [R0 hj];simp
    have a2:D6 25 1 (.c (.p (g.length + 2) 0)) (.c (.i .i64 (i:Int)))=some (.c (.p (g.length + 2) i)):=by rw [R0 (by omega)];simp
    have ei:(nameB b k)[i]'(by omega)=b[G7 k + 2 + i]'(by omega):=by simp [nameB]
    have l1:(A3 b)[G7 k + 2 + i]? = some (.i .u8 ((nameB b k)[i]'(by omega)).toNat):=by
      rw [ei];simp [A3,hb,hj]
    have hs:(A3 (cpN (nameB b k) i)).set i (.i .u8 ((nameB b k)[i]'(by omega)).toNat)=A3 (cpN (nameB b k) (i + 1)):=by rw [A0e,D6c hnl (by omega)]
    rw [B3j]
    refine ⟨h',?_⟩
    generalize A3 (cpN (nameB b k) (i + 1))=z1 at *
    generalize A3 (cpN (nameB b k) i)=z at *
    generalize A3 b=y at *
    simp only [esc,esh,Nat.reduceAdd,Nat.reduceMul,Nat.reduceLT,c0,hF,w1,w2,a1,l1,a2,hlt,hs,F4 (show i + 1 < 9223372036854775808 by omega)]
    exact ih
end Go.Proofs.Ytdgggnlbdoiloaa
end
section
namespace Go.Proofs.Ytdgggnlbdoiloaa
open Go Go.Esc
theorem E5S {o:Option Ent}:D8 (H0 o)=true:=by cases o <;> rfl
theorem B3i {b:List UInt8} {k:Nat} {h:A0} (hb:b.length=256) (hk:k < 7):A1J [.a (A3 b),.c (.i .i64 (k:Int))] h=some (.t [.a (H0 (J2 b k)),.c (.b (J2 b k).isSome)],h):=by
  have key:∀ N,25 < N → ∀ g,∃ g',A43 N [.a (A3 b),.c (.i .i64 (k:Int))] g=some (.t [.a (H0 (J2 b k)),.c (.b (J2 b k).isSome)],g'):=by
    intro N hN g
    obtain ⟨h',e⟩:=B14 (g:=g) (q:=N) hb hk 25 0 N (by omega) hN
    have e0:cpN (nameB b k) 0=zeros 25:=by simp [cpN]
    rw [e0] at e
    rw [C6d,K2]
    generalize zeros 25=z at *
    generalize A3 b=y at *
    exact ⟨h',by simp only [esc,esh,Nat.reduceAdd,Nat.reduceMul,Nat.reduceLT];exact e⟩
  obtain ⟨g',e⟩:=key (h.length + 26) (by omega) (ro h)
  exact C7v e (by simp [Val.flat,E5S,Cell.flat])
end Go.Proofs.Ytdgggnlbdoiloaa
end
section
namespace Go.Proofs.Ytdgggnlbdoiloaa
open Go Go.Esc
abbrev Slt:=Nat × Ent
def slC:Option Slt → List Cell
  | none=>[.i .i64 0,.s [],.i .i64 0]
  | some x=>[.i .i64 (x.1:Int),.s x.2.1,.i .i64 x.2.2]
theorem A1w {o:Option Slt}:(slC o).length=3:=by cases o <;> rfl
theorem C4h {o:Option Slt}:D8 (slC o)=true:=by cases o <;> rfl
def O5 (b nm:List UInt8):Nat → Nat → Option Slt
  | 0,_=>none
  | e + 1,k=>match J2 b k with
    | some x=>if x.1=nm then some (k,x) else O5 b nm e (k + 1)
    | none=>O5 b nm e (k + 1)
theorem A9S {b nm:List UInt8} {e k:Nat} (hx:J2 b k=none):O5 b nm (e + 1) k=O5 b nm e (k + 1):=by rw [O5,hx]
theorem A9P {b nm:List UInt8} {e k:Nat} {n:Int} (hx:J2 b k=some (nm,n)):O5 b nm (e + 1) k=some (k,(nm,n)):=by rw [O5,hx];simp
theorem A9Q {b nm s:List UInt8} {e k:Nat} {n:Int} (hx:J2 b k=some (s,n)) (hne:s ≠ nm):O5 b nm (e + 1) k=O5 b nm e (k + 1):=by rw [O5,hx];simp [hne]
def J5 (b nm:List UInt8):Option Slt:=O5 b nm 7 0
theorem E5Y {k n:Int} {s nm:List UInt8} {r1 r2 r3:Nat} {h:A0} (h1:rd h r1=some ⟨[.s nm],true⟩) (h3:rd h r3=some ⟨[.b false],true⟩) (hne:s ≠ nm) :
    A2I [.a [.i .i64 k,.s s,.i .i64 n],.c (.p r1 0),.c (.p r2 0),.c (.p r3 0)] h=some (.c (.b true),h ++ [some ⟨[.i .i64 k,.s s,.i .i64 n],true⟩]):=by
  refine B00 (n:=0) ?_
  have l1:A8 (h ++ [some (Row.mk [.i .i64 k,.s s,.i .i64 n] true)]) (.c (.p r1 0))=some (.c (.s nm)):=H8 (cs:=[.s nm]) (C0 h1) rfl rfl
  have l3:A8 (h ++ [some (Row.mk [.i .i64 k,.s s,.i .i64 n] true)]) (.c (.p r3 0))=some (.c (.b false)):=H8 (cs:=[.b false]) (C0 h3) rfl rfl
  rw [B0W]
  simp only [esc,esh,Nat.reduceAdd,Nat.reduceMul,Nat.reduceLT,l1,hne,B16,l3] <;> rfl
theorem E5Z {k n:Int} {nm:List UInt8} {c2:List Cell} {r1 r2 r3:Nat} {h:A0} (h1:rd h r1=some ⟨[.s nm],true⟩) (h2:rd h r2=some ⟨c2,true⟩) (hl:c2.length=3) (h3:rd h r3=some ⟨[.b false],true⟩) (h23:r2 ≠ r3) :
    A2I [.a [.i .i64 k,.s nm,.i .i64 n],.c (.p r1 0),.c (.p r2 0),.c (.p r3 0)] h=some (.c (.b false),((h ++ [some (Row.mk [.i .i64 k,.s nm,.i .i64 n] true)]).set r2 (some (Row.mk [.i .i64 k,.s nm,.i .i64 n] true))).set r3 (some (Row.mk [.b true] true))):=by
  refine B00 (n:=0) ?_
  have l1:A8 (h ++ [some (Row.mk [.i .i64 k,.s nm,.i .i64 n] true)]) (.c (.p r1 0))=some (.c (.s nm)):=H8 (cs:=[.s nm]) (C0 h1) rfl rfl
  have s2:=storeAll (h:=h ++ [some (Row.mk [.i .i64 k,.s nm,.i .i64 n] true)]) (id:=r2) (n:=3) (xs:=[.i .i64 k,.s nm,.i .i64 n]) (C0 h2) hl rfl
  have h3':rd ((h ++ [some (Row.mk [.i .i64 k,.s nm,.i .i64 n] true)]).set r2 (some (Row.mk [.i .i64 k,.s nm,.i .i64 n] true))) r3=some ⟨[.b false],true⟩:=by rw [G3 h23];exact C0 h3
  have s3:=W6 (x:=.b true) (off:=0) h3' (by simp)
  have l4:A8 (((h ++ [some (Row.mk [.i .i64 k,.s nm,.i .i64 n] true)]).set r2 (some (Row.mk [.i .i64 k,.s nm,.i .i64 n] true))).set r3 (some (Row.mk [.b true] true))) (.c (.p r3 0))=some (.c (.b true)):=H8 (cs:=[.b true]) (I6 (by simpa using D2 h3')) rfl rfl
  rw [B0W]
  have s3:E8 ((h ++ [some (Row.mk [.i .i64 k,.s nm,.i .i64 n] true)]).set r2 (some (Row.mk [.i .i64 k,.s nm,.i .i64 n] true))) (.c (.p r3 0)) (.c (.b true))=some (((h ++ [some (Row.mk [.i .i64 k,.s nm,.i .i64 n] true)]).set r2 (some (Row.mk [.i .i64 k,.s nm,.i .i64 n] true))).set r3 (some (Row.mk [.b true] true))):=s3
  simp only [esc,esh,Nat.reduceAdd,Nat.reduceMul,Nat.reduceLT,l1,s2,s3,B16,l4] <;> rfl
theorem A9K {b nm:List UInt8} {r0 r1 r2 r3 q:Nat} {B:A0} (hb:b.length=256) (hB1:rd B r1=some ⟨[.s nm],true⟩) (hr2:B.length ≤ r2) (hr3:B.length ≤ r3) (h23:r2 ≠ r3) (h02:r0 ≠ r2) (h03:r0 ≠ r3):∀ (e k m:Nat) (h:A0),k + e=7 → e < m → Low B.length B h →
    rd h r2=some ⟨slC none,true⟩ → rd h r3=some ⟨[.b false],true⟩ → rd h r0=some ⟨A3 b,true⟩ →
    ∃ h',A6f q m (.c (.f 129 [(r1,0),(r2,0),(r3,0)])) (.c (.p r0 0)) (.c (.i .i64 (k:Int))) h=some (.t [],h') ∧ Low B.length B h' ∧ rd h' r2=some ⟨slC (O5 b nm e k),true⟩ ∧ rd h' r3=some ⟨[.b (O5 b nm e k).isSome],true⟩
  | e,k,0,h,_,hm,_,_,_,_=>by omega
  | 0,k,m + 1,h,hk,hm,hlow,h2,h3,h0=>by
    have e0:k=7:=by omega
    subst e0
    have c0:¬ ((7:Nat):Int) < 7:=by omega
    refine ⟨h,?_,hlow,h2,h3⟩
    rw [B2S]
    simp only [esc,c0] <;> rfl
  | e + 1,k,m + 1,h,hk,hm,hlow,h2,h3,h0=>by
    have c0:(k:Int) < 7:=by omega
    have hbl:(A3 b).length=256:=by rw [B6,hb]
    have s1:=G1 (h:=h) (id:=r0) h0 hbl
    have hR:=B3i (h:=h) (k:=k) hb (by omega)
    have w1:=F4 (show k + 1 < 9223372036854775808 by omega)
    have hcv:∀ (x:Val) (h:A0),L7 W9 (.c (.f 129 [(r1,0),(r2,0),(r3,0)])) [x] h=A2I [x,.c (.p r1 0),.c (.p r2 0),.c (.p r3 0)] h:=fun _ _=>Eq.trans rfl rfl
    rw [B2S]
    cases hx:J2 b k with
    | none =>
      rw [hx] at hR
      rw [A9S hx]
      obtain ⟨h',f1,f2⟩:=A9K (q:=q) hb hB1 hr2 hr3 h23 h02 h03 e (k + 1) m (h ++ [some ⟨[.s [],.i .i64 0],true⟩]) (by omega) (by omega) (hlow.new _) (C0 h2) (C0 h3) (C0 h0)
      refine ⟨h',?_,f2⟩
      generalize A3 b=y at *
      simp only [esc,esh,Nat.reduceAdd,Nat.reduceMul,Nat.reduceLT,c0,s1,hR,H0,Option.isSome_none,w1]
      exact f1
    | some x =>
      obtain ⟨s,n⟩:=x
      rw [hx] at hR
      have ef:B0 [Cell.i .i64 0,.s [],.i .i64 0] [(0,1,.c (.i .i64 (k:Int))),(1,2,.a [.s s,.i .i64 n])]=some [.i .i64 (k:Int),.s s,.i .i64 n]:=rfl
      have h1':rd (h ++ [some (Row.mk [.s s,.i .i64 n] true)]) r1=some ⟨[.s nm],true⟩:=C0 (hlow.rd hB1)
      by_cases ce:s=nm
      · subst ce
        have hF:=E5Z (k:=(k:Int)) (n:=n) h1' (C0 h2) A1w (C0 h3) h23
        simp only [List.append_assoc,List.cons_append,List.nil_append] at hF
        rw [A9P hx]
        refine ⟨((h ++ [some (Row.mk [.s s,.i .i64 n] true),some (Row.mk [.i .i64 (k:Int),.s s,.i .i64 n] true)]).set r2 (some (Row.mk [.i .i64 (k:Int),.s s,.i .i64 n] true))).set r3 (some (Row.mk [.b true] true)),?_,((hlow.new [some (Row.mk [.s s,.i .i64 n] true),some (Row.mk [.i .i64 (k:Int),.s s,.i .i64 n] true)]).set hr2 _).set hr3 _,?_,?_⟩
        · generalize A3 b=y at *
          simp only [esc,esh,Nat.reduceAdd,Nat.reduceMul,Nat.reduceLT,c0,s1,hR,H0,Option.isSome_some,ef,hcv,hF] <;> rfl
        · rw [G3 (Ne.symm h23)]
          exact I6 (D2 (C0 h2))
        · exact I6 (by rw [List.length_set];exact D2 (C0 h3))
      · have hF:=E5Y (k:=(k:Int)) (n:=n) (r2:=r2) h1' (C0 h3) ce
        simp only [List.append_assoc,List.cons_append,List.nil_append] at hF
        rw [A9Q hx ce]
        obtain ⟨h',f1,f2⟩:=A9K (q:=q) hb hB1 hr2 hr3 h23 h02 h03 e (k + 1) m (h ++ [some (Row.mk [.s s,.i .i64 n] true),some (Row.mk [.i .i64 (k:Int),.s s,.i .i64 n] true)]) (by omega) (by omega) (hlow.new _) (C0 h2) (C0 h3) (C0 h0)
        refine ⟨h',?_,f2⟩
        generalize A3 b=y at *
        simp only [esc,esh,Nat.reduceAdd,Nat.reduceMul,Nat.reduceLT,c0,s1,hR,H0,Option.isSome_some,ef,hcv,hF,w1]
        exact f1
theorem B2b {b nm:List UInt8} {h:A0} (hb:b.length=256):A1H [.a (A3 b),.c (.s nm)] h=some (.t [.a (slC (J5 b nm)),.c (.b (J5 b nm).isSome)],h):=by
  have key:∀ g,∃ g',A4Y 0 [.a (A3 b),.c (.s nm)] g=some (.t [.a (slC (J5 b nm)),.c (.b (J5 b nm).isSome)],g'):=by
    intro g
    have hbl:(A3 b).length=256:=by rw [B6,hb]
    have emk:V4 129 [.c (.p (g.length + 1) 0),.c (.p (g.length + 3) 0),.c (.p (g.length + 4) 0)]=some (.c (.f 129 [(g.length + 1,0),(g.length + 3,0),(g.length + 4,0)])):=rfl
    obtain ⟨h',f1,f2,f3,f4⟩:=A9K (b:=b) (nm:=nm) (r0:=g.length + 5) (r1:=g.length + 1) (r2:=g.length + 3) (r3:=g.length + 4) (q:=8) (B:=g ++ [some (Row.mk (A3 b) true),some (Row.mk [.s nm] true),some (Row.mk (slC none) true)]) hb (by simp) (by simp) (by simp) (by omega) (by omega) (by omega) 7 0 8 (g ++ [some (Row.mk (A3 b) true),some (Row.mk [.s nm] true),some (Row.mk (slC none) true),some (Row.mk (slC none) true),some (Row.mk [.b false] true),some (Row.mk (A3 b) true)]) (by omega) (by omega)
      (by have:=(Low.refl (h:=g ++ [some (Row.mk (A3 b) true),some (Row.mk [.s nm] true),some (Row.mk (slC none) true)]) (Nat.le_refl _)).new [some (Row.mk (slC none) true),some (Row.mk [.b false] true),some (Row.mk (A3 b) true)]
          simpa using this) (by simp) (by simp) (by simp)
    have hS:A3i [.a (A3 b),.c (.f 129 [(g.length + 1,0),(g.length + 3,0),(g.length + 4,0)])] (g ++ [some (Row.mk (A3 b) true),some (Row.mk [.s nm] true),some (Row.mk (slC none) true),some (Row.mk (slC none) true),some (Row.mk [.b false] true)])=some (.t [],h'):=by
      refine C7n (n:=8) ?_
      rw [C58]
      simp only [esc,esh,Nat.reduceAdd,Nat.reduceMul,Nat.reduceLT]
      exact f1
    have hr:rd h' (g.length + 2)=some ⟨slC none,true⟩:=by rw [f2.2.2 _ (by simp)];simp
    change rd h' (g.length + 3)=some ⟨slC (J5 b nm),true⟩ at f3
    change rd h' (g.length + 4)=some ⟨[.b (J5 b nm).isSome],true⟩ at f4
    have t1:=G1 (n:=3) f3 A1w
    have t2:A8 h' (.c (.p (g.length + 4) 0))=some (.c (.b (J5 b nm).isSome)):=H8 (cs:=[.b (J5 b nm).isSome]) f4 rfl rfl
    have t3:=storeAll (n:=3) (xs:=slC (J5 b nm)) hr A1w A1w
    have f4':rd (h'.set (g.length + 2) (some ⟨slC (J5 b nm),true⟩)) (g.length + 4)=some ⟨[.b (J5 b nm).isSome],true⟩:=by rw [G3 (by omega)];exact f4
    have t4:A8 (h'.set (g.length + 2) (some ⟨slC (J5 b nm),true⟩)) (.c (.p (g.length + 4) 0))=some (.c (.b (J5 b nm).isSome)):=H8 (cs:=[.b (J5 b nm).isSome]) f4' rfl rfl
    have t5:=G1 (n:=3) (I6 (x:=some ⟨slC (J5 b nm),true⟩) (D2 hr)) A1w
    have z0:[Cell.i .i64 0,.s [],.i .i64 0]=slC none:=rfl
    rw [C55,z0]
    generalize slC (J5 b nm)=Y at *
    generalize slC none=Z at *
    generalize (J5 b nm).isSome=S at *
    generalize A3 b=y at *
    exact ⟨_,by simp only [esc,esh,Nat.reduceAdd,Nat.reduceMul,Nat.reduceLT,hbl,emk,hS,t1,t2,t3,t4,t5] <;> rfl⟩
  obtain ⟨g',e⟩:=key (ro h)
  exact C7h e (by simp [Val.flat,C4h,Cell.flat])
end Go.Proofs.Ytdgggnlbdoiloaa
end
noncomputable section
namespace Go.Proofs.Ytdgggnlbdoiloaa
open Go Go.Esc
set_option maxRecDepth 100000
def B4E:List AOper:=[aO 3 (.box (.t 0)),aO 4 (.box (.t 1)),aO 6 (.mv (.v (.c (.i .i64 0)))),aO 7 (.mv (.v (.c (.i .i64 0)))),aO 8 (.mv (.v (.c (.b false))))]
def D83:ACode:=.ops B4E
def B4F:List AOper:=[aO 13 (.loadN 4 (.t 3)),aO 14 (.loadN 11 (.t 4)),aO 15 (.call 42 [(.t 13),(.t 14)]),aO 12 (.mv (.t 15)),aO 16 (.ext (.t 12) 0),aO 17 (.ext (.t 12) 1),aO 9 (.alloc ([.i .i64 0] ++ List.replicate 32 (.i .i64 0))),{ dst:=none,op:=.storeN 33 (.t 9) (.t 16) },aO 10 (.mv (.t 17))]
def D85:ACode:=.ops B4F
def B4G:List AOper:=[aO 18 (.mv (.t 10)),aO 19 (.un .not (.t 18))]
def D9f:ACode:=.ops B4G
def B4H:List AOper:=[aO 6 (.mv (.v (.c (.i .i64 0)))),aO 7 (.mv (.v (.c (.i .i64 0)))),aO 8 (.mv (.v (.c (.b false))))]
def D9h:ACode:=.ops B4H
def D9j:ACode:=.seq [6,7,8] D9h .ret
def D9l:ACode:=.cond (.t 19) D9j .skip
def D9n:ACode:=.seq [2,9,19] D9f D9l
def B4I:List AOper:=[aO 20 (.loadN 33 (.t 9)),aO 21 (.mv (.t 2)),aO 22 (.call 99 [(.t 21)])]
def B4J:List AOper:=[aO 23 (.call 127 [(.t 20),(.t 22)]),aO 11 (.mv (.t 23))]
def D9p:ACode:=.draw 0 B4I B4J
def B4K:List AOper:=[aO 24 (.mv (.t 11)),aO 25 (.mv (.t 11)),aO 26 (.fAddr (.t 9) 1),aO 27 (.iAddrA 32 1 (.t 26) (.t 25)),aO 28 (.load1 (.t 27)),aO 6 (.mv (.t 24))]
def B4L:List AOper:=[aO 7 (.mv (.t 28)),aO 8 (.mv (.v (.c (.b true))))]
def D9r:ACode:=.draw 0 B4K B4L
def D9t:ACode:=.seq [6,7,8] D9r .ret
def D86:ACode:=.seq [9,11] D9p D9t
def D88:ACode:=.seq [2,9] D9n D86
def D9a:ACode:=.seq [2,9,10] D85 D88
def D9c:ACode:=.seq [2,3,4] D83 D9a
def A_dread_Route:AFn:=⟨D9c,[.tmp 6,.tmp 7,.tmp 8]⟩
def A0Z:B4:=A9 42 A1M (A9 99 A1T (A9 127 A3A C2))
def D84 (n:Nat):SmV:=A2 A0Z B4E
def D9e (n:Nat):SmV:=A2 A0Z B4F
def D9g (n:Nat):SmV:=A2 A0Z B4G
def D9i (n:Nat):SmV:=A2 A0Z B4H
def D9k (n:Nat):SmV:=A1 [6,7,8] (D9i n) B5
def D9m (n:Nat):SmV:=B8 (.t 19) (D9k n) B9
def D9o (n:Nat):SmV:=A1 [2,9,19] (D9g n) (D9m n)
def D9q (n:Nat):SmV:=P8 A0Z 0 B4I B4J
def D9s (n:Nat):SmV:=P8 A0Z 0 B4K B4L
def D9u (n:Nat):SmV:=A1 [6,7,8] (D9s n) B5
def D87 (n:Nat):SmV:=A1 [9,11] (D9q n) (D9u n)
def D89 (n:Nat):SmV:=A1 [2,9] (D9o n) (D87 n)
def D9b (n:Nat):SmV:=A1 [2,9,10] (D9e n) (D89 n)
def D9d (n:Nat):SmV:=A1 [2,3,4] (D84 n) (D9b n)
def A49 (n:Nat) (args:List Val) (h:A0):A6:=(D9d n) A_dread_Route.fin (params 0 args) h
theorem C6j (n:Nat) (a0 a1 a2:Val) (h:A0):A49 n [a0,a1,a2] h=bnd (cells? a0) fun c1=>bnd (cells? a1) fun c2=>bnd (A5 (((h ++ [some (Row.mk (c1) true)]) ++ [some (Row.mk (c2) true)])) 4 ((.c (.p h.length 0)))) fun v3=>bnd (A5 (((h ++ [some (Row.mk (c1) true)]) ++ [some (Row.mk (c2) true)])) 11 ((.c (.p ((h ++ [some (Row.mk (c1) true)])).length 0)))) fun v4=>bnd (A1M [v3,v4] (((h ++ [some (Row.mk (c1) true)]) ++ [some (Row.mk (c2) true)]))) fun p5=>bnd (C3 p5.1 0) fun v6=>bnd (C3 p5.1 1) fun v7=>bnd (B1 ((p5.2 ++ [some (Row.mk ([.i .i64 0] ++ List.replicate 32 (.i .i64 0)) true)])) 33 ((.c (.p p5.2.length 0))) v6) fun h8=>bnd (aun .not v7) fun v9=>cnd v9 (D3 [some (.c (.i .i64 0)),some (.c (.i .i64 0)),some (.c (.b false))] h8) (bnd (A5 h8 33 ((.c (.p p5.2.length 0)))) fun v10=>bnd (quiet ((h8 ++ [])) (A1T [a2] ((h8 ++ [])))) fun p11=>bnd (A3A [v10,p11.1] p11.2) fun p12=>bnd (B7 ((.c (.p p5.2.length 0))) 1) fun v13=>bnd (D6 32 1 v13 p12.1) fun v14=>bnd (A8 p12.2 v14) fun v15=>D3 [some p12.1,some v15,some (.c (.b true))] ((p12.2 ++ []))):=by kernel_rfl
theorem K_dread_Route:FnK Try.prog 91 A_dread_Route A0Z A49:=.mk' (B3 B09 (B3 B1f (B3 C8d C5))) Try.func91 (by kernel_rfl) (by intro n args h;kernel_rfl)
def A3o:Fun:=tidy (Lim A_dread_Route A0Z)
theorem C7F:SOk Try.prog 91 A3o:=K_dread_Route.sok
theorem C7E {n:Nat} {args:List Val} {h h2:A0} {v:Val} (he:A49 n args (ro h)=some (v,h2)) (hf:v.flat=true):A3o args h=some (v,h):=K_dread_Route.flat he hf
def B4w:List AOper:=[aO 3 (.box (.t 0)),aO 4 (.box (.t 1)),aO 6 (.alloc ([.i .i64 0,.i .i64 0,.i .i64 0])),aO 7 (.mv (.v (.c (.b false))))]
def D8p:ACode:=.ops B4w
def B4x:List AOper:=[aO 14 (.loadN 4 (.t 3)),aO 15 (.loadN 11 (.t 4)),aO 16 (.mv (.t 2)),aO 17 (.call 91 [(.t 14),(.t 15),(.t 16)]),aO 13 (.mv (.t 17)),aO 18 (.ext (.t 13) 0),aO 19 (.ext (.t 13) 1),aO 20 (.ext (.t 13) 2),aO 8 (.mv (.t 18)),aO 9 (.mv (.t 19)),aO 10 (.mv (.t 20))]
def D8r:ACode:=.ops B4x
def B4y:List AOper:=[aO 21 (.mv (.t 10)),aO 22 (.un .not (.t 21)),aO 23 (.mv (.t 22)),{ dst:=some 24,op:=.fAddr (.t 3) 0,guard:=some (23,false) },{ dst:=some 25,op:=.loadN 3 (.t 24),guard:=some (23,false) },{ dst:=some 26,op:=.mv (.t 9),guard:=some (23,false) },{ dst:=some 27,op:=.call 25 [(.t 25),(.t 26)],guard:=some (23,false) },{ dst:=some 28,op:=.un .not (.t 27),guard:=some (23,false) },aO 29 (.pick (.t 23) (.v (.c (.b true))) (.t 28))]
def D8N:ACode:=.ops B4y
def B4z:List AOper:=[aO 30 (.build ([.i .i64 0,.i .i64 0,.i .i64 0]) []),{ dst:=none,op:=.storeN 3 (.t 6) (.t 30) },aO 7 (.mv (.v (.c (.b false))))]
def D8P:ACode:=.ops B4z
def D8R:ACode:=.seq [6,7] D8P .ret
def D8T:ACode:=.cond (.t 29) D8R .skip
def D8V:ACode:=.seq [2,3,6,9,29] D8N D8T
def B4A:List AOper:=[aO 32 (.loadN 4 (.t 3)),aO 33 (.mv (.t 9)),aO 34 (.call 38 [(.t 32),(.t 33)]),aO 35 (.mv (.t 2)),aO 36 (.call 92 [(.t 34),(.t 35)]),aO 31 (.mv (.t 36)),aO 37 (.ext (.t 31) 0),aO 38 (.ext (.t 31) 1),aO 11 (.alloc ([.i .i64 0,.s [],.i .i64 0])),{ dst:=none,op:=.storeN 3 (.t 11) (.t 37) },aO 12 (.mv (.t 38))]
def D8X:ACode:=.ops B4A
def B4B:List AOper:=[aO 39 (.mv (.t 12)),aO 40 (.un .not (.t 39))]
def D8Z:ACode:=.ops B4B
def B4C:List AOper:=[aO 41 (.build ([.i .i64 0,.i .i64 0,.i .i64 0]) []),{ dst:=none,op:=.storeN 3 (.t 6) (.t 41) },aO 7 (.mv (.v (.c (.b false))))]
def D81:ACode:=.ops B4C
def D8s:ACode:=.seq [6,7] D81 .ret
def D8u:ACode:=.cond (.t 40) D8s .skip
def D8w:ACode:=.seq [6,9,11,40] D8Z D8u
def B4D:List AOper:=[aO 42 (.mv (.t 9)),aO 43 (.fAddr (.t 11) 0),aO 44 (.load1 (.t 43)),aO 45 (.fAddr (.t 11) 1),aO 46 (.fAddr (.t 45) 1),aO 47 (.load1 (.t 46)),aO 48 (.build ([.i .i64 0,.i .i64 0,.i .i64 0]) [(0,1,(.t 42)),(1,1,(.t 44)),(2,1,(.t 47))]),{ dst:=none,op:=.storeN 3 (.t 6) (.t 48) },aO 7 (.mv (.v (.c (.b true))))]
def D8y:ACode:=.ops B4D
def D8A:ACode:=.seq [6,7] D8y .ret
def D8C:ACode:=.seq [6,9,11] D8w D8A
def D8E:ACode:=.seq [6,9,11,12] D8X D8C
def D8G:ACode:=.seq [2,3,6,9] D8V D8E
def D8I:ACode:=.seq [2,3,6,9,10] D8r D8G
def D8K:ACode:=.seq [2,3,4,6] D8p D8I
def A_dread_Lookup:AFn:=⟨D8K,[.cellN 6 3,.tmp 7]⟩
def Z3:B4:=A9 91 A3o (A9 25 A0C (A9 38 Q0 (A9 92 A1H C2)))
def D8q (n:Nat):SmV:=A2 Z3 B4w
def D8M (n:Nat):SmV:=A2 Z3 B4x
def D8O (n:Nat):SmV:=A2 Z3 B4y
def D8Q (n:Nat):SmV:=A2 Z3 B4z
def D8S (n:Nat):SmV:=A1 [6,7] (D8Q n) B5
def D8U (n:Nat):SmV:=B8 (.t 29) (D8S n) B9
def D8W (n:Nat):SmV:=A1 [2,3,6,9,29] (D8O n) (D8U n)
def D8Y (n:Nat):SmV:=A2 Z3 B4A
def D80 (n:Nat):SmV:=A2 Z3 B4B
def D82 (n:Nat):SmV:=A2 Z3 B4C
def D8t (n:Nat):SmV:=A1 [6,7] (D82 n) B5
def D8v (n:Nat):SmV:=B8 (.t 40) (D8t n) B9
def D8x (n:Nat):SmV:=A1 [6,9,11,40] (D80 n) (D8v n)
def D8z (n:Nat):SmV:=A2 Z3 B4D
def D8B (n:Nat):SmV:=A1 [6,7] (D8z n) B5
def D8D (n:Nat):SmV:=A1 [6,9,11] (D8x n) (D8B n)
def D8F (n:Nat):SmV:=A1 [6,9,11,12] (D8Y n) (D8D n)
def D8H (n:Nat):SmV:=A1 [2,3,6,9] (D8W n) (D8F n)
def D8J (n:Nat):SmV:=A1 [2,3,6,9,10] (D8M n) (D8H n)
def D8L (n:Nat):SmV:=A1 [2,3,4,6] (D8q n) (D8J n)
def A48 (n:Nat) (args:List Val) (h:A0):A6:=(D8L n) A_dread_Lookup.fin (params 0 args) h
theorem C6i (n:Nat) (a0 a1 a2:Val) (h:A0):A48 n [a0,a1,a2] h=bnd (cells? a0) fun c1=>bnd (cells? a1) fun c2=>bnd (A5 ((((h ++ [some (Row.mk (c1) true)]) ++ [some (Row.mk (c2) true)]) ++ [some (Row.mk ([.i .i64 0,.i .i64 0,.i .i64 0]) true)])) 4 ((.c (.p h.length 0)))) fun v3=>bnd (A5 ((((h ++ [some (Row.mk (c1) true)]) ++ [some (Row.mk (c2) true)]) ++ [some (Row.mk ([.i .i64 0,.i .i64 0,.i .i64 0]) true)])) 11 ((.c (.p ((h ++ [some (Row.mk (c1) true)])).length 0)))) fun v4=>bnd (A3o [v3,v4,a2] ((((h ++ [some (Row.mk (c1) true)]) ++ [some (Row.mk (c2) true)]) ++ [some (Row.mk ([.i .i64 0,.i .i64 0,.i .i64 0]) true)]))) fun p5=>bnd (C3 p5.1 0) fun v6=>bnd (C3 p5.1 1) fun v7=>bnd (C3 p5.1 2) fun v8=>bnd (aun .not v8) fun v9=>bnd (gd v9 false (bnd (B7 ((.c (.p h.length 0))) 0) fun v10=>some (v10,p5.2)) (some (.no,p5.2))) fun p11=>bnd (gd v9 false (bnd (A5 p11.2 3 p11.1) fun v12=>some (v12,p11.2)) (some (.no,p11.2))) fun p13=>bnd (gd v9 false (some (v7,p13.2)) (some (.no,p13.2))) fun p14=>bnd (gd v9 false (bnd (A0C [p13.1,p14.1] p14.2) fun p15=>some (p15.1,p15.2)) (some (.no,p14.2))) fun p16=>bnd (gd v9 false (bnd (aun .not p16.1) fun v17=>some (v17,p16.2)) (some (.no,p16.2))) fun p18=>bnd (D4 v9 (.c (.b true)) p18.1) fun v19=>cnd v19 (bnd (B0 ([.i .i64 0,.i .i64 0,.i .i64 0]) []) fun c20=>bnd (B1 p18.2 3 ((.c (.p (((h ++ [some (Row.mk (c1) true)]) ++ [some (Row.mk (c2) true)])).length 0))) ((.a c20))) fun h21=>D3 [A5 h21 3 ((.c (.p (((h ++ [some (Row.mk (c1) true)]) ++ [some (Row.mk (c2) true)])).length 0))),some (.c (.b false))] h21) (bnd (A5 p18.2 4 ((.c (.p h.length 0)))) fun v22=>bnd (Q0 [v22,v7] p18.2) fun p23=>bnd (A1H [p23.1,a2] p23.2) fun p24=>bnd (C3 p24.1 0) fun v25=>bnd (C3 p24.1 1) fun v26=>bnd (B1 ((p24.2 ++ [some (Row.mk ([.i .i64 0,.s [],.i .i64 0]) true)])) 3 ((.c (.p p24.2.length 0))) v25) fun h27=>bnd (aun .not v26) fun v28=>cnd v28 (bnd (B0 ([.i .i64 0,.i .i64 0,.i .i64 0]) []) fun c29=>bnd (B1 h27 3 ((.c (.p (((h ++ [some (Row.mk (c1) true)]) ++ [some (Row.mk (c2) true)])).length 0))) ((.a c29))) fun h30=>D3 [A5 h30 3 ((.c (.p (((h ++ [some (Row.mk (c1) true)]) ++ [some (Row.mk (c2) true)])).length 0))),some (.c (.b false))] h30) (bnd (B7 ((.c (.p p24.2.length 0))) 0) fun v31=>bnd (A8 h27 v31) fun v32=>bnd (B7 ((.c (.p p24.2.length 0))) 1) fun v33=>bnd (B7 v33 1) fun v34=>bnd (A8 h27 v34) fun v35=>bnd (B0 ([.i .i64 0,.i .i64 0,.i .i64 0]) [(0,1,v7),(1,1,v32),(2,1,v35)]) fun c36=>bnd (B1 h27 3 ((.c (.p (((h ++ [some (Row.mk (c1) true)]) ++ [some (Row.mk (c2) true)])).length 0))) ((.a c36))) fun h37=>D3 [A5 h37 3 ((.c (.p (((h ++ [some (Row.mk (c1) true)]) ++ [some (Row.mk (c2) true)])).length 0))),some (.c (.b true))] h37)):=by kernel_rfl
theorem K_dread_Lookup:FnK Try.prog 49 A_dread_Lookup Z3 A48:=.mk' (B3 C7F (B3 A8Y (B3 A2M (B3 B01 C5)))) Try.func49 (by kernel_rfl) (by intro n args h;kernel_rfl)
def V2:Fun:=tidy (Lim A_dread_Lookup Z3)
theorem A5U:SOk Try.prog 49 V2:=K_dread_Lookup.sok
theorem C7D {n:Nat} {args:List Val} {h h2:A0} {v:Val} (he:A48 n args (ro h)=some (v,h2)) (hf:v.flat=true):V2 args h=some (v,h):=K_dread_Lookup.flat he hf
def B32:List AOper:=[aO 6 (.box (.t 0))]
def D6y:ACode:=.ops B32
def B33:List AOper:=[aO 11 (.loadN 4 (.t 2)),aO 12 (.loadN 11 (.t 3)),aO 13 (.mv (.t 1)),aO 14 (.call 49 [(.t 11),(.t 12),(.t 13)]),aO 10 (.mv (.t 14)),aO 15 (.ext (.t 10) 0),aO 16 (.ext (.t 10) 1),aO 8 (.alloc ([.i .i64 0,.i .i64 0,.i .i64 0])),{ dst:=none,op:=.storeN 3 (.t 8) (.t 15) },aO 9 (.mv (.t 16))]
def D6A:ACode:=.ops B33
def B34:List AOper:=[aO 17 (.mv (.t 9)),aO 18 (.mv (.t 17)),{ dst:=some 19,op:=.loadN 3 (.t 8),guard:=some (18,true) },{ dst:=some 20,op:=.loadN 3 (.t 6),guard:=some (18,true) },{ dst:=some 21,op:=.eqA false ([.i .i64,.i .i64,.i .i64]) (.t 19) (.t 20),guard:=some (18,true) },aO 22 (.pick (.t 18) (.t 21) (.v (.c (.b false))))]
def D6C:ACode:=.ops B34
def B35:List AOper:=[aO 23 (.load1 (.t 4)),aO 24 (.mv (.t 1)),aO 25 (.buildSl 1 1 ([.s []]) [(0,1,(.t 24))]),aO 26 (.app 1 (.t 23) (.t 25)),{ dst:=none,op:=.store1 (.t 4) (.t 26) }]
def D6E:ACode:=.ops B35
def B36:List AOper:=[aO 27 (.load1 (.t 5)),aO 28 (.mv (.t 1)),aO 29 (.fAddr (.t 6) 2),aO 30 (.load1 (.t 29)),{ dst:=none,op:=.mput none (.t 27) (.t 28) (.t 30) }]
def D6G:ACode:=.ops B36
def D6I:ACode:=.seq [1,5,6] D6E D6G
def D6K:ACode:=.cond (.t 22) D6I .skip
def D6M:ACode:=.seq [1,4,5,6,22] D6C D6K
def D6O:ACode:=.seq [1,4,5,6,8,9] D6A D6M
def D6Q:ACode:=.seq [1,2,3,4,5,6] D6y D6O
def A_dread_List_1:AFn:=⟨D6Q,[]⟩
def A1B:B4:=A9 49 V2 C2
def D6z (n:Nat):SmV:=A2 A1B B32
def D6B (n:Nat):SmV:=A2 A1B B33
def D6D (n:Nat):SmV:=A2 A1B B34
def D6F (n:Nat):SmV:=A2 A1B B35
def D6H (n:Nat):SmV:=A2 A1B B36
def D6J (n:Nat):SmV:=A1 [1,5,6] (D6F n) (D6H n)
def D6L (n:Nat):SmV:=B8 (.t 22) (D6J n) B9
def D6N (n:Nat):SmV:=A1 [1,4,5,6,22] (D6D n) (D6L n)
def D6P (n:Nat):SmV:=A1 [1,4,5,6,8,9] (D6B n) (D6N n)
def D6R (n:Nat):SmV:=A1 [1,2,3,4,5,6] (D6z n) (D6P n)
def A8C (n:Nat) (args:List Val) (h:A0):A6:=(D6R n) A_dread_List_1.fin (params 0 args) h
theorem A8D (n:Nat) (a0 a1 a2 a3 a4 a5:Val) (h:A0):A8C n [a0,a1,a2,a3,a4,a5] h=bnd (cells? a0) fun c1=>bnd (A5 ((h ++ [some (Row.mk (c1) true)])) 4 a2) fun v2=>bnd (A5 ((h ++ [some (Row.mk (c1) true)])) 11 a3) fun v3=>bnd (V2 [v2,v3,a1] ((h ++ [some (Row.mk (c1) true)]))) fun p4=>bnd (C3 p4.1 0) fun v5=>bnd (C3 p4.1 1) fun v6=>bnd (B1 ((p4.2 ++ [some (Row.mk ([.i .i64 0,.i .i64 0,.i .i64 0]) true)])) 3 ((.c (.p p4.2.length 0))) v5) fun h7=>bnd (gd v6 true (bnd (A5 h7 3 ((.c (.p p4.2.length 0)))) fun v8=>some (v8,h7)) (some (.no,h7))) fun p9=>bnd (gd v6 true (bnd (A5 p9.2 3 ((.c (.p h.length 0)))) fun v10=>some (v10,p9.2)) (some (.no,p9.2))) fun p11=>bnd (gd v6 true (bnd (aeq false ([.i .i64,.i .i64,.i .i64]) p9.1 p11.1) fun v12=>some (v12,p11.2)) (some (.no,p11.2))) fun p13=>bnd (D4 v6 p13.1 (.c (.b false))) fun v14=>cnd v14 (bnd (A8 p13.2 a4) fun v15=>bnd (B0 ([.s []]) [(0,1,a1)]) fun c16=>bnd (F9 ((p13.2 ++ [some (Row.mk (c16) true)])) 1 v15 ((.c (.sl p13.2.length 0 1 1)))) fun p17=>bnd (E8 p17.2 a4 p17.1) fun h18=>bnd (A8 h18 a5) fun v19=>bnd (B7 ((.c (.p h.length 0))) 2) fun v20=>bnd (A8 h18 v20) fun v21=>bnd (A14 h18 none v19 a1 v21) fun h22=>D3 [] h22) (D3 [] p13.2):=by kernel_rfl
theorem K_dread_List_1:FnK Try.prog 89 A_dread_List_1 A1B A8C:=.mk' (B3 A5U C5) Try.func89 (by kernel_rfl) (by intro n args h;kernel_rfl)
def A3m:Fun:=Lim A_dread_List_1 A1B
theorem C7z:SOk Try.prog 89 A3m:=K_dread_List_1.ok
theorem A8U {n:Nat} {args:List Val} {h:A0} {p:Val × A0} (he:A8C n args h=some p):A3m args h=some p:=K_dread_List_1.of he
def B4X:List AOper:=[aO 3 (.box (.t 0)),aO 4 (.box (.t 1))]
def D92:ACode:=.ops B4X
def B4Y:List AOper:=[aO 10 (.loadN 4 (.t 3)),aO 11 (.loadN 11 (.t 4)),aO 12 (.call 44 [(.t 10),(.t 11)]),aO 13 (.len (.t 12)),aO 14 (.mv (.v (.c (.i .i64 0))))]
def D94:ACode:=.ops B4Y
def B4Z:List AOper:=[aO 15 (.bin .lss (.t 14) (.t 13))]
def E0p:ACode:=.ops B4Z
def E0H:ACode:=.cond (.t 15) .skip (.exit 0)
def B40:List AOper:=[aO 16 (.iAddrL 1 (.t 12) (.t 14)),aO 17 (.load1 (.t 16)),aO 7 (.mv (.t 17))]
def E0J:ACode:=.ops B40
def B41:List AOper:=[aO 18 (.loadN 4 (.t 3)),aO 19 (.mv (.t 7)),aO 20 (.call 38 [(.t 18),(.t 19)]),aO 21 (.call 93 [(.t 20)]),aO 22 (.len (.t 21)),aO 23 (.mv (.v (.c (.i .i64 0))))]
def E0L:ACode:=.ops B41
def B42:List AOper:=[aO 24 (.bin .lss (.t 23) (.t 22))]
def E0N:ACode:=.ops B42
def E0P:ACode:=.cond (.t 24) .skip (.exit 2)
def B43:List AOper:=[aO 25 (.iAddrL 3 (.t 21) (.t 23)),aO 26 (.loadN 3 (.t 25)),aO 9 (.alloc ([.i .i64 0,.s [],.i .i64 0])),{ dst:=none,op:=.storeN 3 (.t 9) (.t 26) }]
def E0R:ACode:=.ops B43
def B44:List AOper:=[aO 27 (.mv (.t 2)),aO 28 (.mv (.t 7)),aO 29 (.fAddr (.t 9) 0),aO 30 (.load1 (.t 29)),aO 31 (.fAddr (.t 9) 1),aO 32 (.fAddr (.t 31) 1),aO 33 (.load1 (.t 32)),aO 34 (.build ([.i .i64 0,.i .i64 0,.i .i64 0]) [(0,1,(.t 28)),(1,1,(.t 30)),(2,1,(.t 33))]),aO 35 (.fAddr (.t 9) 1),aO 36 (.fAddr (.t 35) 0),aO 37 (.load1 (.t 36)),aO 38 (.callV (.t 27) [(.t 34),(.t 37)])]
def E0T:ACode:=.ops B44
def D95:ACode:=.seq [2,3,7,9,12,13,14,21,22,23] E0R E0T
def D97:ACode:=.block 3 D95
def B45:List AOper:=[aO 39 (.bin .add (.t 23) (.v (.c (.i .i64 1)))),aO 23 (.mv (.t 39))]
def D99:ACode:=.ops B45
def E0b:ACode:=.seq [2,3,7,12,13,14,21,22,23] D97 D99
def E0d:ACode:=.seq [2,3,7,12,13,14,21,22,23] E0P E0b
def E0f:ACode:=.seq [2,3,7,12,13,14,21,22,23,24] E0N E0d
def E0g:ACode:=.loop [2,3,7,12,13,14,21,22,23] E0f
def E0i:ACode:=.block 2 E0g
def E0k:ACode:=.seq [2,3,7,12,13,14,21,22,23] E0L E0i
def E0m:ACode:=.seq [2,3,7,12,13,14] E0J E0k
def E0q:ACode:=.block 1 E0m
def B46:List AOper:=[aO 40 (.bin .add (.t 14) (.v (.c (.i .i64 1)))),aO 14 (.mv (.t 40))]
def E0s:ACode:=.ops B46
def E0t:ACode:=.seq [2,3,12,13,14] E0q E0s
def E0v:ACode:=.seq [2,3,12,13,14] E0H E0t
def E0x:ACode:=.seq [2,3,12,13,14,15] E0p E0v
def E0y:ACode:=.loop [2,3,12,13,14] E0x
def E0A:ACode:=.block 0 E0y
def E0C:ACode:=.seq [2,3,12,13,14] D94 E0A
def E0E:ACode:=.seq [2,3,4] D92 E0C
def A_dread_each__List_1:AFn:=⟨E0E,[]⟩
def Q6:B4:=A9 44 A0B (A9 38 Q0 (A9 93 X6 (A9 89 A3m C2)))
def D93 (n:Nat):SmV:=A2 Q6 B4X
def E0o (n:Nat):SmV:=A2 Q6 B4Y
def E0G (n:Nat):SmV:=A2 Q6 B4Z
def E0I (n:Nat):SmV:=B8 (.t 15) B9 (F0 0)
def E0K (n:Nat):SmV:=A2 Q6 B40
def E0M (n:Nat):SmV:=A2 Q6 B41
def E0O (n:Nat):SmV:=A2 Q6 B42
def E0Q (n:Nat):SmV:=B8 (.t 24) B9 (F0 2)
def E0S (n:Nat):SmV:=A2 Q6 B43
def E0U (n:Nat):SmV:=A2 Q6 B44
def D96 (n:Nat):SmV:=A1 [2,3,7,9,12,13,14,21,22,23] (E0S n) (E0U n)
def D98 (n:Nat):SmV:=C4 3 (D96 n)
def E0a (n:Nat):SmV:=A2 Q6 B45
def E0c (n:Nat):SmV:=A1 [2,3,7,12,13,14,21,22,23] (D98 n) (E0a n)
def E0e (n:Nat):SmV:=A1 [2,3,7,12,13,14,21,22,23] (E0Q n) (E0c n)
def B4V (n:Nat):SmV:=A1 [2,3,7,12,13,14,21,22,23,24] (E0O n) (E0e n)
def E0h (n:Nat):SmV:=F2 n [2,3,7,12,13,14,21,22,23] (B4V n)
def E0j (n:Nat):SmV:=C4 2 (E0h n)
def E0l (n:Nat):SmV:=A1 [2,3,7,12,13,14,21,22,23] (E0M n) (E0j n)
def E0n (n:Nat):SmV:=A1 [2,3,7,12,13,14] (E0K n) (E0l n)
def E0r (n:Nat):SmV:=C4 1 (E0n n)
def B4W (n:Nat):SmV:=A2 Q6 B46
def E0u (n:Nat):SmV:=A1 [2,3,12,13,14] (E0r n) (B4W n)
def E0w (n:Nat):SmV:=A1 [2,3,12,13,14] (E0I n) (E0u n)
def A9G (n:Nat):SmV:=A1 [2,3,12,13,14,15] (E0G n) (E0w n)
def E0z (n:Nat):SmV:=F2 n [2,3,12,13,14] (A9G n)
def E0B (n:Nat):SmV:=C4 0 (E0z n)
def E0D (n:Nat):SmV:=A1 [2,3,12,13,14] (E0o n) (E0B n)
def E0F (n:Nat):SmV:=A1 [2,3,4] (D93 n) (E0D n)
def A6w (n:Nat):AExit → Env → A0 → A6:=fun x e h=>match x with | .exit i=>bif Nat.beq i 0 then A_dread_each__List_1.fin .normal e h else A_dread_each__List_1.fin (.exit i) e h | .normal=>A_dread_each__List_1.fin .normal e h | .ret=>A_dread_each__List_1.fin .ret e h
def A6z (n m:Nat) (x2 x3 x12 x13 x14:Val) (h:A0):A6:=E2 (A9G n) [2,3,12,13,14] (A6w n) m [(2,x2),(3,x3),(12,x12),(13,x13),(14,x14)] h
def A8F (n:Nat) (args:List Val) (h:A0):A6:=(E0F n) A_dread_each__List_1.fin (params 0 args) h
def A9H (n m:Nat):AExit → Env → A0 → A6:=fun x e h=>match x with | .normal=>E2 (A9G n) [2,3,12,13,14] (A6w n) m (e.keep [2,3,12,13,14]) h | .exit id=>(A6w n) (.exit id) e h | .ret=>(A6w n) .ret e h
def A6x (n m:Nat):AExit → Env → A0 → A6:=fun x e h=>match x with | .normal=>hold ((B4W n) (A9H n m) (e.keep [2,3,12,13,14]) h) | .exit id=>(A9H n m) (.exit id) e h | .ret=>(A9H n m) .ret e h
def A6y (n m:Nat):AExit → Env → A0 → A6:=fun x e h=>match x with | .exit i=>bif Nat.beq i 1 then (A6x n m) .normal e h else (A6x n m) (.exit i) e h | .normal=>(A6x n m) .normal e h | .ret=>(A6x n m) .ret e h
def E0V (n m:Nat):AExit → Env → A0 → A6:=fun x e h=>match x with | .exit i=>bif Nat.beq i 2 then (A6y n m) .normal e h else (A6y n m) (.exit i) e h | .normal=>(A6y n m) .normal e h | .ret=>(A6y n m) .ret e h
def A6A (n m m2:Nat) (x2 x3 x7 x12 x13 x14 x21 x22 x23:Val) (h:A0):A6:=E2 (B4V n) [2,3,7,12,13,14,21,22,23] (E0V n m) m2 [(2,x2),(3,x3),(7,x7),(12,x12),(13,x13),(14,x14),(21,x21),(22,x22),(23,x23)] h
theorem C6l (n:Nat) (a0 a1 a2:Val) (h:A0):A8F n [a0,a1,a2] h=bnd (cells? a0) fun c1=>bnd (cells? a1) fun c2=>bnd (A5 (((h ++ [some (Row.mk (c1) true)]) ++ [some (Row.mk (c2) true)])) 4 ((.c (.p h.length 0)))) fun v3=>bnd (A5 (((h ++ [some (Row.mk (c1) true)]) ++ [some (Row.mk (c2) true)])) 11 ((.c (.p ((h ++ [some (Row.mk (c1) true)])).length 0)))) fun v4=>bnd (A0B [v3,v4] (((h ++ [some (Row.mk (c1) true)]) ++ [some (Row.mk (c2) true)]))) fun p5=>bnd (F5 p5.1) fun v6=>A6z n n a2 ((.c (.p h.length 0))) p5.1 v6 (.c (.i .i64 0)) p5.2:=by kernel_rfl
theorem E0W (n m:Nat) (x2 x3 x12 x13 x14:Val) (h:A0):A6z n (m + 1) x2 x3 x12 x13 x14 h=bnd (A4 .lss x14 x13) fun v7=>cnd v7 (bnd (D1 1 x12 x14) fun v8=>bnd (A8 h v8) fun v9=>bnd (A5 h 4 x3) fun v10=>bnd (Q0 [v10,v9] h) fun p11=>bnd (X6 [p11.1] p11.2) fun p12=>bnd (F5 p12.1) fun v13=>A6A n m n x2 x3 v9 x12 x13 x14 p12.1 v13 (.c (.i .i64 0)) p12.2) (D3 [] h):=by kernel_rfl
theorem E0X (n m m2:Nat) (x2 x3 x7 x12 x13 x14 x21 x22 x23:Val) (h:A0):A6A n m (m2 + 1) x2 x3 x7 x12 x13 x14 x21 x22 x23 h=bnd (A4 .lss x23 x22) fun v14=>cnd v14 (bnd (D1 3 x21 x23) fun v15=>bnd (A5 h 3 v15) fun v16=>bnd (B1 ((h ++ [some (Row.mk ([.i .i64 0,.s [],.i .i64 0]) true)])) 3 ((.c (.p h.length 0))) v16) fun h17=>bnd (B7 ((.c (.p h.length 0))) 0) fun v18=>bnd (A8 h17 v18) fun v19=>bnd (B7 ((.c (.p h.length 0))) 1) fun v20=>bnd (B7 v20 1) fun v21=>bnd (A8 h17 v21) fun v22=>bnd (B0 ([.i .i64 0,.i .i64 0,.i .i64 0]) [(0,1,x7),(1,1,v19),(2,1,v22)]) fun c23=>bnd (B7 ((.c (.p h.length 0))) 1) fun v24=>bnd (B7 v24 0) fun v25=>bnd (A8 h17 v25) fun v26=>bnd (L7 Q6 x2 [(.a c23),v26] h17) fun p27=>bnd (A4 .add x23 (.c (.i .i64 1))) fun v28=>A6A n m m2 x2 x3 x7 x12 x13 x14 x21 x22 v28 p27.2) (bnd (A4 .add x14 (.c (.i .i64 1))) fun v29=>A6z n m x2 x3 x12 x13 v29 h):=by kernel_rfl
theorem K_dread_each__List_1:FnK Try.prog 88 A_dread_each__List_1 Q6 A8F:=.mk' (B3 A8X (B3 A2M (B3 A8T (B3 C7z C5)))) Try.func88 (by kernel_rfl) (by intro n args h;kernel_rfl)
def A3q:Fun:=Lim A_dread_each__List_1 Q6
theorem C7K:SOk Try.prog 88 A3q:=K_dread_each__List_1.ok
theorem C7J {n:Nat} {args:List Val} {h:A0} {p:Val × A0} (he:A8F n args h=some p):A3q args h=some p:=K_dread_each__List_1.of he
def B4a:List AOper:=[aO 2 (.box (.t 0)),aO 3 (.box (.t 1)),aO 4 (.nilrow 2)]
def D6S:ACode:=.ops B4a
def B4b:List AOper:=[aO 5 (.alloc ([.ns]))]
def D6U:ACode:=.ops B4b
def B4d:List AOper:=[aO 10 (.mkMap),aO 6 (.alloc ([.nm])),{ dst:=none,op:=.store1 (.t 6) (.t 10) }]
def D7f:ACode:=.ops B4d
def B4e:List AOper:=[aO 11 (.loadN 4 (.t 2)),aO 12 (.loadN 11 (.t 3)),aO 13 (.mkf 89 [(.t 2),(.t 3),(.t 5),(.t 6)]),aO 14 (.call 88 [(.t 11),(.t 12),(.t 13)])]
def D7u:ACode:=.ops B4e
def B4f:List AOper:=[aO 7 (.nilrow 2)]
def D7w:ACode:=.ops B4f
def B4g:List AOper:=[aO 15 (.load1 (.t 5)),aO 16 (.call 90 [(.t 15)]),aO 17 (.len (.t 16)),aO 18 (.mv (.v (.c (.i .i64 0))))]
def D7y:ACode:=.ops B4g
def B4h:List AOper:=[aO 19 (.bin .lss (.t 18) (.t 17))]
def D7A:ACode:=.ops B4h
def D7C:ACode:=.cond (.t 19) .skip (.exit 0)
def B4i:List AOper:=[aO 20 (.iAddrL 1 (.t 16) (.t 18)),aO 21 (.load1 (.t 20)),aO 9 (.mv (.t 21))]
def D7E:ACode:=.ops B4i
def B4j:List AOper:=[aO 22 (.mv (.t 7)),aO 23 (.mv (.t 9)),aO 24 (.load1 (.t 6)),aO 25 (.mv (.t 9)),aO 26 (.look none (.c (.i .i64 0)) false (.t 24) (.t 25)),aO 27 (.build ([.s [],.i .i64 0]) [(0,1,(.t 23)),(1,1,(.t 26))]),aO 28 (.buildSl 2 1 (([.s [],.i .i64 0])) [(0,2,(.t 27))]),aO 29 (.app 2 (.t 22) (.t 28)),aO 7 (.mv (.t 29))]
def D7G:ACode:=.ops B4j
def D6V:ACode:=.seq [6,7,9,16,17,18] D7E D7G
def D6X:ACode:=.block 1 D6V
def B4k:List AOper:=[aO 30 (.bin .add (.t 18) (.v (.c (.i .i64 1)))),aO 18 (.mv (.t 30))]
def D6Z:ACode:=.ops B4k
def D61:ACode:=.seq [6,7,16,17,18] D6X D6Z
def D63:ACode:=.seq [6,7,16,17,18] D7C D61
def D65:ACode:=.seq [6,7,16,17,18,19] D7A D63
def D66:ACode:=.loop [6,7,16,17,18] D65
def D68:ACode:=.block 0 D66
def D7a:ACode:=.seq [6,7,16,17,18] D7y D68
def B4c:List AOper:=[aO 31 (.mv (.t 7)),aO 4 (.mv (.t 31))]
def D7c:ACode:=.ops B4c
def D7g:ACode:=.seq [4] D7c .ret
def D7h:ACode:=.seq [7] D7a D7g
def D7j:ACode:=.seq [5,6,7] D7w D7h
def D7l:ACode:=.seq [5,6] D7u D7j
def D7n:ACode:=.seq [2,3,5,6] D7f D7l
def D7p:ACode:=.seq [2,3,5] D6U D7n
def D7r:ACode:=.seq [2,3] D6S D7p
def A_dread_List:AFn:=⟨D7r,[.tmp 4]⟩
def T2:B4:=A9 88 A3q (A9 90 A3J C2)
def D6T (n:Nat):SmV:=A2 T2 B4a
def D7e (n:Nat):SmV:=A2 T2 B4b
def D7t (n:Nat):SmV:=A2 T2 B4d
def D7v (n:Nat):SmV:=A2 T2 B4e
def D7x (n:Nat):SmV:=A2 T2 B4f
def D7z (n:Nat):SmV:=A2 T2 B4g
def D7B (n:Nat):SmV:=A2 T2 B4h
def D7D (n:Nat):SmV:=B8 (.t 19) B9 (F0 0)
def D7F (n:Nat):SmV:=A2 T2 B4i
def D7H (n:Nat):SmV:=A2 T2 B4j
def D6W (n:Nat):SmV:=A1 [6,7,9,16,17,18] (D7F n) (D7H n)
def D6Y (n:Nat):SmV:=C4 1 (D6W n)
def D60 (n:Nat):SmV:=A2 T2 B4k
def D62 (n:Nat):SmV:=A1 [6,7,16,17,18] (D6Y n) (D60 n)
def D64 (n:Nat):SmV:=A1 [6,7,16,17,18] (D7D n) (D62 n)
def B37 (n:Nat):SmV:=A1 [6,7,16,17,18,19] (D7B n) (D64 n)
def D67 (n:Nat):SmV:=F2 n [6,7,16,17,18] (B37 n)
def D69 (n:Nat):SmV:=C4 0 (D67 n)
def D7b (n:Nat):SmV:=A1 [6,7,16,17,18] (D7z n) (D69 n)
def D7d (n:Nat):SmV:=A2 T2 B4c
def B38 (n:Nat):SmV:=A1 [4] (D7d n) B5
def D7i (n:Nat):SmV:=A1 [7] (D7b n) (B38 n)
def D7k (n:Nat):SmV:=A1 [5,6,7] (D7x n) (D7i n)
def D7m (n:Nat):SmV:=A1 [5,6] (D7v n) (D7k n)
def D7o (n:Nat):SmV:=A1 [2,3,5,6] (D7t n) (D7m n)
def D7q (n:Nat):SmV:=A1 [2,3,5] (D7e n) (D7o n)
def D7s (n:Nat):SmV:=A1 [2,3] (D6T n) (D7q n)
def A6s (n:Nat):AExit → Env → A0 → A6:=fun x e h=>match x with | .normal=>hold ((B38 n) A_dread_List.fin (e.keep [7]) h) | .exit id=>A_dread_List.fin (.exit id) e h | .ret=>A_dread_List.fin .ret e h
def D7I (n:Nat):AExit → Env → A0 → A6:=fun x e h=>match x with | .exit i=>bif Nat.beq i 0 then (A6s n) .normal e h else (A6s n) (.exit i) e h | .normal=>(A6s n) .normal e h | .ret=>(A6s n) .ret e h
def A6t (n m:Nat) (x6 x7 x16 x17 x18:Val) (h:A0):A6:=E2 (B37 n) [6,7,16,17,18] (D7I n) m [(6,x6),(7,x7),(16,x16),(17,x17),(18,x18)] h
def A46 (n:Nat) (args:List Val) (h:A0):A6:=(D7s n) A_dread_List.fin (params 0 args) h
theorem C6g (n:Nat) (a0 a1:Val) (h:A0):A46 n [a0,a1] h=bnd (cells? a0) fun c1=>bnd (cells? a1) fun c2=>bnd (E8 (((((((h ++ [some (Row.mk (c1) true)]) ++ [some (Row.mk (c2) true)]) ++ [some (Row.mk ([]) true)]) ++ [some (Row.mk ([.ns]) true)]) ++ [some (G6 [])]) ++ [some (Row.mk ([.nm]) true)])) ((.c (.p ((((((h ++ [some (Row.mk (c1) true)]) ++ [some (Row.mk (c2) true)]) ++ [some (Row.mk ([]) true)]) ++ [some (Row.mk ([.ns]) true)]) ++ [some (G6 [])])).length 0))) ((.c (.m (((((h ++ [some (Row.mk (c1) true)]) ++ [some (Row.mk (c2) true)]) ++ [some (Row.mk ([]) true)]) ++ [some (Row.mk ([.ns]) true)])).length)))) fun h3=>bnd (A5 h3 4 ((.c (.p h.length 0)))) fun v4=>bnd (A5 h3 11 ((.c (.p ((h ++ [some (Row.mk (c1) true)])).length 0)))) fun v5=>bnd (V4 89 [(.c (.p h.length 0)),(.c (.p ((h ++ [some (Row.mk (c1) true)])).length 0)),(.c (.p ((((h ++ [some (Row.mk (c1) true)]) ++ [some (Row.mk (c2) true)]) ++ [some (Row.mk ([]) true)])).length 0)),(.c (.p ((((((h ++ [some (Row.mk (c1) true)]) ++ [some (Row.mk (c2) true)]) ++ [some (Row.mk ([]) true)]) ++ [some (Row.mk ([.ns]) true)]) ++ [some (G6 [])])).length 0))]) fun v6=>bnd (A3q [v4,v5,v6] h3) fun p7=>bnd (A8 ((p7.2 ++ [some (Row.mk ([]) true)])) ((.c (.p ((((h ++ [some (Row.mk (c1) true)]) ++ [some (Row.mk (c2) true)]) ++ [some (Row.mk ([]) true)])).length 0)))) fun v8=>bnd (A3J [v8] ((p7.2 ++ [some (Row.mk ([]) true)]))) fun p9=>bnd (F5 p9.1) fun v10=>A6t n n ((.c (.p ((((((h ++ [some (Row.mk (c1) true)]) ++ [some (Row.mk (c2) true)]) ++ [some (Row.mk ([]) true)]) ++ [some (Row.mk ([.ns]) true)]) ++ [some (G6 [])])).length 0))) ((.c (.sl p7.2.length 0 0 2))) p9.1 v10 (.c (.i .i64 0)) p9.2:=by kernel_rfl
theorem B39 (n m:Nat) (x6 x7 x16 x17 x18:Val) (h:A0):A6t n (m + 1) x6 x7 x16 x17 x18 h=bnd (A4 .lss x18 x17) fun v11=>cnd v11 (bnd (D1 1 x16 x18) fun v12=>bnd (A8 h v12) fun v13=>bnd (A8 h x6) fun v14=>bnd (A2P h none (.c (.i .i64 0)) false v14 v13) fun v15=>bnd (B0 ([.s [],.i .i64 0]) [(0,1,v13),(1,1,v15)]) fun c16=>bnd (B0 (([.s [],.i .i64 0])) [(0,2,(.a c16))]) fun c17=>bnd (F9 ((h ++ [some (Row.mk (c17) true)])) 2 x7 ((.c (.sl h.length 0 1 2)))) fun p18=>bnd (A4 .add x18 (.c (.i .i64 1))) fun v19=>A6t n m x6 p18.1 x16 x17 v19 p18.2) (some (x7,h)):=by kernel_rfl
theorem K_dread_List:FnK Try.prog 48 A_dread_List T2 A46:=.mk' (B3 C7K (B3 C8G C5)) Try.func48 (by kernel_rfl) (by intro n args h;kernel_rfl)
def A0z:Fun:=tidy (Lim A_dread_List T2)
theorem A8V:SOk Try.prog 48 A0z:=K_dread_List.sok
theorem C7A {n:Nat} {args:List Val} {h h2:A0} {v:Val} {sz k:Nat} {cs:List Cell} (he:A46 n args (ro h)=some (v,h2)) (ho:Out h.length h2 v sz k cs) (hf:D8 cs=true):A0z args h=some (.c (.sl h.length 0 k sz),h ++ [some ⟨cs,true⟩]):=K_dread_List.out he ho hf
def B4M:List AOper:=[aO 5 (.box (.t 0))]
def D9w:ACode:=.ops B4M
def B4N:List AOper:=[aO 10 (.loadN 4 (.t 2)),aO 11 (.loadN 11 (.t 3)),aO 12 (.mv (.t 1)),aO 13 (.call 49 [(.t 10),(.t 11),(.t 12)]),aO 9 (.mv (.t 13)),aO 14 (.ext (.t 9) 0),aO 15 (.ext (.t 9) 1),aO 7 (.alloc ([.i .i64 0,.i .i64 0,.i .i64 0])),{ dst:=none,op:=.storeN 3 (.t 7) (.t 14) },aO 8 (.mv (.t 15))]
def D9y:ACode:=.ops B4N
def B4O:List AOper:=[aO 16 (.mv (.t 8)),aO 17 (.un .not (.t 16)),aO 18 (.mv (.t 17)),{ dst:=some 19,op:=.loadN 3 (.t 7),guard:=some (18,false) },{ dst:=some 20,op:=.loadN 3 (.t 5),guard:=some (18,false) },{ dst:=some 21,op:=.eqA true ([.i .i64,.i .i64,.i .i64]) (.t 19) (.t 20),guard:=some (18,false) },aO 22 (.pick (.t 18) (.v (.c (.b true))) (.t 21))]
def D9A:ACode:=.ops B4O
def B4P:List AOper:=[aO 23 (.load1 (.t 4)),aO 24 (.loadN 3 (.t 5)),aO 25 (.buildSl 3 1 (([.i .i64 0,.i .i64 0,.i .i64 0])) [(0,3,(.t 24))]),aO 26 (.app 3 (.t 23) (.t 25)),{ dst:=none,op:=.store1 (.t 4) (.t 26) }]
def D9C:ACode:=.ops B4P
def D9E:ACode:=.cond (.t 22) D9C .skip
def D9G:ACode:=.seq [4,5,22] D9A D9E
def D9I:ACode:=.seq [4,5,7,8] D9y D9G
def D9K:ACode:=.seq [1,2,3,4,5] D9w D9I
def A_dread_Stray_1:AFn:=⟨D9K,[]⟩
def A2E:B4:=A9 49 V2 C2
def D9x (n:Nat):SmV:=A2 A2E B4M
def D9z (n:Nat):SmV:=A2 A2E B4N
def D9B (n:Nat):SmV:=A2 A2E B4O
def D9D (n:Nat):SmV:=A2 A2E B4P
def D9F (n:Nat):SmV:=B8 (.t 22) (D9D n) B9
def D9H (n:Nat):SmV:=A1 [4,5,22] (D9B n) (D9F n)
def D9J (n:Nat):SmV:=A1 [4,5,7,8] (D9z n) (D9H n)
def D9L (n:Nat):SmV:=A1 [1,2,3,4,5] (D9x n) (D9J n)
def A8E (n:Nat) (args:List Val) (h:A0):A6:=(D9L n) A_dread_Stray_1.fin (params 0 args) h
theorem B0Y (n:Nat) (a0 a1 a2 a3 a4:Val) (h:A0):A8E n [a0,a1,a2,a3,a4] h=bnd (cells? a0) fun c1=>bnd (A5 ((h ++ [some (Row.mk (c1) true)])) 4 a2) fun v2=>bnd (A5 ((h ++ [some (Row.mk (c1) true)])) 11 a3) fun v3=>bnd (V2 [v2,v3,a1] ((h ++ [some (Row.mk (c1) true)]))) fun p4=>bnd (C3 p4.1 0) fun v5=>bnd (C3 p4.1 1) fun v6=>bnd (B1 ((p4.2 ++ [some (Row.mk ([.i .i64 0,.i .i64 0,.i .i64 0]) true)])) 3 ((.c (.p p4.2.length 0))) v5) fun h7=>bnd (aun .not v6) fun v8=>bnd (gd v8 false (bnd (A5 h7 3 ((.c (.p p4.2.length 0)))) fun v9=>some (v9,h7)) (some (.no,h7))) fun p10=>bnd (gd v8 false (bnd (A5 p10.2 3 ((.c (.p h.length 0)))) fun v11=>some (v11,p10.2)) (some (.no,p10.2))) fun p12=>bnd (gd v8 false (bnd (aeq true ([.i .i64,.i .i64,.i .i64]) p10.1 p12.1) fun v13=>some (v13,p12.2)) (some (.no,p12.2))) fun p14=>bnd (D4 v8 (.c (.b true)) p14.1) fun v15=>cnd v15 (bnd (A8 p14.2 a4) fun v16=>bnd (A5 p14.2 3 ((.c (.p h.length 0)))) fun v17=>bnd (B0 (([.i .i64 0,.i .i64 0,.i .i64 0])) [(0,3,v17)]) fun c18=>bnd (F9 ((p14.2 ++ [some (Row.mk (c18) true)])) 3 v16 ((.c (.sl p14.2.length 0 1 3)))) fun p19=>bnd (E8 p19.2 a4 p19.1) fun h20=>D3 [] h20) (D3 [] p14.2):=by kernel_rfl
theorem K_dread_Stray_1:FnK Try.prog 94 A_dread_Stray_1 A2E A8E:=.mk' (B3 A5U C5) Try.func94 (by kernel_rfl) (by intro n args h;kernel_rfl)
def A3p:Fun:=Lim A_dread_Stray_1 A2E
theorem C7G:SOk Try.prog 94 A3p:=K_dread_Stray_1.ok
theorem B07 {n:Nat} {args:List Val} {h:A0} {p:Val × A0} (he:A8E n args h=some p):A3p args h=some p:=K_dread_Stray_1.of he
def B49:List AOper:=[aO 3 (.box (.t 0)),aO 4 (.box (.t 1))]
def E0Y:ACode:=.ops B49
def B5a:List AOper:=[aO 10 (.loadN 4 (.t 3)),aO 11 (.loadN 11 (.t 4)),aO 12 (.call 44 [(.t 10),(.t 11)]),aO 13 (.len (.t 12)),aO 14 (.mv (.v (.c (.i .i64 0))))]
def E00:ACode:=.ops B5a
def B5b:List AOper:=[aO 15 (.bin .lss (.t 14) (.t 13))]
def E1l:ACode:=.ops B5b
def E1D:ACode:=.cond (.t 15) .skip (.exit 0)
def B5c:List AOper:=[aO 16 (.iAddrL 1 (.t 12) (.t 14)),aO 17 (.load1 (.t 16)),aO 7 (.mv (.t 17))]
def E1F:ACode:=.ops B5c
def B5d:List AOper:=[aO 18 (.loadN 4 (.t 3)),aO 19 (.mv (.t 7)),aO 20 (.call 38 [(.t 18),(.t 19)]),aO 21 (.call 93 [(.t 20)]),aO 22 (.len (.t 21)),aO 23 (.mv (.v (.c (.i .i64 0))))]
def E1H:ACode:=.ops B5d
def B5e:List AOper:=[aO 24 (.bin .lss (.t 23) (.t 22))]
def E1J:ACode:=.ops B5e
def E1L:ACode:=.cond (.t 24) .skip (.exit 2)
def B5f:List AOper:=[aO 25 (.iAddrL 3 (.t 21) (.t 23)),aO 26 (.loadN 3 (.t 25)),aO 9 (.alloc ([.i .i64 0,.s [],.i .i64 0])),{ dst:=none,op:=.storeN 3 (.t 9) (.t 26) }]
def E1N:ACode:=.ops B5f
def B5g:List AOper:=[aO 27 (.mv (.t 2)),aO 28 (.mv (.t 7)),aO 29 (.fAddr (.t 9) 0),aO 30 (.load1 (.t 29)),aO 31 (.fAddr (.t 9) 1),aO 32 (.fAddr (.t 31) 1),aO 33 (.load1 (.t 32)),aO 34 (.build ([.i .i64 0,.i .i64 0,.i .i64 0]) [(0,1,(.t 28)),(1,1,(.t 30)),(2,1,(.t 33))]),aO 35 (.fAddr (.t 9) 1),aO 36 (.fAddr (.t 35) 0),aO 37 (.load1 (.t 36)),aO 38 (.callV (.t 27) [(.t 34),(.t 37)])]
def E1P:ACode:=.ops B5g
def E01:ACode:=.seq [2,3,7,9,12,13,14,21,22,23] E1N E1P
def E03:ACode:=.block 3 E01
def B5h:List AOper:=[aO 39 (.bin .add (.t 23) (.v (.c (.i .i64 1)))),aO 23 (.mv (.t 39))]
def E05:ACode:=.ops B5h
def E07:ACode:=.seq [2,3,7,12,13,14,21,22,23] E03 E05
def E09:ACode:=.seq [2,3,7,12,13,14,21,22,23] E1L E07
def E1b:ACode:=.seq [2,3,7,12,13,14,21,22,23,24] E1J E09
def E1c:ACode:=.loop [2,3,7,12,13,14,21,22,23] E1b
def E1e:ACode:=.block 2 E1c
def E1g:ACode:=.seq [2,3,7,12,13,14,21,22,23] E1H E1e
def E1i:ACode:=.seq [2,3,7,12,13,14] E1F E1g
def E1m:ACode:=.block 1 E1i
def B5i:List AOper:=[aO 40 (.bin .add (.t 14) (.v (.c (.i .i64 1)))),aO 14 (.mv (.t 40))]
def E1o:ACode:=.ops B5i
def E1p:ACode:=.seq [2,3,12,13,14] E1m E1o
def E1r:ACode:=.seq [2,3,12,13,14] E1D E1p
def E1t:ACode:=.seq [2,3,12,13,14,15] E1l E1r
def E1u:ACode:=.loop [2,3,12,13,14] E1t
def E1w:ACode:=.block 0 E1u
def E1y:ACode:=.seq [2,3,12,13,14] E00 E1w
def E1A:ACode:=.seq [2,3,4] E0Y E1y
def A_dread_each__Stray_1:AFn:=⟨E1A,[]⟩
def Q7:B4:=A9 44 A0B (A9 38 Q0 (A9 93 X6 (A9 94 A3p C2)))
def E0Z (n:Nat):SmV:=A2 Q7 B49
def E1k (n:Nat):SmV:=A2 Q7 B5a
def E1C (n:Nat):SmV:=A2 Q7 B5b
def E1E (n:Nat):SmV:=B8 (.t 15) B9 (F0 0)
def E1G (n:Nat):SmV:=A2 Q7 B5c
def E1I (n:Nat):SmV:=A2 Q7 B5d
def E1K (n:Nat):SmV:=A2 Q7 B5e
def E1M (n:Nat):SmV:=B8 (.t 24) B9 (F0 2)
def E1O (n:Nat):SmV:=A2 Q7 B5f
def E1Q (n:Nat):SmV:=A2 Q7 B5g
def E02 (n:Nat):SmV:=A1 [2,3,7,9,12,13,14,21,22,23] (E1O n) (E1Q n)
def E04 (n:Nat):SmV:=C4 3 (E02 n)
def E06 (n:Nat):SmV:=A2 Q7 B5h
def E08 (n:Nat):SmV:=A1 [2,3,7,12,13,14,21,22,23] (E04 n) (E06 n)
def E1a (n:Nat):SmV:=A1 [2,3,7,12,13,14,21,22,23] (E1M n) (E08 n)
def B47 (n:Nat):SmV:=A1 [2,3,7,12,13,14,21,22,23,24] (E1K n) (E1a n)
def E1d (n:Nat):SmV:=F2 n [2,3,7,12,13,14,21,22,23] (B47 n)
def E1f (n:Nat):SmV:=C4 2 (E1d n)
def E1h (n:Nat):SmV:=A1 [2,3,7,12,13,14,21,22,23] (E1I n) (E1f n)
def E1j (n:Nat):SmV:=A1 [2,3,7,12,13,14] (E1G n) (E1h n)
def E1n (n:Nat):SmV:=C4 1 (E1j n)
def B48 (n:Nat):SmV:=A2 Q7 B5i
def E1q (n:Nat):SmV:=A1 [2,3,12,13,14] (E1n n) (B48 n)
def E1s (n:Nat):SmV:=A1 [2,3,12,13,14] (E1E n) (E1q n)
def A9I (n:Nat):SmV:=A1 [2,3,12,13,14,15] (E1C n) (E1s n)
def E1v (n:Nat):SmV:=F2 n [2,3,12,13,14] (A9I n)
def E1x (n:Nat):SmV:=C4 0 (E1v n)
def E1z (n:Nat):SmV:=A1 [2,3,12,13,14] (E1k n) (E1x n)
def E1B (n:Nat):SmV:=A1 [2,3,4] (E0Z n) (E1z n)
def A6B (n:Nat):AExit → Env → A0 → A6:=fun x e h=>match x with | .exit i=>bif Nat.beq i 0 then A_dread_each__Stray_1.fin .normal e h else A_dread_each__Stray_1.fin (.exit i) e h | .normal=>A_dread_each__Stray_1.fin .normal e h | .ret=>A_dread_each__Stray_1.fin .ret e h
def A6E (n m:Nat) (x2 x3 x12 x13 x14:Val) (h:A0):A6:=E2 (A9I n) [2,3,12,13,14] (A6B n) m [(2,x2),(3,x3),(12,x12),(13,x13),(14,x14)] h
def A8G (n:Nat) (args:List Val) (h:A0):A6:=(E1B n) A_dread_each__Stray_1.fin (params 0 args) h
def A9J (n m:Nat):AExit → Env → A0 → A6:=fun x e h=>match x with | .normal=>E2 (A9I n) [2,3,12,13,14] (A6B n) m (e.keep [2,3,12,13,14]) h | .exit id=>(A6B n) (.exit id) e h | .ret=>(A6B n) .ret e h
def A6C (n m:Nat):AExit → Env → A0 → A6:=fun x e h=>match x with | .normal=>hold ((B48 n) (A9J n m) (e.keep [2,3,12,13,14]) h) | .exit id=>(A9J n m) (.exit id) e h | .ret=>(A9J n m) .ret e h
def A6D (n m:Nat):AExit → Env → A0 → A6:=fun x e h=>match x with | .exit i=>bif Nat.beq i 1 then (A6C n m) .normal e h else (A6C n m) (.exit i) e h | .normal=>(A6C n m) .normal e h | .ret=>(A6C n m) .ret e h
def E1R (n m:Nat):AExit → Env → A0 → A6:=fun x e h=>match x with | .exit i=>bif Nat.beq i 2 then (A6D n m) .normal e h else (A6D n m) (.exit i) e h | .normal=>(A6D n m) .normal e h | .ret=>(A6D n m) .ret e h
def A6F (n m m2:Nat) (x2 x3 x7 x12 x13 x14 x21 x22 x23:Val) (h:A0):A6:=E2 (B47 n) [2,3,7,12,13,14,21,22,23] (E1R n m) m2 [(2,x2),(3,x3),(7,x7),(12,x12),(13,x13),(14,x14),(21,x21),(22,x22),(23,x23)] h
theorem C6m (n:Nat) (a0 a1 a2:Val) (h:A0):A8G n [a0,a1,a2] h=bnd (cells? a0) fun c1=>bnd (cells? a1) fun c2=>bnd (A5 (((h ++ [some (Row.mk (c1) true)]) ++ [some (Row.mk (c2) true)])) 4 ((.c (.p h.length 0)))) fun v3=>bnd (A5 (((h ++ [some (Row.mk (c1) true)]) ++ [some (Row.mk (c2) true)])) 11 ((.c (.p ((h ++ [some (Row.mk (c1) true)])).length 0)))) fun v4=>bnd (A0B [v3,v4] (((h ++ [some (Row.mk (c1) true)]) ++ [some (Row.mk (c2) true)]))) fun p5=>bnd (F5 p5.1) fun v6=>A6E n n a2 ((.c (.p h.length 0))) p5.1 v6 (.c (.i .i64 0)) p5.2:=by kernel_rfl
theorem E1S (n m:Nat) (x2 x3 x12 x13 x14:Val) (h:A0):A6E n (m + 1) x2 x3 x12 x13 x14 h=bnd (A4 .lss x14 x13) fun v7=>cnd v7 (bnd (D1 1 x12 x14) fun v8=>bnd (A8 h v8) fun v9=>bnd (A5 h 4 x3) fun v10=>bnd (Q0 [v10,v9] h) fun p11=>bnd (X6 [p11.1] p11.2) fun p12=>bnd (F5 p12.1) fun v13=>A6F n m n x2 x3 v9 x12 x13 x14 p12.1 v13 (.c (.i .i64 0)) p12.2) (D3 [] h):=by kernel_rfl
theorem E1T (n m m2:Nat) (x2 x3 x7 x12 x13 x14 x21 x22 x23:Val) (h:A0):A6F n m (m2 + 1) x2 x3 x7 x12 x13 x14 x21 x22 x23 h=bnd (A4 .lss x23 x22) fun v14=>cnd v14 (bnd (D1 3 x21 x23) fun v15=>bnd (A5 h 3 v15) fun v16=>bnd (B1 ((h ++ [some (Row.mk ([.i .i64 0,.s [],.i .i64 0]) true)])) 3 ((.c (.p h.length 0))) v16) fun h17=>bnd (B7 ((.c (.p h.length 0))) 0) fun v18=>bnd (A8 h17 v18) fun v19=>bnd (B7 ((.c (.p h.length 0))) 1) fun v20=>bnd (B7 v20 1) fun v21=>bnd (A8 h17 v21) fun v22=>bnd (B0 ([.i .i64 0,.i .i64 0,.i .i64 0]) [(0,1,x7),(1,1,v19),(2,1,v22)]) fun c23=>bnd (B7 ((.c (.p h.length 0))) 1) fun v24=>bnd (B7 v24 0) fun v25=>bnd (A8 h17 v25) fun v26=>bnd (L7 Q7 x2 [(.a c23),v26] h17) fun p27=>bnd (A4 .add x23 (.c (.i .i64 1))) fun v28=>A6F n m m2 x2 x3 x7 x12 x13 x14 x21 x22 v28 p27.2) (bnd (A4 .add x14 (.c (.i .i64 1))) fun v29=>A6E n m x2 x3 x12 x13 v29 h):=by kernel_rfl
theorem K_dread_each__Stray_1:FnK Try.prog 88 A_dread_each__Stray_1 Q7 A8G:=.mk' (B3 A8X (B3 A2M (B3 A8T (B3 C7G C5)))) Try.func88 (by kernel_rfl) (by intro n args h;kernel_rfl)
def A3r:Fun:=Lim A_dread_each__Stray_1 Q7
theorem C7M:SOk Try.prog 88 A3r:=K_dread_each__Stray_1.ok
theorem C7L {n:Nat} {args:List Val} {h:A0} {p:Val × A0} (he:A8G n args h=some p):A3r args h=some p:=K_dread_each__Stray_1.of he
def B4R:List AOper:=[aO 2 (.box (.t 0)),aO 3 (.box (.t 1)),aO 4 (.nilrow 3)]
def D9M:ACode:=.ops B4R
def B4S:List AOper:=[aO 5 (.alloc ([.ns]))]
def D9O:ACode:=.ops B4S
def B4T:List AOper:=[aO 6 (.loadN 4 (.t 2)),aO 7 (.loadN 11 (.t 3)),aO 8 (.mkf 94 [(.t 2),(.t 3),(.t 5)]),aO 9 (.call 88 [(.t 6),(.t 7),(.t 8)])]
def D9Q:ACode:=.ops B4T
def B4U:List AOper:=[aO 10 (.load1 (.t 5)),aO 4 (.mv (.t 10))]
def D9S:ACode:=.ops B4U
def D9U:ACode:=.seq [4] D9S .ret
def D9W:ACode:=.seq [5] D9Q D9U
def D9Y:ACode:=.seq [2,3,5] D9O D9W
def D90:ACode:=.seq [2,3] D9M D9Y
def A_dread_Stray:AFn:=⟨D90,[.tmp 4]⟩
def A2D:B4:=A9 88 A3r C2
def D9N (n:Nat):SmV:=A2 A2D B4R
def D9P (n:Nat):SmV:=A2 A2D B4S
def D9R (n:Nat):SmV:=A2 A2D B4T
def D9T (n:Nat):SmV:=A2 A2D B4U
def D9V (n:Nat):SmV:=A1 [4] (D9T n) B5
def D9X (n:Nat):SmV:=A1 [5] (D9R n) (D9V n)
def D9Z (n:Nat):SmV:=A1 [2,3,5] (D9P n) (D9X n)
def D91 (n:Nat):SmV:=A1 [2,3] (D9N n) (D9Z n)
def A2H (n:Nat) (args:List Val) (h:A0):A6:=(D91 n) A_dread_Stray.fin (params 0 args) h
theorem C6k (n:Nat) (a0 a1:Val) (h:A0):A2H n [a0,a1] h=bnd (cells? a0) fun c1=>bnd (cells? a1) fun c2=>bnd (A5 (((((h ++ [some (Row.mk (c1) true)]) ++ [some (Row.mk (c2) true)]) ++ [some (Row.mk ([]) true)]) ++ [some (Row.mk ([.ns]) true)])) 4 ((.c (.p h.length 0)))) fun v3=>bnd (A5 (((((h ++ [some (Row.mk (c1) true)]) ++ [some (Row.mk (c2) true)]) ++ [some (Row.mk ([]) true)]) ++ [some (Row.mk ([.ns]) true)])) 11 ((.c (.p ((h ++ [some (Row.mk (c1) true)])).length 0)))) fun v4=>bnd (V4 94 [(.c (.p h.length 0)),(.c (.p ((h ++ [some (Row.mk (c1) true)])).length 0)),(.c (.p ((((h ++ [some (Row.mk (c1) true)]) ++ [some (Row.mk (c2) true)]) ++ [some (Row.mk ([]) true)])).length 0))]) fun v5=>bnd (A3r [v3,v4,v5] (((((h ++ [some (Row.mk (c1) true)]) ++ [some (Row.mk (c2) true)]) ++ [some (Row.mk ([]) true)]) ++ [some (Row.mk ([.ns]) true)]))) fun p6=>bnd (A8 p6.2 ((.c (.p ((((h ++ [some (Row.mk (c1) true)]) ++ [some (Row.mk (c2) true)]) ++ [some (Row.mk ([]) true)])).length 0)))) fun v7=>some (v7,p6.2):=by kernel_rfl
theorem K_dread_Stray:FnK Try.prog 51 A_dread_Stray A2D A2H:=.mk' (B3 C7M C5) Try.func51 (by kernel_rfl) (by intro n args h;kernel_rfl)
def A0A:Fun:=tidy (Lim A_dread_Stray A2D)
theorem B08:SOk Try.prog 51 A0A:=K_dread_Stray.sok
theorem C7H {n:Nat} {args:List Val} {h h2:A0} {v:Val} (he:A2H n args (ro h)=some (v,h2)) (hf:v.low h.length=true):A0A args h=some (v,h):=K_dread_Stray.low he hf
theorem C7I {n:Nat} {args:List Val} {h h2:A0} {v:Val} {sz k:Nat} {cs:List Cell} (he:A2H n args (ro h)=some (v,h2)) (ho:Out h.length h2 v sz k cs) (hf:D8 cs=true):A0A args h=some (.c (.sl h.length 0 k sz),h ++ [some ⟨cs,true⟩]):=K_dread_Stray.out he ho hf
def B30:List AOper:=[aO 2 (.box (.t 0)),aO 3 (.box (.t 1)),aO 4 (.mv (.v (.c (.b false))))]
def D6p:ACode:=.ops B30
def B31:List AOper:=[aO 5 (.loadN 4 (.t 2)),aO 6 (.loadN 11 (.t 3)),aO 7 (.call 48 [(.t 5),(.t 6)]),aO 8 (.len (.t 7)),aO 9 (.bin .eql (.t 8) (.v (.c (.i .i64 0)))),aO 4 (.mv (.t 9))]
def D6r:ACode:=.ops B31
def D6t:ACode:=.seq [4] D6r .ret
def D6v:ACode:=.seq [2,3] D6p D6t
def A_dread_Empty:AFn:=⟨D6v,[.tmp 4]⟩
def A4H:B4:=A9 48 A0z C2
def D6q (n:Nat):SmV:=A2 A4H B30
def D6s (n:Nat):SmV:=A2 A4H B31
def D6u (n:Nat):SmV:=A1 [4] (D6s n) B5
def D6w (n:Nat):SmV:=A1 [2,3] (D6q n) (D6u n)
def A45 (n:Nat) (args:List Val) (h:A0):A6:=(D6w n) A_dread_Empty.fin (params 0 args) h
theorem C6f (n:Nat) (a0 a1:Val) (h:A0):A45 n [a0,a1] h=bnd (cells? a0) fun c1=>bnd (cells? a1) fun c2=>bnd (A5 (((h ++ [some (Row.mk (c1) true)]) ++ [some (Row.mk (c2) true)])) 4 ((.c (.p h.length 0)))) fun v3=>bnd (A5 (((h ++ [some (Row.mk (c1) true)]) ++ [some (Row.mk (c2) true)])) 11 ((.c (.p ((h ++ [some (Row.mk (c1) true)])).length 0)))) fun v4=>bnd (A0z [v3,v4] (((h ++ [some (Row.mk (c1) true)]) ++ [some (Row.mk (c2) true)]))) fun p5=>bnd (F5 p5.1) fun v6=>bnd (A4 .eql v6 (.c (.i .i64 0))) fun v7=>some (v7,p5.2):=by kernel_rfl
theorem K_dread_Empty:FnK Try.prog 87 A_dread_Empty A4H A45:=.mk' (B3 A8V C5) Try.func87 (by kernel_rfl) (by intro n args h;kernel_rfl)
def A3l:Fun:=tidy (Lim A_dread_Empty A4H)
theorem C7y:SOk Try.prog 87 A3l:=K_dread_Empty.sok
theorem C7x {n:Nat} {args:List Val} {h h2:A0} {v:Val} (he:A45 n args (ro h)=some (v,h2)) (hf:v.flat=true):A3l args h=some (v,h):=K_dread_Empty.flat he hf
def B4o:List AOper:=[aO 2 (.box (.t 0)),aO 3 (.box (.t 1)),aO 4 (.nilrow 1)]
def D7J:ACode:=.ops B4o
def B4p:List AOper:=[aO 5 (.nilrow 1)]
def D7L:ACode:=.ops B4p
def B4q:List AOper:=[aO 8 (.loadN 4 (.t 2)),aO 9 (.loadN 11 (.t 3)),aO 10 (.call 44 [(.t 8),(.t 9)]),aO 11 (.len (.t 10)),aO 12 (.mv (.v (.c (.i .i64 0))))]
def D75:ACode:=.ops B4q
def B4r:List AOper:=[aO 13 (.bin .lss (.t 12) (.t 11))]
def D79:ACode:=.ops B4r
def D8b:ACode:=.cond (.t 13) .skip (.exit 0)
def B4s:List AOper:=[aO 14 (.iAddrL 1 (.t 10) (.t 12)),aO 15 (.load1 (.t 14)),aO 7 (.mv (.t 15))]
def D8d:ACode:=.ops B4s
def B4t:List AOper:=[aO 16 (.mv (.t 5)),aO 17 (.loadN 4 (.t 2)),aO 18 (.mv (.t 7)),aO 19 (.call 38 [(.t 17),(.t 18)]),aO 20 (.call 93 [(.t 19)]),aO 21 (.len (.t 20)),aO 22 (.buildSl 1 1 ([.i .i64 0]) [(0,1,(.t 21))]),aO 23 (.app 1 (.t 16) (.t 22)),aO 5 (.mv (.t 23))]
def D8f:ACode:=.ops B4t
def D8h:ACode:=.seq [2,5,7,10,11,12] D8d D8f
def D8j:ACode:=.block 1 D8h
def B4u:List AOper:=[aO 24 (.bin .add (.t 12) (.v (.c (.i .i64 1)))),aO 12 (.mv (.t 24))]
def D8l:ACode:=.ops B4u
def D7M:ACode:=.seq [2,5,10,11,12] D8j D8l
def D7O:ACode:=.seq [2,5,10,11,12] D8b D7M
def D7Q:ACode:=.seq [2,5,10,11,12,13] D79 D7O
def D7R:ACode:=.loop [2,5,10,11,12] D7Q
def D7T:ACode:=.block 0 D7R
def D7V:ACode:=.seq [2,5,10,11,12] D75 D7T
def B4v:List AOper:=[aO 25 (.mv (.t 5)),aO 4 (.mv (.t 25))]
def D7X:ACode:=.ops B4v
def D7Z:ACode:=.seq [4] D7X .ret
def D70:ACode:=.seq [5] D7V D7Z
def D72:ACode:=.seq [2,3,5] D7L D70
def D76:ACode:=.seq [2,3] D7J D72
def A_dread_Load:AFn:=⟨D76,[.tmp 4]⟩
def Z2:B4:=A9 44 A0B (A9 38 Q0 (A9 93 X6 C2))
def D7K (n:Nat):SmV:=A2 Z2 B4o
def D74 (n:Nat):SmV:=A2 Z2 B4p
def D78 (n:Nat):SmV:=A2 Z2 B4q
def D8a (n:Nat):SmV:=A2 Z2 B4r
def D8c (n:Nat):SmV:=B8 (.t 13) B9 (F0 0)
def D8e (n:Nat):SmV:=A2 Z2 B4s
def D8g (n:Nat):SmV:=A2 Z2 B4t
def D8i (n:Nat):SmV:=A1 [2,5,7,10,11,12] (D8e n) (D8g n)
def D8k (n:Nat):SmV:=C4 1 (D8i n)
def D8m (n:Nat):SmV:=A2 Z2 B4u
def D7N (n:Nat):SmV:=A1 [2,5,10,11,12] (D8k n) (D8m n)
def D7P (n:Nat):SmV:=A1 [2,5,10,11,12] (D8c n) (D7N n)
def B4l (n:Nat):SmV:=A1 [2,5,10,11,12,13] (D8a n) (D7P n)
def D7S (n:Nat):SmV:=F2 n [2,5,10,11,12] (B4l n)
def D7U (n:Nat):SmV:=C4 0 (D7S n)
def D7W (n:Nat):SmV:=A1 [2,5,10,11,12] (D78 n) (D7U n)
def D7Y (n:Nat):SmV:=A2 Z2 B4v
def B4m (n:Nat):SmV:=A1 [4] (D7Y n) B5
def D71 (n:Nat):SmV:=A1 [5] (D7W n) (B4m n)
def D73 (n:Nat):SmV:=A1 [2,3,5] (D74 n) (D71 n)
def D77 (n:Nat):SmV:=A1 [2,3] (D7K n) (D73 n)
def A6u (n:Nat):AExit → Env → A0 → A6:=fun x e h=>match x with | .normal=>hold ((B4m n) A_dread_Load.fin (e.keep [5]) h) | .exit id=>A_dread_Load.fin (.exit id) e h | .ret=>A_dread_Load.fin .ret e h
def D8o (n:Nat):AExit → Env → A0 → A6:=fun x e h=>match x with | .exit i=>bif Nat.beq i 0 then (A6u n) .normal e h else (A6u n) (.exit i) e h | .normal=>(A6u n) .normal e h | .ret=>(A6u n) .ret e h
def A6v (n m:Nat) (x2 x5 x10 x11 x12:Val) (h:A0):A6:=E2 (B4l n) [2,5,10,11,12] (D8o n) m [(2,x2),(5,x5),(10,x10),(11,x11),(12,x12)] h
def A47 (n:Nat) (args:List Val) (h:A0):A6:=(D77 n) A_dread_Load.fin (params 0 args) h
theorem C6h (n:Nat) (a0 a1:Val) (h:A0):A47 n [a0,a1] h=bnd (cells? a0) fun c1=>bnd (cells? a1) fun c2=>bnd (A5 (((((h ++ [some (Row.mk (c1) true)]) ++ [some (Row.mk (c2) true)]) ++ [some (Row.mk ([]) true)]) ++ [some (Row.mk ([]) true)])) 4 ((.c (.p h.length 0)))) fun v3=>bnd (A5 (((((h ++ [some (Row.mk (c1) true)]) ++ [some (Row.mk (c2) true)]) ++ [some (Row.mk ([]) true)]) ++ [some (Row.mk ([]) true)])) 11 ((.c (.p ((h ++ [some (Row.mk (c1) true)])).length 0)))) fun v4=>bnd (A0B [v3,v4] (((((h ++ [some (Row.mk (c1) true)]) ++ [some (Row.mk (c2) true)]) ++ [some (Row.mk ([]) true)]) ++ [some (Row.mk ([]) true)]))) fun p5=>bnd (F5 p5.1) fun v6=>A6v n n ((.c (.p h.length 0))) ((.c (.sl ((((h ++ [some (Row.mk (c1) true)]) ++ [some (Row.mk (c2) true)]) ++ [some (Row.mk ([]) true)])).length 0 0 1))) p5.1 v6 (.c (.i .i64 0)) p5.2:=by kernel_rfl
theorem B4n (n m:Nat) (x2 x5 x10 x11 x12:Val) (h:A0):A6v n (m + 1) x2 x5 x10 x11 x12 h=bnd (A4 .lss x12 x11) fun v7=>cnd v7 (bnd (D1 1 x10 x12) fun v8=>bnd (A8 h v8) fun v9=>bnd (A5 h 4 x2) fun v10=>bnd (Q0 [v10,v9] h) fun p11=>bnd (X6 [p11.1] p11.2) fun p12=>bnd (F5 p12.1) fun v13=>bnd (B0 ([.i .i64 0]) [(0,1,v13)]) fun c14=>bnd (F9 ((p12.2 ++ [some (Row.mk (c14) true)])) 1 x5 ((.c (.sl p12.2.length 0 1 1)))) fun p15=>bnd (A4 .add x12 (.c (.i .i64 1))) fun v16=>A6v n m x2 p15.1 x10 x11 v16 p15.2) (some (x5,h)):=by kernel_rfl
theorem K_dread_Load:FnK Try.prog 50 A_dread_Load Z2 A47:=.mk' (B3 A8X (B3 A2M (B3 A8T C5))) Try.func50 (by kernel_rfl) (by intro n args h;kernel_rfl)
def A3n:Fun:=tidy (Lim A_dread_Load Z2)
theorem C7B:SOk Try.prog 50 A3n:=K_dread_Load.sok
theorem C7C {n:Nat} {args:List Val} {h h2:A0} {v:Val} {sz k:Nat} {cs:List Cell} (he:A47 n args (ro h)=some (v,h2)) (ho:Out h.length h2 v sz k cs) (hf:D8 cs=true):A3n args h=some (.c (.sl h.length 0 k sz),h ++ [some ⟨cs,true⟩]):=K_dread_Load.out he ho hf
end Go.Proofs.Ytdgggnlbdoiloaa
end
section
namespace Go.Proofs.Ytdgggnlbdoiloaa
open Go Go.Esc
def U1 (X:List Int) (nm:List UInt8):Nat:=Y8 nm % H6 (X.headD 0)
def W1 (X:List Int) (nm:List UInt8):Int:=X.tail.getD (U1 X nm) 0
theorem E82 (X:List Int) (nm:List UInt8):U1 X nm < 32:=by
  have h1:=A4k (X.headD 0)
  have h2:0 < H6 (X.headD 0):=by unfold H6;exact Nat.two_pow_pos _
  have:=Nat.mod_lt (Y8 nm) h2
  unfold U1;omega
def A4u (D:Dev) (n k:Int) (d:List Int) (nm:List UInt8):List Part :=
  bif S8 D n k d then [.c (.i .i64 (U1 (K1 D n k d) nm:Nat)),.c (.i .i64 (W1 (K1 D n k d) nm)),.c (.b true)] else [.c (.i .i64 0),.c (.i .i64 0),.c (.b false)]
theorem D9v {D:Dev} {n m k l s p:Int} {d:List Int} {f:Cell} {nm:List UInt8} {h:A0} (hD:okD D) (hd:d.length=7) (hv:IsView h f D) (hs:nm.length < 9223372036854775807) :
    A3o [.a (vwC D.length n m f),.a (A7 k l s p d),.c (.s nm)] h=some (.t (A4u D n k d nm),h):=by
  have key:∀ g,IsView g f D → ∃ g',A49 0 [.a (vwC D.length n m f),.a (A7 k l s p d),.c (.s nm)] g=some (.t (A4u D n k d nm),g'):=by
    intro g hv
    have hIl:(A7 k l s p d).length=11:=by simp [A7,F6,hd]
    have l11:ldN (some (Row.mk (A7 k l s p d) true)) 0 11=some (.a (A7 k l s p d)):=P6 hIl
    have l4:=A2x (b:=D.length) (n:=n) (m:=m) (f:=f)
    have hz:(encI (0 :: zI 32)).length=33:=O4 (d:=0) N6
    have hX:=B7s D n k d
    have hI:=B6M (n:=n) (m:=m) (k:=k) (l:=l) (s:=s) (p:=p) (h:=g ++ [some (Row.mk (vwC D.length n m f) true),some (Row.mk (A7 k l s p d) true)]) hD hd (hv.more _)
    rw [C6j,A2A]
    unfold A4u
    cases c:S8 D n k d with
    | false =>
      rw [c] at hI
      generalize encI (K1 D n k d)=x at *
      generalize encI (0 :: zI 32)=z at *
      generalize vwC D.length n m f=V at *
      generalize A7 k l s p d=I at *
      exact ⟨_,by simp only [esc,esh,Nat.reduceAdd,Nat.reduceMul,Nat.reduceLT,l4,l11,hI,hz,hX] <;> rfl⟩
    | true =>
      rw [c] at hI
      have hM:=fun h=>C0F (s:=nm) hs (h:=h)
      obtain ⟨x,t,e,ht⟩:=B7r D n k d
      rw [e] at hI hX ⊢
      have hP:=fun h=>F1r (d:=x) (h:=h) ht (C0m (s:=nm))
      have hlt:=E82 (x :: t) nm
      have eP:Y8 nm % H6 x=U1 (x :: t) nm:=rfl
      rw [eP] at hP
      have ad:∀ q,D6 32 1 (.c (.p q 1)) (.c (.i .i64 (U1 (x :: t) nm:Nat)))=some (.c (.p q (1 + U1 (x :: t) nm))):=fun q=>by
        rw [C9v (by omega) (by omega)];simp
      have l1:ld1 (some (Row.mk (encI (x :: t)) true)) (1 + U1 (x :: t) nm)=some (.c (.i .i64 (W1 (x :: t) nm))):=by
        rw [B96]
        have:(encI (x :: t))[1 + U1 (x :: t) nm]? = some (.i .i64 (W1 (x :: t) nm)):=by
          rw [V9,Nat.add_comm,List.getElem?_cons_succ,List.getElem?_eq_getElem (by omega)]
          unfold W1
          rw [List.tail_cons,List.getD_eq_getElem?_getD,List.getElem?_eq_getElem (by omega)];rfl
        rw [this];rfl
      generalize W1 (x :: t) nm=B at *
      generalize U1 (x :: t) nm=P at *
      generalize encI (x :: t)=X at *
      generalize encI (0 :: zI 32)=z at *
      generalize vwC D.length n m f=V at *
      generalize A7 k l s p d=I at *
      exact ⟨_,by simp only [esc,V3,S1,A51,A05,A2a,T9,P6,A8i,Nat.reduceAdd,l4,l11,hI,hz,hX,hM,hP,ad,l1] <;> rfl⟩
  obtain ⟨g',e⟩:=key (ro h) hv.ro
  exact C7E e (by unfold A4u;cases S8 D n k d <;> rfl)
abbrev Plc:=Int × Nat × Int
def D9:Option Plc → List Cell
  | none=>[.i .i64 0,.i .i64 0,.i .i64 0]
  | some p=>[.i .i64 p.1,.i .i64 (p.2.1:Int),.i .i64 p.2.2]
def I4 (D:Dev) (n k:Int) (d:List Int) (nm:List UInt8):Option Plc :=
  if S8 D n k d=true ∧ S9 D.length n (W1 (K1 D n k d) nm)=true then (J5 (blk D (W1 (K1 D n k d) nm)) nm).map fun s=>(W1 (K1 D n k d) nm,s.1,s.2.2) else none
theorem A33 {D:Dev} {n m k l s p:Int} {d:List Int} {f:Cell} {nm:List UInt8} {h:A0} (hD:okD D) (hd:d.length=7) (hv:IsView h f D) (hs:nm.length < 9223372036854775807) :
    V2 [.a (vwC D.length n m f),.a (A7 k l s p d),.c (.s nm)] h=some (.t [.a (D9 (I4 D n k d nm)),.c (.b (I4 D n k d nm).isSome)],h):=by
  have key:∀ g,IsView g f D → ∃ g',A48 0 [.a (vwC D.length n m f),.a (A7 k l s p d),.c (.s nm)] g=some (.t [.a (D9 (I4 D n k d nm)),.c (.b (I4 D n k d nm).isSome)],g'):=by
    intro g hv
    have hIl:(A7 k l s p d).length=11:=by simp [A7,F6,hd]
    have l11:ldN (some (Row.mk (A7 k l s p d) true)) 0 11=some (.a (A7 k l s p d)):=P6 hIl
    have l4:=A2x (b:=D.length) (n:=n) (m:=m) (f:=f)
    have l3:=A8s (b:=D.length) (n:=n) (m:=m) (f:=f)
    have ef:B0 [Cell.i .i64 0,.i .i64 0,.i .i64 0] []=some [Cell.i .i64 0,.i .i64 0,.i .i64 0]:=rfl
    have l3z:ldN (some (Row.mk [Cell.i .i64 0,.i .i64 0,.i .i64 0] true)) 0 3=some (.a [Cell.i .i64 0,.i .i64 0,.i .i64 0]):=rfl
    have s3z:∀ x,stN (some (Row.mk [Cell.i .i64 0,.i .i64 0,.i .i64 0] true)) 0 3 [Cell.i .i64 x,.i .i64 0,.i .i64 0]=some ⟨[Cell.i .i64 x,.i .i64 0,.i .i64 0],true⟩:=fun _=>rfl
    have hR:=D9v (n:=n) (m:=m) (k:=k) (l:=l) (s:=s) (p:=p) (nm:=nm) (h:=g ++ [some (Row.mk (vwC D.length n m f) true),some (Row.mk (A7 k l s p d) true),some (Row.mk [.i .i64 0,.i .i64 0,.i .i64 0] true)]) hD hd (hv.more _) hs
    rw [C6i]
    unfold I4
    unfold A4u at hR
    cases c:S8 D n k d with
    | false =>
      rw [c,cond_false] at hR
      rw [if_neg (by simp)]
      generalize vwC D.length n m f=V at *
      generalize A7 k l s p d=I at *
      exact ⟨_,by simp only [esc,esh,Nat.reduceAdd,Nat.reduceMul,Nat.reduceLT,l4,l11,hR,ef,l3z,s3z,D9,Option.isSome_none] <;> rfl⟩
    | true =>
      rw [c,cond_true] at hR
      generalize U1 (K1 D n k d) nm=P at *
      generalize W1 (K1 D n k d) nm=B at *
      have hG:=fun h=>A91 (b:=D.length) (n:=n) (m:=m) (i:=B) (h:=h)
      cases c2:S9 D.length n B with
      | false =>
        simp only [c2] at hG
        rw [if_neg (by simp)]
        generalize vwC D.length n m f=V at *
        generalize A7 k l s p d=I at *
        exact ⟨_,by simp only [esc,esh,Nat.reduceAdd,Nat.reduceMul,Nat.reduceLT,l4,l11,l3,hR,hG,ef,l3z,s3z,D9,Option.isSome_none] <;> rfl⟩
      | true =>
        simp only [c2] at hG
        rw [if_pos ⟨rfl,rfl⟩]
        have hB:=A4D (n:=n) (m:=m) (no:=B) (h:=g ++ [some (Row.mk (vwC D.length n m f) true),some (Row.mk (A7 k l s p d) true),some (Row.mk [.i .i64 0,.i .i64 0,.i .i64 0] true)]) hD (hv.more _)
        have hF:=fun h=>B2b (b:=blk D B) (nm:=nm) (h:=h) (A2T hD)
        cases c3:J5 (blk D B) nm with
        | none =>
          simp only [c3] at hF
          generalize A3 (blk D B)=y at *
          generalize vwC D.length n m f=V at *
          generalize A7 k l s p d=I at *
          have s3:stN (some (Row.mk [Cell.i .i64 0,.s [],.i .i64 0] true)) 0 3 (slC none)=some ⟨slC none,true⟩:=rfl
          exact ⟨_,by simp only [esc,esh,Nat.reduceAdd,Nat.reduceMul,Nat.reduceLT,l4,l11,l3,hR,hG,hB,hF,ef,l3z,s3z,s3,D9,Option.isSome_none,Option.map_none] <;> rfl⟩
        | some sl =>
          obtain ⟨kk,s',i'⟩:=sl
          simp only [c3] at hF
          generalize A3 (blk D B)=y at *
          generalize vwC D.length n m f=V at *
          generalize A7 k l s p d=I at *
          have s3:stN (some (Row.mk [Cell.i .i64 0,.s [],.i .i64 0] true)) 0 3 (slC (some (kk,s',i')))=some ⟨slC (some (kk,s',i')),true⟩:=rfl
          have g0:ld1 (some (Row.mk (slC (some (kk,s',i'))) true)) 0=some (.c (.i .i64 (kk:Int))):=rfl
          have g2:ld1 (some (Row.mk (slC (some (kk,s',i'))) true)) 2=some (.c (.i .i64 i')):=rfl
          have ef3:B0 [Cell.i .i64 0,.i .i64 0,.i .i64 0] [(0,1,.c (.i .i64 B)),(1,1,.c (.i .i64 (kk:Int))),(2,1,.c (.i .i64 i'))]=some [Cell.i .i64 B,.i .i64 (kk:Int),.i .i64 i']:=rfl
          have s33:stN (some (Row.mk [Cell.i .i64 0,.i .i64 0,.i .i64 0] true)) 0 3 [Cell.i .i64 B,.i .i64 (kk:Int),.i .i64 i']=some ⟨[Cell.i .i64 B,.i .i64 (kk:Int),.i .i64 i'],true⟩:=rfl
          have l33:ldN (some (Row.mk [Cell.i .i64 B,.i .i64 (kk:Int),.i .i64 i'] true)) 0 3=some (.a [Cell.i .i64 B,.i .i64 (kk:Int),.i .i64 i']):=rfl
          exact ⟨_,by simp only [esc,V3,S1,A51,A05,A2a,T9,P6,A8i,Nat.reduceAdd,l4,l11,l3,hR,hG,hB,hF,ef,s3,g0,g2,ef3,s33,l33,D9,Option.isSome_some,Option.map_some] <;> rfl⟩
  obtain ⟨g',e⟩:=key (ro h) hv.ro
  exact C7D e (by cases I4 D n k d nm <;> rfl)
end Go.Proofs.Ytdgggnlbdoiloaa
end
section
namespace Go.Proofs.Ytdgggnlbdoiloaa
open Go Go.Esc
def I9 (l:List Slt):List Cell:=(l.map fun x=>slC (some x)).flatten
theorem A8f {l:List Slt}:(I9 l).length=l.length * 3:=by
  induction l with
  | nil=>rfl
  | cons x l ih=>simp only [I9,List.map_cons,List.flatten_cons,List.length_append,A1w,List.length_cons] at ih ⊢;omega
theorem H2Z {l:List Slt} {x:Slt}:I9 (l ++ [x])=I9 l ++ slC (some x):=by simp [I9]
theorem H2Y {l:List Slt}:D8 (I9 l)=true:=by
  induction l with
  | nil=>rfl
  | cons x l ih =>
    have:I9 (x :: l)=slC (some x) ++ I9 l:=rfl
    rw [this,A6Q,C4h,ih];rfl
theorem G4N {l:List Slt}:noX (I9 l)=true:=by
  induction l with
  | nil=>rfl
  | cons x l ih =>
    have:I9 (x :: l)=[.i .i64 (x.1:Int),.s x.2.1,.i .i64 x.2.2] ++ I9 l:=rfl
    rw [this]
    simp [noX,Cell.isX] at ih ⊢
    exact ih
def M8 (b:List UInt8):Nat → Nat → List Slt
  | 0,_=>[]
  | e + 1,k=>match J2 b k with
    | some x=>(k,x) :: M8 b e (k + 1)
    | none=>M8 b e (k + 1)
def G5 (b:List UInt8):List Slt:=M8 b 7 0
theorem A7r {b:List UInt8} {e k:Nat} (hx:J2 b k=none):M8 b (e + 1) k=M8 b e (k + 1):=by rw [M8,hx]
theorem A7s {b:List UInt8} {e k:Nat} {x:Ent} (hx:J2 b k=some x):M8 b (e + 1) k=(k,x) :: M8 b e (k + 1):=by rw [M8,hx]
theorem C9V {h:A0} {jd m sz:Nat} {ys:List Cell} (hy:rd h jd=some ⟨ys,true⟩) (hyl:ys.length=m * sz) (hsz:0 < sz) (hn:m ≤ 1073741824) :
    F9 h sz (.c .ns) (.c (.sl jd 0 m sz))=some (.c (.sl h.length 0 m sz),h ++ [some ⟨ys,true⟩]):=by
  have h2:K4 h sz (.c (.sl jd 0 m sz))=some ys:=by
    simp only [K4,if_true,U4,hy,Option.bind_some,List.drop_zero,Nat.zero_add]
    rw [← hyl,List.take_length,if_pos ⟨Nat.le_refl _,rfl⟩]
  have e1:ys.length / sz=m:=by rw [hyl];exact Nat.mul_div_cancel _ hsz
  simp only [F9,h2,Option.bind_some]
  rw [e1,if_pos hn]
def Held (h:A0) (x:Cell) (l:List Slt) (b r0 r:Nat):Prop:=(l=[] ∧ x=.ns) ∨ ∃ id,x=.sl id 0 l.length 3 ∧ rd h id=some ⟨I9 l,true⟩ ∧ b ≤ id ∧ id ≠ r0 ∧ id ≠ r
theorem Held.more {h:A0} {x:Cell} {l:List Slt} {b r0 r:Nat} (hd:Held h x l b r0 r) (t:A0):Held (h ++ t) x l b r0 r:=by
  rcases hd with hd | ⟨id,h1,h2,h3⟩
  · exact .inl hd
  · exact .inr ⟨id,h1,C0 h2,h3⟩
theorem F8T {k:Nat} {n:Int} {s:List UInt8} {x:Cell} {l:List Slt} {r0 r:Nat} {B h:A0} {c0:List Cell} (hlow:Low B.length B h) (hr:rd h r=some ⟨[x],true⟩) (h0:rd h r0=some ⟨c0,true⟩) (h0r:r0 ≠ r) (hBr:B.length ≤ r) (hB0:B.length ≤ r0) (hd:Held h x l B.length r0 r) (hl:l.length ≤ 7) :
    ∃ x' h',A3h [.a [.i .i64 (k:Int),.s s,.i .i64 n],.c (.p r 0)] h=some (.c (.b true),h') ∧ Low B.length B h' ∧ rd h' r=some ⟨[x'],true⟩ ∧ rd h' r0=some ⟨c0,true⟩ ∧ Held h' x' (l ++ [(k,(s,n))]) B.length r0 r:=by
  have hlt:=D2 hr
  have hlt0:=D2 h0
  have l1:A8 (h ++ [some (Row.mk [.i .i64 (k:Int),.s s,.i .i64 n] true)]) (.c (.p r 0))=some (.c x):=H8 (cs:=[x]) (C0 hr) rfl (by simp)
  have ef:B0 [Cell.i .i64 0,.s [],.i .i64 0] [(0,3,.a [.i .i64 (k:Int),.s s,.i .i64 n])]=some [.i .i64 (k:Int),.s s,.i .i64 n]:=rfl
  have hBh:=hlow.2.1
  rcases hd with ⟨rfl,rfl⟩ | ⟨id,rfl,hi,hbi,hi0,hir⟩
  · have hA:=C9V (h:=h ++ [some (Row.mk [.i .i64 (k:Int),.s s,.i .i64 n] true),some (Row.mk [.i .i64 (k:Int),.s s,.i .i64 n] true)]) (jd:=h.length + 1) (m:=1) (sz:=3) (ys:=[.i .i64 (k:Int),.s s,.i .i64 n]) (by simp) rfl (by omega) (by omega)
    simp only [List.length_append,List.length_cons,List.length_nil,Nat.zero_add,List.append_assoc,List.cons_append,List.nil_append,Nat.reduceAdd] at hA
    have hr2:rd (h ++ [some (Row.mk [.i .i64 (k:Int),.s s,.i .i64 n] true),some (Row.mk [.i .i64 (k:Int),.s s,.i .i64 n] true),some (Row.mk [.i .i64 (k:Int),.s s,.i .i64 n] true)]) r=some ⟨[.ns],true⟩:=C0 hr
    have t1:=W6 (x:=.sl (h.length + 2) 0 1 3) (off:=0) hr2 (by simp)
    refine ⟨.sl (h.length + 2) 0 1 3,_,B02 (n:=0) (by rw [B0X];simp only [esc,esh,Nat.reduceAdd,Nat.reduceMul,Nat.reduceLT,l1,ef,hA,t1] <;> rfl),(hlow.new _).set hBr _,?_,?_,.inr ⟨h.length + 2,rfl,?_,by omega,by omega,by omega⟩⟩
    · exact I6 (D2 hr2)
    · rw [G3 (Ne.symm h0r)];exact C0 h0
    · rw [G3 (by omega)];simp [I9,slC]
  · have hA:=A16 (h:=h ++ [some (Row.mk [.i .i64 (k:Int),.s s,.i .i64 n] true),some (Row.mk [.i .i64 (k:Int),.s s,.i .i64 n] true)]) (id:=id) (jd:=h.length + 1) (n:=l.length) (m:=1) (sz:=3) (cs:=I9 l) (ys:=[.i .i64 (k:Int),.s s,.i .i64 n]) (rw:=true) (C0 hi) A8f (by simp) rfl rfl (by omega) (by omega)
    have hli:=D2 hi
    have es:(h ++ [some (Row.mk [.i .i64 (k:Int),.s s,.i .i64 n] true),some (Row.mk [.i .i64 (k:Int),.s s,.i .i64 n] true)]).length=h.length + 2:=by simp
    rw [es] at hA
    have hr2:rd ((h ++ [some (Row.mk [.i .i64 (k:Int),.s s,.i .i64 n] true),some (Row.mk [.i .i64 (k:Int),.s s,.i .i64 n] true)]).set id none ++ [some (Row.mk (I9 l ++ [.i .i64 (k:Int),.s s,.i .i64 n]) true)]) r=some ⟨[.sl id 0 l.length 3],true⟩:=by
      refine C0 ?_
      rw [G3 hir];exact C0 hr
    have t1:=W6 (x:=.sl (h.length + 2) 0 (l.length + 1) 3) (off:=0) hr2 (by simp)
    refine ⟨.sl (h.length + 2) 0 (l.length + 1) 3,_,B02 (n:=0) (by rw [B0X];simp only [esc,esh,Nat.reduceAdd,Nat.reduceMul,Nat.reduceLT,l1,ef,hA,t1] <;> rfl),(((hlow.new _).set hbi _).new _).set hBr _,?_,?_,.inr ⟨h.length + 2,by simp,?_,by omega,by omega,by omega⟩⟩
    · exact I6 (D2 hr2)
    · rw [G3 (Ne.symm h0r)]
      refine C0 ?_
      rw [G3 hi0];exact C0 h0
    · rw [G3 (by omega),H2Z]
      have:((h ++ [some (Row.mk [.i .i64 (k:Int),.s s,.i .i64 n] true),some (Row.mk [.i .i64 (k:Int),.s s,.i .i64 n] true)]).set id none).length=h.length + 2:=by simp
      rw [← this]
      exact M9
theorem A9L {b:List UInt8} {r0 r q:Nat} {B:A0} (hb:b.length=256) (h0r:r0 ≠ r) (hBr:B.length ≤ r) (hB0:B.length ≤ r0):∀ (e k m:Nat) (h:A0) (x:Cell) (l:List Slt),k + e=7 → e < m → l.length ≤ k → Low B.length B h →
    rd h r=some ⟨[x],true⟩ → rd h r0=some ⟨A3 b,true⟩ → Held h x l B.length r0 r →
    ∃ x' h',A6g q m (.c (.f 130 [(r,0)])) (.c (.p r0 0)) (.c (.i .i64 (k:Int))) h=some (.t [],h') ∧ Low B.length B h' ∧ rd h' r=some ⟨[x'],true⟩ ∧ Held h' x' (l ++ M8 b e k) B.length r0 r
  | e,k,0,h,x,l,_,hm,_,_,_,_,_=>by omega
  | 0,k,m + 1,h,x,l,hk,hm,hl,hlow,hr,h0,hd=>by
    have e0:k=7:=by omega
    subst e0
    have c0:¬ ((7:Nat):Int) < 7:=by omega
    refine ⟨x,h,?_,hlow,hr,by rw [M8,List.append_nil];exact hd⟩
    rw [B21]
    simp only [esc,c0] <;> rfl
  | e + 1,k,m + 1,h,x,l,hk,hm,hl,hlow,hr,h0,hd=>by
    have c0:(k:Int) < 7:=by omega
    have hbl:(A3 b).length=256:=by rw [B6,hb]
    have s1:=G1 (h:=h) (id:=r0) h0 hbl
    have hR:=B3i (h:=h) (k:=k) hb (by omega)
    have w1:=F4 (show k + 1 < 9223372036854775808 by omega)
    have hcv:∀ (x:Val) (h:A0),L7 X0 (.c (.f 130 [(r,0)])) [x] h=A3h [x,.c (.p r 0)] h:=fun _ _=>Eq.trans rfl rfl
    rw [B21]
    cases hx:J2 b k with
    | none =>
      rw [hx] at hR
      rw [A7r hx]
      obtain ⟨x',h',f1,f2⟩:=A9L (q:=q) hb h0r hBr hB0 e (k + 1) m (h ++ [some ⟨[.s [],.i .i64 0],true⟩]) x l (by omega) (by omega) (by omega) (hlow.new _) (C0 hr) (C0 h0) (hd.more _)
      refine ⟨x',h',?_,f2⟩
      generalize A3 b=y at *
      simp only [esc,esh,Nat.reduceAdd,Nat.reduceMul,Nat.reduceLT,c0,s1,hR,H0,Option.isSome_none,w1]
      exact f1
    | some en =>
      obtain ⟨s,n⟩:=en
      rw [hx] at hR
      rw [A7s hx]
      have ef:B0 [Cell.i .i64 0,.s [],.i .i64 0] [(0,1,.c (.i .i64 (k:Int))),(1,2,.a [.s s,.i .i64 n])]=some [.i .i64 (k:Int),.s s,.i .i64 n]:=rfl
      obtain ⟨x1,h1,g1,g2,g3,g4,g5⟩:=F8T (k:=k) (n:=n) (s:=s) (hlow.new [some (Row.mk [.s s,.i .i64 n] true)]) (C0 hr) (C0 h0) h0r hBr hB0 (hd.more _) (by omega)
      obtain ⟨x',h',f1,f2,f3,f4⟩:=A9L (q:=q) hb h0r hBr hB0 e (k + 1) m h1 x1 (l ++ [(k,(s,n))]) (by omega) (by omega) (by simp;omega) g2 g3 g4 g5
      rw [List.append_assoc,List.singleton_append] at f4
      refine ⟨x',h',?_,f2,f3,f4⟩
      generalize A3 b=y at *
      simp only [esc,esh,Nat.reduceAdd,Nat.reduceMul,Nat.reduceLT,c0,s1,hR,H0,Option.isSome_some,ef,hcv,g1,w1]
      exact f1
theorem B2l {b:List UInt8} {h:A0} (hb:b.length=256):∃ v t,X6 [.a (A3 b)] h=some (v,h ++ t) ∧ Has (h ++ t) v 3 (G5 b).length (I9 (G5 b)) ∧ (t=[] ∧ v=.c .ns ∧ G5 b=[] ∨ t=[some ⟨I9 (G5 b),true⟩] ∧ v=.c (.sl h.length 0 (G5 b).length 3)):=by
  have key:∀ g,∃ x g',A3e 8 [.a (A3 b)] g=some (.c x,g') ∧ Held g' x (G5 b) g.length (g.length + 3) (g.length + 2):=by
    intro g
    have hbl:(A3 b).length=256:=by rw [B6,hb]
    have emk:V4 130 [.c (.p (g.length + 2) 0)]=some (.c (.f 130 [(g.length + 2,0)])):=rfl
    obtain ⟨x,h',f1,f2,f3,f4⟩:=A9L (b:=b) (r0:=g.length + 3) (r:=g.length + 2) (q:=8) (B:=g) hb (by omega) (by omega) (by omega) 7 0 8 (g ++ [some (Row.mk (A3 b) true),some (Row.mk [] true),some (Row.mk [.ns] true),some (Row.mk (A3 b) true)]) .ns [] (by omega) (by omega) (by simp)
      ((Low.refl (Nat.le_refl _)).new _) (by simp) (by simp) (.inl ⟨rfl,rfl⟩)
    have hS:A3j [.a (A3 b),.c (.f 130 [(g.length + 2,0)])] (g ++ [some (Row.mk (A3 b) true),some (Row.mk [] true),some (Row.mk [.ns] true)])=some (.t [],h'):=by
      refine C7p (n:=8) ?_
      rw [C59]
      simp only [esc,esh,Nat.reduceAdd,Nat.reduceMul,Nat.reduceLT]
      exact f1
    have t1:A8 h' (.c (.p (g.length + 2) 0))=some (.c x):=H8 (cs:=[x]) f3 rfl (by simp)
    rw [C56]
    generalize A3 b=y at *
    exact ⟨x,h',by simp only [esc,esh,Nat.reduceAdd,Nat.reduceMul,Nat.reduceLT,hbl,emk,hS,t1],f4⟩
  obtain ⟨x,g',e,hd⟩:=key (ro h)
  rcases hd with ⟨hl,rfl⟩ | ⟨id,rfl,hr,hbi,_⟩
  · refine ⟨.c .ns,[],?_,?_,.inl ⟨rfl,rfl,hl⟩⟩
    · rw [List.append_nil];exact C7j e (by simp [Val.low,Cell.low,Cell.flat])
    · rw [hl];exact .inl ⟨rfl,rfl,rfl⟩
  · rw [Q5] at hbi
    refine ⟨.c (.sl h.length 0 (G5 b).length 3),[some ⟨I9 (G5 b),true⟩],C7k e ⟨A8f,id,rfl,hbi,hr⟩ H2Y,Has.row (rw:=true) (by simp) A8f G4N,.inr ⟨rfl,rfl⟩⟩
end Go.Proofs.Ytdgggnlbdoiloaa
end
section
namespace Go.Proofs.Ytdgggnlbdoiloaa
open Go Go.Esc
def A8x (h:A0) (x:Cell) (cs:List Cell) (n sz b:Nat) (rs:List Nat):Prop:=(n=0 ∧ cs=[] ∧ x=.ns) ∨ ∃ id,x=.sl id 0 n sz ∧ rd h id=some ⟨cs,true⟩ ∧ cs.length=n * sz ∧ b ≤ id ∧ id ∉ rs
def VarC (h:A0) (r:Nat) (cs:List Cell) (n sz b:Nat) (rs:List Nat):Prop:=∃ x,rd h r=some ⟨[x],true⟩ ∧ A8x h x cs n sz b rs
theorem VarC.nil {h:A0} {r sz b:Nat} {rs:List Nat} (hr:rd h r=some ⟨[.ns],true⟩):VarC h r [] 0 sz b rs:=⟨.ns,hr,.inl ⟨rfl,rfl,rfl⟩⟩
theorem VarC.keep {h h':A0} {r n sz b:Nat} {cs:List Cell} {rs:List Nat} (hv:VarC h r cs n sz b rs) (h1:rd h' r=rd h r) (h2:∀ id,id ∉ rs → ∀ x,rd h id=some x → rd h' id=some x):VarC h' r cs n sz b rs:=by
  obtain ⟨x,hx,hd⟩:=hv
  refine ⟨x,by rw [h1];exact hx,?_⟩
  rcases hd with hd | ⟨id,e,hr,hl,hb,hn⟩
  · exact .inl hd
  · exact .inr ⟨id,e,h2 id hn _ hr,hl,hb,hn⟩
theorem VarC.more {h:A0} {r n sz b:Nat} {cs:List Cell} {rs rs':List Nat} (hv:VarC h r cs n sz b rs) (t:A0) (hrs:∀ j ∈ rs',j ∈ rs ∨ h.length ≤ j):VarC (h ++ t) r cs n sz b rs':=by
  obtain ⟨x,hx,hd⟩:=hv
  refine ⟨x,C0 hx,?_⟩
  rcases hd with hd | ⟨id,e,hr,hl,hb,hn⟩
  · exact .inl hd
  · refine .inr ⟨id,e,C0 hr,hl,hb,fun hm=>?_⟩
    have:=D2 hr
    rcases hrs id hm with h1 | h1
    · exact hn h1
    · omega
theorem VarC.fewer {h:A0} {r n sz b:Nat} {cs:List Cell} {rs rs':List Nat} (hv:VarC h r cs n sz b rs) (hrs:∀ j ∈ rs',j ∈ rs):VarC h r cs n sz b rs':=by
  have:=hv.more (rs':=rs') [] (fun j hj=>.inl (hrs j hj))
  rwa [List.append_nil] at this
theorem VarC.push {h:A0} {r n sz b:Nat} {cs ys:List Cell} {rs:List Nat} (hv:VarC h r cs n sz b rs) (hr:r ∈ rs) (hbr:b ≤ r) (hbh:b ≤ h.length) (hlt:∀ j ∈ rs,j < h.length) (hl:n ≤ 100000) (hy:ys.length=sz) (hsz:0 < sz) :
    ∃ x v h2 h3,A8 h (.c (.p r 0))=some (.c x) ∧ F9 (h ++ [some ⟨ys,true⟩]) sz (.c x) (.c (.sl h.length 0 1 sz))=some (.c v,h2) ∧ E8 h2 (.c (.p r 0)) (.c v)=some h3 ∧
      VarC h3 r (cs ++ ys) (n + 1) sz b rs ∧ Low b h h3 ∧ (∀ j ∈ rs,j ≠ r → rd h3 j=rd h j) ∧ h.length ≤ h3.length:=by
  obtain ⟨x,hx,hd⟩:=hv
  have hrl:=D2 hx
  have l1:A8 h (.c (.p r 0))=some (.c x):=H8 hx rfl (by simp)
  rcases hd with ⟨rfl,rfl,rfl⟩ | ⟨id,rfl,hi,hcl,hb,hn⟩
  · have hA:=B1O (h:=h ++ [some ⟨ys,true⟩]) (jd:=h.length) (m:=1) (sz:=sz) (ys:=ys) (by simp) (by omega) hsz (by omega)
    have e1:(h ++ [some (Row.mk ys true)]).length=h.length + 1:=by simp
    rw [e1] at hA
    have hr2:rd (h ++ [some (Row.mk ys true)] ++ [some (Row.mk ys true)]) r=some ⟨[.ns],true⟩:=C0 (C0 hx)
    have s1:=W6 (x:=.sl (h.length + 1) 0 1 sz) (off:=0) hr2 (by simp)
    refine ⟨.ns,_,_,_,l1,hA,s1,⟨.sl (h.length + 1) 0 1 sz,I6 (D2 hr2),.inr ⟨h.length + 1,rfl,?_,by simp [hy],by omega,fun h1=>by have:=hlt _ h1;omega⟩⟩,(((Low.refl hbh).new _).new _).set hbr _,fun j hj hjr=>?_,by simp⟩
    · rw [G3 (by omega)]
      have:=M9 (h:=h ++ [some (Row.mk ys true)]) (r:=⟨ys,true⟩)
      rw [e1] at this
      exact this
    · rw [G3 (Ne.symm hjr)]
      have:=hlt j hj
      rw [J6 (by simp;omega),J6 this]
  · have hil:=D2 hi
    have hne:id ≠ r:=fun e=>hn (e ▸ hr)
    have hA:=A16 (h:=h ++ [some ⟨ys,true⟩]) (id:=id) (jd:=h.length) (n:=n) (m:=1) (sz:=sz) (cs:=cs) (ys:=ys) (rw:=true) (C0 hi) hcl (by simp) (by omega) rfl hsz (by omega)
    have e1:(h ++ [some (Row.mk ys true)]).length=h.length + 1:=by simp
    rw [e1] at hA
    have hr2:rd ((h ++ [some (Row.mk ys true)]).set id none ++ [some (Row.mk (cs ++ ys) true)]) r=some ⟨[.sl id 0 n sz],true⟩:=by
      refine C0 ?_
      rw [G3 hne];exact C0 hx
    have s1:=W6 (x:=.sl (h.length + 1) 0 (n + 1) sz) (off:=0) hr2 (by simp)
    refine ⟨_,_,_,_,l1,hA,s1,⟨.sl (h.length + 1) 0 (n + 1) sz,I6 (D2 hr2),.inr ⟨h.length + 1,by simp,?_,by simp [hcl,hy,Nat.add_mul],by omega,fun h1=>by have:=hlt _ h1;omega⟩⟩,((((Low.refl hbh).new _).set hb _).new _).set hbr _,fun j hj hjr=>?_,by simp;omega⟩
    · rw [G3 (by omega)]
      have:=M9 (h:=(h ++ [some (Row.mk ys true)]).set id none) (r:=⟨cs ++ ys,true⟩)
      rw [List.length_set,e1] at this
      exact this
    · have hji:j ≠ id:=fun e=>hn (e ▸ hj)
      have:=hlt j hj
      rw [G3 (Ne.symm hjr),J6 (by simp;omega),G3 (Ne.symm hji),J6 this]
def B0V (h:A0) (o:A6) (cs:List Cell) (n sz:Nat):Prop:=∃ v t,o=some (v,h ++ t) ∧ Has (h ++ t) v sz n cs ∧ (t=[] ∧ v=.c .ns ∧ n=0 ∧ cs=[] ∨ t=[some ⟨cs,true⟩] ∧ v=.c (.sl h.length 0 n sz))
theorem C9P {S:Fun} {R:Nat → Fun} {args:List Val} {h g':A0} {N:Nat} {x:Cell} {cs:List Cell} {n sz:Nat} {rs:List Nat}
    (hlow:∀ {n:Nat} {args:List Val} {h h2:A0} {v:Val},R n args (ro h)=some (v,h2) → v.low h.length=true → S args h=some (v,h))
    (hout:∀ {n:Nat} {args:List Val} {h h2:A0} {v:Val} {sz k:Nat} {cs:List Cell},R n args (ro h)=some (v,h2) → Out h.length h2 v sz k cs → D8 cs=true → S args h=some (.c (.sl h.length 0 k sz),h ++ [some ⟨cs,true⟩]))
    (he:R N args (ro h)=some (.c x,g')) (hd:A8x g' x cs n sz h.length rs) (hf:D8 cs=true) (hx:noX cs=true):B0V h (S args h) cs n sz:=by
  rcases hd with ⟨hn,hl,rfl⟩ | ⟨id,rfl,hr,hl,hbi,_⟩
  · refine ⟨.c .ns,[],?_,?_,.inl ⟨rfl,rfl,hn,hl⟩⟩
    · rw [List.append_nil];exact hlow he (by simp [Val.low,Cell.low,Cell.flat])
    · exact .inl ⟨rfl,hn,hl⟩
  · exact ⟨.c (.sl h.length 0 n sz),[some ⟨cs,true⟩],hout he ⟨hl,id,rfl,hbi,hr⟩ hf,Has.row (rw:=true) (by simp) hl hx,.inr ⟨rfl,rfl⟩⟩
end Go.Proofs.Ytdgggnlbdoiloaa
end
section
namespace Go.Proofs.Ytdgggnlbdoiloaa
open Go Go.Esc
abbrev Tld:=Plc × List UInt8
def A0X (no:Int) (l:List Slt):List Tld:=l.map fun s=>((no,s.1,s.2.2),s.2.1)
def Z9 (D:Dev) (L:List Int):List Tld:=L.flatMap fun no=>A0X no (G5 (blk D no))
theorem H2X {l:List Slt}:∀ {i:Nat} {x:Slt},l[i]? = some x → ((I9 l).drop (i * 3)).take 3=slC (some x):=by
  induction l with
  | nil=>intro i x h;simp at h
  | cons y l ih =>
    intro i x h
    have e:I9 (y :: l)=slC (some y) ++ I9 l:=rfl
    cases i with
    | zero=>simp at h;subst h;rw [e];rfl
    | succ i =>
      simp at h
      rw [e,show (i + 1) * 3=3 + i * 3 by omega,← List.drop_drop,List.drop_left' (by rw [A1w])]
      exact ih h
theorem C4j {σ:Type} {L1:Nat → Val → A0 → A6} {L0:A0 → A6} {C:Val → Val → A0 → A6} {no:Int} {id c0:Nat} {l:List Slt} (P:Nat → σ → A0 → Prop) (step:σ → Tld → σ)
    (hL:∀ m x h,L1 (m + 1) x h=bnd (A4 .lss x (.c (.i .i64 (l.length:Nat)))) fun v14=>cnd v14 (bnd (D1 3 (.c (.sl id 0 l.length 3)) x) fun v15=>bnd (A5 h 3 v15) fun v16=>bnd (B1 ((h ++ [some (Row.mk ([.i .i64 0,.s [],.i .i64 0]) true)])) 3 ((.c (.p h.length 0))) v16) fun h17=>bnd (B7 ((.c (.p h.length 0))) 0) fun v18=>bnd (A8 h17 v18) fun v19=>bnd (B7 ((.c (.p h.length 0))) 1) fun v20=>bnd (B7 v20 1) fun v21=>bnd (A8 h17 v21) fun v22=>bnd (B0 ([.i .i64 0,.i .i64 0,.i .i64 0]) [(0,1,.c (.i .i64 no)),(1,1,v19),(2,1,v22)]) fun c23=>bnd (B7 ((.c (.p h.length 0))) 1) fun v24=>bnd (B7 v24 0) fun v25=>bnd (A8 h17 v25) fun v26=>bnd (C (.a c23) v26 h17) fun p27=>bnd (A4 .add x (.c (.i .i64 1))) fun v28=>L1 m v28 p27.2) (L0 h))
    (hI:∀ c s h,P c s h → rd h id=some ⟨I9 l,true⟩)
    (hM:∀ c s h t,P c s h → P c s (h ++ t))
    (hC:∀ c s h x,P c s h → c < c0 + 7 → x ∈ l → ∃ h',C (.a (D9 (some (no,x.1,x.2.2)))) (.c (.s x.2.1)) h=some (.t [],h') ∧ P (c + 1) (step s ((no,x.1,x.2.2),x.2.1)) h') (h62:l.length ≤ 7) :
    ∀ (e i M:Nat) (s:σ) (h:A0),i + e=l.length → e < M → P (c0 + i) s h → ∃ h',L1 M (.c (.i .i64 (i:Int))) h=L0 h' ∧ P (c0 + l.length) ((A0X no (l.drop i)).foldl step s) h'
  | e,i,0,s,h,_,hm,_=>by omega
  | 0,i,M + 1,s,h,hi,hm,hP=>by
    have c1:¬ (i:Int) < (l.length:Nat):=by omega
    refine ⟨h,?_,by rw [List.drop_of_length_le (by omega),show l.length=i by omega];exact hP⟩
    rw [hL]
    simp only [I0,T7,c1,decide_false,A0d]
  | e + 1,i,M + 1,s,h,hi,hm,hP=>by
    have hil:i < l.length:=by omega
    have c1:(i:Int) < (l.length:Nat):=by omega
    have hx:l[i]? = some l[i]:=List.getElem?_eq_getElem hil
    have hr:=hI _ s h hP
    have ad:D1 3 (.c (.sl id 0 l.length 3)) (.c (.i .i64 (i:Int)))=some (.c (.p id (i * 3))):=by rw [K0 hil];simp
    have hmem:l[i] ∈ l:=List.getElem_mem hil
    obtain ⟨⟨kk,s',i'⟩,ex⟩:∃ x,x=l[i]:=⟨_,rfl⟩
    rw [← ex] at hx hmem
    have hsl:=H2X hx
    have hlen:=A8f (l:=l)
    have l3:A5 h 3 (.c (.p id (i * 3)))=some (.a (slC (some (kk,s',i')))):=by rw [A4i hr (by rw [hlen];omega) rfl,hsl]
    have s3:B1 (h ++ [some (Row.mk [Cell.i .i64 0,.s [],.i .i64 0] true)]) 3 (.c (.p h.length 0)) (.a (slC (some (kk,s',i'))))=some (h ++ [some ⟨slC (some (kk,s',i')),true⟩]):=by rw [T9];rfl
    have g0:A8 (h ++ [some (Row.mk (slC (some (kk,s',i'))) true)]) (.c (.p h.length 0))=some (.c (.i .i64 (kk:Int))):=by rw [A05];rfl
    have g1:A8 (h ++ [some (Row.mk (slC (some (kk,s',i'))) true)]) (.c (.p h.length 1))=some (.c (.s s')):=by rw [A05];rfl
    have g2:A8 (h ++ [some (Row.mk (slC (some (kk,s',i'))) true)]) (.c (.p h.length 2))=some (.c (.i .i64 i')):=by rw [A05];rfl
    have ef:B0 [Cell.i .i64 0,.i .i64 0,.i .i64 0] [(0,1,.c (.i .i64 no)),(1,1,.c (.i .i64 (kk:Int))),(2,1,.c (.i .i64 i'))]=some (D9 (some (no,kk,i'))):=rfl
    obtain ⟨h',f1,f2⟩:=hC _ s (h ++ [some ⟨slC (some (kk,s',i')),true⟩]) (kk,s',i') (hM _ _ _ _ hP) (by omega) hmem
    obtain ⟨h'',e1,e2⟩:=C4j P step hL hI hM hC h62 e (i + 1) M _ h' (by omega) (by omega) f2
    have w1:=F4 (show i + 1 < 9223372036854775808 by omega)
    rw [hL,List.drop_eq_getElem_cons hil,← ex]
    refine ⟨h'',?_,e2⟩
    simp only [I0,T7,c1,decide_true,Y2,ad,l3,s3,A88,Nat.add_zero,Nat.zero_add,Nat.reduceAdd,g0,g1,g2,ef,f1,A0H,w1]
    exact e1
theorem B1A {D:Dev} {no:Int} {L:List Int}:Z9 D (no :: L)=A0X no (G5 (blk D no)) ++ Z9 D L:=by simp [Z9]
theorem C0e (b:List UInt8):(G5 b).length ≤ 7:=by
  have:∀ e k,(M8 b e k).length ≤ e:=by
    intro e
    induction e with
    | zero=>intro k;simp [M8]
    | succ e ih =>
      intro k
      have:=ih (k + 1)
      rw [M8]
      split <;> simp <;> omega
  exact this 7 0
theorem A9o {σ:Type} {L0:Nat → Val → A0 → A6} {L1:Nat → Nat → Val → Val → Val → Val → Val → A0 → A6} {C:Val → Val → A0 → A6} {N:Nat} {x3:Val} {D:Dev} {n m:Int} {f:Cell} {sid:Nat} {L:List Int} (hD:okD D) (P:List Nat → Nat → σ → A0 → Prop) (step:σ → Tld → σ) (hN:8 ≤ N)
    (hL0:∀ m x h,L0 (m + 1) x h=bnd (A4 .lss x (.c (.i .i64 (L.length:Nat)))) fun v7=>cnd v7 (bnd (D1 1 (.c (.sl sid 0 L.length 1)) x) fun v8=>bnd (A8 h v8) fun v9=>bnd (A5 h 4 x3) fun v10=>bnd (Q0 [v10,v9] h) fun p11=>bnd (X6 [p11.1] p11.2) fun p12=>bnd (F5 p12.1) fun v13=>L1 m N v9 x p12.1 v13 (.c (.i .i64 0)) p12.2) (D3 [] h))
    (hL1:∀ m0 v9 x v w m y h,L1 m0 (m + 1) v9 x v w y h=bnd (A4 .lss y w) fun v14=>cnd v14 (bnd (D1 3 v y) fun v15=>bnd (A5 h 3 v15) fun v16=>bnd (B1 ((h ++ [some (Row.mk ([.i .i64 0,.s [],.i .i64 0]) true)])) 3 ((.c (.p h.length 0))) v16) fun h17=>bnd (B7 ((.c (.p h.length 0))) 0) fun v18=>bnd (A8 h17 v18) fun v19=>bnd (B7 ((.c (.p h.length 0))) 1) fun v20=>bnd (B7 v20 1) fun v21=>bnd (A8 h17 v21) fun v22=>bnd (B0 ([.i .i64 0,.i .i64 0,.i .i64 0]) [(0,1,v9),(1,1,v19),(2,1,v22)]) fun c23=>bnd (B7 ((.c (.p h.length 0))) 1) fun v24=>bnd (B7 v24 0) fun v25=>bnd (A8 h17 v25) fun v26=>bnd (C (.a c23) v26 h17) fun p27=>bnd (A4 .add y (.c (.i .i64 1))) fun v28=>L1 m0 m v9 x v w v28 p27.2) (bnd (A4 .add x (.c (.i .i64 1))) fun v29=>L0 m0 v29 h))
    (hI:∀ rs c s h,P rs c s h → A5 h 4 x3=some (.a (vwC D.length n m f)) ∧ IsView h f D ∧ rd h sid=some ⟨encI L,true⟩)
    (hR:∀ rs c s h t,P rs c s h → P rs c s (h ++ t))
    (hN1:∀ rs c s h r,P rs c s h → P (h.length :: rs) c s (h ++ [some r]))
    (hF:∀ i rs c s h,P (i :: rs) c s h → P rs c s h)
    (hW:∀ rs c c' s h,P rs c s h → c ≤ c' → P rs c' s h)
    (hC:∀ rs c s h no x,P rs c s h → c < 7 * L.length → no ∈ L → x ∈ G5 (blk D no) → ∃ h',C (.a (D9 (some (no,x.1,x.2.2)))) (.c (.s x.2.1)) h=some (.t [],h') ∧ P rs (c + 1) (step s ((no,x.1,x.2.2),x.2.1)) h' ∧ ∀ j ∈ rs,rd h' j=rd h j)
    (h62:L.length < 1000) :
    ∀ (e i M:Nat) (rs:List Nat) (s:σ) (h:A0),i + e=L.length → e < M → P rs (7 * i) s h → ∃ h',L0 M (.c (.i .i64 (i:Int))) h=some (.t [],h') ∧ P rs (7 * L.length) ((Z9 D (L.drop i)).foldl step s) h'
  | e,i,0,rs,s,h,_,hm,_=>by omega
  | 0,i,M + 1,rs,s,h,hi,hm,hP=>by
    have c0:¬ (i:Int) < (L.length:Nat):=by omega
    refine ⟨h,?_,by rw [List.drop_of_length_le (by omega),show L.length=i by omega];exact hP⟩
    rw [hL0]
    simp only [I0,T7,c0,decide_false,A0d]
    rfl
  | e + 1,i,M + 1,rs,s,h,hi,hm,hP=>by
    have hil:i < L.length:=by omega
    have c0:(i:Int) < (L.length:Nat):=by omega
    obtain ⟨i1,i2,i3⟩:=hI rs _ s h hP
    have hmem:L[i] ∈ L:=List.getElem_mem hil
    have ad:D1 1 (.c (.sl sid 0 L.length 1)) (.c (.i .i64 (i:Int)))=some (.c (.p sid i)):=by rw [K0 hil];simp
    have l1:A8 h (.c (.p sid i))=some (.c (.i .i64 L[i])):=H8 i3 (by rw [V9,List.getElem?_eq_getElem hil];rfl) rfl
    have hB:=A4D (n:=n) (m:=m) (no:=L[i]) hD i2
    obtain ⟨v,t,b1,b2,b3⟩:=B2l (b:=blk D L[i]) (h:=h) (A2T hD)
    have hlen:=b2.len
    have w1:=F4 (show i + 1 < 9223372036854775808 by omega)
    have h7:=C0e (blk D L[i])
    have main:∃ h',L1 M N (.c (.i .i64 L[i])) (.c (.i .i64 (i:Int))) v (.c (.i .i64 ((G5 (blk D L[i])).length:Nat))) (.c (.i .i64 ((0:Nat):Int))) (h ++ t)=bnd (A4 .add (.c (.i .i64 (i:Int))) (.c (.i .i64 1))) (fun v29=>L0 M v29 h') ∧ P rs (7 * (i + 1)) ((A0X L[i] (G5 (blk D L[i]))).foldl step s) h':=by
      rcases b3 with ⟨rfl,rfl,b3⟩ | ⟨rfl,rfl⟩
      · refine ⟨h,?_,by rw [b3];exact hW _ _ _ _ _ hP (by omega)⟩
        obtain ⟨N',rfl⟩:∃ N',N=N' + 1:=⟨N - 1,by omega⟩
        rw [hL1,b3,List.append_nil]
        rfl
      · have hl0:(h ++ [some (Row.mk (I9 (G5 (blk D L[i]))) true)])=h ++ [some ⟨I9 (G5 (blk D L[i])),true⟩]:=rfl
        obtain ⟨h',f1,f2⟩:=C4j (L1:=fun m y h'=>L1 M m (.c (.i .i64 L[i])) (.c (.i .i64 (i:Int))) (.c (.sl h.length 0 (G5 (blk D L[i])).length 3)) (.c (.i .i64 ((G5 (blk D L[i])).length:Nat))) y h') (L0:=fun h'=>bnd (A4 .add (.c (.i .i64 (i:Int))) (.c (.i .i64 1))) (fun v29=>L0 M v29 h')) (C:=C) (no:=L[i]) (id:=h.length) (c0:=7 * i) (l:=G5 (blk D L[i]))
          (fun c s' h'=>P (h.length :: rs) c s' h' ∧ rd h' h.length=some ⟨I9 (G5 (blk D L[i])),true⟩) step (fun m y h'=>hL1 M _ _ _ _ m y h') (fun c s' h' hp=>hp.2) (fun c s' h' t hp=>⟨hR _ _ _ _ _ hp.1,C0 hp.2⟩)
          (fun c s' h' x hp hc hx=>by
            obtain ⟨h2,c1,c2,c3⟩:=hC _ _ _ _ L[i] x hp.1 (by omega) hmem hx
            exact ⟨h2,c1,c2,by rw [c3 h.length (by simp)];exact hp.2⟩) (by omega) (G5 (blk D L[i])).length 0 N s (h ++ [some ⟨I9 (G5 (blk D L[i])),true⟩]) (by omega) (by omega) ⟨hN1 _ _ _ _ _ hP,by simp⟩
        rw [List.drop_zero] at f2
        exact ⟨h',f1,hW _ _ _ _ _ (hF _ _ _ _ _ f2.1) (by omega)⟩
    obtain ⟨h1,m1,m2⟩:=main
    obtain ⟨h',f1,f2⟩:=A9o hD P step hN hL0 hL1 hI hR hN1 hF hW hC h62 e (i + 1) M rs _ h1 (by omega) (by omega) m2
    rw [hL0,List.drop_eq_getElem_cons hil,B1A,List.foldl_append]
    refine ⟨h',?_,f2⟩
    simp only [I0,T7,c0,decide_true,Y2,ad,l1,i1,hB,b1,hlen]
    refine m1.trans ?_
    simp only [A0H,I0,w1]
    exact f1
end Go.Proofs.Ytdgggnlbdoiloaa
end
section
namespace Go.Proofs.Ytdgggnlbdoiloaa
open Go Go.Esc
theorem G1p {a b:List UInt8} {h:A0}:A3I [.c (.s a),.c (.s b)] h=some (.c (.b (F3 a b)),h) :=
  C8B (n:=0) (h2:=ro h) (by rw [C6R];simp only [esc]) rfl
end Go.Proofs.Ytdgggnlbdoiloaa
end
section
namespace Go.Proofs.Ytdgggnlbdoiloaa
section
variable {α:Type} {lt:α → α → Prop}
theorem H12 (tr:∀ a b c,lt a b → lt b c → lt a c) (tot:∀ a b,lt a b ∨ a=b ∨ lt b a) {l:List α} {x:α} {p:Nat} (hl:l.Pairwise lt) (hx:x ∉ l) (h1:∀ y ∈ l.take p,lt y x) (h2:∀ y ∈ l.drop p,¬ lt y x) :
    (l.take p ++ x :: l.drop p).Pairwise lt:=by
  have hl':=hl
  rw [← List.take_append_drop p l] at hl'
  rw [List.pairwise_append] at hl'
  obtain ⟨k1,k2,k3⟩:=hl'
  rw [List.pairwise_append]
  refine ⟨k1,?_,?_⟩
  · rw [List.pairwise_cons]
    refine ⟨fun y hy=>?_,k2⟩
    rcases tot x y with h | h | h
    · exact h
    · subst h;exact absurd (List.mem_of_mem_drop hy) hx
    · exact absurd h (h2 y hy)
  · intro a ha b hb
    rcases List.mem_cons.1 hb with e | hb
    · subst e;exact h1 a ha
    · exact k3 a ha b hb
theorem mem_insert {l:List α} {x y:α} {p:Nat}:y ∈ l.take p ++ x :: l.drop p ↔ y=x ∨ y ∈ l:=by
  have e:y ∈ l ↔ y ∈ l.take p ∨ y ∈ l.drop p:=by rw [← List.mem_append,List.take_append_drop]
  rw [List.mem_append,List.mem_cons,e]
  constructor
  · rintro (h | h | h)
    · exact .inr (.inl h)
    · exact .inl h
    · exact .inr (.inr h)
  · rintro (h | h | h)
    · exact .inr (.inl h)
    · exact .inl h
    · exact .inr (.inr h)
end
end Go.Proofs.Ytdgggnlbdoiloaa
end
section
namespace Go.Proofs.Ytdgggnlbdoiloaa
open Go Go.Esc
theorem A9j:∀ a:List UInt8,F3 a a=false
  | []=>rfl
  | x :: a=>by simp [F3,A9j a,UInt8.lt_irrefl]
theorem A59:∀ {a b c:List UInt8},F3 a b=true → F3 b c=true → F3 a c=true
  | [],[],_,h,_=>by simp [F3] at h
  | [],_ :: _,[],_,h=>by simp [F3] at h
  | [],_ :: _,_ :: _,_,_=>rfl
  | _ :: _,[],_,h,_=>by simp [F3] at h
  | _ :: _,_ :: _,[],_,h=>by simp [F3] at h
  | x :: a,y :: b,z :: c,h1,h2=>by
    simp only [F3,Bool.or_eq_true,Bool.and_eq_true,decide_eq_true_eq,beq_iff_eq] at h1 h2 ⊢
    rcases h1 with h1 | ⟨rfl,h1⟩
    · rcases h2 with h2 | ⟨rfl,h2⟩
      · exact .inl (UInt8.lt_trans h1 h2)
      · exact .inl h1
    · rcases h2 with h2 | ⟨rfl,h2⟩
      · exact .inl h2
      · exact .inr ⟨rfl,A59 h1 h2⟩
theorem B13:∀ a b:List UInt8,F3 a b=true ∨ a=b ∨ F3 b a=true
  | [],[]=>.inr (.inl rfl)
  | [],_ :: _=>.inl rfl
  | _ :: _,[]=>.inr (.inr rfl)
  | x :: a,y :: b=>by
    simp only [F3,Bool.or_eq_true,Bool.and_eq_true,decide_eq_true_eq,beq_iff_eq,List.cons.injEq]
    rcases Nat.lt_trichotomy x.toNat y.toNat with h | h | h
    · exact .inl (.inl (UInt8.lt_iff_toNat_lt.2 h))
    · have e:=UInt8.toNat_inj.1 h
      subst e
      rcases B13 a b with h | h | h
      · exact .inl (.inr ⟨rfl,h⟩)
      · exact .inr (.inl ⟨rfl,h⟩)
      · exact .inr (.inr (.inr ⟨rfl,h⟩))
    · exact .inr (.inr (.inl (UInt8.lt_iff_toNat_lt.2 h)))
end Go.Proofs.Ytdgggnlbdoiloaa
end
section
namespace Go.Proofs.Ytdgggnlbdoiloaa
open Go Go.Esc
def plc (l:List (List UInt8)) (s:List UInt8):Nat → Nat → Nat → Nat
  | 0,lo,_=>lo
  | f + 1,lo,hi=>if lo < hi then (if F3 (l.getD (lo + (hi - lo) / 2) []) s then plc l s f (lo + (hi - lo) / 2 + 1) hi else plc l s f lo (lo + (hi - lo) / 2)) else lo
theorem B0w (l:List (List UInt8)) (s:List UInt8):∀ f lo hi,lo ≤ hi → plc l s f lo hi ≤ hi
  | 0,lo,hi,h=>h
  | f + 1,lo,hi,h=>by
    unfold plc
    split
    · split
      · exact B0w l s f _ hi (by omega)
      · exact Nat.le_trans (B0w l s f lo _ (by omega)) (by omega)
    · exact h
theorem B0x {l:List (List UInt8)} {s:List UInt8} (hl:l.Pairwise fun a b=>F3 a b=true):∀ f lo hi,lo ≤ hi → hi ≤ l.length → hi - lo ≤ f → (∀ i x,i < lo → l[i]? = some x → F3 x s=true) → (∀ i x,hi ≤ i → l[i]? = some x → F3 x s=false) →
    (∀ i x,i < plc l s f lo hi → l[i]? = some x → F3 x s=true) ∧ (∀ i x,plc l s f lo hi ≤ i → l[i]? = some x → F3 x s=false)
  | 0,lo,hi,h,_,hf,h1,h2=>by
    have:hi=lo:=by omega
    subst this
    exact ⟨h1,h2⟩
  | f + 1,lo,hi,h,hh,hf,h1,h2=>by
    unfold plc
    by_cases c:lo < hi
    · rw [if_pos c]
      have hm:lo + (hi - lo) / 2 < hi:=by omega
      have hlo:lo ≤ lo + (hi - lo) / 2:=by omega
      generalize lo + (hi - lo) / 2=mid at *
      have hg:l[mid]? = some (l.getD mid []):=by rw [List.getD_eq_getElem?_getD,List.getElem?_eq_getElem (by omega)];rfl
      have mono:∀ (i j:Nat) (x y:List UInt8),i < j → l[i]? = some x → l[j]? = some y → F3 x y=true:=by
        intro i j x y hij hi hj
        rw [List.pairwise_iff_getElem] at hl
        obtain ⟨a,rfl⟩:=List.getElem?_eq_some_iff.1 hi
        obtain ⟨b,rfl⟩:=List.getElem?_eq_some_iff.1 hj
        exact hl i j a b hij
      cases cb:F3 (l.getD mid []) s with
      | true =>
        rw [if_pos rfl]
        refine B0x hl f (mid + 1) hi (by omega) hh (by omega) (fun i x hi hx=>?_) h2
        by_cases e:i=mid
        · subst e
          rw [hg] at hx
          rw [← Option.some.inj hx];exact cb
        · exact A59 (mono i mid x _ (by omega) hx hg) cb
      | false =>
        rw [if_neg (by simp)]
        refine B0x hl f lo mid (by omega) (by omega) (by omega) h1 (fun i x hi hx=>?_)
        by_cases e:i=mid
        · subst e
          rw [hg] at hx
          rw [← Option.some.inj hx];exact cb
        · cases cx:F3 x s with
          | false=>rfl
          | true=>rw [A59 (mono mid i _ x (by omega) hg hx) cx] at cb;exact cb
    · rw [if_neg c]
      have:hi=lo:=by omega
      subst this
      exact ⟨h1,h2⟩
def W2 (l:List (List UInt8)) (s:List UInt8) (n:Nat):Bool:=decide (l[n]? = some s)
theorem A6M (l:List (List UInt8)) (i:Nat):(encS l)[i]? = (l[i]?).map fun x=>.s x:=by simp [encS]
theorem B0v {v:Val} {nv q:Nat} {l:List (List UInt8)} {s:List UInt8} {h:A0} (hv:Has h v 1 nv (encS l)) (hn:l.length=nv) (h62:nv < 4611686018427387904):∀ f m lo hi:Nat,lo ≤ hi → hi ≤ nv → hi - lo ≤ f → f < m →
    A24 q m v (.c (.s s)) (.c (.i .i64 lo)) (.c (.i .i64 hi)) h=some (.t [.c (.i .i64 (plc l s f lo hi:Nat)),.c (.b (W2 l s (plc l s f lo hi)))],h)
  | f,0,lo,hi,_,_,_,hm=>by omega
  | f,m + 1,lo,hi,h1,h2,hf,hm=>by
    have hlen:=hv.len
    have fin:lo=hi → A24 q (m + 1) v (.c (.s s)) (.c (.i .i64 lo)) (.c (.i .i64 hi)) h=some (.t [.c (.i .i64 lo),.c (.b (W2 l s lo))],h):=by
      intro e
      subst e
      have c0:¬ (lo:Int) < lo:=by omega
      rw [C1g]
      unfold W2
      by_cases c1:lo < nv
      · have c1':(lo:Int) < nv:=by omega
        obtain ⟨id,off,ev,hid,k1,k2⟩:=hv.sl (by omega)
        have hx:=k1 lo (.s l[lo]) (by rw [A6M,List.getElem?_eq_getElem (by omega)];rfl)
        have eb:D1 1 v (.c (.i .i64 (lo:Int)))=some (.c (.p id (off + lo))):=by rw [ev,K0 (by omega)];simp
        have e2:l[lo]? = some l[lo]:=List.getElem?_eq_getElem (by omega)
        rw [e2]
        simp only [esc,hlen,c0,c1',eb,hx]
      · have c1':¬ (lo:Int) < nv:=by omega
        have e2:l[lo]? = none:=List.getElem?_eq_none (by omega)
        rw [e2]
        simp only [esc,hlen,c0,c1',reduceCtorEq]
    cases f with
    | zero =>
      have e:lo=hi:=by omega
      exact fin e
    | succ f =>
      unfold plc
      by_cases c:lo < hi
      · rw [if_pos c]
        have c':(lo:Int) < hi:=by omega
        obtain ⟨id,off,ev,hid,k1,k2⟩:=hv.sl (by omega)
        have w1:IntKind.wrap .i64 ((hi:Int) - lo)=((hi - lo:Nat):Int):=by rw [wrap_i64 (by omega) (by omega)];omega
        have w2:=A8b (a:=((hi - lo:Nat):Int)) (b:=2) (by omega) (by omega) (by omega)
        have w3:((hi - lo:Nat):Int) / 2=(((hi - lo) / 2:Nat):Int):=by omega
        rw [w3] at w2
        have w4:IntKind.wrap .i64 ((lo:Int) + (((hi - lo) / 2:Nat):Int))=((lo + (hi - lo) / 2:Nat):Int):=A0Y (by omega)
        have hm1:lo + (hi - lo) / 2 < hi:=by omega
        have hm2:lo ≤ lo + (hi - lo) / 2:=by omega
        generalize (hi - lo) / 2=d at *
        generalize lo + d=mid at *
        have hx:=k1 mid (.s l[mid]) (by rw [A6M,List.getElem?_eq_getElem (by omega)];rfl)
        have eb:D1 1 v (.c (.i .i64 (mid:Int)))=some (.c (.p id (off + mid))):=by rw [ev,K0 (by omega)];simp
        have eg:l.getD mid []=l[mid]:=by rw [List.getD_eq_getElem?_getD,List.getElem?_eq_getElem (by omega)];rfl
        rw [eg]
        have hL:=fun h=>G1p (a:=l[mid]) (b:=s) (h:=h)
        rw [C1g]
        cases cb:F3 l[mid] s with
        | true =>
          rw [cb] at hL
          have ih:=B0v (q:=q) (s:=s) hv hn h62 f m (mid + 1) hi (by omega) h2 (by omega) (by omega)
          rw [if_pos rfl]
          simp only [esc,hlen,c',w1,w2,w4,eb,hx,hL,F4 (show mid + 1 < 9223372036854775808 by omega)]
          exact ih
        | false =>
          rw [cb] at hL
          have ih:=B0v (q:=q) (s:=s) hv hn h62 f m lo mid hm2 (by omega) (by omega) (by omega)
          rw [if_neg (by simp)]
          simp only [esc,hlen,c',w1,w2,w4,eb,hx,hL]
          exact ih
      · rw [if_neg c]
        exact fin (by omega)
theorem G23 {v:Val} {nv:Nat} {l:List (List UInt8)} {s:List UInt8} {h:A0} (hv:Has h v 1 nv (encS l)) (h62:nv < 4611686018427387904) :
    A2K [v,.c (.s s)] h=some (.t [.c (.i .i64 (plc l s nv 0 nv:Nat)),.c (.b (W2 l s (plc l s nv 0 nv)))],h):=by
  have hn:l.length=nv:=by simpa [A1d] using hv.length
  have key:∀ N,nv < N → ∀ g,Has g v 1 nv (encS l) → ∃ g',A5z N [v,.c (.s s)] g=some (.t [.c (.i .i64 (plc l s nv 0 nv:Nat)),.c (.b (W2 l s (plc l s nv 0 nv)))],g'):=by
    intro N hN g hv
    have e:=B0v (q:=N) (s:=s) hv hn h62 nv N 0 nv (by omega) (by omega) (by omega) hN
    rw [C6T]
    exact ⟨_,by simp only [esc,hv.len];exact e⟩
  obtain ⟨g',e⟩:=key (nv + 1) (by omega) (ro h) hv.ro
  exact C8E e rfl
end Go.Proofs.Ytdgggnlbdoiloaa
end
section
namespace Go.Proofs.Ytdgggnlbdoiloaa
open Go Go.Esc
theorem C4i {id n a:Nat} (ha:a ≤ n):A19 1 (.c (.sl id 0 n 1)) (some (.c (.i .i64 (a:Int)))) none=some (.c (.sl id a (n - a) 1)):=by
  simp only [A19,bound]
  rw [if_pos (by omega)]
  simp only [Option.bind_some,Int.toNat_natCast]
  rw [if_pos ⟨ha,Nat.le_refl _,trivial⟩]
  simp
theorem D59 {H:A0} {id k p:Nat} {out:List (List UInt8)} (hr:rd H id=some ⟨encS (out ++ [[]]),true⟩) (hk:out.length=k) (hp:p ≤ k) :
    ∃ c,A1Z H 1 (.c (.sl id (p + 1) (k - p) 1)) (.c (.sl id p (k + 1 - p) 1))=some (c,H.set id (some ⟨encS ((out ++ [[]]).take (p + 1) ++ out.drop p),true⟩)):=by
  have hl:(encS (out ++ [[]])).length=k + 1:=by rw [A1d];simp [hk]
  have h1:((encS (out ++ [[]])).drop p).take (k + 1 - p)=(encS (out ++ [[]])).drop p:=List.take_of_length_le (by rw [List.length_drop];omega)
  have h2:K4 H 1 (.c (.sl id p (k + 1 - p) 1))=some ((encS (out ++ [[]])).drop p):=by
    simp only [K4,if_true,U4,hr,Option.bind_some,Nat.mul_one,h1]
    rw [if_pos ⟨by omega,by simp⟩]
  have h3:((encS (out ++ [[]])).drop p).length=k + 1 - p:=by rw [List.length_drop];omega
  have h4:Nat.min (k + 1 - p) (k - p)=k - p:=Nat.min_eq_right (by omega)
  have h5:lay (encS (out ++ [[]])) (p + 1) (((encS (out ++ [[]])).drop p).take (k - p))=encS ((out ++ [[]]).take (p + 1) ++ out.drop p):=by
    unfold lay
    have e1:((encS (out ++ [[]])).drop p).take (k - p)=encS (out.drop p):=by
      unfold encS
      rw [List.map_append,List.drop_append_of_le_length (by simp;omega),List.take_append_of_le_length (by simp;omega),List.take_of_length_le (by simp;omega),List.map_drop]
    have e2:(encS (out ++ [[]])).drop (p + 1 + (encS (out.drop p)).length)=[]:=List.drop_of_length_le (by rw [hl,A1d,List.length_drop];omega)
    rw [e1,e2]
    simp only [List.append_nil,encS,List.map_append,List.map_take,List.map_drop]
  refine ⟨.c (.i .i64 ((k - p:Nat):Int)),?_⟩
  simp only [A1Z,h2,Option.bind_some,hr,h3,Nat.div_one,h4,Nat.mul_one,h5]
  rw [if_pos ⟨trivial,by omega,trivial⟩]
end Go.Proofs.Ytdgggnlbdoiloaa
end
section
namespace Go.Proofs.Ytdgggnlbdoiloaa
open Go Go.Esc
abbrev H2:=List (List UInt8)
def atS (o:H2) (s:List UInt8):Nat:=plc o s o.length 0 o.length
def L8 (o:H2) (s:List UInt8):H2:=bif W2 o s (atS o s) then o else o.take (atS o s) ++ s :: o.drop (atS o s)
def H4 (l:H2):H2:=l.foldl L8 []
theorem B1W (o:H2) (s:List UInt8):atS o s ≤ o.length:=B0w o s _ _ _ (Nat.zero_le _)
theorem B9Z (o:H2) (s:List UInt8):(L8 o s).length ≤ o.length + 1:=by
  have:=B1W o s
  unfold L8
  cases W2 o s (atS o s) <;> simp <;> omega
theorem E7v (l:H2):∀ o:H2,(l.foldl L8 o).length ≤ o.length + l.length:=by
  induction l with
  | nil=>intro o;simp
  | cons x l ih =>
    intro o
    have h1:=ih (L8 o x)
    have h2:=B9Z o x
    simp only [List.foldl_cons,List.length_cons] at h1 ⊢
    omega
theorem H23 (l:H2):(H4 l).length ≤ l.length:=by
  have:=E7v l []
  simpa [H4] using this
abbrev Up (l:H2):Prop:=l.Pairwise fun a b=>F3 a b=true
theorem B1X {o:H2} {s:List UInt8} (ho:Up o):(∀ i x,i < atS o s → o[i]? = some x → F3 x s=true) ∧ (∀ i x,atS o s ≤ i → o[i]? = some x → F3 x s=false) :=
  B0x ho o.length 0 o.length (Nat.zero_le _) (Nat.le_refl _) (by omega) (fun i x hi=>by omega) (fun i x hi hx=>by
    have:=(List.getElem?_eq_some_iff.1 hx).1;omega)
theorem B91 {o:H2} {s:List UInt8} (ho:Up o):W2 o s (atS o s)=true ↔ s ∈ o:=by
  unfold W2
  rw [decide_eq_true_eq]
  constructor
  · intro h;exact List.mem_of_getElem? h
  · intro h
    obtain ⟨i,hi⟩:=List.mem_iff_getElem?.1 h
    obtain ⟨h1,h2⟩:=B1X (s:=s) ho
    have hge:atS o s ≤ i:=by
      false_or_by_contra
      have:=h1 i s (by omega) hi
      rw [A9j] at this;cases this
    by_cases e:atS o s=i
    · rw [e];exact hi
    · have hil:=(List.getElem?_eq_some_iff.1 hi).1
      have hg:o[atS o s]? = some o[atS o s]:=List.getElem?_eq_getElem (by omega)
      have k1:=h2 _ _ (Nat.le_refl _) hg
      have k2:F3 o[atS o s] s=true:=by
        obtain ⟨a,ha⟩:=List.getElem?_eq_some_iff.1 hi
        have:=List.pairwise_iff_getElem.1 ho (atS o s) i (by omega) a (by omega)
        rw [ha] at this;exact this
      rw [k1] at k2;cases k2
theorem F8E {o:H2} {s:List UInt8} (ho:Up o):Up (L8 o s) ∧ ∀ x,x ∈ L8 o s ↔ x=s ∨ x ∈ o:=by
  unfold L8
  cases c:W2 o s (atS o s) with
  | true =>
    have hm:=(B91 ho).1 c
    rw [cond_true]
    exact ⟨ho,fun x=>⟨fun h=>.inr h,fun h=>by rcases h with h | h;subst h;exact hm;exact h⟩⟩
  | false =>
    have hm:s ∉ o:=fun h=>by rw [(B91 ho).2 h] at c;cases c
    obtain ⟨h1,h2⟩:=B1X (s:=s) ho
    rw [cond_false]
    refine ⟨H12 (lt:=fun a b=>F3 a b=true) (fun a b c=>A59) (fun a b=>B13 a b) ho hm (fun y hy=>?_) (fun y hy=>?_),fun x=>mem_insert⟩
    · obtain ⟨i,hi⟩:=List.mem_iff_getElem?.1 hy
      have hl:=(List.getElem?_eq_some_iff.1 hi).1
      rw [List.length_take] at hl
      rw [List.getElem?_take_of_lt (by omega)] at hi
      exact h1 i y (by omega) hi
    · obtain ⟨i,hi⟩:=List.mem_iff_getElem?.1 hy
      rw [List.getElem?_drop] at hi
      have:=h2 _ y (by omega) hi
      rw [this];simp
theorem B6S (l:H2):∀ o:H2,Up o → Up (l.foldl L8 o) ∧ ∀ x,x ∈ l.foldl L8 o ↔ x ∈ o ∨ x ∈ l:=by
  induction l with
  | nil=>intro o ho;exact ⟨ho,fun x=>by simp⟩
  | cons y l ih =>
    intro o ho
    obtain ⟨h1,h2⟩:=F8E (s:=y) ho
    obtain ⟨h3,h4⟩:=ih _ h1
    refine ⟨h3,fun x=>?_⟩
    rw [List.foldl_cons,h4,h2,List.mem_cons]
    constructor
    · rintro ((h | h) | h)
      · exact .inr (.inl h)
      · exact .inl h
      · exact .inr (.inr h)
    · rintro (h | h | h)
      · exact .inl (.inr h)
      · exact .inl (.inl h)
      · exact .inr h
theorem C4l (l:H2):Up (H4 l):=(B6S l [] List.Pairwise.nil).1
theorem A8h (l:H2) (x:List UInt8):x ∈ H4 l ↔ x ∈ l:=by
  have:=(B6S l [] List.Pairwise.nil).2 x
  simpa [H4] using this
theorem B0Q {v:Val} {nv q:Nat} {l:H2} {g:A0} (hv:Has g v 1 nv (encS l)) (hn:l.length=nv) (h62:nv < 1073741824):∀ (e i m:Nat) (o:H2) (h:A0) (id:Nat),i + e=nv → e < m → o.length ≤ i → Low g.length g h → g.length ≤ id → rd h id=some ⟨encS o,true⟩ →
    ∃ v2 h2,A7J q m (.c (.sl id 0 o.length 1)) v (.c (.i .i64 nv)) (.c (.i .i64 i)) h=some (v2,h2) ∧ Out g.length h2 v2 1 ((l.drop i).foldl L8 o).length (encS ((l.drop i).foldl L8 o))
  | e,i,0,o,h,id,_,hm,_,_,_,_=>by omega
  | 0,i,m + 1,o,h,id,hi,hm,hol,hlow,hid,hr=>by
    have e0:i=nv:=by omega
    subst e0
    have c0:¬ (i:Int) < i:=by omega
    rw [C1t,List.drop_of_length_le (by omega),List.foldl_nil]
    exact ⟨_,_,by simp only [esc,c0] <;> rfl,by rw [A1d];omega,_,rfl,hid,hr⟩
  | e + 1,i,m + 1,o,h,id,hi,hm,hol,hlow,hid,hr=>by
    have c0:(i:Int) < nv:=by omega
    obtain ⟨jd,off,ev,hjd,k1,k2⟩:=(hv.since hlow).sl (by omega)
    have hx:=k1 i (.s l[i]) (by rw [A6M,List.getElem?_eq_getElem (by omega)];rfl)
    have eb:D1 1 v (.c (.i .i64 (i:Int)))=some (.c (.p jd (off + i))):=by rw [ev,K0 (by omega)];simp
    have hP:=G23 (s:=l[i]) (Has.row (sz:=1) (n:=o.length) hr (by rw [A1d];omega) (C1Y o)) (by omega)
    rw [List.drop_eq_getElem_cons (by omega:i < l.length),List.foldl_cons]
    change A2K _ h=some (.t [.c (.i .i64 (atS o l[i]:Nat)),.c (.b (W2 o l[i] (atS o l[i])))],h) at hP
    have hat:=B1W o l[i]
    rw [C1t]
    generalize hs:l[i]=s at *
    cases c:W2 o s (atS o s) with
    | true =>
      have ei:L8 o s=o:=by unfold L8;rw [c,cond_true]
      rw [c] at hP
      obtain ⟨v2,h2,f1,f2⟩:=B0Q (q:=q) hv hn h62 e (i + 1) m o h id (by omega) (by omega) (by omega) hlow hid hr
      rw [ei]
      refine ⟨v2,h2,?_,f2⟩
      simp only [esc,c0,eb,hx,hP,C1s,F4 (show i + 1 < 9223372036854775808 by omega)]
      exact f1
    | false =>
      have ei:L8 o s=o.take (atS o s) ++ s :: o.drop (atS o s):=by unfold L8;rw [c,cond_false]
      rw [c] at hP
      have il:=B9Z o s
      generalize hp:atS o s=p at *
      obtain ⟨h1,a1,a2,a3,a4,a5⟩:=push (ys:=[.s []]) (sz:=1) (n:=o.length) hlow hr (by rw [A1d];omega) hid rfl (by omega) (by omega)
      have he:encS o ++ [.s []]=encS (o ++ [[]]):=by simp [encS]
      rw [he] at a2
      have ef:B0 [Cell.s []] [(0,1,.c (.s []))]=some [.s []]:=rfl
      have w1:IntKind.wrap .i64 ((p:Int) + 1)=((p + 1:Nat):Int):=F4 (by omega)
      have t1:=C4i (id:=h.length + 1) (n:=o.length + 1) (a:=p + 1) (by omega)
      have t2:=C4i (id:=h.length + 1) (n:=o.length + 1) (a:=p) (by omega)
      rw [show o.length + 1 - (p + 1)=o.length - p by omega] at t1
      obtain ⟨cc,t3⟩:=D59 (H:=h1) (id:=h.length + 1) (k:=o.length) (p:=p) a2 rfl hat
      have t4:D1 1 (.c (.sl (h.length + 1) 0 (o.length + 1) 1)) (.c (.i .i64 (p:Int)))=some (.c (.p (h.length + 1) p)):=by rw [K0 (by omega)];simp
      have hlt:=D2 a2
      have t5:rd (h1.set (h.length + 1) (some ⟨encS ((o ++ [[]]).take (p + 1) ++ o.drop p),true⟩)) (h.length + 1)=some ⟨encS ((o ++ [[]]).take (p + 1) ++ o.drop p),true⟩:=I6 hlt
      have t6:=W6 (x:=.s s) (off:=p) t5 (by rw [A1d,List.length_append,List.length_take,List.length_append];simp;omega)
      have t7:(encS ((o ++ [[]]).take (p + 1) ++ o.drop p)).set p (.s s)=encS (L8 o s):=by
        rw [ei]
        have e1:(o ++ [[]]).take (p + 1)=o.take p ++ [(o ++ [[]])[p]'(by simp;omega)]:=by
          rw [List.take_succ_eq_append_getElem (by simp;omega),List.take_append_of_le_length hat]
        rw [e1]
        unfold encS
        rw [← List.map_set]
        congr 1
        rw [List.append_assoc,List.set_append_right _ _ (by simp;omega),List.length_take,Nat.min_eq_left hat,Nat.sub_self]
        rfl
      rw [List.set_set,t7] at t6
      obtain ⟨v2,h2,f1,f2⟩:=B0Q (q:=q) hv hn h62 e (i + 1) m (L8 o s) (h1.set (h.length + 1) (some ⟨encS (L8 o s),true⟩)) (h.length + 1) (by omega) (by omega) (by omega) (a3.set a4 _) a4 (I6 hlt)
      have el:(L8 o s).length=o.length + 1:=by rw [ei];simp;omega
      rw [el] at f1
      refine ⟨v2,h2,?_,f2⟩
      simp only [esc,c0,eb,hx,hP,ef,a1,w1,t1,t2,t3,t4,t6,C1s,F4 (show i + 1 < 9223372036854775808 by omega)]
      exact f1
theorem G32 {v:Val} {nv:Nat} {l:H2} {h:A0} (hv:Has h v 1 nv (encS l)) (h62:nv < 1073741824) :
    A3J [v] h=some (.c (.sl h.length 0 (H4 l).length 1),h ++ [some ⟨encS (H4 l),true⟩]):=by
  have hn:l.length=nv:=by simpa [A1d] using hv.length
  have key:∀ N,nv < N → ∀ g,Has g v 1 nv (encS l) → ∃ v2 g',A5A N [v] g=some (v2,g') ∧ Out g.length g' v2 1 (H4 l).length (encS (H4 l)):=by
    intro N hN g hv
    obtain ⟨v2,g',f1,f2⟩:=B0Q (q:=N) hv hn h62 nv 0 N [] ((g ++ [some (Row.mk [] true)]) ++ [some (Row.mk [] true)]) (g.length + 1) (by omega) hN (Nat.le_refl _) (((Low.refl (Nat.le_refl _)).new _).new _) (by omega) (by simp [encS])
    rw [List.drop_zero] at f2
    rw [C6U]
    refine ⟨v2,g',?_,f2⟩
    rw [hv.len,I0]
    simpa using f1
  obtain ⟨v2,g',e,ho⟩:=key (nv + 1) (by omega) (ro h) hv.ro
  exact C8H e (by simpa [Q5] using ho) (by simp)
end Go.Proofs.Ytdgggnlbdoiloaa
end
section
namespace Go.Proofs.Ytdgggnlbdoiloaa
open Go Go.Esc
def E1 (l:List Ent):List Cell:=(l.map fun x=>H0 (some x)).flatten
theorem A9O {l:List Ent}:(E1 l).length=l.length * 2:=by
  induction l with
  | nil=>rfl
  | cons x l ih=>simp only [E1,List.map_cons,List.flatten_cons,List.length_append,H0,List.length_cons,List.length_nil] at ih ⊢;omega
theorem E1U {k:Nat} {x:Ent} {r:List Cell}:List.drop ((k + 1) * 2) (H0 (some x) ++ r)=List.drop (k * 2) r:=by
  rw [show (k + 1) * 2=k * 2 + 2 by omega]
  rfl
theorem A9N:∀ (l:List Ent) (k:Nat) (hk:k < l.length),((E1 l).drop (k * 2)).take 2=H0 (some l[k])
  | [],k,hk=>by simp at hk
  | x :: l,0,_=>rfl
  | x :: l,k + 1,hk=>by
    have e:E1 (x :: l)=H0 (some x) ++ E1 l:=rfl
    rw [e,E1U,List.getElem_cons_succ]
    exact A9N l k (by simpa using hk)
def F1 (l:List Ent) (k:Nat):Ent:=l.getD k ([],0)
theorem A6N {l:List Ent} {k:Nat} (hk:k < l.length):F1 l k=l[k]:=by simp [F1,List.getD,hk]
def F7 (l:List Ent):Nat → List UInt8
  | 0=>hdB
  | k + 1=>C7 (F7 l k) (G7 k) (K6 (F1 l k).1 (F1 l k).2)
theorem A1q {l:List Ent}:∀ k,k ≤ 7 → (F7 l k).length=256
  | 0,_=>A95
  | k + 1,hk=>by rw [F7,Y6 (by rw [A1q k (by omega),A35];unfold G7;omega)];exact A1q k (by omega)
def atX (b nm:List UInt8):Nat:=match J5 b nm with
  | some x=>x.1
  | none=>0
theorem H2W {o:Option Slt}:(slC o)[0]? = some (.i .i64 ((match o with | some x=>x.1 | none=>0:Nat):Int)):=by cases o <;> rfl
def A25 (l:List Ent) (k:Nat):Bool:=decide (atX (F7 l l.length) (F1 l k).1=k)
def A0R (l:List Ent):Bool:=(List.range' 0 l.length).all (A25 l)
def A0h (l:List Ent):Bool:=l.all fun x=>A1o x.1 x.2
theorem C1V {v:Val} {nv q:Nat} {l:List Ent} {B:A0} {g:Nat} (hv:Has B v 2 nv (E1 l)) (hn:l.length=nv) (h7:nv ≤ 7) (hg:rd B g=some ⟨A3 (zeros 256),true⟩):∀ (e k m:Nat) (h:A0),k + e=nv → e < m → Low B.length B h → rd h B.length=some ⟨A3 (F7 l nv),true⟩ →
    ∃ h',A6e q m (.c (.p g 0)) (.c (.p B.length 0)) v (.c (.i .i64 (nv:Int))) (.c (.i .i64 (k:Int))) h=some (.t [.a (A3 (bif (List.range' k e).all (A25 l) then F7 l nv else zeros 256)),.c (.i .i64 (bif (List.range' k e).all (A25 l) then 0 else 5))],h')
  | e,k,0,h,_,hm,_,_=>by omega
  | 0,k,m + 1,h,hk,hm,hlow,hr=>by
    have e0:k=nv:=by omega
    subst e0
    have c0:¬ (k:Int) < k:=by omega
    have hL:(A3 (F7 l k)).length=256:=by rw [B6];exact A1q k h7
    have hz:(A3 (zeros 256)).length=256:=by rw [B6];exact zeros_length
    have hrg:=hlow.rd hg
    have s1:=G1 hr hL
    have s2:=storeAll (xs:=A3 (F7 l k)) hrg hz hL
    have s3:=G1 (h:=h.set g (some ⟨A3 (F7 l k),true⟩)) (id:=g) (I6 (D2 hrg)) hL
    rw [B2w,List.range'_zero,List.all_nil,cond_true,cond_true]
    generalize A3 (F7 l k)=y at *
    exact ⟨_,by simp only [esc,c0,s1,s2,s3] <;> rfl⟩
  | e + 1,k,m + 1,h,hk,hm,hlow,hr=>by
    have c0:(k:Int) < nv:=by omega
    have hL:(A3 (F7 l nv)).length=256:=by rw [B6];exact A1q nv h7
    have hvB:Has h v 2 nv (E1 l):=by
      refine hv.low hlow fun id off m he=>?_
      rcases hv with ⟨rfl,_⟩ | ⟨id',off',r',rfl,hrd,_⟩
      · cases he
      · cases he;exact D2 hrd
    obtain ⟨id,off,ev,hid,k1,k2⟩:=hvB.sl (by omega)
    have eb:D1 2 v (.c (.i .i64 (k:Int)))=some (.c (.p id (off + k * 2))):=by rw [ev,K0 (by omega)]
    have hld:=k2 (k * 2) 2 (by rw [A9O];omega)
    rw [A9N l k (by omega),← A6N (by omega)] at hld
    have w1:=F4 (show k + 1 < 9223372036854775808 by omega)
    have hF:=fun h=>B2b (b:=F7 l nv) (nm:=(F1 l k).1) (h:=h) (A1q nv h7)
    have s1:=fun t=>G1 (h:=h ++ t) (C0 hr) hL
    have hat:(slC (J5 (F7 l nv) (F1 l k).1))[0]? = some (.i .i64 (atX (F7 l nv) (F1 l k).1:Nat)):=H2W
    have hSl:=A1w (o:=J5 (F7 l nv) (F1 l k).1)
    rw [B2w,List.range'_succ,List.all_cons]
    have hon:A25 l k=decide (atX (F7 l nv) (F1 l k).1=k):=by unfold A25;rw [hn]
    rw [hon]
    generalize slC (J5 (F7 l nv) (F1 l k).1)=S at *
    generalize atX (F7 l nv) (F1 l k).1=A at *
    obtain ⟨h',ih⟩:=C1V (q:=q) hv hn h7 hg e (k + 1) m (h ++ [some (Row.mk (H0 (some (F1 l k))) true),some (Row.mk S true)]) (by omega) (by omega) (hlow.new _) (C0 hr)
    simp only [H0] at *
    by_cases c:A=k
    · subst c
      rw [decide_eq_true rfl,Bool.true_and]
      refine ⟨h',?_⟩
      generalize A3 (F7 l nv)=y at *
      simp only [esc,esh,Nat.reduceAdd,Nat.reduceMul,Nat.reduceLT,c0,eb,hld,s1,hF,hat,hSl,w1]
      exact ih
    · rw [decide_eq_false c,Bool.false_and,cond_false,cond_false]
      have c':¬ (A:Int)=k:=by omega
      have hz:(A3 (zeros 256)).length=256:=by rw [B6];exact zeros_length
      have hrg:=fun t:A0=>C0 (g:=t) (hlow.rd hg)
      have haf:B0 (List.replicate 256 (Cell.i .u8 0)) []=some (List.replicate 256 (Cell.i .u8 0)):=rfl
      rw [K2] at haf
      have s2:=fun t=>storeAll (xs:=A3 (zeros 256)) (hrg t) hz hz
      have s3:=fun t=>G1 (h:=(h ++ t).set g (some ⟨A3 (zeros 256),true⟩)) (id:=g) (I6 (D2 (hrg t))) hz
      rw [K2]
      generalize zeros 256=z at *
      generalize A3 (F7 l nv)=y at *
      exact ⟨_,by simp only [esc,esh,Nat.reduceAdd,Nat.reduceMul,Nat.reduceLT,c0,eb,hld,s1,hF,hat,hSl,c',haf,s2,s3] <;> rfl⟩
theorem C1U {v:Val} {nv q:Nat} {l:List Ent} {B:A0} {g:Nat} (hv:Has B v 2 nv (E1 l)) (hn:l.length=nv) (h7:nv ≤ 7) (hs:∀ x ∈ l,x.1.length ≤ 60) (hg:rd B g=some ⟨A3 (zeros 256),true⟩) (hq:nv < q):∀ (e k m:Nat) (h:A0),k + e=nv → e < m → Low B.length B h → rd h B.length=some ⟨A3 (F7 l k),true⟩ →
    ∃ h',A6d q m v (.c (.p g 0)) (.c (.p B.length 0)) v (.c (.i .i64 (nv:Int))) (.c (.i .i64 (k:Int))) h=some (.t [.a (A3 (bif A0h (l.drop k) && A0R l then F7 l nv else zeros 256)),.c (.i .i64 (bif A0h (l.drop k) then (bif A0R l then 0 else 5) else 1))],h')
  | e,k,0,h,_,hm,_,_=>by omega
  | 0,k,m + 1,h,hk,hm,hlow,hr=>by
    have e0:k=nv:=by omega
    subst e0
    have c0:¬ (k:Int) < k:=by omega
    have hvB:Has h v 2 k (E1 l):=by
      refine hv.low hlow fun id off m he=>?_
      rcases hv with ⟨rfl,_⟩ | ⟨id',off',r',rfl,hrd,_⟩
      · cases he
      · cases he;exact D2 hrd
    obtain ⟨h',e⟩:=C1V (q:=q) hv hn h7 hg k 0 q h (by omega) hq hlow hr
    have em:A0h (l.drop k)=true:=by rw [List.drop_of_length_le (by omega)];rfl
    have eo:(List.range' 0 k).all (A25 l)=A0R l:=by unfold A0R;rw [hn]
    rw [eo] at e
    rw [B2v,em,Bool.true_and,cond_true]
    exact ⟨h',by simp only [esc,c0,hvB.len];exact e⟩
  | e + 1,k,m + 1,h,hk,hm,hlow,hr=>by
    have c0:(k:Int) < nv:=by omega
    have hNl:=A1q (l:=l) k (by omega)
    have hL:(A3 (F7 l k)).length=256:=by rw [B6];exact hNl
    have hvB:Has h v 2 nv (E1 l):=by
      refine hv.low hlow fun id off m he=>?_
      rcases hv with ⟨rfl,_⟩ | ⟨id',off',r',rfl,hrd,_⟩
      · cases he
      · cases he;exact D2 hrd
    obtain ⟨id,off,ev,hid,k1,k2⟩:=hvB.sl (by omega)
    have eb:D1 2 v (.c (.i .i64 (k:Int)))=some (.c (.p id (off + k * 2))):=by rw [ev,K0 (by omega)]
    have hld:=k2 (k * 2) 2 (by rw [A9O];omega)
    rw [A9N l k (by omega),← A6N (by omega)] at hld
    have w1:=F4 (show k + 1 < 9223372036854775808 by omega)
    have hsk:(F1 l k).1.length ≤ 60:=by rw [A6N (by omega)];exact hs _ (List.getElem_mem _)
    have hM:=fun h=>B3d (s:=(F1 l k).1) (n:=(F1 l k).2) (h:=h) (by omega)
    have hW:=fun h=>B3y (s:=(F1 l k).1) (n:=(F1 l k).2) (h:=h) (by omega)
    have hF:=fun h=>A9n (k:=k) (h:=h) (by omega)
    have hmd:A0h (l.drop k)=(A1o (F1 l k).1 (F1 l k).2 && A0h (l.drop (k + 1))):=by
      rw [List.drop_eq_getElem_cons (by omega:k < l.length),A6N (by omega)];rfl
    have hEl:(K6 (F1 l k).1 (F1 l k).2).length=32:=A35
    have hLy:=B0r (v:=.c (.sl (h.length + 1) 0 32 1)) (nv:=32) (data:=K6 (F1 l k).1 (F1 l k).2) (l:=F7 l k) (h:=h ++ [some (Row.mk (H0 (some (F1 l k))) true),some (Row.mk (A3 (K6 (F1 l k).1 (F1 l k).2)) true)]) (Has.row (rw:=true) (by simp) (by rw [B6,A35]) (R3 _)) hNl (by rw [hEl];omega) (a:=(G7 k:Nat))
    have elay:P5 (F7 l k) (G7 k:Nat) (K6 (F1 l k).1 (F1 l k).2)=F7 l (k + 1):=by
      unfold P5
      have:G7 k < 256:=by unfold G7;omega
      rw [if_pos ⟨by omega,by omega⟩,Int.toNat_natCast,List.take_of_length_le (by rw [hEl];unfold G7;omega)]
      rfl
    rw [elay] at hLy
    have hq2:quiet (h ++ [some (Row.mk (H0 (some (F1 l k))) true)]) (some (.c (.sl (h.length + 1) 0 32 1),h ++ [some (Row.mk (H0 (some (F1 l k))) true),some (Row.mk (A3 (K6 (F1 l k).1 (F1 l k).2)) true)]))=_:=H1W
    have hrk:∀ t:A0,rd (h ++ t) B.length=some ⟨A3 (F7 l k),true⟩:=fun t=>C0 hr
    have s1:=fun t=>G1 (h:=h ++ t) (hrk t) hL
    have hN1:(A3 (F7 l (k + 1))).length=256:=by rw [B6];exact A1q (k + 1) (by omega)
    have s2:=fun t=>storeAll (h:=h ++ t) (xs:=A3 (F7 l (k + 1))) (hrk t) hL hN1
    obtain ⟨h',ih⟩:=C1U (q:=q) hv hn h7 hs hg hq e (k + 1) m ((h ++ [some (Row.mk (H0 (some (F1 l k))) true),some (Row.mk (A3 (K6 (F1 l k).1 (F1 l k).2)) true)]).set B.length (some ⟨A3 (F7 l (k + 1)),true⟩)) (by omega) (by omega) ((hlow.new _).set (Nat.le_refl _) _) (I6 (D2 (hrk _)))
    rw [B2v,hmd]
    generalize K6 (F1 l k).1 (F1 l k).2=E at *
    simp only [H0] at *
    cases cm:A1o (F1 l k).1 (F1 l k).2 with
    | true =>
      rw [cm] at hM
      rw [Bool.true_and]
      refine ⟨h',?_⟩
      generalize A3 (F7 l (k + 1))=y1 at *
      generalize A3 (F7 l k)=y at *
      simp only [esc,esh,Nat.reduceAdd,Nat.reduceMul,Nat.reduceLT,c0,eb,hld,hM,hF,hW,hq2,s1,hLy,s2,w1]
      exact ih
    | false =>
      rw [cm] at hM
      rw [Bool.false_and,Bool.false_and,cond_false,cond_false]
      have hz:(A3 (zeros 256)).length=256:=by rw [B6];exact zeros_length
      have hrg:=fun t:A0=>C0 (g:=t) (hlow.rd hg)
      have haf:B0 (List.replicate 256 (Cell.i .u8 0)) []=some (List.replicate 256 (Cell.i .u8 0)):=rfl
      rw [K2] at haf
      have s2:=fun t=>storeAll (xs:=A3 (zeros 256)) (hrg t) hz hz
      have s3:=fun t=>G1 (h:=(h ++ t).set g (some ⟨A3 (zeros 256),true⟩)) (id:=g) (I6 (D2 (hrg t))) hz
      rw [K2]
      generalize zeros 256=z at *
      exact ⟨_,by simp only [esc,esh,Nat.reduceAdd,Nat.reduceMul,Nat.reduceLT,c0,eb,hld,hM,haf,s2,s3] <;> rfl⟩
def A1p (l:List Ent):Int:=if 7 < l.length then 11 else if A0h l=true then (if A0R l=true then 0 else 5) else 1
def U2 (l:List Ent):List UInt8:=if A1p l=0 then F7 l l.length else zeros 256
theorem A7K {l:List Ent}:(U2 l).length=256:=by
  unfold U2
  split
  · rename_i h
    refine A1q _ ?_
    false_or_by_contra
    unfold A1p at h
    rw [if_pos (by omega)] at h
    omega
  · exact zeros_length
theorem B2u {v:Val} {nv:Nat} {l:List Ent} {h:A0} (hv:Has h v 2 nv (E1 l)) (hs:∀ x ∈ l,x.1.length ≤ 60):A2J [v] h=some (.t [.a (A3 (U2 l)),.c (.i .i64 (A1p l))],h):=by
  have hn:l.length=nv:=by have:=hv.length;rw [A9O] at this;omega
  have key:∀ g,Has g v 2 nv (E1 l) → ∃ g',A4Z 8 [v] g=some (.t [.a (A3 (U2 l)),.c (.i .i64 (A1p l))],g'):=by
    intro g hv
    have hz:(A3 (zeros 256)).length=256:=by rw [B6];exact zeros_length
    have hd:(A3 hdB).length=256:=by rw [B6];exact A95
    have hl:=hv.len
    have hH:=fun h=>D4t (h:=h)
    rw [C57,K2]
    by_cases c:7 < nv
    · have c0:(7:Int) < nv:=by omega
      have e1:A1p l=11:=by unfold A1p;rw [if_pos (by omega)]
      have e2:U2 l=zeros 256:=by unfold U2;rw [e1,if_neg (by omega)]
      have haf:B0 (List.replicate 256 (Cell.i .u8 0)) []=some (List.replicate 256 (Cell.i .u8 0)):=rfl
      rw [K2] at haf
      rw [e1,e2]
      generalize zeros 256=z at *
      exact ⟨_,by simp only [esc,esh,Nat.reduceAdd,Nat.reduceMul,Nat.reduceLT,hl,c0,haf,hz] <;> rfl⟩
    · have c0:¬ (7:Int) < nv:=by omega
      obtain ⟨h',e⟩:=C1U (q:=8) (B:=g ++ [some (Row.mk (A3 (zeros 256)) true)]) (g:=g.length) (hv.more _) hn (by omega) hs (by simp) (by omega) nv 0 8 (g ++ [some (Row.mk (A3 (zeros 256)) true),some (Row.mk (A3 (F7 l 0)) true)]) (by omega) (by omega)
        (by have:=(Low.refl (h:=g ++ [some (Row.mk (A3 (zeros 256)) true)]) (Nat.le_refl _)).new [some (Row.mk (A3 (F7 l 0)) true)]
            simpa using this) (by simp)
      have e1:A1p l=(bif A0h l then (bif A0R l then 0 else 5) else 1):=by
        unfold A1p
        rw [if_neg (by omega)]
        cases A0h l <;> cases A0R l <;> simp
      have e2:U2 l=(bif A0h l && A0R l then F7 l nv else zeros 256):=by
        unfold U2
        rw [e1,← hn]
        cases A0h l <;> cases A0R l <;> simp
      rw [List.drop_zero,← e1,← e2] at e
      rw [show F7 l 0=hdB from rfl] at e
      simp only [List.length_append,List.length_cons,List.length_nil,Nat.zero_add] at e
      refine ⟨h',?_⟩
      generalize U2 l=R at *
      generalize hdB=H at *
      generalize zeros 256=z at *
      simp only [esc,esh,Nat.reduceAdd,Nat.reduceMul,Nat.reduceLT,hl,c0,hH,hz,hd]
      exact e
  obtain ⟨g',e⟩:=key (ro h) hv.ro
  exact C7l e (by simp)
end Go.Proofs.Ytdgggnlbdoiloaa
end
