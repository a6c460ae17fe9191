/- What the proof of this claim leans on, part 6. -/
import Derived.Test.YtdgggnlbdoiloaaGreatFDreadLooksp5
set_option linter.all false
section
namespace Go.Proofs.YtdgggnlbdoiloaaGreat
open Go Go.Esc
theorem J37 {n:Int} {h:A0}:A4z [.c (.i .i64 n)] h=some (.c (.b (S2 n)),h):=by
  refine D4X (n:=0) (h2:=ro h) ?_ rfl
  rw [D2Q]
  unfold S2
  by_cases c:0 ≤ n
  · simp only [esc,c,Bool.true_and]
  · simp only [esc,c,Bool.false_and]
theorem D7a {h:A0} {id n m:Nat} {cs:List Cell} (hr:rd h id=some ⟨cs,true⟩) (hl:cs.length=n) (hn:n + m ≤ 1073741824) :
    A2P h 1 [.i .u8 0] (.c (.sl id 0 n 1)) (.c (.i .i64 (m:Int)))=some (.c (.sl h.length 0 (n + m) 1),h.set id none ++ [some ⟨cs ++ A3 (zeros m),true⟩]):=by
  have hm:Y9 (.c (.i .i64 (m:Int)))=some m:=by simp only [Y9];rw [if_pos (by omega)];simp
  have hz:=A5E m
  simp only [A2P,hm,Option.bind_some,hr,hz]
  rw [if_pos ⟨trivial,trivial,by omega,trivial,hn⟩]
theorem D0b {d:Int} {t:List Int} {g:A0} {q:Nat} (ht:t.length=32):∀ (e i m:Nat) (h:A0) (id:Nat),i + e=32 → e < m → Low (g ++ [some (Row.mk (encI (d :: t)) true)]).length (g ++ [some (Row.mk (encI (d :: t)) true)]) h → (g ++ [some (Row.mk (encI (d :: t)) true)]).length ≤ id → rd h id=some ⟨A3 (J9 d ++ I4 (t.take i)),true⟩ →
    ∃ j h',A8I q m (.c (.p g.length 0)) (.c (.sl id 0 (32 + 2 * i) 1)) (.c (.i .i64 (i:Int))) h=some (.t [.c (.sl j 0 (bif (t.drop i).all S2 then 256 else 0) 1),.c (.b ((t.drop i).all S2))],h') ∧
      Out g.length h' (.c (.sl j 0 (bif (t.drop i).all S2 then 256 else 0) 1)) 1 (bif (t.drop i).all S2 then 256 else 0) (A3 (bif (t.drop i).all S2 then I1 d t else []))
  | e,i,0,h,id,_,hm,_,_,_=>by omega
  | 0,i,m + 1,h,id,hi,hm,hlow,hid,hr=>by
    have e0:i=32:=by omega
    subst e0
    have c0:¬ ((32:Nat):Int) < 32:=by omega
    have mk:U4 (.c (.i .i64 256)) (.c (.i .i64 256))=some 256:=rfl
    have rz:=A5E 256
    have zl:(zeros 256).length=256:=zeros_length
    rw [List.take_of_length_le (by omega)] at hr
    have hnl:(J9 d ++ I4 t).length=96:=by rw [List.length_append,A3Q,A3W];omega
    have hL:=C9T (h:=h ++ [some (Row.mk (A3 (zeros 256)) true)]) (v:=.c (.sl h.length 0 256 1)) (nv:=256) (l:=zeros 256) (u:=.c (.sl id 0 (32 + 2 * 32) 1)) (nu:=32 + 2 * 32) (data:=J9 d ++ I4 t) (Has.tr (by simp) (by rw [B4];exact zeros_length) (I3 _)) (Has.tr (C8 hr) (by rw [B4,hnl]) (I3 _)) (a:=0) (by omega) (by omega)
    have eL:S8 (zeros 256) 0 (J9 d ++ I4 t)=I1 d t:=by
      have h1:=C5X (l:=zeros 256) (xs:=J9 d ++ I4 t) (a:=0) (by omega)
      have h2:=A9W (l:=[]) (xs:=J9 d ++ I4 t) (a:=0) (by simp) (by omega)
      rw [show ((0:Nat):Int)=0 from rfl] at h1
      rw [h1,← B2w,h2,List.length_nil,Nat.sub_self,show zeros 0=[] from rfl,List.append_nil,List.nil_append];rfl
    rw [eL,zl] at hL
    have hil:=A5o (d:=d) ht
    rw [C1z,List.drop_of_length_le (by omega),List.all_nil]
    simp only [cond_true]
    rw [List.length_append] at hid
    have hll:=hlow.2.1
    rw [List.length_append] at hll
    simp only [List.length_cons,List.length_nil] at hll hid
    refine ⟨h.length + 1,h ++ [some (Row.mk (A3 (zeros 256)) true),some (Row.mk (A3 (I1 d t)) true)],?_,by rw [B4,hil],_,rfl,by omega,by simp⟩
    generalize I1 d t=P at *
    generalize zeros 256=z at *
    simp only [esc] at hL
    simp only [esc,esh,Nat.reduceAdd,Nat.reduceMul,Nat.reduceLT,c0,mk,rz,hL]
  | e + 1,i,m + 1,h,id,hi,hm,hlow,hid,hr=>by
    have c0:(i:Int) < 32:=by omega
    have hrd:rd h g.length=some ⟨encI (d :: t),true⟩:=hlow.rd (by simp)
    have a1:=adX (id:=g.length) (i:=i) (by omega)
    have l1:=ldX (h:=h) (id:=g.length) hrd ht (i:=i) (by omega)
    have et:toX t i=t[i]:=by unfold toX;rw [List.getD_eq_getElem?_getD,List.getElem?_eq_getElem (by omega)];rfl
    rw [et] at l1
    have hF:=fun h=>J37 (n:=t[i]) (h:=h)
    rw [C1z,List.drop_eq_getElem_cons (by omega:i < t.length),List.all_cons]
    have hll:=hlow.2.1
    rw [List.length_append] at hll
    simp only [List.length_cons,List.length_nil] at hll
    cases c:S2 t[i] with
    | false =>
      rw [c] at hF
      rw [Bool.false_and]
      simp only [cond_false]
      refine ⟨h.length,h ++ [some (Row.mk [] true)],?_,rfl,_,rfl,by omega,by simp [A3]⟩
      generalize encI (d :: t)=y at *
      simp only [esc,c0,a1,l1,hF]
    | true =>
      rw [c] at hF
      rw [Bool.true_and]
      have hnl:(J9 d ++ I4 (t.take i)).length=32 + 2 * i:=by rw [List.length_append,A3Q,A3W,List.length_take];omega
      have hb:=fun h=>A7N (w:=2) (v:=t[i]) (h:=h) (by omega)
      simp only [Int.cast_ofNat_Int] at hb
      obtain ⟨h1',b1,b2,b3,b4,b5⟩:=J3R (ys:=A3 (B5 2 t[i])) (m:=2) (sz:=1) (n:=32 + 2 * i) hlow hr (by rw [B4,hnl];omega) hid (by simp [B4]) (by omega) (by omega)
      rw [← W3,List.append_assoc,← C7M,← List.take_succ_eq_append_getElem (by omega)] at b2
      obtain ⟨j,h',f1,f2⟩:=D0b (q:=q) ht e (i + 1) m h1' (h.length + 1) (by omega) (by omega) b3 b4 b2
      rw [show 32 + 2 * (i + 1)=32 + 2 * i + 2 by omega] at f1
      refine ⟨j,h',?_,f2⟩
      generalize encI (d :: t)=y at *
      simp only [esc,c0,a1,l1,hF,hb,b1,E6 (show i + 1 < 9223372036854775808 by omega)]
      exact f1
theorem J4a {d:Int} {t:List Int} {h:A0} (ht:t.length=32):A4C [.a (encI (d :: t))] h=some (.t [.c (.sl h.length 0 (bif okX d t then 256 else 0) 1),.c (.b (okX d t))],h ++ [some ⟨A3 (bif okX d t then I1 d t else []),true⟩]):=by
  have key:∀ N,32 < N → ∀ g,∃ j g',A6A N [.a (encI (d :: t))] g=some (.t [.c (.sl j 0 (bif okX d t then 256 else 0) 1),.c (.b (okX d t))],g') ∧ Out g.length g' (.c (.sl j 0 (bif okX d t then 256 else 0) 1)) 1 (bif okX d t then 256 else 0) (A3 (bif okX d t then I1 d t else [])):=by
    intro N hN g
    have l0:(encI (d :: t))[0]? = some (.i .i64 d):=rfl
    rw [D2T]
    unfold okX
    by_cases c1:d < 0
    · rw [decide_eq_false (show ¬ 0 ≤ d by omega),Bool.false_and]
      simp only [cond_false]
      refine ⟨g.length + 2,g ++ [some (Row.mk (encI (d :: t)) true),some (Row.mk [] true),some (Row.mk [] true)],?_,rfl,_,rfl,by omega,by simp [A3]⟩
      generalize encI (d :: t)=y at *
      simp only [esc,esh,Nat.reduceAdd,Nat.reduceMul,Nat.reduceLT,l0,c1]
    · rw [decide_eq_true (show 0 ≤ d by omega),Bool.true_and]
      by_cases c2:5 < d
      · rw [decide_eq_false (show ¬ d ≤ 5 by omega),Bool.false_and]
        simp only [cond_false]
        refine ⟨g.length + 2,g ++ [some (Row.mk (encI (d :: t)) true),some (Row.mk [] true),some (Row.mk [] true)],?_,rfl,_,rfl,by omega,by simp [A3]⟩
        generalize encI (d :: t)=y at *
        simp only [esc,esh,Nat.reduceAdd,Nat.reduceMul,Nat.reduceLT,l0,c1,c2]
      · rw [decide_eq_true (show d ≤ 5 by omega),Bool.true_and]
        have ef:B0 [Cell.i .u8 0,.i .u8 0,.i .u8 0,.i .u8 0] [(0,1,.c (.i .u8 105)),(1,1,.c (.i .u8 100)),(2,1,.c (.i .u8 120)),(3,1,.c (.i .u8 33))]=some (A3 magX):=rfl
        have b0:IntKind.wrap .u8 d=((byI d 0).toNat:Int):=by rw [B0l,A2Z];simp
        have ef1:B0 [Cell.i .u8 0] [(0,1,.c (.i .u8 ((byI d 0).toNat:Int)))]=some (A3 (B5 1 d)):=rfl
        have hM:O3 (g ++ [some (Row.mk (encI (d :: t)) true),some (Row.mk [] true),some (Row.mk (A3 magX) true)]) (.c (.sl (g.length + 2) 0 4 1))=some (.c (.sl (g.length + 2) 0 4 1)):=by simp [O3]
        have hA:=R9 (h:=g ++ [some (Row.mk (encI (d :: t)) true),some (Row.mk [] true),some (Row.mk (A3 magX) true),some (Row.mk (A3 (B5 1 d)) true)]) (id:=g.length + 2) (jd:=g.length + 3) (n:=4) (m:=1) (sz:=1) (cs:=A3 magX) (ys:=A3 (B5 1 d)) (rw:=true) (by simp) rfl (by simp) (by simp [B4]) rfl (by omega) (by omega)
        simp only [List.length_append,List.length_cons,List.length_nil,Nat.zero_add,List.append_assoc,List.cons_append,List.nil_append,A16,List.set_cons_succ,List.set_cons_zero,Nat.reduceAdd,← W3] at hA
        have hZ:=D7a (h:=g ++ [some (Row.mk (encI (d :: t)) true),some (Row.mk [] true),none,some (Row.mk (A3 (B5 1 d)) true),some (Row.mk (A3 (magX ++ B5 1 d)) true)]) (id:=g.length + 4) (n:=5) (m:=27) (cs:=A3 (magX ++ B5 1 d)) (by simp) (by rw [B4];simp [magX]) (by omega)
        simp only [List.length_append,List.length_cons,List.length_nil,Nat.zero_add,List.append_assoc,List.cons_append,List.nil_append,A16,List.set_cons_succ,List.set_cons_zero,Nat.reduceAdd,← W3] at hZ
        rw [show ((27:Nat):Int)=27 from rfl] at hZ
        obtain ⟨j,g',f1,f2⟩:=D0b (g:=g) (d:=d) (t:=t) (q:=N) ht 32 0 N (g ++ [some (Row.mk (encI (d :: t)) true),some (Row.mk [] true),none,some (Row.mk (A3 (B5 1 d)) true),none,some (Row.mk (A3 (magX ++ (B5 1 d ++ zeros 27))) true)]) (g.length + 5) (by omega) hN
          (by have:=(Low.refl (h:=g ++ [some (Row.mk (encI (d :: t)) true)]) (Nat.le_refl _)).new [some (Row.mk [] true),none,some (Row.mk (A3 (B5 1 d)) true),none,some (Row.mk (A3 (magX ++ (B5 1 d ++ zeros 27))) true)]
              simpa using this) (by simp) (by simp [J9,I4])
        rw [List.drop_zero] at f1 f2
        refine ⟨j,g',?_,f2⟩
        generalize magX ++ (B5 1 d ++ zeros 27)=P3 at *
        generalize magX ++ B5 1 d=P2 at *
        generalize A3 (B5 1 d)=P1 at *
        generalize A3 magX=mg at *
        generalize encI (d :: t)=y at *
        simp only [esc,esh,Nat.reduceAdd,Nat.reduceMul,Nat.reduceLT,l0,c1,c2,ef,hM,b0,ef1,hA,hZ]
        exact f1
  obtain ⟨j,g',e,ho⟩:=key (h.length + 33) (by omega) (ro h)
  exact D44 e (by simpa [L6] using ho) (by simp) rfl
theorem C97 {d:Int} {t:List Int} {ix iz q:Nat} {h:A0} (ht:t.length=32) (hx:rd h ix=some ⟨encI (d :: t),true⟩) (hz:rd h iz=some ⟨encI (0 :: zI 32),true⟩):∀ e i m:Nat,i + e=32 → e < m →
    ∃ h',A8E q m (.c (.p iz 0)) (.c (.p ix 0)) (.c (.i .i64 (i:Int))) h=some (.t [.a (encI (bif T0 t i e then d :: t else 0 :: zI 32)),.c (.b (T0 t i e))],h')
  | e,i,0,_,hm=>by omega
  | 0,i,m + 1,hi,hm=>by
    have e0:i=32:=by omega
    subst e0
    have c0:¬ ((32:Nat):Int) < 32:=by omega
    have hX:=I6 (d:=d) ht
    have hZ:(encI (0 :: zI 32)).length=33:=I6 (d:=0) K7
    have s1:=G9 (h:=h) (id:=ix) hx hX
    have s2:=storeAll (h:=h) (id:=iz) (xs:=encI (d :: t)) hz hZ hX
    have s3:=G9 (h:=h.set iz (some ⟨encI (d :: t),true⟩)) (id:=iz) (I5 (D5 hz)) hX
    have er:T0 t 32 0=true:=rfl
    rw [C07,er,cond_true]
    generalize encI (d :: t)=y at *
    exact ⟨_,by simp only [esc,c0,s1,s2,s3] <;> rfl⟩
  | e + 1,i,m + 1,hi,hm=>by
    obtain ⟨h',ih⟩:=C97 (q:=q) ht hx hz e (i + 1) m (by omega) (by omega)
    have c0:(i:Int) < 32:=by omega
    have hZ:(encI (0 :: zI 32)).length=33:=I6 (d:=0) K7
    have a1:=adX (id:=ix) (i:=i) (by omega)
    have l1:=ldX (h:=h) (id:=ix) hx ht (i:=i) (by omega)
    have haf:B0 (encI (0 :: zI 32)) []=some (encI (0 :: zI 32)):=rfl
    have s2:=storeAll (h:=h) (id:=iz) (xs:=encI (0 :: zI 32)) hz hZ hZ
    have s3:=G9 (h:=h.set iz (some ⟨encI (0 :: zI 32),true⟩)) (id:=iz) (I5 (D5 hz)) hZ
    have er:T0 t i (e + 1)=(decide (toX t i=0) && T0 t (i + 1) e):=by unfold T0;rw [List.range'_succ,List.all_cons]
    rw [C07,er,Z3]
    by_cases c:toX t i=0
    · rw [decide_eq_true c,Bool.true_and]
      rw [c] at l1
      generalize encI (0 :: zI 32)=z at *
      exact ⟨h',by simp only [esc,c0,a1,l1,E6 (show i + 1 < 9223372036854775808 by omega)];exact ih⟩
    · rw [decide_eq_false c,Bool.false_and,cond_false]
      generalize encI (0 :: zI 32)=z at *
      exact ⟨_,by simp only [esc,c0,a1,l1,c,haf,s2,s3] <;> rfl⟩
theorem J2i {d:Int} {t:List Int} (h:okX d t=true):0 ≤ d ∧ d ≤ 5:=by
  unfold okX at h
  simp only [Bool.and_eq_true,decide_eq_true_eq] at h
  exact ⟨h.1,h.2.1⟩
theorem C96 {v:Val} {nv:Nat} {b:List UInt8} {g:A0} {q:Nat} (hb:b.length=256) (hv:Has g v 1 nv (A3 b)) (hq:32 < q):∀ e i m:Nat,i + e=32 → e < m →
    ∃ h',A8D q m v (.c (.p g.length 0)) (.c (.p (g.length + 1) 0)) (.c (.i .i64 (i:Int))) (g ++ [some (Row.mk (encI (0 :: zI 32)) true),some (Row.mk (encI (getD b :: D1 b i)) true)]) =
      some (.t [.a (encI (bif I8 b then getD b :: D1 b 32 else 0 :: zI 32)),.c (.b (I8 b))],h')
  | e,i,0,_,hm=>by omega
  | 0,i,m + 1,hi,hm=>by
    have e0:i=32:=by omega
    subst e0
    have c0:¬ ((32:Nat):Int) < 32:=by omega
    have ht:=A3P (b:=b) (n:=32) (Nat.le_refl _)
    have hX:=I6 (d:=getD b) ht
    have hZ:(encI (0 :: zI 32)).length=33:=I6 (d:=0) K7
    have hP:=J4a (d:=getD b) (t:=D1 b 32) (h:=g ++ [some (Row.mk (encI (0 :: zI 32)) true),some (Row.mk (encI (getD b :: D1 b 32)) true)]) ht
    simp only [List.length_append,List.length_cons,List.length_nil,Nat.zero_add,List.append_assoc,List.cons_append,List.nil_append] at hP
    have haf:B0 (encI (0 :: zI 32)) []=some (encI (0 :: zI 32)):=rfl
    have hm32:=A3T (getD b)
    unfold I8
    rw [C06,Z3]
    cases co:okX (getD b) (D1 b 32) with
    | false =>
      rw [co] at hP
      simp only [cond_false] at hP
      rw [Bool.false_and,cond_false]
      generalize encI (0 :: zI 32)=z at *
      generalize encI (getD b :: D1 b 32)=y at *
      exact ⟨_,by simp only [esc,esh,Nat.reduceAdd,Nat.reduceMul,Nat.reduceLT,c0,hX,hP,haf,hZ] <;> rfl⟩
    | true =>
      rw [co] at hP
      simp only [cond_true] at hP
      rw [Bool.true_and]
      have hil:=A5o (d:=getD b) ht
      have l0:(encI (getD b :: D1 b 32))[0]? = some (.i .i64 (getD b)):=rfl
      have hS:=A95 (l:=I1 (getD b) (D1 b 32)) (r:=b) (h:=g ++ [some (Row.mk (encI (0 :: zI 32)) true),some (Row.mk (encI (getD b :: D1 b 32)) true),some (Row.mk (A3 (I1 (getD b) (D1 b 32))) true)]) (v:=.c (.sl (g.length + 2) 0 256 1)) (u:=v) (nv:=256) (nu:=nv) (Has.row (rw:=true) (by simp) (by rw [B4,hil]) (I3 _)) (hv.more _) (by omega)
      by_cases ce:I1 (getD b) (D1 b 32)=b
      · rw [decide_eq_true ce,Bool.true_and]
        rw [decide_eq_true ce] at hS
        have hd:=J2i co
        have hPw:=fun h=>J39 (k:=M8 (getD b)) (h:=h) (by have:=A5j (getD b);omega)
        rw [B6k hd.1 hd.2] at hPw
        rw [show 2 ^ M8 (getD b)=G0 (getD b) from rfl] at hPw
        obtain ⟨h',e⟩:=C97 (d:=getD b) (t:=D1 b 32) (ix:=g.length + 1) (iz:=g.length) (q:=q) (h:=g ++ [some (Row.mk (encI (0 :: zI 32)) true),some (Row.mk (encI (getD b :: D1 b 32)) true),some (Row.mk (A3 (I1 (getD b) (D1 b 32))) true)]) ht (by simp) (by simp) (32 - G0 (getD b)) (G0 (getD b)) q (by omega) (by omega)
        refine ⟨h',?_⟩
        generalize T0 (D1 b 32) (G0 (getD b)) (32 - G0 (getD b))=R at *
        generalize encI (getD b :: D1 b 32)=Y at *
        generalize I1 (getD b) (D1 b 32)=I at *
        generalize encI (0 :: zI 32)=z at *
        simp only [esc,esh,Nat.reduceAdd,Nat.reduceMul,Nat.reduceLT,c0,hX,hP,hS,l0,hPw]
        exact e
      · rw [decide_eq_false ce,Bool.false_and,cond_false]
        rw [decide_eq_false ce] at hS
        generalize I1 (getD b) (D1 b 32)=I at *
        generalize encI (0 :: zI 32)=z at *
        generalize encI (getD b :: D1 b 32)=y at *
        exact ⟨_,by simp only [esc,esh,Nat.reduceAdd,Nat.reduceMul,Nat.reduceLT,c0,hX,hP,hS,haf,hZ] <;> rfl⟩
  | e + 1,i,m + 1,hi,hm=>by
    obtain ⟨h',ih⟩:=C96 (q:=q) hb hv hq e (i + 1) m (by omega) (by omega)
    have c0:(i:Int) < 32:=by omega
    have ht:=A3P (b:=b) (n:=i) (by omega)
    have hX:=I6 (d:=getD b) ht
    have hA:=fun l=>A5D (hv.more l) hb (a:=((32 + 2 * i:Nat):Int)) (w:=2)
    have ea:=A7A (b:=b) (a:=32 + 2 * i) (w:=2) (by omega) (by omega) (by omega)
    rw [show ((2:Nat):Int)=2 from rfl] at ea
    rw [ea] at hA
    have w1:IntKind.wrap .i64 (2 * (i:Int))=((2 * i:Nat):Int):=by rw [wrap_i64 (by omega) (by omega)];omega
    have w2:IntKind.wrap .i64 (32 + ((2 * i:Nat):Int))=((32 + 2 * i:Nat):Int):=by rw [wrap_i64 (by omega) (by omega)];omega
    have a1:=adX (id:=g.length + 1) (i:=i) (by omega)
    have hs:(encI (getD b :: D1 b i)).set (1 + i) (.i .i64 (fieldN b (32 + 2 * i) 2))=encI (getD b :: D1 b (i + 1)):=by rw [B8k,C3g (by omega)];rfl
    have hlt:1 + i < (encI (getD b :: D1 b i)).length:=by rw [hX];omega
    rw [C06]
    generalize I8 b=G at *
    generalize getD b :: D1 b 32=Y at *
    generalize encI (getD b :: D1 b (i + 1))=y1 at *
    generalize encI (getD b :: D1 b i)=y at *
    generalize encI (0 :: zI 32)=z at *
    refine ⟨h',?_⟩
    simp only [esc,esh,Nat.reduceAdd,Nat.reduceMul,Nat.reduceLT,c0,w1,w2,hA,a1,hlt,hs,E6 (show i + 1 < 9223372036854775808 by omega)]
    exact ih
theorem J38 {v:Val} {nv:Nat} {b:List UInt8} {h:A0} (hb:b.length=256) (hv:Has h v 1 nv (A3 b)):A4A [v] h=some (.t [.a (encI (bif I8 b then getD b :: D1 b 32 else 0 :: zI 32)),.c (.b (I8 b))],h):=by
  have key:∀ N,32 < N → ∀ g,Has g v 1 nv (A3 b) → ∃ g',A6z N [v] g=some (.t [.a (encI (bif I8 b then getD b :: D1 b 32 else 0 :: zI 32)),.c (.b (I8 b))],g'):=by
    intro N hN g hv
    have hZ:(encI (0 :: zI 32)).length=33:=I6 (d:=0) K7
    have hA:=fun l=>A5D (hv.more l) hb (a:=4) (w:=1)
    have ea:=A7A (b:=b) (a:=4) (w:=1) (by omega) (by omega) (by omega)
    rw [show ((4:Nat):Int)=4 from rfl,show ((1:Nat):Int)=1 from rfl] at ea
    rw [ea] at hA
    have ef:B0 (encI (0 :: zI 32)) [(0,1,.c (.i .i64 (fieldN b 4 1)))]=some (encI (getD b :: D1 b 0)):=by
      have e1:(0 + 1 ≤ (encI (0 :: zI 32)).length):=by rw [hZ];omega
      simp only [B0,cells?]
      rw [if_pos ⟨rfl,e1⟩]
      rfl
    have hX:=I6 (d:=getD b) (A3P (b:=b) (n:=0) (by omega))
    obtain ⟨h',e⟩:=C96 (g:=g) (q:=N) hb hv hN 32 0 N (by omega) hN
    rw [D2R,Z3]
    generalize I8 b=G at *
    generalize getD b :: D1 b 32=Y at *
    generalize encI (getD b :: D1 b 0)=y at *
    generalize encI (0 :: zI 32)=z at *
    exact ⟨h',by simp only [esc,esh,Nat.reduceAdd,Nat.reduceMul,Nat.reduceLT,hZ,hA,ef,hX];exact e⟩
  obtain ⟨g',e⟩:=key (h.length + 33) (by omega) (ro h) hv.ro
  refine D4Z e ?_
  cases I8 b <;> simp
end Go.Proofs.YtdgggnlbdoiloaaGreat
end
section
namespace Go.Proofs.YtdgggnlbdoiloaaGreat
open Go Go.Esc
theorem C99 {x k q:Nat} {b:Int} {h:A0} (hx:x < 4294967296) (hk:(k:Int)=max 0 (min b 32)):∀ e i m:Nat,i + e=k → e < m →
    A8q q m (.c (.i .u64 (x:Int))) (.c (.i .i64 b)) (.c (.i .u64 ((2 ^ i:Nat):Int))) (.c (.i .i64 (i:Int))) h=some (.c (.i .i64 ((x % 2 ^ k:Nat):Int)),h)
  | e,i,0,_,hm=>by omega
  | 0,i,m + 1,hi,hm=>by
    have e0:i=k:=by omega
    subst e0
    have hp0:0 < 2 ^ i:=Nat.pow_pos (by omega)
    have hm2:x % 2 ^ i ≤ x:=Nat.mod_le _ _
    rw [B9s]
    generalize 2 ^ i=s at *
    have e1:A4 .rem (.c (.i .u64 (x:Int))) (.c (.i .u64 (s:Int)))=some (.c (.i .u64 ((x % s:Nat):Int))):=by rw [A35 (a:=(x:Int)) (b:=(s:Int)) (by omega) (by omega)];simp
    have w1:IntKind.wrap .i64 ((x % s:Nat):Int)=((x % s:Nat):Int):=wrap_i64 (by omega) (by omega)
    generalize x % s=y at *
    by_cases c1:(i:Int) < b
    · have c2:¬ (i:Int) < 32:=by omega
      simp only [esc,c1,c2,e1,w1]
    · simp only [esc,c1,e1,w1]
  | e + 1,i,m + 1,hi,hm=>by
    have ih:=C99 (q:=q) (h:=h) hx hk e (i + 1) m (by omega) (by omega)
    have c1:(i:Int) < b:=by omega
    have c2:(i:Int) < 32:=by omega
    have hp:2 ^ i ≤ 2 ^ 32:=Nat.pow_le_pow_right (by omega) (by omega)
    have w1:IntKind.wrap .u64 (((2 ^ i:Nat):Int) * 2)=((2 ^ (i + 1):Nat):Int):=by
      rw [Nat.pow_succ]
      generalize 2 ^ i=y at hp ⊢
      rw [wrap_u64 (by omega) (by omega)];omega
    rw [B9s]
    generalize ((2 ^ (i + 1):Nat):Int)=y1 at *
    generalize ((2 ^ i:Nat):Int)=y at *
    simp only [esc,c1,c2,w1,E6 (show i + 1 < 9223372036854775808 by omega)]
    exact ih
theorem J30 {x:Nat} {b:Int} {h:A0} (hx:x < 4294967296):A4q [.c (.i .u64 (x:Int)),.c (.i .i64 b)] h=some (.c (.i .i64 (A0I x b:Nat)),h):=by
  have e:=C99 (q:=33) (b:=b) (h:=ro h) (k:=(max 0 (min b 32)).toNat) hx (by omega) (max 0 (min b 32)).toNat 0 33 (by omega) (by omega)
  have e2:x % 2 ^ (max 0 (min b 32)).toNat=A0I x b:=by
    unfold A0I
    by_cases c1:b < 1
    · have:(max 0 (min b 32)).toNat=0:=by omega
      rw [if_pos c1,this];simp [Nat.mod_one]
    · rw [if_neg c1]
      by_cases c2:32 ≤ b
      · have:(max 0 (min b 32)).toNat=32:=by omega
        rw [if_pos c2,this]
        exact Nat.mod_eq_of_lt (by omega)
      · have:(max 0 (min b 32)).toNat=b.toNat:=by omega
        rw [if_neg c2,this]
  rw [e2] at e
  exact D4A (n:=33) (h2:=ro h) (by rw [D2C];exact e) rfl
end Go.Proofs.YtdgggnlbdoiloaaGreat
end
section
namespace Go.Proofs.YtdgggnlbdoiloaaGreat
open Go Go.Esc
theorem B0l {a:Int}:IntKind.wrap .u8 a=a % 256:=by
  simp only [IntKind.wrap,IntKind.bits,IntKind.signed,Bool.false_and]
  rfl
end Go.Proofs.YtdgggnlbdoiloaaGreat
end
noncomputable section
namespace Go.Proofs.YtdgggnlbdoiloaaGreat
open Go Go.Esc
set_option maxRecDepth 100000
def C1V:List AOper:=[aO 4 (.nilrow 1)]
def G52:ACode:=.ops C1V
def C1W:List AOper:=[aO 5 (.mv (.t 1)),aO 6 (.bin .lss (.t 5) (.v (.c (.i .i64 0)))),aO 7 (.mv (.t 6)),{ dst:=some 8,op:=.mv (.t 1),guard:=some (7,false) },{ dst:=some 9,op:=.mv (.t 0),guard:=some (7,false) },{ dst:=some 10,op:=.len (.t 9),guard:=some (7,false) },{ dst:=some 11,op:=.bin .geq (.t 8) (.t 10),guard:=some (7,false) },aO 12 (.pick (.t 7) (.v (.c (.b true))) (.t 11))]
def G54:ACode:=.ops C1W
def C1X:List AOper:=[aO 13 (.mkSl 1 ([.i .u8 0]) (.v (.c (.i .i64 256))) (.v (.c (.i .i64 256)))),aO 4 (.mv (.t 13))]
def G56:ACode:=.ops C1X
def G58:ACode:=.seq [4] G56 .ret
def G6a:ACode:=.cond (.t 12) G58 .skip
def G6c:ACode:=.seq [0,1,12] G54 G6a
def C1Y:List AOper:=[aO 14 (.mv (.t 0)),aO 15 (.mv (.t 1)),aO 16 (.iAddrL 256 (.t 14) (.t 15)),aO 17 (.slA 256 1 (.t 16) none none),aO 4 (.mv (.t 17))]
def G6e:ACode:=.ops C1Y
def G6g:ACode:=.seq [4] G6e .ret
def G6i:ACode:=.seq [0,1] G6c G6g
def G6k:ACode:=.seq [0,1] G52 G6i
def A_er22_Block:AFn:=⟨G6k,[.tmp 4]⟩
def A3p:B6:=C1
def G53 (n:Nat):SmV:=A2 A3p C1V
def G55 (n:Nat):SmV:=A2 A3p C1W
def G57 (n:Nat):SmV:=A2 A3p C1X
def G59 (n:Nat):SmV:=A1 [4] (G57 n) A8
def G6b (n:Nat):SmV:=B8 (.t 12) (G59 n) C0
def G6d (n:Nat):SmV:=A1 [0,1,12] (G55 n) (G6b n)
def G6f (n:Nat):SmV:=A2 A3p C1Y
def G6h (n:Nat):SmV:=A1 [4] (G6f n) A8
def G6j (n:Nat):SmV:=A1 [0,1] (G6d n) (G6h n)
def G6l (n:Nat):SmV:=A1 [0,1] (G53 n) (G6j n)
def B0M (n:Nat) (args:List Val) (h:A0):A6:=(G6l n) A_er22_Block.fin (params 0 args) h
theorem D2W (n:Nat) (a0 a1:Val) (h:A0):B0M n [a0,a1] h=bnd (A4 .lss a1 (.c (.i .i64 0))) fun v1=>bnd (gd v1 false (some (a1,(h ++ [some (Row.mk ([]) true)]))) (some (.no,(h ++ [some (Row.mk ([]) true)])))) fun p2=>bnd (gd v1 false (some (a0,p2.2)) (some (.no,p2.2))) fun p3=>bnd (gd v1 false (bnd (F5 p3.1) fun v4=>some (v4,p3.2)) (some (.no,p3.2))) fun p5=>bnd (gd v1 false (bnd (A4 .geq p2.1 p5.1) fun v6=>some (v6,p5.2)) (some (.no,p5.2))) fun p7=>bnd (C5 v1 (.c (.b true)) p7.1) fun v8=>cnd v8 (bnd (U4 (.c (.i .i64 256)) (.c (.i .i64 256))) fun n9=>some (((.c (.sl p7.2.length 0 n9 1))),(p7.2 ++ [some (Row.mk (rows ([.i .u8 0]) n9) true)]))) (bnd (D0 256 a0 a1) fun v10=>bnd (O4 p7.2 256 1 v10 none none) fun v11=>some (v11,p7.2)):=by kernel_rfl
theorem K_er22_Block:FnK Tryz.prog 23 A_er22_Block A3p B0M:=.mk' (C3) Tryz.func23 (by kernel_rfl) (by intro n args h;kernel_rfl)
def A1A:Fun:=tidy (Lim A_er22_Block A3p)
theorem B3n:SOk Tryz.prog 23 A1A:=K_er22_Block.sok
theorem D48 {n:Nat} {args:List Val} {h h2:A0} {v:Val} (he:B0M n args (ro h)=some (v,h2)) (hf:v.low h.length=true):A1A args h=some (v,h):=K_er22_Block.low he hf
def C1Z:List AOper:=[aO 4 (.box (.t 1)),aO 5 (.box (.t 2)),aO 6 (.alloc ([.i .i64 0] ++ List.replicate 32 (.i .i64 0))),aO 7 (.mv (.v (.c (.b false))))]
def G6m:ACode:=.ops C1Z
def C10:List AOper:=[aO 8 (.fAddr (.t 5) 0),aO 9 (.load1 (.t 8)),aO 10 (.bin .neq (.t 9) (.v (.c (.i .i64 2)))),aO 11 (.mv (.t 10)),{ dst:=some 12,op:=.loadN 3 (.t 4),guard:=some (11,false) },{ dst:=some 13,op:=.fAddr (.t 5) 4,guard:=some (11,false) },{ dst:=some 14,op:=.iAddrA 6 1 (.t 13) (.v (.c (.i .i64 0))),guard:=some (11,false) },{ dst:=some 15,op:=.load1 (.t 14),guard:=some (11,false) },{ dst:=some 16,op:=.call 33 [(.t 12),(.t 15)],guard:=some (11,false) },{ dst:=some 17,op:=.un .not (.t 16),guard:=some (11,false) },aO 18 (.pick (.t 11) (.v (.c (.b true))) (.t 17))]
def G6o:ACode:=.ops C10
def C11:List AOper:=[aO 19 (.build ([.i .i64 0] ++ List.replicate 32 (.i .i64 0)) []),{ dst:=none,op:=.storeN 33 (.t 6) (.t 19) },aO 7 (.mv (.v (.c (.b false))))]
def G6q:ACode:=.ops C11
def G6s:ACode:=.seq [6,7] G6q .ret
def G6u:ACode:=.cond (.t 18) G6s .skip
def G6w:ACode:=.seq [0,5,6,18] G6o G6u
def C12:List AOper:=[aO 20 (.mv (.t 0)),aO 21 (.fAddr (.t 5) 4),aO 22 (.iAddrA 6 1 (.t 21) (.v (.c (.i .i64 0)))),aO 23 (.load1 (.t 22)),aO 24 (.call 23 [(.t 20),(.t 23)]),aO 25 (.call 79 [(.t 24)]),aO 26 (.ext (.t 25) 0),aO 27 (.ext (.t 25) 1),{ dst:=none,op:=.storeN 33 (.t 6) (.t 26) },aO 7 (.mv (.t 27))]
def G6y:ACode:=.ops C12
def G6A:ACode:=.seq [6,7] G6y .ret
def G6C:ACode:=.seq [0,5,6] G6w G6A
def G6E:ACode:=.seq [0,4,5,6] G6m G6C
def A_er22_Index:AFn:=⟨G6E,[.cellN 6 33,.tmp 7]⟩
def A3q:B6:=B1 33 A2A (B1 23 A1A (B1 79 A4A C1))
def G6n (n:Nat):SmV:=A2 A3q C1Z
def G6p (n:Nat):SmV:=A2 A3q C10
def G6r (n:Nat):SmV:=A2 A3q C11
def G6t (n:Nat):SmV:=A1 [6,7] (G6r n) A8
def G6v (n:Nat):SmV:=B8 (.t 18) (G6t n) C0
def G6x (n:Nat):SmV:=A1 [0,5,6,18] (G6p n) (G6v n)
def G6z (n:Nat):SmV:=A2 A3q C12
def G6B (n:Nat):SmV:=A1 [6,7] (G6z n) A8
def G6D (n:Nat):SmV:=A1 [0,5,6] (G6x n) (G6B n)
def G6F (n:Nat):SmV:=A1 [0,4,5,6] (G6n n) (G6D n)
def A6D (n:Nat) (args:List Val) (h:A0):A6:=(G6F n) A_er22_Index.fin (params 0 args) h
theorem D2X (n:Nat) (a0 a1 a2:Val) (h:A0):A6D n [a0,a1,a2] h=bnd (cells? a1) fun c1=>bnd (cells? a2) fun c2=>bnd (B9 ((.c (.p ((h ++ [some (Row.mk (c1) true)])).length 0))) 0) fun v3=>bnd (A9 ((((h ++ [some (Row.mk (c1) true)]) ++ [some (Row.mk (c2) true)]) ++ [some (Row.mk ([.i .i64 0] ++ List.replicate 32 (.i .i64 0)) true)])) v3) fun v4=>bnd (A4 .neq v4 (.c (.i .i64 2))) fun v5=>bnd (gd v5 false (bnd (A5 ((((h ++ [some (Row.mk (c1) true)]) ++ [some (Row.mk (c2) true)]) ++ [some (Row.mk ([.i .i64 0] ++ List.replicate 32 (.i .i64 0)) true)])) 3 ((.c (.p h.length 0)))) fun v6=>some (v6,(((h ++ [some (Row.mk (c1) true)]) ++ [some (Row.mk (c2) true)]) ++ [some (Row.mk ([.i .i64 0] ++ List.replicate 32 (.i .i64 0)) true)]))) (some (.no,(((h ++ [some (Row.mk (c1) true)]) ++ [some (Row.mk (c2) true)]) ++ [some (Row.mk ([.i .i64 0] ++ List.replicate 32 (.i .i64 0)) true)])))) fun p7=>bnd (gd v5 false (bnd (B9 ((.c (.p ((h ++ [some (Row.mk (c1) true)])).length 0))) 4) fun v8=>some (v8,p7.2)) (some (.no,p7.2))) fun p9=>bnd (gd v5 false (bnd (D7 6 1 p9.1 (.c (.i .i64 0))) fun v10=>some (v10,p9.2)) (some (.no,p9.2))) fun p11=>bnd (gd v5 false (bnd (A9 p11.2 p11.1) fun v12=>some (v12,p11.2)) (some (.no,p11.2))) fun p13=>bnd (gd v5 false (bnd (A2A [p7.1,p13.1] p13.2) fun p14=>some (p14.1,p14.2)) (some (.no,p13.2))) fun p15=>bnd (gd v5 false (bnd (aun .not p15.1) fun v16=>some (v16,p15.2)) (some (.no,p15.2))) fun p17=>bnd (C5 v5 (.c (.b true)) p17.1) fun v18=>cnd v18 (bnd (B0 ([.i .i64 0] ++ List.replicate 32 (.i .i64 0)) []) fun c19=>bnd (B7 p17.2 33 ((.c (.p (((h ++ [some (Row.mk (c1) true)]) ++ [some (Row.mk (c2) true)])).length 0))) ((.a c19))) fun h20=>C7 [A5 h20 33 ((.c (.p (((h ++ [some (Row.mk (c1) true)]) ++ [some (Row.mk (c2) true)])).length 0))),some (.c (.b false))] h20) (bnd (B9 ((.c (.p ((h ++ [some (Row.mk (c1) true)])).length 0))) 4) fun v21=>bnd (D7 6 1 v21 (.c (.i .i64 0))) fun v22=>bnd (A9 p17.2 v22) fun v23=>bnd (A1A [a0,v23] p17.2) fun p24=>bnd (A4A [p24.1] p24.2) fun p25=>bnd (C2 p25.1 0) fun v26=>bnd (C2 p25.1 1) fun v27=>bnd (B7 p25.2 33 ((.c (.p (((h ++ [some (Row.mk (c1) true)]) ++ [some (Row.mk (c2) true)])).length 0))) v26) fun h28=>C7 [A5 h28 33 ((.c (.p (((h ++ [some (Row.mk (c1) true)]) ++ [some (Row.mk (c2) true)])).length 0))),some v27] h28):=by kernel_rfl
theorem K_er22_Index:FnK Tryz.prog 38 A_er22_Index A3q A6D:=.mk' (B3 B3m (B3 B3n (B3 D40 C3))) Tryz.func38 (by kernel_rfl) (by intro n args h;kernel_rfl)
def A4E:Fun:=tidy (Lim A_er22_Index A3q)
theorem D5a:SOk Tryz.prog 38 A4E:=K_er22_Index.sok
theorem D49 {n:Nat} {args:List Val} {h h2:A0} {v:Val} (he:A6D n args (ro h)=some (v,h2)) (hf:v.flat=true):A4E args h=some (v,h):=K_er22_Index.flat he hf
end Go.Proofs.YtdgggnlbdoiloaaGreat
end
section
namespace Go.Proofs.YtdgggnlbdoiloaaGreat
open Go Go.Esc
theorem D7d {b n i:Int}:decide (A5c b n i=4)=N0 b n i:=by
  unfold N0 A5c Y1 A0N A2a
  cases c:G7 b n with
  | false =>
    rw [if_neg (by simp),Bool.false_and,Bool.false_and];rfl
  | true =>
    have h:=c
    unfold G7 at h
    simp only [Bool.and_eq_true,decide_eq_true_eq] at h
    simp only [cond_true,Bool.true_and,true_and]
    by_cases c1:2 + n / 8 ≤ i
    · by_cases c2:i < b
      · rw [if_pos (by omega),if_neg (by omega),if_neg (by omega),decide_eq_true c1,decide_eq_true c2];rfl
      · rw [if_neg (by omega),decide_eq_true c1,decide_eq_false c2];rfl
    · rw [decide_eq_false c1,Bool.false_and]
      split
      · split
        · exact decide_eq_false (by omega)
        · rw [if_pos (by omega)];rfl
      · rfl
theorem C9Z {b n m i:Int} {h:A0}:A2A [.a (C4 b n m),.c (.i .i64 i)] h=some (.c (.b (N0 b n i)),h):=by
  have key:∀ g,∃ g',A6B 0 [.a (C4 b n m),.c (.i .i64 i)] g=some (.c (.b (N0 b n i)),g'):=by
    intro g
    have l3:(C4 b n m).length=3:=rfl
    have hA:=fun h=>J33 (b:=b) (n:=n) (m:=m) (no:=i) (h:=h)
    rw [D2U,← D7d]
    generalize C4 b n m=L at *
    exact ⟨_,by simp only [esc,esh,Nat.reduceAdd,Nat.reduceMul,Nat.reduceLT,l3,hA] <;> rfl⟩
  obtain ⟨g',e⟩:=key (ro h)
  exact D45 e rfl
theorem C91 {h:A0} {v:Val} {D:Dev} (hv:Has h v 256 D.length (C9 D)) (hD:okD D) {i:Nat} (hi:i < D.length):∃ u,A1A [v,.c (.i .i64 (i:Int))] h=some (u,h) ∧ Has h u 1 256 (A3 D[i]):=by
  have hlen:=hv.len
  rcases hv with ⟨_,h0,_⟩ | ⟨id,off,r,rfl,hr,h1,h2,h3,h4⟩
  · omega
  · have hle:off + i * 256 + 256 * 1 ≤ r.cells.length:=by omega
    have hlt:=D5 hr
    refine ⟨.c (.sl id (off + i * 256) 256 1),?_,?_⟩
    · have c1:¬ (i:Int) < 0:=by omega
      have c2:¬ ((D.length:Nat):Int) ≤ (i:Int):=by omega
      have a1:D0 256 (.c (.sl id off D.length 256)) (.c (.i .i64 (i:Int)))=some (.c (.p id (off + i * 256))):=I9 hi
      have hr2:rd (ro h ++ [some (Row.mk [] true)]) id=some ⟨r.dim,false⟩:=C8 (by rw [A33,hr];rfl)
      have hsee0:=D0k h3 h4 (show i * 256 < D.length * 256 by omega) h2
      have hdim:r.dim=r.cells:=by
        unfold Row.dim
        cases hh:r.head with
        | false=>rfl
        | true =>
          exfalso
          have hmem:r.cells[off + i * 256]? = some r.cells[off + i * 256]:=List.getElem?_eq_getElem (by omega)
          have hxx:=Row.head_isX hh _ (List.mem_of_getElem? hmem)
          have h5:=List.all_eq_true.1 h4 r.cells[off + i * 256] (by
            rw [← h3]
            have:((r.cells.drop off).take (D.length * 256))[i * 256]? = some r.cells[off + i * 256]:=by rw [List.getElem?_take_of_lt (by omega),List.getElem?_drop];exact hmem
            exact List.mem_of_getElem? this)
          rw [hxx] at h5;cases h5
      have hdl:r.dim.length=r.cells.length:=by rw [hdim]
      have hsee:((false:Bool) || (r.dim[off + i * 256]?).any fun c=>!c.isX)=true:=by
        rw [hdim,Bool.false_or]
        have hmem:r.cells[off + i * 256]? = some r.cells[off + i * 256]:=List.getElem?_eq_getElem (by omega)
        have h5:=List.all_eq_true.1 h4 r.cells[off + i * 256] (by
            rw [← h3]
            have:((r.cells.drop off).take (D.length * 256))[i * 256]? = some r.cells[off + i * 256]:=by rw [List.getElem?_take_of_lt (by omega),List.getElem?_drop];exact hmem
            exact List.mem_of_getElem? this)
        rw [hmem];simp only [Option.any_some,h5]
      have s1:O4 (ro h ++ [some (Row.mk [] true)]) 256 1 (.c (.p id (off + i * 256))) none none=some (.c (.sl id (off + i * 256) 256 1)):=by
        simp only [O4,hr2,Option.bind_some,bound]
        rw [if_pos ⟨by omega,by omega,by rw [hdl];exact hle,hsee⟩];simp
      refine D48 (n:=0) (h2:=ro h ++ [some (Row.mk [] true)]) ?_ (by simp [Val.low,Cell.low,hlt])
      rw [D2W]
      simp only [K3,A0B,c1,decide_false,A8P,hlen,B3G,c2,A1E,cond_false,A1j,a1,s1]
    · refine Has.part (cs:=r.cells) (rw:=r.rw) hr hle ?_ (I3 _)
      rw [← A1h hD hi,← h3,List.drop_take,List.take_take,List.drop_drop]
      congr 1
      omega
theorem B6i {D:Dev} {n i:Int} (h:N0 D.length n i=true):∃ j:Nat,i=j ∧ j < D.length:=by
  unfold N0 Y1 A0N A2a at h
  rw [Bool.and_eq_true,Bool.and_eq_true] at h
  have h1:=of_decide_eq_true h.1.2
  have h2:=of_decide_eq_true h.2
  have h3:=h.1.1
  rw [h3] at h1
  simp only [cond_true] at h1
  unfold G7 at h3
  simp only [Bool.and_eq_true,decide_eq_true_eq] at h3
  exact ⟨i.toNat,by omega,by omega⟩
section
variable {v:Val} {D:Dev} {n m k l s p:Int} {d:List Int} {h:A0}
theorem J4b (hv:Has h v 256 D.length (C9 D)) (hD:okD D) (hd:d.length=7) :
    A4E [v,.a (C4 D.length n m),.a (A7 k l s p d)] h=some (.t [.a (encI (J8 D n k d)),.c (.b (L9 D n k d))],h):=by
  have key:∀ g,Has g v 256 D.length (C9 D) → ∃ g',A6D 0 [v,.a (C4 D.length n m),.a (A7 k l s p d)] g=some (.t [.a (encI (J8 D n k d)),.c (.b (L9 D n k d))],g'):=by
    intro g hv
    have l3:(C4 D.length n m).length=3:=rfl
    have i0:(A7 k l s p d)[0]? = some (.i .i64 k):=rfl
    have i4:(A7 k l s p d)[4]? = some (.i .i64 (d.getD 0 0)):=by
      have:(A7 k l s p d)[4]? = (encI d)[0]? := rfl
      rw [this,Y2,List.getElem?_eq_getElem (by omega),List.getD_eq_getElem?_getD,List.getElem?_eq_getElem (by omega)];rfl
    have ad:∀ q,D7 6 1 (.c (.p q 4)) (.c (.i .i64 0))=some (.c (.p q 4)):=fun q=>rfl
    have hz:(encI (0 :: zI 32)).length=33:=I6 (d:=0) K7
    have ef:B0 (encI (0 :: zI 32)) []=some (encI (0 :: zI 32)):=rfl
    rw [D2X,Z3]
    unfold J8 L9
    by_cases c1:k=2
    · have hI:=fun h=>C9Z (b:=D.length) (n:=n) (m:=m) (i:=d.getD 0 0) (h:=h)
      cases c2:N0 D.length n (d.getD 0 0) with
      | false =>
        simp only [c2] at hI
        simp only [Bool.and_false,Bool.false_and,cond_false]
        generalize C4 D.length n m=L at *
        generalize A7 k l s p d=I at *
        generalize encI (0 :: zI 32)=z at *
        exact ⟨_,by simp only [esc,esh,Nat.reduceAdd,Nat.reduceMul,Nat.reduceLT,eq_self,i0,c1,l3,ad,i4,hI,hz,ef] <;> rfl⟩
      | true =>
        simp only [c2] at hI
        obtain ⟨j,hj,hjl⟩:=B6i c2
        obtain ⟨u,hB,hu⟩:=C91 (hv.more [some (Row.mk (C4 D.length n m) true),some (Row.mk (A7 k l s p d) true),some (Row.mk (encI (0 :: zI 32)) true)]) hD hjl
        rw [← hj] at hB
        have eb:blk D (d.getD 0 0)=D[j]:=by rw [hj];exact B1n hjl
        have hG:=J38 (hD.at hjl) hu
        rw [← eb] at hG
        have hX:(encI (getD (blk D (d.getD 0 0)) :: D1 (blk D (d.getD 0 0)) 32)).length=33:=I6 (A8Q _)
        rw [decide_eq_true c1,Bool.true_and,Bool.true_and]
        have hX2:(encI (bif I8 (blk D (d.getD 0 0)) then getD (blk D (d.getD 0 0)) :: D1 (blk D (d.getD 0 0)) 32 else 0 :: zI 32)).length=33:=by
          cases I8 (blk D (d.getD 0 0)) with
          | true=>exact hX
          | false=>exact hz
        generalize encI (bif I8 (blk D (d.getD 0 0)) then getD (blk D (d.getD 0 0)) :: D1 (blk D (d.getD 0 0)) 32 else 0 :: zI 32)=x at *
        generalize I8 (blk D (d.getD 0 0))=gx at *
        clear eb hX
        generalize C4 D.length n m=L at *
        generalize A7 k l s p d=I at *
        generalize encI (0 :: zI 32)=z at *
        exact ⟨_,by simp only [esc,esh,Nat.reduceAdd,Nat.reduceMul,Nat.reduceLT,eq_self,i0,c1,l3,ad,i4,hI,hB,hG,hz,hX2,ef] <;> rfl⟩
    · rw [decide_eq_false c1,Bool.false_and,Bool.false_and,cond_false]
      generalize C4 D.length n m=L at *
      generalize A7 k l s p d=I at *
      generalize encI (0 :: zI 32)=z at *
      exact ⟨_,by simp only [esc,esh,Nat.reduceAdd,Nat.reduceMul,Nat.reduceLT,eq_self,i0,c1,hz,ef] <;> rfl⟩
  obtain ⟨g',e⟩:=key (ro h) hv.ro
  exact D49 e (by simp [Val.flat,Cell.flat])
end
end Go.Proofs.YtdgggnlbdoiloaaGreat
end
section
namespace Go.Proofs.YtdgggnlbdoiloaaGreat
open Go Go.Esc
theorem C98 (s:List UInt8) (hs:s.length < 9223372036854775807) (n:Nat) (h:A0):∀ d i m:Nat,i + d=s.length → d < m →
    A8y n m (.c (.s s)) (.c (.i .i64 i)) h=some (.c (.b ((s.drop i).all S3)),h)
  | d,i,0,_,hm=>by omega
  | 0,i,m + 1,hi,hm=>by
    have c0:¬ ((i:Int) < s.length):=by omega
    rw [B90,show s.drop i=[] from List.drop_of_length_le (by omega)]
    simp only [esc,c0,List.all_nil]
  | d + 1,i,m + 1,hi,hm=>by
    have h1:(i:Int) < s.length:=by omega
    have h2:i < s.length:=by omega
    have ih:=C98 s hs n h d (i + 1) m (by omega) (by omega)
    rw [B90,List.drop_eq_getElem_cons h2,List.all_cons]
    by_cases c1:(s[i].toNat:Int)=0
    · have f:S3 s[i]=false:=by unfold S3;rw [decide_eq_true c1];rfl
      simp only [esc,h1,A0H h2,c1,f,Bool.false_and]
    · by_cases c2:(s[i].toNat:Int)=47
      · have f:S3 s[i]=false:=by unfold S3;rw [decide_eq_true c2];simp
        simp only [esc,h1,A0H h2,c1,c2,f,Bool.false_and,Int.reduceEq]
      · have f:S3 s[i]=true:=by unfold S3;rw [decide_eq_false c1,decide_eq_false c2];rfl
        simp only [esc,h1,A0H h2,c1,c2,f,Bool.true_and,E6 (show i + 1 < 9223372036854775808 by omega)]
        exact ih
theorem right_eq {s:List UInt8} (hs:s.length < 9223372036854775807) (h:A0):A2x [.c (.s s)] h=some (.c (.b (N9 s)),h):=by
  refine D4G (n:=s.length + 1) (h2:=ro h) ?_ rfl
  rw [D2G]
  have hl:=C98 s hs (s.length + 1) (ro h) s.length 0 (s.length + 1) (by omega) (by omega)
  rw [List.drop_zero] at hl
  unfold N9
  by_cases c1:(s.length:Int) < 1
  · simp only [esc,c1,Bool.true_or,Bool.false_and]
  · by_cases c2:(24:Int) < s.length
    · simp only [esc,c1,c2,Bool.true_or,Bool.false_and,Bool.or_true]
    · by_cases c3:s=[46]
      · subst c3;simp only [esc];rfl
      · by_cases c4:s=[46,46]
        · subst c4;simp only [esc];rfl
        · simp only [esc,c1,c2,c3,c4,Bool.or_self,Bool.true_and]
          exact hl
theorem J2s {s:List UInt8} (hs:s.length ≤ 24):K1 s s.length=UInt8.ofNat s.length :: (s ++ zeros 24).take 24:=by
  unfold K1
  refine congrArg (UInt8.ofNat s.length :: ·) ?_
  rw [List.take_append,List.take_of_length_le (Nat.le_refl _),List.take_of_length_le hs]
  unfold zeros
  rw [List.take_replicate,Nat.min_eq_left (by omega)]
theorem C94 {g:A0} (s:List UInt8) (hs:s.length ≤ 24) (k:Nat):∀ d i m h id,i + d=24 → d < m → Low g.length g h → g.length ≤ id → rd h id=some ⟨A3 (UInt8.ofNat s.length :: (s ++ zeros 24).take i),true⟩ →
    ∃ v' h',A8w k m (.c (.s s)) (.c (.sl id 0 (i + 1) 1)) (.c (.i .i64 i)) h=some (v',h') ∧ Out g.length h' v' 1 25 (A3 (K1 s s.length))
  | d,i,0,h,id,_,hm,_,_,_=>by omega
  | 0,i,m + 1,h,id,hi,hm,hlow,hb,hr=>by
    have e:i=24:=by omega
    subst e
    have h1':¬ ((24:Nat):Int) < 24:=by omega
    rw [← J2s hs] at hr
    rw [B9O]
    exact ⟨_,_,by simp only [esc,h1'] <;> rfl,by rw [B4,A30 (Nat.le_refl _) hs],id,rfl,hb,hr⟩
  | d + 1,i,m + 1,h,id,hi,hm,hlow,hb,hr=>by
    have hlen:(s ++ zeros 24).length=s.length + 24:=by rw [List.length_append,zeros_length]
    have hi24:i < (s ++ zeros 24).length:=by omega
    have c1:(i:Int) < 24:=by omega
    have step:∀ x:UInt8,(s ++ zeros 24)[i]=x → ∃ v' h',bnd (E5 (h ++ [some ⟨[.i .u8 x.toNat],true⟩]) 1 (.c (.sl id 0 (i + 1) 1)) (.c (.sl h.length 0 1 1))) (fun p=>A8t k m (.c (.s s)) p.1 (.c (.i .i64 i)) p.2)=some (v',h') ∧ Out g.length h' v' 1 25 (A3 (K1 s s.length)):=by
      intro x hx
      obtain ⟨h',a1,a2,a3,a4,a5⟩:=push (ys:=[.i .u8 x.toNat]) (sz:=1) (n:=i + 1) hlow hr (by rw [B4,List.length_cons,List.length_take];omega) hb rfl (by omega) (by omega)
      have e4:A3 (UInt8.ofNat s.length :: (s ++ zeros 24).take i) ++ [Cell.i .u8 x.toNat]=A3 (UInt8.ofNat s.length :: (s ++ zeros 24).take (i + 1)):=by
        rw [List.take_succ_eq_append_getElem hi24,hx,← List.cons_append,W3];rfl
      rw [e4] at a2
      obtain ⟨v',h'',b1,b2⟩:=C94 s hs k d (i + 1) m h' (h.length + 1) (by omega) (by omega) a3 a4 a2
      refine ⟨v',h'',?_,b2⟩
      simp only [esc,a1]
      rw [F7w]
      simp only [esc,E6 (show i + 1 < 9223372036854775808 by omega)]
      exact b1
    rw [B9O]
    by_cases c2:i < s.length
    · have c2':(i:Int) < s.length:=by omega
      obtain ⟨v',h',b1,b2⟩:=step s[i] (by rw [List.getElem_append_left c2])
      have e5:B0 [Cell.i .u8 0] [(0,1,.c (.i .u8 s[i].toNat))]=some [.i .u8 s[i].toNat]:=rfl
      exact ⟨v',h',by simp only [esc,c1,c2',A0H c2,e5];exact b1,b2⟩
    · have c2':¬ (i:Int) < s.length:=by omega
      obtain ⟨v',h',b1,b2⟩:=step 0 (by rw [List.getElem_append_right (by omega)];exact List.getElem_replicate _)
      have e5:B0 [Cell.i .u8 0] [(0,1,.c (.i .u8 0))]=some [.i .u8 (0:UInt8).toNat]:=rfl
      exact ⟨v',h',by simp only [esc,c1,c2',e5];exact b1,b2⟩
theorem C93 {s:List UInt8} (hs:s.length ≤ 24) (h:A0):A2w [.c (.s s)] h=some (.c (.sl h.length 0 25 1),h ++ [some ⟨A3 (K1 s s.length),true⟩]):=by
  obtain ⟨v',h',e,ho⟩:=C94 (g:=ro h) s hs 25 24 0 25 (ro h ++ [some ⟨[],true⟩,some ⟨A3 [UInt8.ofNat s.length],true⟩]) ((ro h).length + 1) (by omega) (by omega) ((Low.refl (Nat.le_refl _)).new _) (by omega) (by simp)
  refine D4F (n:=25) (v:=v') (h2:=h') ?_ (by simpa [L6] using ho) (by simp)
  have e1:IntKind.wrap .u8 (s.length:Int)=((UInt8.ofNat s.length).toNat:Int):=by rw [wrap_u8 (by omega) (by omega),UInt8.toNat_ofNat'];omega
  have e5:B0 [Cell.i .u8 0] [(0,1,.c (.i .u8 (UInt8.ofNat s.length).toNat))]=some (A3 [UInt8.ofNat s.length]):=rfl
  rw [D2F]
  simp only [esc,e1,e5]
  exact e
theorem J4d {v:Val} {nv:Nat} {l:List UInt8} {h:A0} (hv:Has h v 1 nv (A3 l)) (hl:l.length=25) :
    A4s [v] h=some (.t [.c (.s ((R4 l).getD [])),.c (.b (R4 l).isSome)],h):=by
  have key:∀ g,Has g v 1 nv (A3 l) → ∃ g',A6r 0 [v] g=some (.t [.c (.s ((R4 l).getD [])),.c (.b (R4 l).isSome)],g'):=by
    intro g hv
    have hnv:nv=25:=by
      have:l.length=nv:=by simpa [B4] using hv.length
      omega
    subst hnv
    have hvl:=hv.len
    have hv0:=hv
    obtain ⟨id,off,rfl,hid,h1,h2⟩:=hv.sl (by omega)
    obtain ⟨x,r,rfl⟩:∃ x r,l=x :: r:=by
      cases l with
      | nil=>simp at hl
      | cons x r=>exact ⟨x,r,rfl⟩
    have hx:=x.toNat_lt
    have a0:D0 1 (.c (.sl id off 25 1)) (.c (.i .i64 0))=some (.c (.p id (off + 0))):=rfl
    have l0:=h1 0 (.i .u8 x.toNat) rfl
    rw [Nat.add_zero] at l0
    have e1:IntKind.wrap .i64 (x.toNat:Int)=x.toNat:=wrap_i64 (by omega) (by omega)
    rw [D2H]
    unfold R4
    simp only [List.headD_cons,List.drop_succ_cons,List.drop_zero]
    by_cases c1:x.toNat ≤ 24
    · rw [if_pos c1]
      have c1':¬ (24:Int) < x.toNat:=by omega
      have e2:IntKind.wrap .i64 (1 + (x.toNat:Int))=((1 + x.toNat:Nat):Int):=by rw [wrap_i64 (by omega) (by omega)];omega
      have e3:=J5h (id:=id) (off:=off) (n:=25) (sz:=1) (a:=1) (b:=1 + x.toNat) (by omega) (by omega)
      rw [show 1 + x.toNat - 1=x.toNat by omega,Nat.mul_one,show ((1:Nat):Int)=1 from rfl] at e3
      have hh:Has g (.c (.sl id (off + 1) x.toNat 1)) 1 x.toNat (A3 (r.take x.toNat)):=by
        rcases hv0 with ⟨e,_⟩ | ⟨id',off',row,e,hr,g1,g2,g3,g4⟩
        · cases e
        · cases e
          refine Has.part hr (by omega) ?_ (I3 _)
          have:(row.cells.drop (off + 1)).take (x.toNat * 1)=((A3 (x :: r)).drop 1).take x.toNat:=by
            rw [← g3,List.drop_take,List.drop_drop,List.take_take]
            congr 1
            omega
          rw [this,B8e,B8h];rfl
      have hs:(r.take x.toNat).length < 9223372036854775807:=by simp;omega
      have hsl:(r.take x.toNat).length ≤ 24:=by simp;omega
      cases hf:N9 (r.take x.toNat) with
      | false =>
        rw [if_neg (by simp)]
        exact ⟨_,by simp only [esc,hvl,a0,l0,e1,c1',e2,Int.cast_ofNat_Int,e3,hh.str,right_eq hs,hf,Option.getD_none,Option.isSome_none] <;> rfl⟩
      | true =>
        have hp:=C93 hsl g
        have hS:=A95 (h:=g ++ [some ⟨A3 (K1 (r.take x.toNat) (r.take x.toNat).length),true⟩]) (v:=.c (.sl g.length 0 25 1)) (nv:=25) (l:=K1 (r.take x.toNat) (r.take x.toNat).length) (Has.tr (by simp) (by rw [B4,A30 (Nat.le_refl _) hsl]) (I3 _))
          (hv0.more [some ⟨A3 (K1 (r.take x.toNat) (r.take x.toNat).length),true⟩]) (by rw [A30 (Nat.le_refl _) hsl];omega)
        have epk:G1 (r.take x.toNat)=K1 (r.take x.toNat) (r.take x.toNat).length:=by unfold G1;rw [hf];rfl
        rw [epk]
        by_cases c2:K1 (r.take x.toNat) (r.take x.toNat).length=x :: r
        · rw [if_pos ⟨rfl,c2⟩]
          rw [decide_eq_true c2] at hS
          exact ⟨_,by simp only [esc,hvl,a0,l0,e1,c1',e2,Int.cast_ofNat_Int,e3,hh.str,right_eq hs,hf,hp,hS,Option.getD_some,Option.isSome_some] <;> rfl⟩
        · rw [if_neg (fun h=>c2 h.2)]
          rw [decide_eq_false c2] at hS
          exact ⟨_,by simp only [esc,hvl,a0,l0,e1,c1',e2,Int.cast_ofNat_Int,e3,hh.str,right_eq hs,hf,hp,hS,Option.getD_none,Option.isSome_none] <;> rfl⟩
    · rw [if_neg c1]
      have c1':(24:Int) < x.toNat:=by omega
      exact ⟨_,by simp only [esc,hvl,a0,l0,e1,c1',Int.cast_ofNat_Int,Option.getD_none,Option.isSome_none] <;> rfl⟩
  obtain ⟨g',e⟩:=key (ro h) hv.ro
  exact D4H e (by simp)
end Go.Proofs.YtdgggnlbdoiloaaGreat
end
noncomputable section
namespace Go.Proofs.YtdgggnlbdoiloaaGreat
open Go Go.Esc
set_option maxRecDepth 100000
def C0S:List AOper:=[aO 1 (.box (.t 0)),aO 2 (.mv (.v (.c (.b false))))]
def G1A:ACode:=.ops C0S
def C0T:List AOper:=[aO 3 (.fAddr (.t 1) 0),aO 4 (.load1 (.t 3)),aO 5 (.call 88 [(.t 4)]),aO 6 (.mv (.t 5)),{ dst:=some 7,op:=.fAddr (.t 1) 1,guard:=some (6,true) },{ dst:=some 8,op:=.load1 (.t 7),guard:=some (6,true) },{ dst:=some 9,op:=.bin .geq (.t 8) (.v (.c (.i .i64 1))),guard:=some (6,true) },aO 10 (.pick (.t 6) (.t 9) (.v (.c (.b false)))),aO 11 (.mv (.t 10)),{ dst:=some 12,op:=.fAddr (.t 1) 1,guard:=some (11,true) },{ dst:=some 13,op:=.load1 (.t 12),guard:=some (11,true) },{ dst:=some 14,op:=.bin .leq (.t 13) (.v (.c (.i .i64 128))),guard:=some (11,true) },aO 15 (.pick (.t 11) (.t 14) (.v (.c (.b false)))),aO 2 (.mv (.t 15))]
def G1C:ACode:=.ops C0T
def G1E:ACode:=.seq [2] G1C .ret
def G1G:ACode:=.seq [1] G1A G1E
def A_er18_May:AFn:=⟨G1G,[.tmp 2]⟩
def A5S:B6:=B1 88 A2x C1
def G1B (n:Nat):SmV:=A2 A5S C0S
def G1D (n:Nat):SmV:=A2 A5S C0T
def G1F (n:Nat):SmV:=A1 [2] (G1D n) A8
def G1H (n:Nat):SmV:=A1 [1] (G1B n) (G1F n)
def A6x (n:Nat) (args:List Val) (h:A0):A6:=(G1H n) A_er18_May.fin (params 0 args) h
theorem D2O (n:Nat) (a0:Val) (h:A0):A6x n [a0] h=bnd (cells? a0) fun c1=>bnd (B9 ((.c (.p h.length 0))) 0) fun v2=>bnd (A9 ((h ++ [some (Row.mk (c1) true)])) v2) fun v3=>bnd (A2x [v3] ((h ++ [some (Row.mk (c1) true)]))) fun p4=>bnd (gd p4.1 true (bnd (B9 ((.c (.p h.length 0))) 1) fun v5=>some (v5,p4.2)) (some (.no,p4.2))) fun p6=>bnd (gd p4.1 true (bnd (A9 p6.2 p6.1) fun v7=>some (v7,p6.2)) (some (.no,p6.2))) fun p8=>bnd (gd p4.1 true (bnd (A4 .geq p8.1 (.c (.i .i64 1))) fun v9=>some (v9,p8.2)) (some (.no,p8.2))) fun p10=>bnd (C5 p4.1 p10.1 (.c (.b false))) fun v11=>bnd (gd v11 true (bnd (B9 ((.c (.p h.length 0))) 1) fun v12=>some (v12,p10.2)) (some (.no,p10.2))) fun p13=>bnd (gd v11 true (bnd (A9 p13.2 p13.1) fun v14=>some (v14,p13.2)) (some (.no,p13.2))) fun p15=>bnd (gd v11 true (bnd (A4 .leq p15.1 (.c (.i .i64 128))) fun v16=>some (v16,p15.2)) (some (.no,p15.2))) fun p17=>bnd (C5 v11 p17.1 (.c (.b false))) fun v18=>some (v18,p17.2):=by kernel_rfl
theorem K_er18_May:FnK Tryz.prog 52 A_er18_May A5S A6x:=.mk' (B3 B3j C3) Tryz.func52 (by kernel_rfl) (by intro n args h;kernel_rfl)
def A4y:Fun:=tidy (Lim A_er18_May A5S)
theorem D4V:SOk Tryz.prog 52 A4y:=K_er18_May.sok
theorem D4U {n:Nat} {args:List Val} {h h2:A0} {v:Val} (he:A6x n args (ro h)=some (v,h2)) (hf:v.flat=true):A4y args h=some (v,h):=K_er18_May.flat he hf
def C0D:List AOper:=[aO 1 (.box (.t 0)),aO 2 (.nilrow 1)]
def G0F:ACode:=.ops C0D
def C0E:List AOper:=[aO 4 (.fAddr (.t 1) 1),aO 5 (.load1 (.t 4)),aO 6 (.conv .u64 (.t 5)),aO 7 (.call 90 [(.v (.c (.i .i64 2))),(.t 6)]),aO 8 (.fAddr (.t 1) 0),aO 9 (.load1 (.t 8))]
def C0F:List AOper:=[aO 10 (.call 89 [(.t 9)]),aO 11 (.app 1 (.t 7) (.t 10)),aO 3 (.mv (.t 11))]
def G0H:ACode:=.draw 0 C0E C0F
def C0G:List AOper:=[aO 12 (.mv (.t 3)),aO 13 (.buildSl 1 5 ([.i .u8 0,.i .u8 0,.i .u8 0,.i .u8 0,.i .u8 0]) [(0,1,(.v (.c (.i .u8 0)))),(1,1,(.v (.c (.i .u8 0)))),(2,1,(.v (.c (.i .u8 0)))),(3,1,(.v (.c (.i .u8 0)))),(4,1,(.v (.c (.i .u8 0))))]),aO 14 (.app 1 (.t 12) (.t 13)),aO 2 (.mv (.t 14))]
def G0J:ACode:=.ops C0G
def G0L:ACode:=.seq [2] G0J .ret
def G0N:ACode:=.seq [3] G0H G0L
def G0P:ACode:=.seq [1] G0F G0N
def A_er18_Bytes:AFn:=⟨G0P,[.tmp 2]⟩
def A4a:B6:=B1 90 V7 (B1 89 A2w C1)
def G0G (n:Nat):SmV:=A2 A4a C0D
def G0I (n:Nat):SmV:=N3 A4a 0 C0E C0F
def G0K (n:Nat):SmV:=A2 A4a C0G
def G0M (n:Nat):SmV:=A1 [2] (G0K n) A8
def G0O (n:Nat):SmV:=A1 [3] (G0I n) (G0M n)
def G0Q (n:Nat):SmV:=A1 [1] (G0G n) (G0O n)
def A6w (n:Nat) (args:List Val) (h:A0):A6:=(G0Q n) A_er18_Bytes.fin (params 0 args) h
theorem D2M (n:Nat) (a0:Val) (h:A0):A6w n [a0] h=bnd (cells? a0) fun c1=>bnd (B9 ((.c (.p h.length 0))) 1) fun v2=>bnd (A9 (((h ++ [some (Row.mk (c1) true)]) ++ [some (Row.mk ([]) true)])) v2) fun v3=>bnd (G8 .u64 v3) fun v4=>bnd (quiet (((((h ++ [some (Row.mk (c1) true)]) ++ [some (Row.mk ([]) true)])) ++ [])) (V7 [.c (.i .i64 2),v4] (((((h ++ [some (Row.mk (c1) true)]) ++ [some (Row.mk ([]) true)])) ++ [])))) fun p5=>bnd (B9 ((.c (.p h.length 0))) 0) fun v6=>bnd (A9 (((h ++ [some (Row.mk (c1) true)]) ++ [some (Row.mk ([]) true)])) v6) fun v7=>bnd (A2w [v7] p5.2) fun p8=>bnd (E5 p8.2 1 p5.1 p8.1) fun p9=>bnd (B0 ([.i .u8 0,.i .u8 0,.i .u8 0,.i .u8 0,.i .u8 0]) [(0,1,.c (.i .u8 0)),(1,1,.c (.i .u8 0)),(2,1,.c (.i .u8 0)),(3,1,.c (.i .u8 0)),(4,1,.c (.i .u8 0))]) fun c10=>bnd (E5 ((p9.2 ++ [some (Row.mk (c10) true)])) 1 p9.1 ((.c (.sl p9.2.length 0 5 1)))) fun p11=>some (p11.1,p11.2):=by kernel_rfl
theorem K_er18_Bytes:FnK Tryz.prog 54 A_er18_Bytes A4a A6w:=.mk' (B3 B01 (B3 B3i C3)) Tryz.func54 (by kernel_rfl) (by intro n args h;kernel_rfl)
def A4w:Fun:=tidy (Lim A_er18_Bytes A4a)
theorem D4Q:SOk Tryz.prog 54 A4w:=K_er18_Bytes.sok
theorem D4R {n:Nat} {args:List Val} {h h2:A0} {v:Val} {sz k:Nat} {cs:List Cell} (he:A6w n args (ro h)=some (v,h2)) (ho:Out h.length h2 v sz k cs) (hf:D9 cs=true):A4w args h=some (.c (.sl h.length 0 k sz),h ++ [some ⟨cs,true⟩]):=K_er18_Bytes.out he ho hf
def C0U:List AOper:=[aO 4 (.alloc ([.s [],.i .i64 0])),aO 5 (.mv (.v (.c (.b false))))]
def G1I:ACode:=.ops C0U
def C0V:List AOper:=[aO 10 (.mv (.t 0)),aO 11 (.mv (.t 1)),aO 12 (.bin .mul (.v (.c (.i .i64 32))) (.t 11)),aO 13 (.bin .add (.v (.c (.i .i64 34))) (.t 12)),aO 14 (.call 50 [(.t 10),(.t 13),(.v (.c (.i .i64 25)))]),aO 15 (.call 49 [(.t 14)]),aO 9 (.mv (.t 15)),aO 16 (.ext (.t 9) 0),aO 17 (.ext (.t 9) 1),aO 6 (.mv (.t 16)),aO 7 (.mv (.t 17))]
def G1K:ACode:=.ops C0V
def C0W:List AOper:=[aO 18 (.mv (.t 6)),aO 19 (.mv (.t 0)),aO 20 (.mv (.t 1)),aO 21 (.bin .mul (.v (.c (.i .i64 32))) (.t 20)),aO 22 (.bin .add (.v (.c (.i .i64 32))) (.t 21)),aO 23 (.call 51 [(.t 19),(.t 22),(.v (.c (.i .i64 2)))]),aO 24 (.build ([.s [],.i .i64 0]) [(0,1,(.t 18)),(1,1,(.t 23))]),aO 8 (.alloc ([.s [],.i .i64 0])),{ dst:=none,op:=.storeN 2 (.t 8) (.t 24) }]
def G1U:ACode:=.ops C0W
def C0X:List AOper:=[aO 25 (.mv (.t 7)),aO 26 (.un .not (.t 25)),aO 27 (.mv (.t 26)),{ dst:=some 28,op:=.loadN 2 (.t 8),guard:=some (27,false) },{ dst:=some 29,op:=.call 52 [(.t 28)],guard:=some (27,false) },{ dst:=some 30,op:=.un .not (.t 29),guard:=some (27,false) },aO 31 (.pick (.t 27) (.v (.c (.b true))) (.t 30)),aO 32 (.mv (.t 31)),{ dst:=some 33,op:=.loadN 2 (.t 8),guard:=some (32,false) },{ dst:=some 34,op:=.call 54 [(.t 33)],guard:=some (32,false) },{ dst:=some 35,op:=.mv (.t 0),guard:=some (32,false) },{ dst:=some 36,op:=.mv (.t 1),guard:=some (32,false) },{ dst:=some 37,op:=.bin .mul (.v (.c (.i .i64 32))) (.t 36),guard:=some (32,false) },{ dst:=some 38,op:=.bin .add (.v (.c (.i .i64 32))) (.t 37),guard:=some (32,false) },{ dst:=some 39,op:=.call 50 [(.t 35),(.t 38),(.v (.c (.i .i64 32)))],guard:=some (32,false) },{ dst:=some 40,op:=.call 53 [(.t 34),(.t 39)],guard:=some (32,false) },{ dst:=some 41,op:=.un .not (.t 40),guard:=some (32,false) },aO 42 (.pick (.t 32) (.v (.c (.b true))) (.t 41))]
def G1W:ACode:=.ops C0X
def C0Y:List AOper:=[aO 43 (.build ([.s [],.i .i64 0]) []),{ dst:=none,op:=.storeN 2 (.t 4) (.t 43) },aO 5 (.mv (.v (.c (.b false))))]
def G1Y:ACode:=.ops C0Y
def G10:ACode:=.seq [4,5] G1Y .ret
def G12:ACode:=.cond (.t 42) G10 .skip
def G14:ACode:=.seq [4,8,42] G1W G12
def C0Z:List AOper:=[aO 44 (.loadN 2 (.t 8)),{ dst:=none,op:=.storeN 2 (.t 4) (.t 44) },aO 5 (.mv (.v (.c (.b true))))]
def G16:ACode:=.ops C0Z
def G18:ACode:=.seq [4,5] G16 .ret
def G1L:ACode:=.seq [4,8] G14 G18
def G1N:ACode:=.seq [0,1,4,7,8] G1U G1L
def G1P:ACode:=.seq [0,1,4,6,7] G1K G1N
def G1R:ACode:=.seq [0,1,4] G1I G1P
def A_er18_Read:AFn:=⟨G1R,[.cellN 4 2,.tmp 5]⟩
def A1u:B6:=B1 50 A3w (B1 49 A4s (B1 51 X7 (B1 52 A4y (B1 54 A4w (B1 53 A0h C1)))))
def G1J (n:Nat):SmV:=A2 A1u C0U
def G1T (n:Nat):SmV:=A2 A1u C0V
def G1V (n:Nat):SmV:=A2 A1u C0W
def G1X (n:Nat):SmV:=A2 A1u C0X
def G1Z (n:Nat):SmV:=A2 A1u C0Y
def G11 (n:Nat):SmV:=A1 [4,5] (G1Z n) A8
def G13 (n:Nat):SmV:=B8 (.t 42) (G11 n) C0
def G15 (n:Nat):SmV:=A1 [4,8,42] (G1X n) (G13 n)
def G17 (n:Nat):SmV:=A2 A1u C0Z
def G19 (n:Nat):SmV:=A1 [4,5] (G17 n) A8
def G1M (n:Nat):SmV:=A1 [4,8] (G15 n) (G19 n)
def G1O (n:Nat):SmV:=A1 [0,1,4,7,8] (G1V n) (G1M n)
def G1Q (n:Nat):SmV:=A1 [0,1,4,6,7] (G1T n) (G1O n)
def G1S (n:Nat):SmV:=A1 [0,1,4] (G1J n) (G1Q n)
def A6y (n:Nat) (args:List Val) (h:A0):A6:=(G1S n) A_er18_Read.fin (params 0 args) h
theorem D2P (n:Nat) (a0 a1:Val) (h:A0):A6y n [a0,a1] h=bnd (A4 .mul (.c (.i .i64 32)) a1) fun v1=>bnd (A4 .add (.c (.i .i64 34)) v1) fun v2=>bnd (A3w [a0,v2,.c (.i .i64 25)] ((h ++ [some (Row.mk ([.s [],.i .i64 0]) true)]))) fun p3=>bnd (A4s [p3.1] p3.2) fun p4=>bnd (C2 p4.1 0) fun v5=>bnd (C2 p4.1 1) fun v6=>bnd (A4 .mul (.c (.i .i64 32)) a1) fun v7=>bnd (A4 .add (.c (.i .i64 32)) v7) fun v8=>bnd (X7 [a0,v8,.c (.i .i64 2)] p4.2) fun p9=>bnd (B0 ([.s [],.i .i64 0]) [(0,1,v5),(1,1,p9.1)]) fun c10=>bnd (B7 ((p9.2 ++ [some (Row.mk ([.s [],.i .i64 0]) true)])) 2 ((.c (.p p9.2.length 0))) ((.a c10))) fun h11=>bnd (aun .not v6) fun v12=>bnd (gd v12 false (bnd (A5 h11 2 ((.c (.p p9.2.length 0)))) fun v13=>some (v13,h11)) (some (.no,h11))) fun p14=>bnd (gd v12 false (bnd (A4y [p14.1] p14.2) fun p15=>some (p15.1,p15.2)) (some (.no,p14.2))) fun p16=>bnd (gd v12 false (bnd (aun .not p16.1) fun v17=>some (v17,p16.2)) (some (.no,p16.2))) fun p18=>bnd (C5 v12 (.c (.b true)) p18.1) fun v19=>bnd (gd v19 false (bnd (A5 p18.2 2 ((.c (.p p9.2.length 0)))) fun v20=>some (v20,p18.2)) (some (.no,p18.2))) fun p21=>bnd (gd v19 false (bnd (A4w [p21.1] p21.2) fun p22=>some (p22.1,p22.2)) (some (.no,p21.2))) fun p23=>bnd (gd v19 false (some (a0,p23.2)) (some (.no,p23.2))) fun p24=>bnd (gd v19 false (some (a1,p24.2)) (some (.no,p24.2))) fun p25=>bnd (gd v19 false (bnd (A4 .mul (.c (.i .i64 32)) p25.1) fun v26=>some (v26,p25.2)) (some (.no,p25.2))) fun p27=>bnd (gd v19 false (bnd (A4 .add (.c (.i .i64 32)) p27.1) fun v28=>some (v28,p27.2)) (some (.no,p27.2))) fun p29=>bnd (gd v19 false (bnd (A3w [p24.1,p29.1,.c (.i .i64 32)] p29.2) fun p30=>some (p30.1,p30.2)) (some (.no,p29.2))) fun p31=>bnd (gd v19 false (bnd (A0h [p23.1,p31.1] p31.2) fun p32=>some (p32.1,p32.2)) (some (.no,p31.2))) fun p33=>bnd (gd v19 false (bnd (aun .not p33.1) fun v34=>some (v34,p33.2)) (some (.no,p33.2))) fun p35=>bnd (C5 v19 (.c (.b true)) p35.1) fun v36=>cnd v36 (bnd (B0 ([.s [],.i .i64 0]) []) fun c37=>bnd (B7 p35.2 2 ((.c (.p h.length 0))) ((.a c37))) fun h38=>C7 [A5 h38 2 ((.c (.p h.length 0))),some (.c (.b false))] h38) (bnd (A5 p35.2 2 ((.c (.p p9.2.length 0)))) fun v39=>bnd (B7 p35.2 2 ((.c (.p h.length 0))) v39) fun h40=>C7 [A5 h40 2 ((.c (.p h.length 0))),some (.c (.b true))] h40):=by kernel_rfl
theorem K_er18_Read:FnK Tryz.prog 22 A_er18_Read A1u A6y:=.mk' (B3 D4w (B3 D4I (B3 B00 (B3 D4V (B3 D4Q (B3 A7o C3)))))) Tryz.func22 (by kernel_rfl) (by intro n args h;kernel_rfl)
def A2z:Fun:=tidy (Lim A_er18_Read A1u)
theorem B3l:SOk Tryz.prog 22 A2z:=K_er18_Read.sok
theorem D4W {n:Nat} {args:List Val} {h h2:A0} {v:Val} (he:A6y n args (ro h)=some (v,h2)) (hf:v.flat=true):A2z args h=some (v,h):=K_er18_Read.flat he hf
def C0K:List AOper:=[aO 4 (.mv (.v (.c (.i .i64 0))))]
def G0R:ACode:=.ops C0K
def C0L:List AOper:=[aO 5 (.mv (.v (.c (.i .i64 0))))]
def G0T:ACode:=.ops C0L
def C0M:List AOper:=[aO 8 (.mv (.t 5)),aO 9 (.bin .lss (.t 8) (.v (.c (.i .i64 7))))]
def G1e:ACode:=.ops C0M
def G1l:ACode:=.cond (.t 9) .skip (.exit 0)
def G1n:ACode:=.seq [0,1,5,9] G1e G1l
def C0N:List AOper:=[aO 13 (.mv (.t 0)),aO 14 (.mv (.t 5)),aO 15 (.call 22 [(.t 13),(.t 14)]),aO 12 (.mv (.t 15)),aO 16 (.ext (.t 12) 0),aO 17 (.ext (.t 12) 1),aO 6 (.alloc ([.s [],.i .i64 0])),{ dst:=none,op:=.storeN 2 (.t 6) (.t 16) },aO 7 (.mv (.t 17))]
def G1p:ACode:=.ops C0N
def C0O:List AOper:=[aO 18 (.mv (.t 7)),aO 19 (.mv (.t 18)),{ dst:=some 20,op:=.fAddr (.t 6) 0,guard:=some (19,true) },{ dst:=some 21,op:=.load1 (.t 20),guard:=some (19,true) },{ dst:=some 22,op:=.mv (.t 1),guard:=some (19,true) },{ dst:=some 23,op:=.bin .eql (.t 21) (.t 22),guard:=some (19,true) },aO 24 (.pick (.t 19) (.t 23) (.v (.c (.b false))))]
def G1r:ACode:=.ops C0O
def C0P:List AOper:=[aO 25 (.mv (.t 5)),aO 4 (.mv (.t 25))]
def G1t:ACode:=.ops C0P
def G1v:ACode:=.seq [4] G1t .ret
def G1x:ACode:=.cond (.t 24) G1v .skip
def G0U:ACode:=.seq [0,1,5,24] G1r G1x
def G0W:ACode:=.seq [0,1,5,6,7] G1p G0U
def G0Y:ACode:=.block 1 G0W
def C0Q:List AOper:=[aO 10 (.mv (.t 5)),aO 11 (.bin .add (.t 10) (.v (.c (.i .i64 1)))),aO 5 (.mv (.t 11))]
def G00:ACode:=.ops C0Q
def G02:ACode:=.seq [0,1,5] G0Y G00
def G04:ACode:=.seq [0,1,5] G1n G02
def G05:ACode:=.loop [0,1,5] G04
def G07:ACode:=.block 0 G05
def G09:ACode:=.seq [0,1,5] G0T G07
def C0R:List AOper:=[aO 4 (.mv (.v (.c (.i .i64 (-1)))))]
def G1b:ACode:=.ops C0R
def G1f:ACode:=.seq [4] G1b .ret
def G1g:ACode:=.seq [] G09 G1f
def G1i:ACode:=.seq [0,1] G0R G1g
def A_er18_Find:AFn:=⟨G1i,[.tmp 4]⟩
def A0w:B6:=B1 22 A2z C1
def G0S (n:Nat):SmV:=A2 A0w C0K
def G1d (n:Nat):SmV:=A2 A0w C0L
def G1k (n:Nat):SmV:=A2 A0w C0M
def G1m (n:Nat):SmV:=B8 (.t 9) C0 (E3 0)
def G1o (n:Nat):SmV:=A1 [0,1,5,9] (G1k n) (G1m n)
def G1q (n:Nat):SmV:=A2 A0w C0N
def G1s (n:Nat):SmV:=A2 A0w C0O
def G1u (n:Nat):SmV:=A2 A0w C0P
def G1w (n:Nat):SmV:=A1 [4] (G1u n) A8
def G1y (n:Nat):SmV:=B8 (.t 24) (G1w n) C0
def G0V (n:Nat):SmV:=A1 [0,1,5,24] (G1s n) (G1y n)
def G0X (n:Nat):SmV:=A1 [0,1,5,6,7] (G1q n) (G0V n)
def G0Z (n:Nat):SmV:=C6 1 (G0X n)
def G01 (n:Nat):SmV:=A2 A0w C0Q
def G03 (n:Nat):SmV:=A1 [0,1,5] (G0Z n) (G01 n)
def C0H (n:Nat):SmV:=A1 [0,1,5] (G1o n) (G03 n)
def G06 (n:Nat):SmV:=E4 n [0,1,5] (C0H n)
def G08 (n:Nat):SmV:=C6 0 (G06 n)
def G1a (n:Nat):SmV:=A1 [0,1,5] (G1d n) (G08 n)
def G1c (n:Nat):SmV:=A2 A0w C0R
def C0I (n:Nat):SmV:=A1 [4] (G1c n) A8
def G1h (n:Nat):SmV:=A1 [] (G1a n) (C0I n)
def G1j (n:Nat):SmV:=A1 [0,1] (G0S n) (G1h n)
def A8z (n:Nat):AExit → Env → A0 → A6:=fun x e h=>match x with | .normal=>hold ((C0I n) A_er18_Find.fin (e.keep []) h) | .exit id=>A_er18_Find.fin (.exit id) e h | .ret=>A_er18_Find.fin .ret e h
def G1z (n:Nat):AExit → Env → A0 → A6:=fun x e h=>match x with | .exit i=>bif Nat.beq i 0 then (A8z n) .normal e h else (A8z n) (.exit i) e h | .normal=>(A8z n) .normal e h | .ret=>(A8z n) .ret e h
def A8A (n m:Nat) (x0 x1 x5:Val) (h:A0):A6:=E1 (C0H n) [0,1,5] (G1z n) m [(0,x0),(1,x1),(5,x5)] h
def B0J (n:Nat) (args:List Val) (h:A0):A6:=(G1j n) A_er18_Find.fin (params 0 args) h
theorem D2N (n:Nat) (a0 a1:Val) (h:A0):B0J n [a0,a1] h=A8A n n a0 a1 (.c (.i .i64 0)) h:=by kernel_rfl
theorem C0J (n m:Nat) (x0 x1 x5:Val) (h:A0):A8A n (m + 1) x0 x1 x5 h=bnd (A4 .lss x5 (.c (.i .i64 7))) fun v1=>cnd v1 (bnd (A2z [x0,x5] h) fun p2=>bnd (C2 p2.1 0) fun v3=>bnd (C2 p2.1 1) fun v4=>bnd (B7 ((p2.2 ++ [some (Row.mk ([.s [],.i .i64 0]) true)])) 2 ((.c (.p p2.2.length 0))) v3) fun h5=>bnd (gd v4 true (bnd (B9 ((.c (.p p2.2.length 0))) 0) fun v6=>some (v6,h5)) (some (.no,h5))) fun p7=>bnd (gd v4 true (bnd (A9 p7.2 p7.1) fun v8=>some (v8,p7.2)) (some (.no,p7.2))) fun p9=>bnd (gd v4 true (some (x1,p9.2)) (some (.no,p9.2))) fun p10=>bnd (gd v4 true (bnd (A4 .eql p9.1 p10.1) fun v11=>some (v11,p10.2)) (some (.no,p10.2))) fun p12=>bnd (C5 v4 p12.1 (.c (.b false))) fun v13=>cnd v13 (some (x5,p12.2)) (bnd (A4 .add x5 (.c (.i .i64 1))) fun v14=>A8A n m x0 x1 v14 p12.2)) (some ((.c (.i .i64 (-1))),h)):=by kernel_rfl
theorem K_er18_Find:FnK Tryz.prog 34 A_er18_Find A0w B0J:=.mk' (B3 B3l C3) Tryz.func34 (by kernel_rfl) (by intro n args h;kernel_rfl)
def A4x:Fun:=tidy (Lim A_er18_Find A0w)
theorem D4T:SOk Tryz.prog 34 A4x:=K_er18_Find.sok
theorem D4S {n:Nat} {args:List Val} {h h2:A0} {v:Val} (he:B0J n args (ro h)=some (v,h2)) (hf:v.flat=true):A4x args h=some (v,h):=K_er18_Find.flat he hf
end Go.Proofs.YtdgggnlbdoiloaaGreat
end
section
namespace Go.Proofs.YtdgggnlbdoiloaaGreat
open Go Go.Esc
theorem J36 {s:List UInt8} {n:Int} {h:A0} (hs:s.length < 9223372036854775807):A4y [.a [.s s,.i .i64 n]] h=some (.c (.b (S9 s n)),h):=by
  have key:∀ g,∃ g',A6x 0 [.a [.s s,.i .i64 n]] g=some (.c (.b (S9 s n)),g'):=by
    intro g
    have hC:=fun h=>right_eq hs h
    rw [D2O]
    unfold S9
    cases hf:N9 s with
    | false =>
      rw [hf] at hC
      exact ⟨_,by simp only [esc,esh,Nat.reduceAdd,Nat.reduceMul,Nat.reduceLT,hC] <;> rfl⟩
    | true =>
      rw [hf] at hC
      by_cases c1:1 ≤ n
      · by_cases c2:n ≤ 128
        · rw [decide_eq_true c1,decide_eq_true c2]
          exact ⟨_,by simp only [esc,esh,Nat.reduceAdd,Nat.reduceMul,Nat.reduceLT,hC,c1,c2] <;> rfl⟩
        · rw [decide_eq_true c1,decide_eq_false c2]
          exact ⟨_,by simp only [esc,esh,Nat.reduceAdd,Nat.reduceMul,Nat.reduceLT,hC,c1,c2] <;> rfl⟩
      · rw [decide_eq_false c1]
        exact ⟨_,by simp only [esc,esh,Nat.reduceAdd,Nat.reduceMul,Nat.reduceLT,hC,c1] <;> rfl⟩
  obtain ⟨g',e⟩:=key (ro h)
  exact D4U e rfl
theorem I0W {s:List UInt8} {n:Int} (hm:S9 s n=true):N9 s=true:=by
  unfold S9 at hm
  simp only [Bool.and_eq_true] at hm
  exact hm.1
theorem J34 {s:List UInt8} {n:Int} {h:A0} (hm:S9 s n=true):A4w [.a [.s s,.i .i64 n]] h=some (.c (.sl h.length 0 32 1),h ++ [some ⟨A3 (H4 s n),true⟩]):=by
  have hf:=I0W hm
  have hs:=(A3N hf).2
  have ep:K1 s s.length=G1 s:=by unfold G1;rw [hf,cond_true]
  have key:∀ g,∃ v g',A6w 0 [.a [.s s,.i .i64 n]] g=some (v,g') ∧ Out g.length g' v 1 32 (A3 (H4 s n)):=by
    intro g
    have hB:=fun h=>A7N (w:=2) (v:=n) (h:=h) (by omega)
    simp only [Int.cast_ofNat_Int] at hB
    have hP:=fun h=>C93 hs h
    rw [ep] at hP
    have ef5:B0 [Cell.i .u8 0,.i .u8 0,.i .u8 0,.i .u8 0,.i .u8 0] [(0,1,.c (.i .u8 0)),(1,1,.c (.i .u8 0)),(2,1,.c (.i .u8 0)),(3,1,.c (.i .u8 0)),(4,1,.c (.i .u8 0))]=some (A3 [0,0,0,0,0]):=rfl
    have hpl:(A3 (G1 s)).length=25:=by rw [B4];exact A3c
    have hA:=R9 (h:=g ++ [some (Row.mk [.s s,.i .i64 n] true),some (Row.mk [] true),some (Row.mk (A3 (B5 2 n)) true),some (Row.mk (A3 (G1 s)) true)]) (id:=g.length + 2) (jd:=g.length + 3) (n:=2) (m:=25) (sz:=1) (cs:=A3 (B5 2 n)) (ys:=A3 (G1 s)) (rw:=true) (by simp) (by simp [B4]) (by simp) (by rw [hpl]) rfl (by omega) (by omega)
    simp only [List.length_append,List.length_cons,List.length_nil,Nat.zero_add,List.append_assoc,List.cons_append,List.nil_append,A16,List.set_cons_succ,List.set_cons_zero,Nat.reduceAdd,← W3] at hA
    have hl27:(A3 (B5 2 n ++ G1 s)).length=27 * 1:=by rw [B4,List.length_append,A1g,A3c]
    have hA2:=R9 (h:=g ++ [some (Row.mk [.s s,.i .i64 n] true),some (Row.mk [] true),none,some (Row.mk (A3 (G1 s)) true),some (Row.mk (A3 (B5 2 n ++ G1 s)) true),some (Row.mk (A3 [0,0,0,0,0]) true)]) (id:=g.length + 4) (jd:=g.length + 5) (n:=27) (m:=5) (sz:=1) (cs:=A3 (B5 2 n ++ G1 s)) (ys:=A3 [0,0,0,0,0]) (rw:=true) (by simp) hl27 (by simp) rfl rfl (by omega) (by omega)
    simp only [List.length_append,List.length_cons,List.length_nil,Nat.zero_add,List.append_assoc,List.cons_append,List.nil_append,A16,List.set_cons_succ,List.set_cons_zero,Nat.reduceAdd,← W3] at hA2
    rw [← List.append_assoc (B5 2 n),show B5 2 n ++ G1 s ++ [0,0,0,0,0]=H4 s n from rfl] at hA2
    rw [D2M]
    refine ⟨.c (.sl (g.length + 6) 0 32 1),g ++ [some (Row.mk [.s s,.i .i64 n] true),some (Row.mk [] true),none,some (Row.mk (A3 (G1 s)) true),none,some (Row.mk (A3 [0,0,0,0,0]) true),some (Row.mk (A3 (H4 s n)) true)],?_,by rw [B4,A1O],g.length + 6,rfl,by omega,?_⟩
    · generalize H4 s n=E at *
      generalize B5 2 n ++ G1 s=Q at *
      generalize A3 [0,0,0,0,0]=F at *
      generalize A3 (G1 s)=P at *
      generalize A3 (B5 2 n)=B2 at *
      simp only [esc,esh,Nat.reduceAdd,Nat.reduceMul,Nat.reduceLT,hB,J3U,hP,hpl,hA,ef5,hA2]
    · simp
  obtain ⟨v,g',e,ho⟩:=key (ro h)
  exact D4R e (by simpa [L6] using ho) (by simp)
end Go.Proofs.YtdgggnlbdoiloaaGreat
end
section
namespace Go.Proofs.YtdgggnlbdoiloaaGreat
open Go Go.Esc
theorem E3v {b:List UInt8} {k:Nat}:F3 b ((F4 k + 2:Nat):Int) 25=nameB b k:=by
  unfold F3 nameB
  rw [if_pos (by omega),Int.toNat_natCast]
  rfl
theorem J4i {k:Nat} (hk:k < 7):IntKind.wrap .i64 (32 * (k:Int))=((32 * k:Nat):Int):=by rw [wrap_i64 (by omega) (by omega)];omega
theorem J3W {k:Nat} (hk:k < 7):IntKind.wrap .i64 (32 + ((32 * k:Nat):Int))=((F4 k:Nat):Int):=by unfold F4;rw [wrap_i64 (by omega) (by omega)];omega
theorem J3X {k:Nat} (hk:k < 7):IntKind.wrap .i64 (34 + ((32 * k:Nat):Int))=((F4 k + 2:Nat):Int):=by unfold F4;rw [wrap_i64 (by omega) (by omega)];omega
theorem C9Y {v:Val} {nv k:Nat} {b:List UInt8} {h:A0} (hv:Has h v 1 nv (A3 b)) (hb:b.length=256) (hk:k < 7):A2z [v,.c (.i .i64 (k:Int))] h=some (.t [.a (E9 (H7 b k)),.c (.b (H7 b k).isSome)],h):=by
  have key:∀ g,Has g v 1 nv (A3 b) → ∃ g',A6y 0 [v,.c (.i .i64 (k:Int))] g=some (.t [.a (E9 (H7 b k)),.c (.b (H7 b k).isSome)],g'):=by
    intro g hv
    have hnl:=B2o hb hk
    have hsl:=D0t hb hk
    have hC:=fun l=>C9P (hv.more l) (a:=((F4 k + 2:Nat):Int)) (n:=25) (by unfold F4;omega) (by omega)
    rw [E3v,hnl] at hC
    have hU:=fun (c0:Option Row)=>J4d (v:=.c (.sl (g.length + 1) 0 25 1)) (nv:=25) (l:=nameB b k) (h:=g ++ [c0,some (Row.mk (A3 (nameB b k)) true)]) (Has.row (rw:=true) (by simp) (by rw [B4,hnl]) (I3 _)) hnl
    have hA:=fun l=>A5D (hv.more l) hb (a:=(F4 k:Nat)) (w:=2)
    rw [B4h hk] at hA
    have ef:∀ (s:List UInt8) (n:Int),B0 [Cell.s [],.i .i64 0] [(0,1,.c (.s s)),(1,1,.c (.i .i64 n))]=some [.s s,.i .i64 n]:=fun _ _=>rfl
    have ef0:B0 [Cell.s [],.i .i64 0] []=some [.s [],.i .i64 0]:=rfl
    have w0:=J4i hk
    have w1:=J3W hk
    have w2:=J3X hk
    rw [D2P]
    unfold H7
    cases hu:R4 (nameB b k) with
    | none =>
      rw [hu] at hU
      simp only [Option.getD_none,Option.isSome_none] at hU
      generalize H9 b k=n at *
      generalize A3 (nameB b k)=z at *
      exact ⟨_,by simp only [esc,esh,Nat.reduceAdd,Nat.reduceMul,Nat.reduceLT,w0,w1,w2,hC,hU,hA,ef,ef0,Option.bind_none,E9,Option.isSome_none] <;> rfl⟩
    | some s =>
      rw [hu] at hU
      simp only [Option.getD_some,Option.isSome_some] at hU
      have hfs:=(A3N (B2W hu)).2
      have hM:=fun h=>J36 (s:=s) (n:=H9 b k) (h:=h) (by omega)
      rw [Option.bind_some]
      unfold isE
      cases hm:S9 s (H9 b k) with
      | false =>
        rw [hm] at hM
        rw [Bool.false_and,if_neg (by simp)]
        generalize H9 b k=n at *
        generalize A3 (nameB b k)=z at *
        exact ⟨_,by simp only [esc,esh,Nat.reduceAdd,Nat.reduceMul,Nat.reduceLT,w0,w1,w2,hC,hU,hA,ef,ef0,hM,E9,Option.isSome_none] <;> rfl⟩
      | true =>
        rw [hm] at hM
        rw [Bool.true_and]
        have hB:=fun h=>J34 (s:=s) (n:=H9 b k) (h:=h) hm
        have hC2:=fun l=>C9P (hv.more l) (a:=(F4 k:Nat)) (n:=32) (by unfold F4;omega) (by omega)
        rw [B6h,hsl] at hC2
        have hS:=fun (c0 c1 c2:Option Row)=>A95 (l:=H4 s (H9 b k)) (r:=T1 b k) (h:=g ++ [c0,c1,c2,some (Row.mk (A3 (H4 s (H9 b k))) true),some (Row.mk (A3 (T1 b k)) true)]) (v:=.c (.sl (g.length + 3) 0 32 1)) (u:=.c (.sl (g.length + 4) 0 32 1)) (Has.row (rw:=true) (by simp) (by rw [B4,A1O]) (I3 _)) (Has.row (rw:=true) (by simp) (by rw [B4,hsl]) (I3 _)) (by rw [A1O];omega)
        by_cases ce:H4 s (H9 b k)=T1 b k
        · rw [if_pos (decide_eq_true ce)]
          rw [decide_eq_true ce] at hS
          generalize H4 s (H9 b k)=E at *
          generalize T1 b k=L at *
          generalize H9 b k=n at *
          generalize A3 (nameB b k)=z at *
          exact ⟨_,by simp only [esc,esh,Nat.reduceAdd,Nat.reduceMul,Nat.reduceLT,w0,w1,w2,hC,hU,hA,ef,ef0,hM,hB,hC2,hS,E9,Option.isSome_some] <;> rfl⟩
        · rw [if_neg (by rw [decide_eq_true_eq];exact ce)]
          rw [decide_eq_false ce] at hS
          generalize H4 s (H9 b k)=E at *
          generalize T1 b k=L at *
          generalize H9 b k=n at *
          generalize A3 (nameB b k)=z at *
          exact ⟨_,by simp only [esc,esh,Nat.reduceAdd,Nat.reduceMul,Nat.reduceLT,w0,w1,w2,hC,hU,hA,ef,ef0,hM,hB,hC2,hS,E9,Option.isSome_none] <;> rfl⟩
  obtain ⟨g',e⟩:=key (ro h) hv.ro
  exact D4W e (by simp [Val.flat,B8l,Cell.flat])
def A90 (o:Option Nat):Int:=match o with
  | some k=>k
  | none=>-1
theorem B2H {v:Val} {nv q:Nat} {b nm:List UInt8} (hb:b.length=256):∀ (e k m:Nat) (h:A0),k + e=7 → e < m → Has h v 1 nv (A3 b) →
    ∃ h',A8A q m v (.c (.s nm)) (.c (.i .i64 (k:Int))) h=some (.c (.i .i64 (A90 ((R0 b nm e k).map (·.1)))),h')
  | e,k,0,h,_,hm,_=>by omega
  | 0,k,m + 1,h,hk,hm,hv=>by
    have e0:k=7:=by omega
    subst e0
    have c0:¬ ((7:Nat):Int) < 7:=by omega
    rw [C0J]
    exact ⟨_,by simp only [esc,c0] <;> rfl⟩
  | e + 1,k,m + 1,h,hk,hm,hv=>by
    have c0:(k:Int) < 7:=by omega
    have hR:=C9Y (k:=k) hv hb (by omega)
    have w1:=E6 (show k + 1 < 9223372036854775808 by omega)
    rw [C0J]
    cases hx:H7 b k with
    | none =>
      rw [hx] at hR
      rw [B1W hx]
      obtain ⟨h',ih⟩:=B2H (q:=q) (nm:=nm) hb e (k + 1) m (h ++ [some ⟨[.s [],.i .i64 0],true⟩]) (by omega) (by omega) (hv.more _)
      exact ⟨h',by simp only [esc,esh,Nat.reduceAdd,Nat.reduceMul,Nat.reduceLT,c0,hR,E9,Option.isSome_none,w1];exact ih⟩
    | some x =>
      obtain ⟨s,n⟩:=x
      rw [hx] at hR
      by_cases ce:s=nm
      · subst ce
        rw [B1T hx]
        exact ⟨_,by simp only [esc,esh,Nat.reduceAdd,Nat.reduceMul,Nat.reduceLT,c0,hR,E9,Option.isSome_some] <;> rfl⟩
      · rw [B1V hx ce]
        obtain ⟨h',ih⟩:=B2H (q:=q) (nm:=nm) hb e (k + 1) m (h ++ [some ⟨[.s s,.i .i64 n],true⟩]) (by omega) (by omega) (hv.more _)
        exact ⟨h',by simp only [esc,esh,Nat.reduceAdd,Nat.reduceMul,Nat.reduceLT,c0,hR,E9,Option.isSome_some,ce,w1];exact ih⟩
theorem J35 {v:Val} {nv:Nat} {b nm:List UInt8} {h:A0} (hv:Has h v 1 nv (A3 b)) (hb:b.length=256):A4x [v,.c (.s nm)] h=some (.c (.i .i64 (A90 ((J3 b nm).map (·.1)))),h):=by
  obtain ⟨h',e⟩:=B2H (q:=8) (nm:=nm) hb 7 0 8 (ro h) (by omega) (by omega) hv.ro
  exact D4S (n:=8) (by rw [D2N];exact e) rfl
end Go.Proofs.YtdgggnlbdoiloaaGreat
end
noncomputable section
namespace Go.Proofs.YtdgggnlbdoiloaaGreat
open Go Go.Esc
set_option maxRecDepth 100000
def C2c:List AOper:=[aO 5 (.box (.t 1)),aO 6 (.box (.t 2)),aO 8 (.mv (.v (.c (.i .i64 0)))),aO 9 (.mv (.v (.c (.i .i64 0)))),aO 10 (.mv (.v (.c (.b false))))]
def G7o:ACode:=.ops C2c
def C2d:List AOper:=[aO 15 (.mv (.t 0)),aO 16 (.loadN 3 (.t 5)),aO 17 (.loadN 11 (.t 6)),aO 18 (.call 38 [(.t 15),(.t 16),(.t 17)]),aO 14 (.mv (.t 18)),aO 19 (.ext (.t 14) 0),aO 20 (.ext (.t 14) 1),aO 11 (.alloc ([.i .i64 0] ++ List.replicate 32 (.i .i64 0))),{ dst:=none,op:=.storeN 33 (.t 11) (.t 19) },aO 12 (.mv (.t 20))]
def G7q:ACode:=.ops C2d
def C2e:List AOper:=[aO 21 (.mv (.t 12)),aO 22 (.un .not (.t 21))]
def G7A:ACode:=.ops C2e
def C2f:List AOper:=[aO 8 (.mv (.v (.c (.i .i64 0)))),aO 9 (.mv (.v (.c (.i .i64 0)))),aO 10 (.mv (.v (.c (.b false))))]
def G7C:ACode:=.ops C2f
def G7E:ACode:=.seq [8,9,10] G7C .ret
def G7G:ACode:=.cond (.t 22) G7E .skip
def G7I:ACode:=.seq [3,11,22] G7A G7G
def C2g:List AOper:=[aO 23 (.mv (.t 3)),aO 24 (.call 40 [(.t 23)]),aO 25 (.fAddr (.t 11) 0),aO 26 (.load1 (.t 25))]
def C2h:List AOper:=[aO 27 (.call 39 [(.t 24),(.t 26)]),aO 13 (.mv (.t 27))]
def G7K:ACode:=.draw 0 C2g C2h
def C2i:List AOper:=[aO 28 (.mv (.t 13)),aO 29 (.mv (.t 13)),aO 30 (.fAddr (.t 11) 1),aO 31 (.iAddrA 32 1 (.t 30) (.t 29)),aO 32 (.load1 (.t 31)),aO 8 (.mv (.t 28))]
def C2j:List AOper:=[aO 9 (.mv (.t 32)),aO 10 (.mv (.v (.c (.b true))))]
def G7M:ACode:=.draw 0 C2i C2j
def G7O:ACode:=.seq [8,9,10] G7M .ret
def G7r:ACode:=.seq [11,13] G7K G7O
def G7t:ACode:=.seq [3,11] G7I G7r
def G7v:ACode:=.seq [3,11,12] G7q G7t
def G7x:ACode:=.seq [0,3,5,6] G7o G7v
def A_er24_Route:AFn:=⟨G7x,[.tmp 8,.tmp 9,.tmp 10]⟩
def A1v:B6:=B1 38 A4E (B1 40 A2v (B1 39 A4q C1))
def G7p (n:Nat):SmV:=A2 A1v C2c
def G7z (n:Nat):SmV:=A2 A1v C2d
def G7B (n:Nat):SmV:=A2 A1v C2e
def G7D (n:Nat):SmV:=A2 A1v C2f
def G7F (n:Nat):SmV:=A1 [8,9,10] (G7D n) A8
def G7H (n:Nat):SmV:=B8 (.t 22) (G7F n) C0
def G7J (n:Nat):SmV:=A1 [3,11,22] (G7B n) (G7H n)
def G7L (n:Nat):SmV:=N3 A1v 0 C2g C2h
def G7N (n:Nat):SmV:=N3 A1v 0 C2i C2j
def G7P (n:Nat):SmV:=A1 [8,9,10] (G7N n) A8
def G7s (n:Nat):SmV:=A1 [11,13] (G7L n) (G7P n)
def G7u (n:Nat):SmV:=A1 [3,11] (G7J n) (G7s n)
def G7w (n:Nat):SmV:=A1 [3,11,12] (G7z n) (G7u n)
def G7y (n:Nat):SmV:=A1 [0,3,5,6] (G7p n) (G7w n)
def A6F (n:Nat) (args:List Val) (h:A0):A6:=(G7y n) A_er24_Route.fin (params 0 args) h
theorem D2Z (n:Nat) (a0 a1 a2 a3:Val) (h:A0):A6F n [a0,a1,a2,a3] h=bnd (cells? a1) fun c1=>bnd (cells? a2) fun c2=>bnd (A5 (((h ++ [some (Row.mk (c1) true)]) ++ [some (Row.mk (c2) true)])) 3 ((.c (.p h.length 0)))) fun v3=>bnd (A5 (((h ++ [some (Row.mk (c1) true)]) ++ [some (Row.mk (c2) true)])) 11 ((.c (.p ((h ++ [some (Row.mk (c1) true)])).length 0)))) fun v4=>bnd (A4E [a0,v3,v4] (((h ++ [some (Row.mk (c1) true)]) ++ [some (Row.mk (c2) true)]))) fun p5=>bnd (C2 p5.1 0) fun v6=>bnd (C2 p5.1 1) fun v7=>bnd (B7 ((p5.2 ++ [some (Row.mk ([.i .i64 0] ++ List.replicate 32 (.i .i64 0)) true)])) 33 ((.c (.p p5.2.length 0))) v6) fun h8=>bnd (aun .not v7) fun v9=>cnd v9 (C7 [some (.c (.i .i64 0)),some (.c (.i .i64 0)),some (.c (.b false))] h8) (bnd (quiet ((h8 ++ [])) (A2v [a3] ((h8 ++ [])))) fun p10=>bnd (B9 ((.c (.p p5.2.length 0))) 0) fun v11=>bnd (A9 h8 v11) fun v12=>bnd (A4q [p10.1,v12] p10.2) fun p13=>bnd (B9 ((.c (.p p5.2.length 0))) 1) fun v14=>bnd (D7 32 1 v14 p13.1) fun v15=>bnd (A9 p13.2 v15) fun v16=>C7 [some p13.1,some v16,some (.c (.b true))] ((p13.2 ++ []))):=by kernel_rfl
theorem K_er24_Route:FnK Tryz.prog 13 A_er24_Route A1v A6F:=.mk' (B3 D5a (B3 B3h (B3 D4B C3))) Tryz.func13 (by kernel_rfl) (by intro n args h;kernel_rfl)
def A2B:Fun:=tidy (Lim A_er24_Route A1v)
theorem B3o:SOk Tryz.prog 13 A2B:=K_er24_Route.sok
theorem D5d {n:Nat} {args:List Val} {h h2:A0} {v:Val} (he:A6F n args (ro h)=some (v,h2)) (hf:v.flat=true):A2B args h=some (v,h):=K_er24_Route.flat he hf
def C13:List AOper:=[aO 5 (.box (.t 1)),aO 6 (.box (.t 2)),aO 8 (.alloc ([.i .i64 0,.i .i64 0,.i .i64 0])),aO 9 (.mv (.v (.c (.b false))))]
def G6G:ACode:=.ops C13
def C14:List AOper:=[aO 17 (.mv (.t 0)),aO 18 (.loadN 3 (.t 5)),aO 19 (.loadN 11 (.t 6)),aO 20 (.mv (.t 3)),aO 21 (.call 13 [(.t 17),(.t 18),(.t 19),(.t 20)]),aO 16 (.mv (.t 21)),aO 22 (.ext (.t 16) 0),aO 23 (.ext (.t 16) 1),aO 24 (.ext (.t 16) 2),aO 10 (.mv (.t 22)),aO 11 (.mv (.t 23)),aO 12 (.mv (.t 24))]
def G6I:ACode:=.ops C14
def C15:List AOper:=[aO 25 (.mv (.t 12)),aO 26 (.un .not (.t 25)),aO 27 (.mv (.t 26)),{ dst:=some 28,op:=.loadN 3 (.t 5),guard:=some (27,false) },{ dst:=some 29,op:=.mv (.t 11),guard:=some (27,false) },{ dst:=some 30,op:=.call 33 [(.t 28),(.t 29)],guard:=some (27,false) },{ dst:=some 31,op:=.un .not (.t 30),guard:=some (27,false) },aO 32 (.pick (.t 27) (.v (.c (.b true))) (.t 31))]
def G64:ACode:=.ops C15
def C16:List AOper:=[aO 33 (.build ([.i .i64 0,.i .i64 0,.i .i64 0]) []),{ dst:=none,op:=.storeN 3 (.t 8) (.t 33) },aO 9 (.mv (.v (.c (.b false))))]
def G7a:ACode:=.ops C16
def G7c:ACode:=.seq [8,9] G7a .ret
def G7e:ACode:=.cond (.t 32) G7c .skip
def G7g:ACode:=.seq [0,3,8,11,32] G64 G7e
def C17:List AOper:=[aO 34 (.mv (.t 0)),aO 35 (.mv (.t 11)),aO 36 (.call 23 [(.t 34),(.t 35)]),aO 37 (.mv (.t 3)),aO 38 (.call 34 [(.t 36),(.t 37)]),aO 13 (.mv (.t 38))]
def G7i:ACode:=.ops C17
def C18:List AOper:=[aO 39 (.mv (.t 13)),aO 40 (.bin .lss (.t 39) (.v (.c (.i .i64 0))))]
def G7k:ACode:=.ops C18
def C19:List AOper:=[aO 41 (.build ([.i .i64 0,.i .i64 0,.i .i64 0]) []),{ dst:=none,op:=.storeN 3 (.t 8) (.t 41) },aO 9 (.mv (.v (.c (.b false))))]
def G7m:ACode:=.ops C19
def G6J:ACode:=.seq [8,9] G7m .ret
def G6L:ACode:=.cond (.t 40) G6J .skip
def G6N:ACode:=.seq [0,8,11,13,40] G7k G6L
def C2a:List AOper:=[aO 43 (.mv (.t 0)),aO 44 (.mv (.t 11)),aO 45 (.call 23 [(.t 43),(.t 44)]),aO 46 (.mv (.t 13)),aO 47 (.call 22 [(.t 45),(.t 46)]),aO 42 (.mv (.t 47)),aO 48 (.ext (.t 42) 0),aO 49 (.ext (.t 42) 1),aO 14 (.alloc ([.s [],.i .i64 0])),{ dst:=none,op:=.storeN 2 (.t 14) (.t 48) },aO 15 (.mv (.t 49))]
def G6P:ACode:=.ops C2a
def C2b:List AOper:=[aO 50 (.mv (.t 11)),aO 51 (.mv (.t 13)),aO 52 (.fAddr (.t 14) 1),aO 53 (.load1 (.t 52)),aO 54 (.build ([.i .i64 0,.i .i64 0,.i .i64 0]) [(0,1,(.t 50)),(1,1,(.t 51)),(2,1,(.t 53))]),{ dst:=none,op:=.storeN 3 (.t 8) (.t 54) },aO 9 (.mv (.v (.c (.b true))))]
def G6R:ACode:=.ops C2b
def G6T:ACode:=.seq [8,9] G6R .ret
def G6V:ACode:=.seq [8,11,13,14] G6P G6T
def G6X:ACode:=.seq [0,8,11,13] G6N G6V
def G6Z:ACode:=.seq [0,8,11,13] G7i G6X
def G61:ACode:=.seq [0,3,8,11] G7g G6Z
def G65:ACode:=.seq [0,3,5,8,11,12] G6I G61
def G67:ACode:=.seq [0,3,5,6,8] G6G G65
def A_er24_Lookup:AFn:=⟨G67,[.cellN 8 3,.tmp 9]⟩
def A0a:B6:=B1 13 A2B (B1 33 A2A (B1 23 A1A (B1 34 A4x (B1 22 A2z C1))))
def G6H (n:Nat):SmV:=A2 A0a C13
def G63 (n:Nat):SmV:=A2 A0a C14
def G69 (n:Nat):SmV:=A2 A0a C15
def G7b (n:Nat):SmV:=A2 A0a C16
def G7d (n:Nat):SmV:=A1 [8,9] (G7b n) A8
def G7f (n:Nat):SmV:=B8 (.t 32) (G7d n) C0
def G7h (n:Nat):SmV:=A1 [0,3,8,11,32] (G69 n) (G7f n)
def G7j (n:Nat):SmV:=A2 A0a C17
def G7l (n:Nat):SmV:=A2 A0a C18
def G7n (n:Nat):SmV:=A2 A0a C19
def G6K (n:Nat):SmV:=A1 [8,9] (G7n n) A8
def G6M (n:Nat):SmV:=B8 (.t 40) (G6K n) C0
def G6O (n:Nat):SmV:=A1 [0,8,11,13,40] (G7l n) (G6M n)
def G6Q (n:Nat):SmV:=A2 A0a C2a
def G6S (n:Nat):SmV:=A2 A0a C2b
def G6U (n:Nat):SmV:=A1 [8,9] (G6S n) A8
def G6W (n:Nat):SmV:=A1 [8,11,13,14] (G6Q n) (G6U n)
def G6Y (n:Nat):SmV:=A1 [0,8,11,13] (G6O n) (G6W n)
def G60 (n:Nat):SmV:=A1 [0,8,11,13] (G7j n) (G6Y n)
def G62 (n:Nat):SmV:=A1 [0,3,8,11] (G7h n) (G60 n)
def G66 (n:Nat):SmV:=A1 [0,3,5,8,11,12] (G63 n) (G62 n)
def G68 (n:Nat):SmV:=A1 [0,3,5,6,8] (G6H n) (G66 n)
def A6E (n:Nat) (args:List Val) (h:A0):A6:=(G68 n) A_er24_Lookup.fin (params 0 args) h
theorem D2Y (n:Nat) (a0 a1 a2 a3:Val) (h:A0):A6E n [a0,a1,a2,a3] h=bnd (cells? a1) fun c1=>bnd (cells? a2) fun c2=>bnd (A5 ((((h ++ [some (Row.mk (c1) true)]) ++ [some (Row.mk (c2) true)]) ++ [some (Row.mk ([.i .i64 0,.i .i64 0,.i .i64 0]) true)])) 3 ((.c (.p h.length 0)))) fun v3=>bnd (A5 ((((h ++ [some (Row.mk (c1) true)]) ++ [some (Row.mk (c2) true)]) ++ [some (Row.mk ([.i .i64 0,.i .i64 0,.i .i64 0]) true)])) 11 ((.c (.p ((h ++ [some (Row.mk (c1) true)])).length 0)))) fun v4=>bnd (A2B [a0,v3,v4,a3] ((((h ++ [some (Row.mk (c1) true)]) ++ [some (Row.mk (c2) true)]) ++ [some (Row.mk ([.i .i64 0,.i .i64 0,.i .i64 0]) true)]))) fun p5=>bnd (C2 p5.1 0) fun v6=>bnd (C2 p5.1 1) fun v7=>bnd (C2 p5.1 2) fun v8=>bnd (aun .not v8) fun v9=>bnd (gd v9 false (bnd (A5 p5.2 3 ((.c (.p h.length 0)))) fun v10=>some (v10,p5.2)) (some (.no,p5.2))) fun p11=>bnd (gd v9 false (some (v7,p11.2)) (some (.no,p11.2))) fun p12=>bnd (gd v9 false (bnd (A2A [p11.1,p12.1] p12.2) fun p13=>some (p13.1,p13.2)) (some (.no,p12.2))) fun p14=>bnd (gd v9 false (bnd (aun .not p14.1) fun v15=>some (v15,p14.2)) (some (.no,p14.2))) fun p16=>bnd (C5 v9 (.c (.b true)) p16.1) fun v17=>cnd v17 (bnd (B0 ([.i .i64 0,.i .i64 0,.i .i64 0]) []) fun c18=>bnd (B7 p16.2 3 ((.c (.p (((h ++ [some (Row.mk (c1) true)]) ++ [some (Row.mk (c2) true)])).length 0))) ((.a c18))) fun h19=>C7 [A5 h19 3 ((.c (.p (((h ++ [some (Row.mk (c1) true)]) ++ [some (Row.mk (c2) true)])).length 0))),some (.c (.b false))] h19) (bnd (A1A [a0,v7] p16.2) fun p20=>bnd (A4x [p20.1,a3] p20.2) fun p21=>bnd (A4 .lss p21.1 (.c (.i .i64 0))) fun v22=>cnd v22 (bnd (B0 ([.i .i64 0,.i .i64 0,.i .i64 0]) []) fun c23=>bnd (B7 p21.2 3 ((.c (.p (((h ++ [some (Row.mk (c1) true)]) ++ [some (Row.mk (c2) true)])).length 0))) ((.a c23))) fun h24=>C7 [A5 h24 3 ((.c (.p (((h ++ [some (Row.mk (c1) true)]) ++ [some (Row.mk (c2) true)])).length 0))),some (.c (.b false))] h24) (bnd (A1A [a0,v7] p21.2) fun p25=>bnd (A2z [p25.1,p21.1] p25.2) fun p26=>bnd (C2 p26.1 0) fun v27=>bnd (C2 p26.1 1) fun v28=>bnd (B7 ((p26.2 ++ [some (Row.mk ([.s [],.i .i64 0]) true)])) 2 ((.c (.p p26.2.length 0))) v27) fun h29=>bnd (B9 ((.c (.p p26.2.length 0))) 1) fun v30=>bnd (A9 h29 v30) fun v31=>bnd (B0 ([.i .i64 0,.i .i64 0,.i .i64 0]) [(0,1,v7),(1,1,p21.1),(2,1,v31)]) fun c32=>bnd (B7 h29 3 ((.c (.p (((h ++ [some (Row.mk (c1) true)]) ++ [some (Row.mk (c2) true)])).length 0))) ((.a c32))) fun h33=>C7 [A5 h33 3 ((.c (.p (((h ++ [some (Row.mk (c1) true)]) ++ [some (Row.mk (c2) true)])).length 0))),some (.c (.b true))] h33)):=by kernel_rfl
theorem K_er24_Lookup:FnK Tryz.prog 11 A_er24_Lookup A0a A6E:=.mk' (B3 B3o (B3 B3m (B3 B3n (B3 D4T (B3 B3l C3))))) Tryz.func11 (by kernel_rfl) (by intro n args h;kernel_rfl)
def A4F:Fun:=tidy (Lim A_er24_Lookup A0a)
theorem D5c:SOk Tryz.prog 11 A4F:=K_er24_Lookup.sok
theorem D5b {n:Nat} {args:List Val} {h h2:A0} {v:Val} (he:A6E n args (ro h)=some (v,h2)) (hf:v.flat=true):A4F args h=some (v,h):=K_er24_Lookup.flat he hf
end Go.Proofs.YtdgggnlbdoiloaaGreat
end
section
namespace Go.Proofs.YtdgggnlbdoiloaaGreat
open Go Go.Esc
theorem I0S {x:Nat} {b:Int} (h5:b ≤ 5):A0I x b=x % G0 b:=by
  unfold A0I G0 M8
  by_cases c:b < 1
  · rw [if_pos c]
    have:(max 0 (min b 5)).toNat=0:=by omega
    rw [this];simp [Nat.mod_one]
  · rw [if_neg c,if_neg (by omega)]
    have:(max 0 (min b 5)).toNat=b.toNat:=by omega
    rw [this]
theorem H0X {D:Dev} {n k:Int} {d:List Int} {x:Int} {t:List Int} (h:J8 D n k d=x :: t):x ≤ 5:=by
  unfold J8 at h
  cases c:L9 D n k d with
  | false=>rw [c,cond_false] at h;cases h;omega
  | true =>
    rw [c,cond_true] at h
    cases h
    unfold L9 I8 okX at c
    simp only [Bool.and_eq_true,decide_eq_true_eq] at c
    exact c.2.1.2.1
theorem C92 {D:Dev} {v:Val} {n m k l s p:Int} {d:List Int} {nm:List UInt8} {h:A0} (hv:Has h v 256 D.length (C9 D)) (hD:okD D) (hd:d.length=7) (hs:nm.length < 9223372036854775807) :
    A2B [v,.a (C4 D.length n m),.a (A7 k l s p d),.c (.s nm)] h=some (.t (Z0 D n k d nm),h):=by
  have key:∀ g,Has g v 256 D.length (C9 D) → ∃ g',A6F 0 [v,.a (C4 D.length n m),.a (A7 k l s p d),.c (.s nm)] g=some (.t (Z0 D n k d nm),g'):=by
    intro g hv
    have hIl:(A7 k l s p d).length=11:=by simp [A7,G6,hd]
    have hLl:(C4 D.length n m).length=3:=rfl
    have hz:(encI (0 :: zI 32)).length=33:=I6 (d:=0) K7
    have hX:=B16 D n k d
    have hI:=J4b (n:=n) (m:=m) (k:=k) (l:=l) (s:=s) (p:=p) (d:=d) (h:=g ++ [some (Row.mk (C4 D.length n m) true),some (Row.mk (A7 k l s p d) true)]) (hv.more _) hD hd
    rw [D2Z,Z3]
    unfold Z0
    cases c:L9 D n k d with
    | false =>
      rw [c] at hI
      generalize encI (J8 D n k d)=x at *
      generalize encI (0 :: zI 32)=z at *
      generalize C4 D.length n m=V at *
      generalize A7 k l s p d=I at *
      exact ⟨_,by simp only [esc,esh,Nat.reduceAdd,Nat.reduceMul,Nat.reduceLT,hLl,hIl,hI,hz,hX] <;> rfl⟩
    | true =>
      rw [c] at hI
      have hM:=fun h=>C9X (s:=nm) hs (h:=h)
      obtain ⟨x,t,e,ht⟩:=B15 D n k d
      have hx5:=H0X e
      rw [e] at hI hX ⊢
      have hP:=fun h=>J30 (x:=K0 nm) (b:=x) (h:=h) A9p
      rw [I0S hx5] at hP
      have hlt:=C3k (x :: t) nm
      have eP:K0 nm % G0 x=O9 (x :: t) nm:=rfl
      rw [eP] at hP
      have ad:∀ q,D7 32 1 (.c (.p q 1)) (.c (.i .i64 (O9 (x :: t) nm:Nat)))=some (.c (.p q (1 + O9 (x :: t) nm))):=fun q=>by
        rw [B3M (by omega) (by omega)];simp
      have l1:ld1 (some (Row.mk (encI (x :: t)) true)) (1 + O9 (x :: t) nm)=some (.c (.i .i64 (U9 (x :: t) nm))):=by
        rw [B2k]
        have:(encI (x :: t))[1 + O9 (x :: t) nm]? = some (.i .i64 (U9 (x :: t) nm)):=by
          rw [Y2,Nat.add_comm,List.getElem?_cons_succ,List.getElem?_eq_getElem (by omega)]
          unfold U9
          rw [List.tail_cons,List.getD_eq_getElem?_getD,List.getElem?_eq_getElem (by omega)];rfl
        rw [this];rfl
      have l0:ld1 (some (Row.mk (encI (x :: t)) true)) 0=some (.c (.i .i64 x)):=rfl
      generalize U9 (x :: t) nm=B at *
      generalize O9 (x :: t) nm=P at *
      generalize encI (x :: t)=X at *
      generalize encI (0 :: zI 32)=z at *
      generalize C4 D.length n m=V at *
      generalize A7 k l s p d=I at *
      exact ⟨_,by simp only [esc,W0,R8,A3C,A1d,A1f,W1,P4,A37,Nat.reduceAdd,hLl,hIl,hI,hz,hX,hM,hP,ad,l1,l0] <;> rfl⟩
  obtain ⟨g',e⟩:=key (ro h) hv.ro
  exact D5d e (by unfold Z0;cases L9 D n k d <;> rfl)
theorem B1U {b nm:List UInt8}:∀ {e k:Nat} {x:Slt},R0 b nm e k=some x → k ≤ x.1 ∧ x.1 < k + e ∧ H7 b x.1=some x.2 ∧ x.2.1=nm
  | 0,k,x,h=>by simp [R0] at h
  | e + 1,k,x,h=>by
    cases hr:H7 b k with
    | none =>
      rw [B1W hr] at h
      have:=B1U h
      exact ⟨by omega,by omega,this.2.2⟩
    | some y =>
      obtain ⟨s,n⟩:=y
      by_cases c:s=nm
      · subst c
        rw [B1T hr] at h
        cases h
        exact ⟨Nat.le_refl _,by simp,hr,rfl⟩
      · rw [B1V hr c] at h
        have:=B1U h
        exact ⟨by omega,by omega,this.2.2⟩
theorem G7T {b nm:List UInt8} {x:Slt} (h:J3 b nm=some x):x.1 < 7 ∧ H7 b x.1=some x.2 ∧ x.2.1=nm:=by
  have:=B1U h
  exact ⟨by omega,this.2.2⟩
theorem J4c {D:Dev} {v:Val} {n m k l s p:Int} {d:List Int} {nm:List UInt8} {h:A0} (hv:Has h v 256 D.length (C9 D)) (hD:okD D) (hd:d.length=7) (hs:nm.length < 9223372036854775807) :
    A4F [v,.a (C4 D.length n m),.a (A7 k l s p d),.c (.s nm)] h=some (.t [.a (E2 (J5 D n k d nm)),.c (.b (J5 D n k d nm).isSome)],h):=by
  have key:∀ g,Has g v 256 D.length (C9 D) → ∃ g',A6E 0 [v,.a (C4 D.length n m),.a (A7 k l s p d),.c (.s nm)] g=some (.t [.a (E2 (J5 D n k d nm)),.c (.b (J5 D n k d nm).isSome)],g'):=by
    intro g hv
    have hIl:(A7 k l s p d).length=11:=by simp [A7,G6,hd]
    have hLl:(C4 D.length n m).length=3:=rfl
    have ef:B0 [Cell.i .i64 0,.i .i64 0,.i .i64 0] []=some [Cell.i .i64 0,.i .i64 0,.i .i64 0]:=rfl
    have l3z:ldN (some (Row.mk [Cell.i .i64 0,.i .i64 0,.i .i64 0] true)) 0 3=some (.a [Cell.i .i64 0,.i .i64 0,.i .i64 0]):=rfl
    have s3z:∀ x,stN (some (Row.mk [Cell.i .i64 0,.i .i64 0,.i .i64 0] true)) 0 3 [Cell.i .i64 x,.i .i64 0,.i .i64 0]=some ⟨[Cell.i .i64 x,.i .i64 0,.i .i64 0],true⟩:=fun _=>rfl
    have hvG:Has (g ++ [some (Row.mk (C4 D.length n m) true),some (Row.mk (A7 k l s p d) true),some (Row.mk [.i .i64 0,.i .i64 0,.i .i64 0] true)]) v 256 D.length (C9 D):=hv.more _
    have hR:=C92 (n:=n) (m:=m) (k:=k) (l:=l) (s:=s) (p:=p) (d:=d) (nm:=nm) hvG hD hd hs
    rw [D2Y]
    unfold J5
    unfold Z0 at hR
    cases c:L9 D n k d with
    | false =>
      rw [c,cond_false] at hR
      rw [if_neg (by simp)]
      generalize C4 D.length n m=V at *
      generalize A7 k l s p d=I at *
      exact ⟨_,by simp only [esc,esh,Nat.reduceAdd,Nat.reduceMul,Nat.reduceLT,hLl,hIl,hR,ef,l3z,s3z,E2,Option.isSome_none] <;> rfl⟩
    | true =>
      rw [c,cond_true] at hR
      generalize O9 (J8 D n k d) nm=P at *
      generalize U9 (J8 D n k d) nm=B at *
      have hG:=fun h=>C9Z (b:=D.length) (n:=n) (m:=m) (i:=B) (h:=h)
      cases c2:N0 D.length n B with
      | false =>
        simp only [c2] at hG
        rw [if_neg (by simp)]
        generalize C4 D.length n m=V at *
        generalize A7 k l s p d=I at *
        exact ⟨_,by simp only [esc,esh,Nat.reduceAdd,Nat.reduceMul,Nat.reduceLT,hLl,hIl,hR,hG,ef,l3z,s3z,E2,Option.isSome_none] <;> rfl⟩
      | true =>
        simp only [c2] at hG
        rw [if_pos ⟨rfl,rfl⟩]
        obtain ⟨j,rfl,hjl⟩:=B6i c2
        obtain ⟨u,hB,hu⟩:=C91 hvG hD hjl
        have hbk:blk D (j:Int)=D[j]:=B1n hjl
        have hF:=J35 (nm:=nm) hu (hD.at hjl)
        rw [hbk]
        cases c3:J3 D[j] nm with
        | none =>
          rw [c3] at hF
          have n1:(-1:Int) < 0:=by decide
          generalize C4 D.length n m=V at *
          generalize A7 k l s p d=I at *
          exact ⟨_,by simp only [esc,esh,Nat.reduceAdd,Nat.reduceMul,Nat.reduceLT,hLl,hIl,hR,hG,hB,hF,Option.map_none,A90,n1,ef,l3z,s3z,E2,Option.isSome_none] <;> rfl⟩
        | some sl =>
          obtain ⟨kk,s',i'⟩:=sl
          obtain ⟨f1,f2,f3⟩:=G7T c3
          dsimp only at f1 f2 f3
          subst f3
          rw [c3] at hF
          have hRd:=C9Y hu (hD.at hjl) f1
          rw [f2] at hRd
          have n1:¬ (kk:Int) < 0:=by omega
          generalize C4 D.length n m=V at *
          generalize A7 k l s p d=I at *
          have s2:stN (some (Row.mk [Cell.s [],.i .i64 0] true)) 0 2 (E9 (some (s',i')))=some ⟨E9 (some (s',i')),true⟩:=rfl
          have g1:ld1 (some (Row.mk (E9 (some (s',i'))) true)) 1=some (.c (.i .i64 i')):=rfl
          have ef3:B0 [Cell.i .i64 0,.i .i64 0,.i .i64 0] [(0,1,.c (.i .i64 (j:Int))),(1,1,.c (.i .i64 (kk:Int))),(2,1,.c (.i .i64 i'))]=some [Cell.i .i64 (j:Int),.i .i64 (kk:Int),.i .i64 i']:=rfl
          have s33:stN (some (Row.mk [Cell.i .i64 0,.i .i64 0,.i .i64 0] true)) 0 3 [Cell.i .i64 (j:Int),.i .i64 (kk:Int),.i .i64 i']=some ⟨[Cell.i .i64 (j:Int),.i .i64 (kk:Int),.i .i64 i'],true⟩:=rfl
          have l33:ldN (some (Row.mk [Cell.i .i64 (j:Int),.i .i64 (kk:Int),.i .i64 i'] true)) 0 3=some (.a [Cell.i .i64 (j:Int),.i .i64 (kk:Int),.i .i64 i']):=rfl
          exact ⟨_,by simp only [esc,W0,R8,A3C,A1d,A1f,W1,P4,A37,Nat.reduceAdd,hLl,hIl,hR,hG,hB,hF,hRd,Option.map_some,A90,n1,ef,s2,g1,ef3,s33,l33,E2,Option.isSome_some] <;> rfl⟩
  obtain ⟨g',e⟩:=key (ro h) hv.ro
  exact D5b e (by cases J5 D n k d nm <;> rfl)
end Go.Proofs.YtdgggnlbdoiloaaGreat
end
noncomputable section
namespace Go.Proofs.YtdgggnlbdoiloaaGreat
open Go Go.Esc
set_option maxRecDepth 100000
def B7H:List AOper:=[aO 6 (.mv (.v (.c (.b false))))]
def E87:ACode:=.ops B7H
def B7I:List AOper:=[aO 22 (.mv (.t 0)),aO 23 (.len (.t 22)),aO 24 (.bin .gtr (.t 23) (.v (.c (.i .i64 60)))),aO 25 (.mv (.t 24)),{ dst:=some 26,op:=.mv (.t 2),guard:=some (25,false) },{ dst:=some 27,op:=.lenS (.t 26),guard:=some (25,false) },{ dst:=some 28,op:=.bin .gtr (.t 27) (.v (.c (.i .i64 60))),guard:=some (25,false) },aO 29 (.pick (.t 25) (.v (.c (.b true))) (.t 28))]
def E89:ACode:=.ops B7I
def B7M:List AOper:=[aO 30 (.call 5 []),aO 6 (.mv (.t 30))]
def E9v:ACode:=.ops B7M
def E9R:ACode:=.seq [6] E9v .ret
def E9T:ACode:=.cond (.t 29) E9R .skip
def E9V:ACode:=.seq [0,1,2,29] E89 E9T
def B7N:List AOper:=[aO 32 (.mv (.t 0)),aO 33 (.call 7 [(.t 32)]),aO 34 (.call 6 [(.t 33)]),aO 31 (.mv (.t 34)),aO 35 (.ext (.t 31) 0),aO 36 (.ext (.t 31) 1),aO 7 (.alloc ([.i .i64 0,.i .i64 0,.i .u64 0,.nf])),{ dst:=none,op:=.storeN 4 (.t 7) (.t 35) },aO 8 (.mv (.t 36))]
def E9X:ACode:=.ops B7N
def B7O:List AOper:=[aO 38 (.mv (.t 0)),aO 39 (.call 8 [(.t 38)]),aO 37 (.mv (.t 39)),aO 40 (.ext (.t 37) 0),aO 41 (.ext (.t 37) 1),aO 9 (.alloc ([.i .i64 0,.i .i64 0,.i .u64 0])),{ dst:=none,op:=.storeN 3 (.t 9) (.t 40) },aO 10 (.mv (.t 41))]
def E9Z:ACode:=.ops B7O
def B7P:List AOper:=[aO 42 (.mv (.t 10)),aO 43 (.un .not (.t 42)),aO 44 (.mv (.t 43)),{ dst:=some 45,op:=.mv (.t 8),guard:=some (44,false) },{ dst:=some 46,op:=.bin .neq (.t 45) (.v (.c (.i .i64 0))),guard:=some (44,false) },aO 47 (.pick (.t 44) (.v (.c (.b true))) (.t 46))]
def E91:ACode:=.ops B7P
def B7Q:List AOper:=[aO 48 (.mv (.t 10)),aO 49 (.mv (.t 8)),aO 50 (.bin .eql (.t 49) (.v (.c (.i .i64 0)))),aO 51 (.eqB false (.t 48) (.t 50)),aO 52 (.mv (.t 51)),{ dst:=some 53,op:=.call 5 [],guard:=some (52,true) },aO 54 (.pick (.t 52) (.t 53) (.v (.c (.b false)))),aO 6 (.mv (.t 54))]
def E93:ACode:=.ops B7Q
def E9a:ACode:=.seq [6] E93 .ret
def E9c:ACode:=.cond (.t 47) E9a .skip
def E9e:ACode:=.seq [0,1,2,7,8,9,10,47] E91 E9c
def B7R:List AOper:=[aO 55 (.loadN 4 (.t 7)),aO 56 (.mv (.t 1)),aO 57 (.call 9 [(.t 55),(.t 56)]),aO 11 (.alloc ([.i .i64 0,.i .i64 0,.i .i64 0,.i .i64 0,.i .i64 0,.i .i64 0,.i .i64 0,.i .i64 0,.i .i64 0,.i .i64 0,.i .i64 0])),{ dst:=none,op:=.storeN 11 (.t 11) (.t 57) }]
def E9g:ACode:=.ops B7R
def B7S:List AOper:=[aO 59 (.loadN 4 (.t 7)),aO 60 (.loadN 11 (.t 11)),aO 61 (.mv (.t 2)),aO 62 (.call 10 [(.t 59),(.t 60),(.t 61)]),aO 58 (.mv (.t 62)),aO 63 (.ext (.t 58) 0),aO 64 (.ext (.t 58) 1),aO 12 (.alloc ([.i .i64 0,.i .i64 0,.i .i64 0])),{ dst:=none,op:=.storeN 3 (.t 12) (.t 63) },aO 13 (.mv (.t 64))]
def E9i:ACode:=.ops B7S
def B7T:List AOper:=[aO 66 (.mv (.t 0)),aO 67 (.loadN 3 (.t 9)),aO 68 (.loadN 11 (.t 11)),aO 69 (.mv (.t 2)),aO 70 (.call 11 [(.t 66),(.t 67),(.t 68),(.t 69)]),aO 65 (.mv (.t 70)),aO 71 (.ext (.t 65) 0),aO 72 (.ext (.t 65) 1),aO 14 (.alloc ([.i .i64 0,.i .i64 0,.i .i64 0])),{ dst:=none,op:=.storeN 3 (.t 14) (.t 71) },aO 15 (.mv (.t 72))]
def E9k:ACode:=.ops B7T
def B7J:List AOper:=[aO 74 (.loadN 4 (.t 7)),aO 75 (.loadN 11 (.t 11)),aO 76 (.mv (.t 2)),aO 77 (.call 12 [(.t 74),(.t 75),(.t 76)]),aO 73 (.mv (.t 77)),aO 78 (.ext (.t 73) 0),aO 79 (.ext (.t 73) 1),aO 80 (.ext (.t 73) 2),aO 16 (.mv (.t 78)),aO 17 (.mv (.t 79)),aO 18 (.mv (.t 80))]
def E9m:ACode:=.ops B7J
def B7K:List AOper:=[aO 82 (.mv (.t 0)),aO 83 (.loadN 3 (.t 9)),aO 84 (.loadN 11 (.t 11)),aO 85 (.mv (.t 2)),aO 86 (.call 13 [(.t 82),(.t 83),(.t 84),(.t 85)]),aO 81 (.mv (.t 86)),aO 87 (.ext (.t 81) 0),aO 88 (.ext (.t 81) 1),aO 89 (.ext (.t 81) 2),aO 19 (.mv (.t 87)),aO 20 (.mv (.t 88)),aO 21 (.mv (.t 89))]
def E9o:ACode:=.ops B7K
def B7L:List AOper:=[aO 90 (.loadN 3 (.t 12)),aO 91 (.loadN 3 (.t 14)),aO 92 (.eqA false ([.i .i64,.i .i64,.i .i64]) (.t 90) (.t 91)),aO 93 (.mv (.t 92)),{ dst:=some 94,op:=.mv (.t 13),guard:=some (93,true) },{ dst:=some 95,op:=.mv (.t 15),guard:=some (93,true) },{ dst:=some 96,op:=.eqB false (.t 94) (.t 95),guard:=some (93,true) },aO 97 (.pick (.t 93) (.t 96) (.v (.c (.b false)))),aO 98 (.mv (.t 97)),{ dst:=some 99,op:=.mv (.t 16),guard:=some (98,true) },{ dst:=some 100,op:=.mv (.t 19),guard:=some (98,true) },{ dst:=some 101,op:=.bin .eql (.t 99) (.t 100),guard:=some (98,true) },aO 102 (.pick (.t 98) (.t 101) (.v (.c (.b false)))),aO 103 (.mv (.t 102)),{ dst:=some 104,op:=.mv (.t 17),guard:=some (103,true) },{ dst:=some 105,op:=.mv (.t 20),guard:=some (103,true) },{ dst:=some 106,op:=.bin .eql (.t 104) (.t 105),guard:=some (103,true) },aO 107 (.pick (.t 103) (.t 106) (.v (.c (.b false)))),aO 108 (.mv (.t 107)),{ dst:=some 109,op:=.mv (.t 18),guard:=some (108,true) },{ dst:=some 110,op:=.mv (.t 21),guard:=some (108,true) },{ dst:=some 111,op:=.eqB false (.t 109) (.t 110),guard:=some (108,true) },aO 112 (.pick (.t 108) (.t 111) (.v (.c (.b false)))),aO 113 (.mv (.t 112)),{ dst:=some 114,op:=.call 5 [],guard:=some (113,true) },aO 115 (.pick (.t 113) (.t 114) (.v (.c (.b false)))),aO 6 (.mv (.t 115))]
def E9q:ACode:=.ops B7L
def E9s:ACode:=.seq [6] E9q .ret
def E9w:ACode:=.seq [12,13,14,15,16,17,18,19,20,21] E9o E9s
def E9y:ACode:=.seq [0,2,9,11,12,13,14,15,16,17,18] E9m E9w
def E9A:ACode:=.seq [0,2,7,9,11,12,13,14,15] E9k E9y
def E9C:ACode:=.seq [0,2,7,9,11,12,13] E9i E9A
def E9E:ACode:=.seq [0,2,7,9,11] E9g E9C
def E9G:ACode:=.seq [0,1,2,7,9] E9e E9E
def E9I:ACode:=.seq [0,1,2,7,8,9,10] E9Z E9G
def E9K:ACode:=.seq [0,1,2,7,8] E9X E9I
def E9M:ACode:=.seq [0,1,2] E9V E9K
def E9O:ACode:=.seq [0,1,2] E87 E9M
def A_el24_DreadLooks:AFn:=⟨E9O,[.tmp 6]⟩
def R7:B6:=B1 5 A2s (B1 7 A4o (B1 6 A0A (B1 8 A4D (B1 9 A1B (B1 10 A0g (B1 11 A4F (B1 12 A2q (B1 13 A2B C1))))))))
def E88 (n:Nat):SmV:=A2 R7 B7H
def E9u (n:Nat):SmV:=A2 R7 B7I
def E9Q (n:Nat):SmV:=A2 R7 B7M
def E9S (n:Nat):SmV:=A1 [6] (E9Q n) A8
def E9U (n:Nat):SmV:=B8 (.t 29) (E9S n) C0
def E9W (n:Nat):SmV:=A1 [0,1,2,29] (E9u n) (E9U n)
def E9Y (n:Nat):SmV:=A2 R7 B7N
def E90 (n:Nat):SmV:=A2 R7 B7O
def E92 (n:Nat):SmV:=A2 R7 B7P
def E94 (n:Nat):SmV:=A2 R7 B7Q
def E9b (n:Nat):SmV:=A1 [6] (E94 n) A8
def E9d (n:Nat):SmV:=B8 (.t 47) (E9b n) C0
def E9f (n:Nat):SmV:=A1 [0,1,2,7,8,9,10,47] (E92 n) (E9d n)
def E9h (n:Nat):SmV:=A2 R7 B7R
def E9j (n:Nat):SmV:=A2 R7 B7S
def E9l (n:Nat):SmV:=A2 R7 B7T
def E9n (n:Nat):SmV:=A2 R7 B7J
def E9p (n:Nat):SmV:=A2 R7 B7K
def E9r (n:Nat):SmV:=A2 R7 B7L
def E9t (n:Nat):SmV:=A1 [6] (E9r n) A8
def E9x (n:Nat):SmV:=A1 [12,13,14,15,16,17,18,19,20,21] (E9p n) (E9t n)
def E9z (n:Nat):SmV:=A1 [0,2,9,11,12,13,14,15,16,17,18] (E9n n) (E9x n)
def E9B (n:Nat):SmV:=A1 [0,2,7,9,11,12,13,14,15] (E9l n) (E9z n)
def E9D (n:Nat):SmV:=A1 [0,2,7,9,11,12,13] (E9j n) (E9B n)
def E9F (n:Nat):SmV:=A1 [0,2,7,9,11] (E9h n) (E9D n)
def E9H (n:Nat):SmV:=A1 [0,1,2,7,9] (E9f n) (E9F n)
def E9J (n:Nat):SmV:=A1 [0,1,2,7,8,9,10] (E90 n) (E9H n)
def E9L (n:Nat):SmV:=A1 [0,1,2,7,8] (E9Y n) (E9J n)
def E9N (n:Nat):SmV:=A1 [0,1,2] (E9W n) (E9L n)
def E9P (n:Nat):SmV:=A1 [0,1,2] (E88 n) (E9N n)
def B7F (n:Nat) (x6:Val) (h:A0):A6:=hold (A8 A_el24_DreadLooks.fin [(6,x6)] h)
def A6n (n:Nat) (args:List Val) (h:A0):A6:=(E9P n) A_el24_DreadLooks.fin (params 0 args) h
theorem D2u (n:Nat) (a0 a1 a2:Val) (h:A0):A6n n [a0,a1,a2] h=bnd (F5 a0) fun v1=>bnd (A4 .gtr v1 (.c (.i .i64 60))) fun v2=>bnd (gd v2 false (some (a2,h)) (some (.no,h))) fun p3=>bnd (gd v2 false (bnd (Q0 p3.1) fun v4=>some (v4,p3.2)) (some (.no,p3.2))) fun p5=>bnd (gd v2 false (bnd (A4 .gtr p5.1 (.c (.i .i64 60))) fun v6=>some (v6,p5.2)) (some (.no,p5.2))) fun p7=>bnd (C5 v2 (.c (.b true)) p7.1) fun v8=>cnd v8 (bnd (A2s [] p7.2) fun p9=>some (p9.1,p9.2)) (bnd (A4o [a0] p7.2) fun p10=>bnd (A0A [p10.1] p10.2) fun p11=>bnd (C2 p11.1 0) fun v12=>bnd (C2 p11.1 1) fun v13=>bnd (B7 ((p11.2 ++ [some (Row.mk ([.i .i64 0,.i .i64 0,.i .u64 0,.nf]) true)])) 4 ((.c (.p p11.2.length 0))) v12) fun h14=>bnd (A4D [a0] h14) fun p15=>bnd (C2 p15.1 0) fun v16=>bnd (C2 p15.1 1) fun v17=>bnd (B7 ((p15.2 ++ [some (Row.mk ([.i .i64 0,.i .i64 0,.i .u64 0]) true)])) 3 ((.c (.p p15.2.length 0))) v16) fun h18=>bnd (aun .not v17) fun v19=>bnd (gd v19 false (some (v13,h18)) (some (.no,h18))) fun p20=>bnd (gd v19 false (bnd (A4 .neq p20.1 (.c (.i .i64 0))) fun v21=>some (v21,p20.2)) (some (.no,p20.2))) fun p22=>bnd (C5 v19 (.c (.b true)) p22.1) fun v23=>cnd v23 (bnd (A4 .eql v13 (.c (.i .i64 0))) fun v24=>bnd (A1b false v17 v24) fun v25=>bnd (gd v25 true (bnd (A2s [] p22.2) fun p26=>some (p26.1,p26.2)) (some (.no,p22.2))) fun p27=>bnd (C5 v25 p27.1 (.c (.b false))) fun v28=>some (v28,p27.2)) (bnd (A5 p22.2 4 ((.c (.p p11.2.length 0)))) fun v29=>bnd (A1B [v29,a1] p22.2) fun p30=>bnd (B7 ((p30.2 ++ [some (Row.mk ([.i .i64 0,.i .i64 0,.i .i64 0,.i .i64 0,.i .i64 0,.i .i64 0,.i .i64 0,.i .i64 0,.i .i64 0,.i .i64 0,.i .i64 0]) true)])) 11 ((.c (.p p30.2.length 0))) p30.1) fun h31=>bnd (A5 h31 4 ((.c (.p p11.2.length 0)))) fun v32=>bnd (A5 h31 11 ((.c (.p p30.2.length 0)))) fun v33=>bnd (A0g [v32,v33,a2] h31) fun p34=>bnd (C2 p34.1 0) fun v35=>bnd (C2 p34.1 1) fun v36=>bnd (B7 ((p34.2 ++ [some (Row.mk ([.i .i64 0,.i .i64 0,.i .i64 0]) true)])) 3 ((.c (.p p34.2.length 0))) v35) fun h37=>bnd (A5 h37 3 ((.c (.p p15.2.length 0)))) fun v38=>bnd (A5 h37 11 ((.c (.p p30.2.length 0)))) fun v39=>bnd (A4F [a0,v38,v39,a2] h37) fun p40=>bnd (C2 p40.1 0) fun v41=>bnd (C2 p40.1 1) fun v42=>bnd (B7 ((p40.2 ++ [some (Row.mk ([.i .i64 0,.i .i64 0,.i .i64 0]) true)])) 3 ((.c (.p p40.2.length 0))) v41) fun h43=>bnd (A5 h43 4 ((.c (.p p11.2.length 0)))) fun v44=>bnd (A5 h43 11 ((.c (.p p30.2.length 0)))) fun v45=>bnd (A2q [v44,v45,a2] h43) fun p46=>bnd (C2 p46.1 0) fun v47=>bnd (C2 p46.1 1) fun v48=>bnd (C2 p46.1 2) fun v49=>bnd (A5 p46.2 3 ((.c (.p p15.2.length 0)))) fun v50=>bnd (A5 p46.2 11 ((.c (.p p30.2.length 0)))) fun v51=>bnd (A2B [a0,v50,v51,a2] p46.2) fun p52=>bnd (C2 p52.1 0) fun v53=>bnd (C2 p52.1 1) fun v54=>bnd (C2 p52.1 2) fun v55=>bnd (A5 p52.2 3 ((.c (.p p34.2.length 0)))) fun v56=>bnd (A5 p52.2 3 ((.c (.p p40.2.length 0)))) fun v57=>bnd (aeq false ([.i .i64,.i .i64,.i .i64]) v56 v57) fun v58=>bnd (gd v58 true (some (v36,p52.2)) (some (.no,p52.2))) fun p59=>bnd (gd v58 true (some (v42,p59.2)) (some (.no,p59.2))) fun p60=>bnd (gd v58 true (bnd (A1b false p59.1 p60.1) fun v61=>some (v61,p60.2)) (some (.no,p60.2))) fun p62=>bnd (C5 v58 p62.1 (.c (.b false))) fun v63=>bnd (gd v63 true (some (v47,p62.2)) (some (.no,p62.2))) fun p64=>bnd (gd v63 true (some (v53,p64.2)) (some (.no,p64.2))) fun p65=>bnd (gd v63 true (bnd (A4 .eql p64.1 p65.1) fun v66=>some (v66,p65.2)) (some (.no,p65.2))) fun p67=>bnd (C5 v63 p67.1 (.c (.b false))) fun v68=>bnd (gd v68 true (some (v48,p67.2)) (some (.no,p67.2))) fun p69=>bnd (gd v68 true (some (v54,p69.2)) (some (.no,p69.2))) fun p70=>bnd (gd v68 true (bnd (A4 .eql p69.1 p70.1) fun v71=>some (v71,p70.2)) (some (.no,p70.2))) fun p72=>bnd (C5 v68 p72.1 (.c (.b false))) fun v73=>bnd (gd v73 true (some (v49,p72.2)) (some (.no,p72.2))) fun p74=>bnd (gd v73 true (some (v55,p74.2)) (some (.no,p74.2))) fun p75=>bnd (gd v73 true (bnd (A1b false p74.1 p75.1) fun v76=>some (v76,p75.2)) (some (.no,p75.2))) fun p77=>bnd (C5 v73 p77.1 (.c (.b false))) fun v78=>bnd (gd v78 true (bnd (A2s [] p77.2) fun p79=>some (p79.1,p79.2)) (some (.no,p77.2))) fun p80=>bnd (C5 v78 p80.1 (.c (.b false))) fun v81=>B7F n v81 p80.2)):=by kernel_rfl
theorem B7G (n:Nat) (x6:Val) (h:A0):B7F n x6 h=some (x6,h):=by kernel_rfl
theorem K_el24_DreadLooks:FnK Tryz.prog 3 A_el24_DreadLooks R7 A6n:=.mk' (B3 D4t (B3 D4m (B3 B3B (B3 D47 (B3 B3D (B3 A7n (B3 D5c (B3 B3c (B3 B3o C3))))))))) Tryz.func3 (by kernel_rfl) (by intro n args h;kernel_rfl)
def B0Z:Fun:=tidy (Lim A_el24_DreadLooks R7)
theorem D4p:SOk Tryz.prog 3 B0Z:=K_el24_DreadLooks.sok
theorem D4o {n:Nat} {args:List Val} {h h2:A0} {v:Val} (he:A6n n args (ro h)=some (v,h2)) (hf:v.flat=true):B0Z args h=some (v,h):=K_el24_DreadLooks.flat he hf
end Go.Proofs.YtdgggnlbdoiloaaGreat
end
section
namespace Go.Proofs.YtdgggnlbdoiloaaGreat
open Go Go.Esc
theorem J3O (o:Option Plc):aeq false [.i .i64,.i .i64,.i .i64] (.a (E2 o)) (.a (E2 o))=some (.c (.b true)):=by
  cases o with
  | none=>rfl
  | some p =>
    rw [A5A,decide_eq_true rfl];rfl
theorem J4j (D:Dev) (n k:Int) (d:List Int) (nm:List UInt8):∃ a b c,Z0 D n k d nm=[.c (.i .i64 a),.c (.i .i64 b),.c (.b c)]:=by
  unfold Z0
  cases L9 D n k d
  · exact ⟨_,_,_,rfl⟩
  · exact ⟨_,_,_,rfl⟩
set_option maxHeartbeats 2000000 in
theorem E3F {v:Val} {D:Dev} {ino:Int} {nm:List UInt8} {h:A0} (hv:Has h v 256 D.length (C9 D)) (hD:okD D):B0Z [v,.c (.i .i64 ino),.c (.s nm)] h=some (.c (.b true),h):=by
  have key:∀ g,Has g v 256 D.length (C9 D) → ∃ g',A6n 0 [v,.c (.i .i64 ino),.c (.s nm)] g=some (.c (.b true),g'):=by
    intro g hv
    have hl:=hv.len
    have n13:¬ (13:Int)=0:=by decide
    rw [D2u]
    by_cases c0:(60:Int) < (D.length:Nat)
    · exact ⟨_,by simp only [esc,hl,c0,B0k] <;> rfl⟩
    by_cases c60:(60:Int) < (nm.length:Nat)
    · exact ⟨_,by simp only [esc,hl,c0,c60,B0k] <;> rfl⟩
    · have hT:=J93 hv hD (by omega)
      have hH:Has (g ++ [some ⟨C9 D,true⟩]) (.c (.sl g.length 0 D.length 256)) 256 D.length (C9 D):=Has.tr (by simp) (Y0 hD) (A5y D)
      have z3:[Cell.i .i64 0,.i .i64 0,.i .u64 0].length=3:=rfl
      cases cd:S1 D with
      | false =>
        obtain ⟨t,hO⟩:=K0h hH hD cd
        obtain ⟨H,hHe⟩:∃ H,H=g ++ [some (Row.mk (C9 D) true)] ++ t:=⟨_,rfl⟩
        have hvH:Has H v 256 D.length (C9 D):=by rw [hHe];exact (hv.more _).more _
        rw [← hHe] at hO
        have hS5:B7 (H ++ [some (Row.mk [.i .i64 0,.i .i64 0,.i .u64 0,.nf] true)]) 4 (.c (.p H.length 0)) (.a (vwC 0 0 0 .nf))=some (H ++ [some (Row.mk (vwC 0 0 0 .nf) true)]):=by rw [W1];rfl
        have hLy:=C90 (h:=H ++ [some (Row.mk (vwC 0 0 0 .nf) true)]) (hvH.more _) hD
        rw [cd,cond_false] at hLy
        have hLl:(C4 0 0 0).length=3:=rfl
        generalize vwC 0 0 0 .nf=V at *
        generalize hL0:C4 0 0 0=L at *
        exact ⟨_,by simp only [esc,esh,Nat.reduceAdd,Nat.reduceMul,Nat.reduceLT,eq_self,hl,c0,c60,hT,hO,hS5,hLy,hLl,z3,n13,beq_self_eq_true,B0k,B7G] <;> rfl⟩
      | true =>
        obtain ⟨f,t,hO,hV⟩:=D1S hH hD cd (by omega)
        obtain ⟨H,hHe⟩:∃ H,H=g ++ [some (Row.mk (C9 D) true)] ++ t:=⟨_,rfl⟩
        have hvH:Has H v 256 D.length (C9 D):=by rw [hHe];exact (hv.more _).more _
        rw [← hHe] at hO hV
        have hLy:=C90 (h:=H ++ [some (Row.mk (vwC D.length (A1M D) (A1L D) f) true)]) (hvH.more _) hD
        rw [cd,cond_true] at hLy
        generalize A1M D=n at *
        generalize A1L D=m at *
        have hS5:B7 (H ++ [some (Row.mk [.i .i64 0,.i .i64 0,.i .u64 0,.nf] true)]) 4 (.c (.p H.length 0)) (.a (vwC D.length n m f))=some (H ++ [some (Row.mk (vwC D.length n m f) true)]):=by rw [W1];rfl
        have hLl:(C4 D.length n m).length=3:=rfl
        have hVl:(vwC D.length n m f).length=4:=rfl
        have hI:=D1H (n:=n) (m:=m) (i:=ino) (h:=H ++ [some (Row.mk (vwC D.length n m f) true),some (Row.mk (C4 D.length n m) true)]) hD (hV.more _)
        obtain ⟨l,s,p,d,ei,hd⟩:=C4B D n ino
        rw [ei] at hI
        generalize kdV D n ino=k at *
        have hIl:(A7 k l s p d).length=11:=by simp [A7,G6,hd]
        have hnm:nm.length < 9223372036854775807:=by omega
        have x1:=A7V (n:=n) (m:=m) (k:=k) (l:=l) (s:=s) (p:=p) (nm:=nm) (h:=H ++ [some (Row.mk (vwC D.length n m f) true),some (Row.mk (C4 D.length n m) true),some (Row.mk (A7 k l s p d) true)]) hD hd (hV.more _) hnm
        have x2:=J4c (n:=n) (m:=m) (k:=k) (l:=l) (s:=s) (p:=p) (d:=d) (nm:=nm) (h:=H ++ [some (Row.mk (vwC D.length n m f) true),some (Row.mk (C4 D.length n m) true),some (Row.mk (A7 k l s p d) true),some (Row.mk (E2 (J5 D n k d nm)) true)]) (hvH.more _) hD hd hnm
        have x3:=B6Q (n:=n) (m:=m) (k:=k) (l:=l) (s:=s) (p:=p) (nm:=nm) (h:=H ++ [some (Row.mk (vwC D.length n m f) true),some (Row.mk (C4 D.length n m) true),some (Row.mk (A7 k l s p d) true),some (Row.mk (E2 (J5 D n k d nm)) true),some (Row.mk (E2 (J5 D n k d nm)) true)]) hD hd (hV.more _) hnm
        have x4:=C92 (n:=n) (m:=m) (k:=k) (l:=l) (s:=s) (p:=p) (d:=d) (nm:=nm) (h:=H ++ [some (Row.mk (vwC D.length n m f) true),some (Row.mk (C4 D.length n m) true),some (Row.mk (A7 k l s p d) true),some (Row.mk (E2 (J5 D n k d nm)) true),some (Row.mk (E2 (J5 D n k d nm)) true)]) (hvH.more _) hD hd hnm
        have pl:=J3K (J5 D n k d nm)
        have ps:=J3O (J5 D n k d nm)
        have z3i:[Cell.i .i64 0,.i .i64 0,.i .i64 0].length=3:=rfl
        have hl0:(A7 0 0 0 0 (zI 7)).length=11:=rfl
        have beq:∀ b:Bool,(b == b)=true:=by decide
        obtain ⟨ra,rb,rc,er⟩:=J4j D n k d nm
        rw [er] at x3 x4
        rw [A82]
        generalize A7 0 0 0 0 (zI 7)=z0 at *
        generalize (J5 D n k d nm).isSome=so at *
        generalize E2 (J5 D n k d nm)=pc at *
        generalize A7 k l s p d=I at *
        generalize vwC D.length n m f=V at *
        generalize C4 D.length n m=L at *
        exact ⟨_,by simp only [esc,esh,Nat.reduceAdd,Nat.reduceMul,Nat.reduceLT,eq_self,hl,c0,c60,hT,hO,hS5,hLy,hLl,hVl,z3,z3i,hI,hl0,hIl,x1,x2,x3,x4,pl,ps,beq,beq_self_eq_true,B0k,B7G] <;> rfl⟩
  obtain ⟨g',e⟩:=key (ro h) hv.ro
  exact D4o e rfl
end Go.Proofs.YtdgggnlbdoiloaaGreat
end
section
namespace Go.Proofs.YtdgggnlbdoiloaaGreat
open Go
def A99:List Char:=(([104,97,114,110,101,115,115,32,52,49,99,101,102,55,57,99,102,97,99,98,54,51,56,48,100,54,56,48,98,99,102,53,57,49,49,101,55,98,102,52,102,101,55,54,51,50,54,48,55,50,51,50,99,97,56,50,57,57,55,97,48,49,55,50,97,49,102,50,100,52,50,49,32,99,117,116,32,97,116,32,101,115,99,104,101,97,116,47,101,115,99,104,101,97,116,108,97,119,50,52,46,68,114,101,97,100,76,111,111,107,115,32,101,115,99,104,101,97,116,47,101,115,99,104,101,97,116,108,97,119,50,52,46,68,114,101,97,100,76,105,115,116,115]:List Nat).map Char.ofNat)
set_option maxRecDepth 100000
theorem J2q:ownKnob Tryz.prog.godebug=none:=by kernel_rfl
theorem I0D:laidOutB Tryz.prog=true:=by kernel_rfl
theorem start_eq:Tryz.prog.initOrder=String.ofList A99:=by kernel_rfl
theorem J5q:Tryz.prog.initOrder.toList=A99:=by rw [start_eq,String.toList_ofList]
def startRest:List (List Char):=(([[99,117,116],[97,116],[101,115,99,104,101,97,116,47,101,115,99,104,101,97,116,108,97,119,50,52,46,68,114,101,97,100,76,111,111,107,115],[101,115,99,104,101,97,116,47,101,115,99,104,101,97,116,108,97,119,50,52,46,68,114,101,97,100,76,105,115,116,115]]:List (List Nat)).map (fun l=>l.map Char.ofNat))
theorem J5m:wordsSigns A99=(([104,97,114,110,101,115,115]:List Nat).map Char.ofNat) :: (([52,49,99,101,102,55,57,99,102,97,99,98,54,51,56,48,100,54,56,48,98,99,102,53,57,49,49,101,55,98,102,52,102,101,55,54,51,50,54,48,55,50,51,50,99,97,56,50,57,57,55,97,48,49,55,50,97,49,102,50,100,52,50,49]:List Nat).map Char.ofNat) :: startRest:=by kernel_rfl
theorem J5v:isSumSigns ((([52,49,99,101,102,55,57,99,102,97,99,98,54,51,56,48,100,54,56,48,98,99,102,53,57,49,49,101,55,98,102,52,102,101,55,54,51,50,54,48,55,50,51,50,99,97,56,50,57,57,55,97,48,49,55,50,97,49,102,50,100,52,50,49]:List Nat).map Char.ofNat))=true:=by decide +kernel
theorem H0T : ((([104, 97, 114, 110, 101, 115, 115] : List Nat).map Char.ofNat) == "harness".toList) = true := by decide +kernel
theorem D7n (h s : List Char) (r : List (List Char)) (h1 : (h == "harness".toList) = true) (h2 : isSumSigns s = true) : behindMainWord (h :: s :: r) = r := by
  unfold behindMainWord
  simp only [h1,h2,Bool.true_or,Bool.true_and,if_true]
theorem D7m:behindMainWord (wordsSigns A99)=startRest:=by rw [J5m];exact D7n _ _ _ H0T J5v
theorem start_words:behindMainWord (wordsSigns Tryz.prog.initOrder.toList)=startRest:=by rw [J5q];exact D7m
def J5p:List (List Char):=startRest.drop 1
theorem B2G : startRest = "cut".toList :: J5p := by decide +kernel
theorem I0T {P : Program} {rest : List (List Char)} (h : behindMainWord (wordsSigns P.initOrder.toList) = "cut".toList :: rest) : P.make = some .cut := by
  have e1 : ("cut".toList == "gc".toList) = false := by decide +kernel
  have e2 : ("cut".toList == "spec".toList) = false := by decide +kernel
  have e3 : ("cut".toList == "cut".toList) = true := by decide +kernel
  unfold Program.make
  rw [h]
  simp only [e1,e2,e3,Bool.or_self,Bool.true_or,Bool.false_eq_true,if_false,if_true]
theorem I0U:Tryz.prog.make=some .cut:=I0T (start_words.trans B2G)
theorem D0z {w:List Char} {ws:List (List Char)}:∀ os:List String,(os.all fun o=>!(w == o.toList))=true → stripLifts os (w :: ws)=([],w :: ws)
  | [],_=>rfl
  | o :: os,h=>by
    simp only [List.all_cons,Bool.and_eq_true,Bool.not_eq_true'] at h
    unfold stripLifts
    rw [h.1,if_neg (by simp)]
    exact D0z os h.2
theorem D0y (rest : List (List Char)) : stripLifts liftWords ("cut".toList :: rest) = ([], "cut".toList :: rest) := D0z _ (by decide +kernel)
theorem I0E:Tryz.prog.laysLater=false:=by kernel_rfl
theorem J4e:Tryz.prog.bearsReflect=false:=by kernel_rfl
theorem E3C:Tryz.prog.doorFits []=true:=by kernel_rfl
theorem F1n {P : Program} {rest : List (List Char)} (h : behindMainWord (wordsSigns P.initOrder.toList) = "cut".toList :: rest) (h1 : P.laysLater = false) (h2 : P.bearsReflect = false) (h3 : P.doorFits [] = true) : P.mayEnter = true := by
  unfold Program.mayEnter
  rw [h]
  simp only [D0y,h1,h2,h3]
  simp
theorem I0X:Tryz.prog.mayEnter=true:=F1n (start_words.trans B2G) I0E J4e E3C
theorem I0K {P : Program} {rest : List (List Char)} (h : behindMainWord (wordsSigns P.initOrder.toList) = "cut".toList :: rest) : P.liftsFinal = false := by
  unfold Program.liftsFinal Program.headLifts
  rw [h]
  simp only [D0y]
  simp
theorem I0L:Tryz.prog.liftsFinal=false:=I0K (start_words.trans B2G)
end Go.Proofs.YtdgggnlbdoiloaaGreat
end
