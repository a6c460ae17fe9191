/- What the proof of this claim leans on, part 3. -/
import Derived.Test.YtdgggnlbdoiloaaGreatFDreadLooksp2
set_option linter.all false
section
namespace Go.Proofs.YtdgggnlbdoiloaaGreat
open Go Go.Esc
def V2 (at' width all:Int):Bool:=decide (0 ≤ at') && decide (1 ≤ width) && decide (width ≤ all) && decide (at' ≤ all - width)
theorem T3 {a w n:Int}:V2 a w n=true ↔ 0 ≤ a ∧ 1 ≤ w ∧ w ≤ n ∧ a ≤ n - w:=by
  unfold V2;simp [and_assoc]
theorem A2b {a w n:Int} {h:A0} (hn:n < 9223372036854775808) :
    A0j [.c (.i .i64 a),.c (.i .i64 w),.c (.i .i64 n)] h=some (.c (.b (V2 a w n)),h):=by
  refine D6c (n:=0) (h2:=ro h) ?_ rfl
  rw [D3E]
  unfold V2
  by_cases h1:0 ≤ a
  · by_cases h2:1 ≤ w
    · by_cases h3:w ≤ n
      · have e:IntKind.wrap .i64 (n - w)=n - w:=wrap_i64 (by omega) (by omega)
        simp [h1,h2,h3,e]
      · simp [h1,h2,h3]
    · simp [h1,h2]
  · simp [h1]
def A0m (l:List UInt8) (a w:Int):Option Nat:=if w ≤ 8 ∧ V2 a w l.length=true then some (le ((l.drop a.toNat).take w.toNat)) else none
theorem C7Q {l:List UInt8} {h:A0} {a w k:Nat} (hw:w ≤ 4) (haw:a + w ≤ 256) (hl:l.length=256):∀ d i m,i + d=w → d < m →
    A9E k m (.c (.i .i64 a)) (.c (.p h.length 0)) (.c (.i .i64 (le ((l.drop a).take i)))) (.c (.i .i64 w)) (.c (.i .i64 i)) (h ++ [some ⟨A3 l,true⟩])=some (.c (.i .i64 (le ((l.drop a).take w))),h ++ [some ⟨A3 l,true⟩])
  | d,i,0,_,hm=>by omega
  | 0,i,m + 1,hi,hm=>by
    have e:i=w:=by omega
    subst e
    rw [C7P]
    simp
  | d + 1,i,m + 1,hi,hm=>by
    have ih:=C7Q (h:=h) (k:=k) hw haw hl d (i + 1) m (by omega) (by omega)
    have hx:=K6 (h:=h ++ [some ⟨A3 l,true⟩]) (id:=h.length) (off:=a + i) (c:=.i .u8 l[a + i].toNat) N2 (by rw [W4,List.getElem?_eq_getElem (by omega)];rfl) rfl
    have hb:=l[a + i].toNat_lt
    have hlen:((l.drop a).take i).length=i:=by simp;omega
    have hle:=A26 ((l.drop a).take i)
    rw [hlen] at hle
    have hp:=A31 (show i ≤ 4 by omega)
    have hbp:=B5Y (x:=l[a + i]) (show i < 4 by omega)
    have e2:IntKind.wrap .i64 (8 * (i:Int))=8 * i:=wrap_i64 (by omega) (by omega)
    have e3:IntKind.wrap .u64 (8 * (i:Int))=8 * i:=wrap_u64 (by omega) (by omega)
    have e5:IntKind.wrap .i64 (l[a + i].toNat:Int)=l[a + i].toNat:=wrap_i64 (by omega) (by omega)
    have e6:=D0o (k:=.i64) (x:=l[a + i]) (show i < 8 by omega) (wrap_i64 (by omega) (by omega)) rfl
    have e7:A4 .or (.c (.i .i64 (le ((l.drop a).take i):Nat))) (.c (.i .i64 ((l[a + i].toNat * 256 ^ i:Nat):Int)))=some (.c (.i .i64 (le ((l.drop a).take (i + 1)):Nat))):=by
      rw [J2o (by omega) (by omega),B2U (by omega),← C9f,hlen]
    have ea:D7 256 1 (.c (.p h.length 0)) (.c (.i .i64 ((a + i:Nat):Int)))=some (.c (.p h.length (a + i))):=by rw [S5 (by omega)];simp
    have h1':(i:Int) < w:=by omega
    rw [C7P]
    simp only [esc,h1',A0O (show a + i < 9223372036854775808 by omega),e2,e3,ea,hx,e5,e6,e7,E6 (show i + 1 < 9223372036854775808 by omega)]
    exact ih
def atN (l:List UInt8) (a w:Int):Nat:=if w ≤ 4 ∧ V2 a w 256=true then le ((l.drop a.toNat).take w.toNat) else 0
theorem A10 {l:List UInt8} {h:A0} (hl:l.length=256) {a w:Int} :
    N5 [.a (A3 l),.c (.i .i64 a),.c (.i .i64 w)] h=some (.c (.i .i64 (atN l a w)),h):=by
  refine D53 (n:=w.toNat + 1) (h2:=ro h ++ [some ⟨A3 l,true⟩]) ?_ (by simp)
  rw [D3x]
  unfold atN
  by_cases c1:4 < w
  · have c1':¬ w ≤ 4:=by omega
    simp [c1,c1']
  · have c1':w ≤ 4:=by omega
    cases c2:V2 a w 256 with
    | false=>simp [c1,A2b (show (256:Int) < 9223372036854775808 by omega),c2]
    | true =>
      simp [c1,c1',A2b (show (256:Int) < 9223372036854775808 by omega),c2]
      rw [T3] at c2
      have:=C7Q (h:=ro h) (a:=a.toNat) (w:=w.toNat) (k:=w.toNat + 1) (by omega) (by omega) hl w.toNat 0 (w.toNat + 1) (by omega) (by omega)
      simp only [show ((a.toNat:Nat):Int)=a by omega,show ((w.toNat:Nat):Int)=w by omega] at this
      simpa [le] using this
theorem C8Z {l:List UInt8} {z:List Cell} {h:A0} {a w k:Nat} {v:Int} (hw:w ≤ 4) (haw:a + w ≤ 256) (hl:l.length=256) (hz:z.length=256):∀ d i m,i + d=w → d < m →
    A9Q k m (.c (.i .i64 a)) (.c (.i .i64 v)) (.c (.p h.length 0)) (.c (.p (h.length + 1) 0)) (.c (.i .i64 w)) (.c (.i .i64 i)) (h ++ [some ⟨A3 (D2 l a (B5 i v)),true⟩,some ⟨z,true⟩]) =
      some (.a (A3 (D2 l a (B5 w v))),h ++ [some ⟨A3 (D2 l a (B5 w v)),true⟩,some ⟨A3 (D2 l a (B5 w v)),true⟩])
  | d,i,0,_,hm=>by omega
  | 0,i,m + 1,hi,hm=>by
    have e:i=w:=by omega
    subst e
    have hle:(A3 (D2 l a (B5 i v))).length=256:=by rw [B4,A0p (by simp;omega),hl]
    have s1:=G9 (h:=h ++ [some ⟨A3 (D2 l a (B5 i v)),true⟩,some ⟨z,true⟩]) (id:=h.length) (cs:=A3 (D2 l a (B5 i v))) (by simp) hle
    have s2:=storeAll (h:=h ++ [some ⟨A3 (D2 l a (B5 i v)),true⟩,some ⟨z,true⟩]) (id:=h.length + 1) (cs:=z) (xs:=A3 (D2 l a (B5 i v))) (by simp) hz hle
    have s3:=G9 (h:=h ++ [some ⟨A3 (D2 l a (B5 i v)),true⟩,some ⟨A3 (D2 l a (B5 i v)),true⟩]) (id:=h.length + 1) (cs:=A3 (D2 l a (B5 i v))) (by simp) hle
    have h1':¬ (i:Int) < i:=by omega
    rw [C8Y]
    simp only [esc,h1',s1,s2,s3]
  | d + 1,i,m + 1,hi,hm=>by
    have ih:=C8Z (h:=h) (k:=k) (v:=v) hw haw hl hz d (i + 1) m (by omega) (by omega)
    have e2:IntKind.wrap .i64 (8 * (i:Int))=8 * i:=wrap_i64 (by omega) (by omega)
    have e3:IntKind.wrap .u64 (8 * (i:Int))=8 * i:=wrap_u64 (by omega) (by omega)
    have e4:A4 .shr (.c (.i .i64 v)) (.c (.i .u64 (8 * (i:Int))))=some (.c (.i .i64 (v / 2 ^ (Nat.min (8 * (i:Int)).toNat 64)))):=B09 (by omega)
    have ea:D7 256 1 (.c (.p h.length 0)) (.c (.i .i64 ((a + i:Nat):Int)))=some (.c (.p h.length (a + i))):=by rw [S5 (by omega)];simp
    have hst:=Z1 (h:=h ++ [some ⟨A3 (D2 l a (B5 i v)),true⟩,some ⟨z,true⟩]) (id:=h.length) (off:=a + i) (cs:=A3 (D2 l a (B5 i v))) (x:=.i .u8 (byI v i).toNat) (by simp)
      (by rw [B4,A0p (by simp;omega)];omega)
    have e5:(D2 l a (B5 i v)).set (a + i) (byI v i)=D2 l a (B5 (i + 1) v):=by
      rw [B1u]
      have:=A9i (l:=l) (xs:=B5 i v) (a:=a) (x:=byI v i) (by simp;omega)
      simpa using this
    rw [A0G,e5] at hst
    have h1':(i:Int) < w:=by omega
    rw [C8Y]
    simp only [esc,h1',A0O (show a + i < 9223372036854775808 by omega),e2,e3,e4,B5Z (v:=v) (show i < 8 by omega),ea,hst,E6 (show i + 1 < 9223372036854775808 by omega)]
    exact ih
def L7 (l:List UInt8) (a w v:Int):List UInt8:=if w ≤ 4 ∧ V2 a w 256=true then D2 l a.toNat (B5 w.toNat v) else l
theorem Z2 {l:List UInt8} {a w v:Int} (hl:l.length=256):(L7 l a w v).length=256:=by
  unfold L7
  split
  · rename_i h
    rw [T3] at h
    rw [A0p (by simp;omega),hl]
  · exact hl
theorem J19 {l:List UInt8} {g:A0} (hl:l.length=256) {a w v:Int} :
    ∃ g',A69 (w.toNat + 1) [.a (A3 l),.c (.i .i64 a),.c (.i .i64 w),.c (.i .i64 v)] g=some (.a (A3 (L7 l a w v)),g'):=by
  have hle:(A3 l).length=256:=by rw [B4,hl]
  have hz:(List.replicate 256 (Cell.i .u8 0)).length=256:=List.length_replicate
  rw [D3D]
  generalize List.replicate 256 (Cell.i .u8 0)=z at *
  have s1:=G9 (h:=g ++ [some ⟨A3 l,true⟩,some ⟨z,true⟩]) (id:=g.length) (cs:=A3 l) (n:=256) (by simp) hle
  have s2:=storeAll (h:=g ++ [some ⟨A3 l,true⟩,some ⟨z,true⟩]) (id:=g.length + 1) (cs:=z) (xs:=A3 l) (by simp) hz hle
  have s3:=G9 (h:=g ++ [some ⟨A3 l,true⟩,some ⟨A3 l,true⟩]) (id:=g.length + 1) (cs:=A3 l) (n:=256) (by simp) hle
  unfold L7
  by_cases c1:4 < w
  · rw [if_neg (by omega)]
    exact ⟨_,by simp only [esc,c1,s1,s2,s3];rfl⟩
  · have c1':w ≤ 4:=by omega
    cases c2:V2 a w 256 with
    | false =>
      rw [if_neg (by simp)]
      exact ⟨_,by simp only [esc,c1,A2b (show (256:Int) < 9223372036854775808 by omega),c2,s1,s2,s3];rfl⟩
    | true =>
      rw [if_pos ⟨c1',rfl⟩]
      have c3:=T3.1 c2
      have:=C8Z (h:=g) (a:=a.toNat) (w:=w.toNat) (k:=w.toNat + 1) (v:=v) (z:=z) (by omega) (by omega) hl hz w.toNat 0 (w.toNat + 1) (by omega) (by omega)
      simp only [show ((a.toNat:Nat):Int)=a by omega,show ((w.toNat:Nat):Int)=w by omega,show B5 0 v=[] from rfl,A9h] at this
      exact ⟨_,by simp only [esc,c1,A2b (show (256:Int) < 9223372036854775808 by omega),c2];exact this⟩
theorem A0L {l:List UInt8} {h:A0} (hl:l.length=256) {a w v:Int} :
    P9 [.a (A3 l),.c (.i .i64 a),.c (.i .i64 w),.c (.i .i64 v)] h=some (.a (A3 (L7 l a w v)),h):=by
  obtain ⟨g,e⟩:=J19 (g:=ro h) hl (a:=a) (w:=w) (v:=v)
  exact D6b e (by simp)
theorem C74 {l:List UInt8} {h:A0} {b id a n k:Nat} (haw:a + n ≤ 256) (hl:l.length=256):∀ d i m,i + d=n → d < m →
    A9G k m (.c (.i .i64 a)) (.c (.p h.length 0)) (.c (.sl (h.length + 2) 0 n 1)) (.c (.i .i64 n)) (.c (.i .i64 i)) (h ++ [some ⟨A3 l,true⟩,some ⟨[],true⟩,some ⟨A3 ((l.drop a).take i ++ zeros (n - i)),true⟩]) =
      some (.c (.sl (h.length + 2) 0 n 1),h ++ [some ⟨A3 l,true⟩,some ⟨[],true⟩,some ⟨A3 ((l.drop a).take n),true⟩])
  | d,i,0,_,hm=>by omega
  | 0,i,m + 1,hi,hm=>by
    have e:i=n:=by omega
    subst e
    have h1':¬ (i:Int) < i:=by omega
    rw [C73]
    simp only [esc,h1']
    simp [zeros]
  | d + 1,i,m + 1,hi,hm=>by
    have ih:=C74 (h:=h) (b:=b) (id:=id) (k:=k) haw hl d (i + 1) m (by omega) (by omega)
    have ea:D7 256 1 (.c (.p h.length 0)) (.c (.i .i64 ((a + i:Nat):Int)))=some (.c (.p h.length (a + i))):=by rw [S5 (by omega)];simp
    have eb:D0 1 (.c (.sl (h.length + 2) 0 n 1)) (.c (.i .i64 (i:Int)))=some (.c (.p (h.length + 2) i)):=by rw [I9 (by omega)];simp
    have hx:=K6 (h:=h ++ [some ⟨A3 l,true⟩,some ⟨[],true⟩,some ⟨A3 ((l.drop a).take i ++ zeros (n - i)),true⟩]) (id:=h.length) (off:=a + i) (c:=.i .u8 l[a + i].toNat) (cs:=A3 l) (rw:=true) (by simp) (by rw [W4,List.getElem?_eq_getElem (by omega)];rfl) rfl
    have hst:=Z1 (h:=h ++ [some ⟨A3 l,true⟩,some ⟨[],true⟩,some ⟨A3 ((l.drop a).take i ++ zeros (n - i)),true⟩]) (id:=h.length + 2) (off:=i) (cs:=A3 ((l.drop a).take i ++ zeros (n - i))) (x:=.i .u8 l[a + i].toNat) (by simp)
      (by rw [B4];simp;omega)
    have e5:((l.drop a).take i ++ zeros (n - i)).set i l[a + i]=(l.drop a).take (i + 1) ++ zeros (n - (i + 1)):=by
      have hlen:((l.drop a).take i).length=i:=by simp;omega
      rw [List.set_append_right _ _ (by omega),hlen,Nat.sub_self,B2U (by omega),List.append_assoc]
      refine congrArg ((l.drop a).take i ++ ·) ?_
      have:n - i=n - (i + 1) + 1:=by omega
      rw [this]
      unfold zeros
      rw [List.replicate_succ,List.set_cons_zero];rfl
    rw [A0G,e5] at hst
    have h1':(i:Int) < n:=by omega
    rw [C73]
    simp only [esc,h1',A0O (show a + i < 9223372036854775808 by omega),ea,hx,eb,hst,E6 (show i + 1 < 9223372036854775808 by omega)]
    exact ih
def F3 (l:List UInt8) (a n:Int):List UInt8:=if 0 ≤ a then (l.drop a.toNat).take n.toNat else []
theorem A5E (n:Nat):rows [Cell.i .u8 0] n=A3 (zeros n):=by
  unfold rows zeros
  induction n with
  | zero=>rfl
  | succ n ih=>rw [List.replicate_succ,List.flatten_cons,ih,List.replicate_succ];rfl
theorem I8v {l:List UInt8} {g:A0} (hl:l.length=256) {a n:Int} :
    ∃ v g',A65 ((min n (256 - a)).toNat + 1) [.a (A3 l),.c (.i .i64 a),.c (.i .i64 n)] g=some (v,g') ∧ Out g.length g' v 1 (F3 l a n).length (A3 (F3 l a n)):=by
  have hle:(A3 l).length=256:=by rw [B4,hl]
  rw [D3y]
  unfold F3
  by_cases c1:a < 0
  · rw [if_neg (by omega)]
    exact ⟨_,_,by simp only [esc,c1];rfl,by simp [B4],_,rfl,by simp,by simp;rfl⟩
  · rw [if_pos (by omega)]
    by_cases c2:256 ≤ a
    · have e:l.drop a.toNat=[]:=List.drop_of_length_le (by omega)
      rw [e,List.take_nil]
      exact ⟨_,_,by simp only [esc,c1,c2];rfl,by simp [B4],_,rfl,by simp,by simp;rfl⟩
    · by_cases c3:n < 1
      · have e:n.toNat=0:=by omega
        rw [e]
        exact ⟨_,_,by simp only [esc,c1,c2,c3];rfl,by simp [B4],_,rfl,by simp,by simp;rfl⟩
      · have e1:IntKind.wrap .i64 (256 - a)=256 - a:=wrap_i64 (by omega) (by omega)
        have e2:A1e (.c (.i .i64 n)) (.c (.i .i64 (256 - a)))=some (.c (.i .i64 ((min n (256 - a)).toNat:Nat))):=by
          simp only [A1e]
          congr 3
          by_cases h:256 - a < n
          · rw [if_pos h];omega
          · rw [if_neg h];omega
        generalize hN:(min n (256 - a)).toNat=N at *
        have e3:U4 (.c (.i .i64 (N:Int))) (.c (.i .i64 (N:Int)))=some N:=by
          have:Y9 (.c (.i .i64 (N:Int)))=some N:=by simp only [Y9];rw [if_pos (by omega)];simp
          simp [U4,this]
        have e4:(l.drop a.toNat).take n.toNat=(l.drop a.toNat).take N:=by
          by_cases h:256 - a < n
          · rw [List.take_of_length_le (by simp;omega),List.take_of_length_le (by simp;omega)]
          · have:n.toNat=N:=by omega
            rw [this]
        have e5:((l.drop a.toNat).take N).length=N:=by simp;omega
        rw [e4,e5]
        have:=C74 (h:=g) (b:=0) (id:=0) (a:=a.toNat) (n:=N) (k:=N + 1) (by omega) hl N 0 (N + 1) (by omega) (by omega)
        simp only [show ((a.toNat:Nat):Int)=a by omega,List.take_zero,List.nil_append,Nat.sub_zero] at this
        exact ⟨_,_,by simp only [esc,c1,c2,c3,e1,e2,e3,A5E];exact this,by simp [B4,e5],_,rfl,by omega,by simp⟩
theorem B2r {l:List UInt8} {h:A0} (hl:l.length=256) {a n:Int} :
    A08 [.a (A3 l),.c (.i .i64 a),.c (.i .i64 n)] h=some (.c (.sl h.length 0 (F3 l a n).length 1),h ++ [some ⟨A3 (F3 l a n),true⟩]):=by
  obtain ⟨v,g,e,ho⟩:=I8v (g:=ro h) hl (a:=a) (n:=n)
  exact D54 e (by simpa [L6] using ho) (by simp)
theorem C8v {v:Val} {nv:Nat} {data l:List UInt8} {z:List Cell} {h:A0} (hv:Has h v 1 nv (A3 data)) {a k:Nat} (ha:a < 256) (hl:l.length=256) (hz:z.length=256) (hd:data.length < 9223372036854775808):∀ d i m,i + d=data.length → d < m → i ≤ 256 - a →
    A9L k m (.c (.i .i64 a)) (.c (.p h.length 0)) (.c (.p (h.length + 1) 0)) v (.c (.i .i64 data.length)) (.c (.i .i64 i)) (h ++ [some ⟨A3 (D2 l a (data.take i)),true⟩,some ⟨z,true⟩]) =
      some (.a (A3 (D2 l a (data.take (256 - a)))),h ++ [some ⟨A3 (D2 l a (data.take (256 - a))),true⟩,some ⟨A3 (D2 l a (data.take (256 - a))),true⟩])
  | d,i,0,_,hm,_=>by omega
  | d,i,m + 1,hi,hm,hia=>by
    have hll:∀ i,i ≤ 256 - a → (A3 (D2 l a (data.take i))).length=256:=fun i hi=>by rw [B4,A0p (by simp;omega),hl]
    have fin:data.take i=data.take (256 - a) → A9J k (.c (.p h.length 0)) (.c (.p (h.length + 1) 0)) (h ++ [some ⟨A3 (D2 l a (data.take i)),true⟩,some ⟨z,true⟩]) =
      some (.a (A3 (D2 l a (data.take (256 - a)))),h ++ [some ⟨A3 (D2 l a (data.take (256 - a))),true⟩,some ⟨A3 (D2 l a (data.take (256 - a))),true⟩]):=fun e=>by
      rw [e]
      have hle:=hll (256 - a) (Nat.le_refl _)
      have s1:=G9 (h:=h ++ [some ⟨A3 (D2 l a (data.take (256 - a))),true⟩,some ⟨z,true⟩]) (id:=h.length) (cs:=A3 (D2 l a (data.take (256 - a)))) (by simp) hle
      have s2:=storeAll (h:=h ++ [some ⟨A3 (D2 l a (data.take (256 - a))),true⟩,some ⟨z,true⟩]) (id:=h.length + 1) (cs:=z) (xs:=A3 (D2 l a (data.take (256 - a)))) (by simp) hz hle
      have s3:=G9 (h:=h ++ [some ⟨A3 (D2 l a (data.take (256 - a))),true⟩,some ⟨A3 (D2 l a (data.take (256 - a))),true⟩]) (id:=h.length + 1) (cs:=A3 (D2 l a (data.take (256 - a)))) (by simp) hle
      rw [J0i]
      simp only [esc,s1,s2,s3]
    rw [J0k]
    by_cases c1:i < data.length
    · obtain ⟨d,rfl⟩:∃ e,d=e + 1:=⟨d - 1,by omega⟩
      have hnv:data.length=nv:=by simpa [B4] using hv.length
      obtain ⟨id,off,rfl,hid,h1,h2⟩:=(hv.more [some ⟨A3 (D2 l a (data.take i)),true⟩,some ⟨z,true⟩]).sl (by omega)
      have hx:=h1 i (.i .u8 data[i].toNat) (by rw [W4,List.getElem?_eq_getElem (by omega)];rfl)
      have eb:D0 1 (.c (.sl id off nv 1)) (.c (.i .i64 (i:Int)))=some (.c (.p id (off + i))):=by rw [I9 (by omega)];simp
      have e1:IntKind.wrap .i64 (256 - (a:Int))=256 - a:=wrap_i64 (by omega) (by omega)
      have c1':(i:Int) < data.length:=by omega
      by_cases c2:256 - a ≤ i
      · have c2':(256:Int) - a ≤ i:=by omega
        simp only [esc,c1',eb,hx,e1,c2']
        exact fin (by rw [show i=256 - a by omega])
      · have c2':¬ (256:Int) - a ≤ i:=by omega
        have ih:=C8v hv (l:=l) (z:=z) (k:=k) ha hl hz hd d (i + 1) m (by omega) (by omega) (by omega)
        have ea:D7 256 1 (.c (.p h.length 0)) (.c (.i .i64 ((a + i:Nat):Int)))=some (.c (.p h.length (a + i))):=by rw [S5 (by omega)];simp
        have hst:=Z1 (h:=h ++ [some ⟨A3 (D2 l a (data.take i)),true⟩,some ⟨z,true⟩]) (id:=h.length) (off:=a + i) (cs:=A3 (D2 l a (data.take i))) (x:=.i .u8 data[i].toNat) (by simp)
          (by rw [hll i hia];omega)
        have e5:(D2 l a (data.take i)).set (a + i) data[i]=D2 l a (data.take (i + 1)):=by
          have:=A9i (l:=l) (xs:=data.take i) (a:=a) (x:=data[i]) (by simp;omega)
          rw [List.length_take,Nat.min_eq_left (by omega)] at this
          rw [this,List.take_succ_eq_append_getElem c1]
        rw [A0G,e5] at hst
        simp only [esc,c1',eb,hx,e1,c2',A0O (show a + i < 9223372036854775808 by omega),ea,hst,E6 (show i + 1 < 9223372036854775808 by omega)]
        exact ih
    · have c1':¬ (i:Int) < data.length:=by omega
      simp only [esc,c1']
      exact fin (by rw [List.take_of_length_le (by omega),List.take_of_length_le (by omega)])
def Q6 (l:List UInt8) (a:Int) (data:List UInt8):List UInt8:=if 0 ≤ a ∧ a < 256 then D2 l a.toNat (data.take (256 - a.toNat)) else l
theorem I0F {l:List UInt8} {a:Int} {data:List UInt8} (hl:l.length=256):(Q6 l a data).length=256:=by
  unfold Q6
  split
  · rw [A0p (by simp;omega),hl]
  · exact hl
theorem J0l {v:Val} {nv:Nat} {data l:List UInt8} {g:A0} (hv:Has g v 1 nv (A3 data)) (hl:l.length=256) (hd:data.length < 9223372036854775808) {a:Int} :
    ∃ g',A66 (data.length + 1) [.a (A3 l),.c (.i .i64 a),v] g=some (.a (A3 (Q6 l a data)),g'):=by
  have hle:(A3 l).length=256:=by rw [B4,hl]
  have hz:(List.replicate 256 (Cell.i .u8 0)).length=256:=List.length_replicate
  have hnv:data.length=nv:=by simpa [B4] using hv.length
  rw [D3A]
  generalize List.replicate 256 (Cell.i .u8 0)=z at *
  have s1:=G9 (h:=g ++ [some ⟨A3 l,true⟩,some ⟨z,true⟩]) (id:=g.length) (cs:=A3 l) (n:=256) (by simp) hle
  have s2:=storeAll (h:=g ++ [some ⟨A3 l,true⟩,some ⟨z,true⟩]) (id:=g.length + 1) (cs:=z) (xs:=A3 l) (by simp) hz hle
  have s3:=G9 (h:=g ++ [some ⟨A3 l,true⟩,some ⟨A3 l,true⟩]) (id:=g.length + 1) (cs:=A3 l) (n:=256) (by simp) hle
  unfold Q6
  by_cases c1:a < 0
  · rw [if_neg (by omega)]
    exact ⟨_,by simp only [esc,c1,s1,s2,s3];rfl⟩
  · by_cases c2:256 ≤ a
    · rw [if_neg (by omega)]
      exact ⟨_,by simp only [esc,c1,c2,s1,s2,s3];rfl⟩
    · rw [if_pos (by omega)]
      have:=C8v hv (l:=l) (a:=a.toNat) (k:=data.length + 1) (z:=z) (by omega) hl hz hd data.length 0 (data.length + 1) (by omega) (by omega) (by omega)
      simp only [show ((a.toNat:Nat):Int)=a by omega,List.take_zero,A9h] at this
      exact ⟨_,by simp only [esc,c1,c2,hv.len,← hnv];exact this⟩
theorem B2t {v:Val} {nv:Nat} {data l:List UInt8} {h:A0} (hv:Has h v 1 nv (A3 data)) (hl:l.length=256) (hd:data.length < 9223372036854775808) {a:Int} :
    A09 [.a (A3 l),.c (.i .i64 a),v] h=some (.a (A3 (Q6 l a data)),h):=by
  obtain ⟨g,e⟩:=J0l hv.ro hl hd (a:=a)
  exact D57 e (by simp)
theorem A9M {v:Val} {nv:Nat} {data:List UInt8} {h:A0} (hv:Has h v 1 nv (A3 data)) (hd:data.length < 9223372036854775808) :
    A0i [v] h=some (.a (A3 (Q6 (zeros 256) 0 data)),h):=by
  have key:∀ g,Has g v 1 nv (A3 data) → ∃ g',A67 0 [v] g=some (.a (A3 (Q6 (zeros 256) 0 data)),g'):=by
    intro g hv
    rw [D3B]
    have hz:(A3 (zeros 256)).length=256:=by rw [B4];exact zeros_length
    have hz0:(zeros 256).length=256:=zeros_length
    rw [M0]
    generalize zeros 256=Z at *
    have e:=B2t (hv.more [some ⟨A3 Z,true⟩]) hz0 hd (a:=0)
    have hl2:(A3 (Q6 Z 0 data)).length=256:=by rw [B4,I0F hz0]
    have s2:=storeAll (h:=g ++ [some ⟨A3 Z,true⟩]) (id:=g.length) (cs:=A3 Z) (xs:=A3 (Q6 Z 0 data)) (by simp) hz hl2
    have s3:=G9 (h:=g ++ [some ⟨A3 (Q6 Z 0 data),true⟩]) (id:=g.length) (cs:=A3 (Q6 Z 0 data)) (n:=256) (by simp) hl2
    exact ⟨_,by simp only [esc,B0,e,s2,s3];rfl⟩
  obtain ⟨g,e⟩:=key _ hv.ro
  exact D58 e (by simp)
end Go.Proofs.YtdgggnlbdoiloaaGreat
end
noncomputable section
namespace Go.Proofs.YtdgggnlbdoiloaaGreat
open Go Go.Esc
set_option maxRecDepth 100000
def B8Q:List AOper:=[aO 6 (.mv (.v (.c (.i .u64 0)))),aO 7 (.mv (.v (.c (.b false))))]
def F23:ACode:=.ops B8Q
def B8R:List AOper:=[aO 10 (.mv (.t 2)),aO 11 (.bin .lss (.t 10) (.v (.c (.i .i64 1)))),aO 12 (.mv (.t 11)),{ dst:=some 13,op:=.mv (.t 2),guard:=some (12,false) },{ dst:=some 14,op:=.bin .gtr (.t 13) (.v (.c (.i .i64 8))),guard:=some (12,false) },aO 15 (.pick (.t 12) (.v (.c (.b true))) (.t 14)),aO 16 (.mv (.t 15)),{ dst:=some 17,op:=.mv (.t 1),guard:=some (16,false) },{ dst:=some 18,op:=.bin .lss (.t 17) (.v (.c (.i .i64 0))),guard:=some (16,false) },aO 19 (.pick (.t 16) (.v (.c (.b true))) (.t 18)),aO 20 (.mv (.t 19)),{ dst:=some 21,op:=.mv (.t 1),guard:=some (20,false) },{ dst:=some 22,op:=.mv (.t 0),guard:=some (20,false) },{ dst:=some 23,op:=.len (.t 22),guard:=some (20,false) },{ dst:=some 24,op:=.mv (.t 2),guard:=some (20,false) },{ dst:=some 25,op:=.bin .sub (.t 23) (.t 24),guard:=some (20,false) },{ dst:=some 26,op:=.bin .gtr (.t 21) (.t 25),guard:=some (20,false) },aO 27 (.pick (.t 20) (.v (.c (.b true))) (.t 26))]
def F25:ACode:=.ops B8R
def B8S:List AOper:=[aO 6 (.mv (.v (.c (.i .u64 0)))),aO 7 (.mv (.v (.c (.b false))))]
def F3q:ACode:=.ops B8S
def F3B:ACode:=.seq [6,7] F3q .ret
def F3D:ACode:=.cond (.t 27) F3B .skip
def F3F:ACode:=.seq [0,1,2,27] F25 F3D
def B8T:List AOper:=[aO 8 (.mv (.v (.c (.i .u64 0))))]
def F3H:ACode:=.ops B8T
def B8U:List AOper:=[aO 28 (.mv (.t 2)),aO 29 (.bin .sub (.t 28) (.v (.c (.i .i64 1)))),aO 9 (.mv (.t 29))]
def F3J:ACode:=.ops B8U
def B8V:List AOper:=[aO 30 (.mv (.t 9)),aO 31 (.bin .geq (.t 30) (.v (.c (.i .i64 0))))]
def F3L:ACode:=.ops B8V
def F3N:ACode:=.cond (.t 31) .skip (.exit 0)
def F26:ACode:=.seq [0,1,8,9,31] F3L F3N
def B8W:List AOper:=[aO 34 (.mv (.t 8)),aO 35 (.bin .mul (.t 34) (.v (.c (.i .u64 256)))),aO 36 (.mv (.t 0)),aO 37 (.mv (.t 1)),aO 38 (.mv (.t 9)),aO 39 (.bin .add (.t 37) (.t 38)),aO 40 (.iAddrL 1 (.t 36) (.t 39)),aO 41 (.load1 (.t 40)),aO 42 (.conv .u64 (.t 41)),aO 43 (.bin .add (.t 35) (.t 42)),aO 8 (.mv (.t 43))]
def F28:ACode:=.ops B8W
def F3a:ACode:=.block 1 F28
def B8X:List AOper:=[aO 32 (.mv (.t 9)),aO 33 (.bin .sub (.t 32) (.v (.c (.i .i64 1)))),aO 9 (.mv (.t 33))]
def F3c:ACode:=.ops B8X
def F3e:ACode:=.seq [0,1,8,9] F3a F3c
def F3g:ACode:=.seq [0,1,8,9] F26 F3e
def F3h:ACode:=.loop [0,1,8,9] F3g
def F3j:ACode:=.block 0 F3h
def F3l:ACode:=.seq [0,1,8,9] F3J F3j
def B8Y:List AOper:=[aO 44 (.mv (.t 8)),aO 6 (.mv (.t 44)),aO 7 (.mv (.v (.c (.b true))))]
def F3n:ACode:=.ops B8Y
def F3r:ACode:=.seq [6,7] F3n .ret
def F3s:ACode:=.seq [8] F3l F3r
def F3u:ACode:=.seq [0,1,2,8] F3H F3s
def F3w:ACode:=.seq [0,1,2] F3F F3u
def F3y:ACode:=.seq [0,1,2] F23 F3w
def A_er01_Get:AFn:=⟨F3y,[.tmp 6,.tmp 7]⟩
def Z6:B6:=C1
def F24 (n:Nat):SmV:=A2 Z6 B8Q
def F3p (n:Nat):SmV:=A2 Z6 B8R
def F3A (n:Nat):SmV:=A2 Z6 B8S
def F3C (n:Nat):SmV:=A1 [6,7] (F3A n) A8
def F3E (n:Nat):SmV:=B8 (.t 27) (F3C n) C0
def F3G (n:Nat):SmV:=A1 [0,1,2,27] (F3p n) (F3E n)
def F3I (n:Nat):SmV:=A2 Z6 B8T
def F3K (n:Nat):SmV:=A2 Z6 B8U
def F3M (n:Nat):SmV:=A2 Z6 B8V
def F3O (n:Nat):SmV:=B8 (.t 31) C0 (E3 0)
def F27 (n:Nat):SmV:=A1 [0,1,8,9,31] (F3M n) (F3O n)
def F29 (n:Nat):SmV:=A2 Z6 B8W
def F3b (n:Nat):SmV:=C6 1 (F29 n)
def F3d (n:Nat):SmV:=A2 Z6 B8X
def F3f (n:Nat):SmV:=A1 [0,1,8,9] (F3b n) (F3d n)
def B8N (n:Nat):SmV:=A1 [0,1,8,9] (F27 n) (F3f n)
def F3i (n:Nat):SmV:=E4 n [0,1,8,9] (B8N n)
def F3k (n:Nat):SmV:=C6 0 (F3i n)
def F3m (n:Nat):SmV:=A1 [0,1,8,9] (F3K n) (F3k n)
def F3o (n:Nat):SmV:=A2 Z6 B8Y
def B8O (n:Nat):SmV:=A1 [6,7] (F3o n) A8
def F3t (n:Nat):SmV:=A1 [8] (F3m n) (B8O n)
def F3v (n:Nat):SmV:=A1 [0,1,2,8] (F3I n) (F3t n)
def F3x (n:Nat):SmV:=A1 [0,1,2] (F3G n) (F3v n)
def F3z (n:Nat):SmV:=A1 [0,1,2] (F24 n) (F3x n)
def A8g (n:Nat):AExit → Env → A0 → A6:=fun x e h=>match x with | .normal=>hold ((B8O n) A_er01_Get.fin (e.keep [8]) h) | .exit id=>A_er01_Get.fin (.exit id) e h | .ret=>A_er01_Get.fin .ret e h
def F3P (n:Nat):AExit → Env → A0 → A6:=fun x e h=>match x with | .exit i=>bif Nat.beq i 0 then (A8g n) .normal e h else (A8g n) (.exit i) e h | .normal=>(A8g n) .normal e h | .ret=>(A8g n) .ret e h
def A8h (n m:Nat) (x0 x1 x8 x9:Val) (h:A0):A6:=E1 (B8N n) [0,1,8,9] (F3P n) m [(0,x0),(1,x1),(8,x8),(9,x9)] h
def B0B (n:Nat) (args:List Val) (h:A0):A6:=(F3z n) A_er01_Get.fin (params 0 args) h
theorem D2z (n:Nat) (a0 a1 a2:Val) (h:A0):B0B n [a0,a1,a2] h=bnd (A4 .lss a2 (.c (.i .i64 1))) fun v1=>bnd (gd v1 false (some (a2,h)) (some (.no,h))) fun p2=>bnd (gd v1 false (bnd (A4 .gtr p2.1 (.c (.i .i64 8))) fun v3=>some (v3,p2.2)) (some (.no,p2.2))) fun p4=>bnd (C5 v1 (.c (.b true)) p4.1) fun v5=>bnd (gd v5 false (some (a1,p4.2)) (some (.no,p4.2))) fun p6=>bnd (gd v5 false (bnd (A4 .lss p6.1 (.c (.i .i64 0))) fun v7=>some (v7,p6.2)) (some (.no,p6.2))) fun p8=>bnd (C5 v5 (.c (.b true)) p8.1) fun v9=>bnd (gd v9 false (some (a1,p8.2)) (some (.no,p8.2))) fun p10=>bnd (gd v9 false (some (a0,p10.2)) (some (.no,p10.2))) fun p11=>bnd (gd v9 false (bnd (F5 p11.1) fun v12=>some (v12,p11.2)) (some (.no,p11.2))) fun p13=>bnd (gd v9 false (some (a2,p13.2)) (some (.no,p13.2))) fun p14=>bnd (gd v9 false (bnd (A4 .sub p13.1 p14.1) fun v15=>some (v15,p14.2)) (some (.no,p14.2))) fun p16=>bnd (gd v9 false (bnd (A4 .gtr p10.1 p16.1) fun v17=>some (v17,p16.2)) (some (.no,p16.2))) fun p18=>bnd (C5 v9 (.c (.b true)) p18.1) fun v19=>cnd v19 (C7 [some (.c (.i .u64 0)),some (.c (.b false))] p18.2) (bnd (A4 .sub a2 (.c (.i .i64 1))) fun v20=>A8h n n a0 a1 (.c (.i .u64 0)) v20 p18.2):=by kernel_rfl
theorem B8P (n m:Nat) (x0 x1 x8 x9:Val) (h:A0):A8h n (m + 1) x0 x1 x8 x9 h=bnd (A4 .geq x9 (.c (.i .i64 0))) fun v21=>cnd v21 (bnd (A4 .mul x8 (.c (.i .u64 256))) fun v22=>bnd (A4 .add x1 x9) fun v23=>bnd (D0 1 x0 v23) fun v24=>bnd (A9 h v24) fun v25=>bnd (G8 .u64 v25) fun v26=>bnd (A4 .add v22 v26) fun v27=>bnd (A4 .sub x9 (.c (.i .i64 1))) fun v28=>A8h n m x0 x1 v27 v28 h) (C7 [some x8,some (.c (.b true))] h):=by kernel_rfl
theorem K_er01_Get:FnK Tryz.prog 62 A_er01_Get Z6 B0B:=.mk' (C3) Tryz.func62 (by kernel_rfl) (by intro n args h;kernel_rfl)
def A2t:Fun:=tidy (Lim A_er01_Get Z6)
theorem B3f:SOk Tryz.prog 62 A2t:=K_er01_Get.sok
theorem D4x {n:Nat} {args:List Val} {h h2:A0} {v:Val} (he:B0B n args (ro h)=some (v,h2)) (hf:v.flat=true):A2t args h=some (v,h):=K_er01_Get.flat he hf
def B8o:List AOper:=[aO 6 (.mv (.v (.c (.i .i64 0))))]
def F1p:ACode:=.ops B8o
def B8p:List AOper:=[aO 9 (.mv (.t 2)),aO 10 (.bin .gtr (.t 9) (.v (.c (.i .i64 4))))]
def F1r:ACode:=.ops B8p
def B8q:List AOper:=[aO 6 (.mv (.v (.c (.i .i64 0))))]
def F1x:ACode:=.ops B8q
def F1z:ACode:=.seq [6] F1x .ret
def F1B:ACode:=.cond (.t 10) F1z .skip
def F1D:ACode:=.seq [0,1,2,10] F1r F1B
def B8r:List AOper:=[aO 12 (.mv (.t 0)),aO 13 (.mv (.t 1)),aO 14 (.mv (.t 2)),aO 15 (.call 62 [(.t 12),(.t 13),(.t 14)]),aO 11 (.mv (.t 15)),aO 16 (.ext (.t 11) 0),aO 17 (.ext (.t 11) 1),aO 7 (.mv (.t 16)),aO 8 (.mv (.t 17))]
def F1F:ACode:=.ops B8r
def B8s:List AOper:=[aO 18 (.mv (.t 7)),aO 19 (.conv .i64 (.t 18)),aO 6 (.mv (.t 19))]
def F1H:ACode:=.ops B8s
def F1J:ACode:=.seq [6] F1H .ret
def F1L:ACode:=.seq [7] F1F F1J
def F1s:ACode:=.seq [0,1,2] F1D F1L
def F1u:ACode:=.seq [0,1,2] F1p F1s
def A_er01_At:AFn:=⟨F1u,[.tmp 6]⟩
def A2f:B6:=B1 62 A2t C1
def F1q (n:Nat):SmV:=A2 A2f B8o
def F1w (n:Nat):SmV:=A2 A2f B8p
def F1y (n:Nat):SmV:=A2 A2f B8q
def F1A (n:Nat):SmV:=A1 [6] (F1y n) A8
def F1C (n:Nat):SmV:=B8 (.t 10) (F1A n) C0
def F1E (n:Nat):SmV:=A1 [0,1,2,10] (F1w n) (F1C n)
def F1G (n:Nat):SmV:=A2 A2f B8r
def F1I (n:Nat):SmV:=A2 A2f B8s
def F1K (n:Nat):SmV:=A1 [6] (F1I n) A8
def F1M (n:Nat):SmV:=A1 [7] (F1G n) (F1K n)
def F1t (n:Nat):SmV:=A1 [0,1,2] (F1E n) (F1M n)
def F1v (n:Nat):SmV:=A1 [0,1,2] (F1q n) (F1t n)
def A6q (n:Nat) (args:List Val) (h:A0):A6:=(F1v n) A_er01_At.fin (params 0 args) h
theorem D2x (n:Nat) (a0 a1 a2:Val) (h:A0):A6q n [a0,a1,a2] h=bnd (A4 .gtr a2 (.c (.i .i64 4))) fun v1=>cnd v1 (some ((.c (.i .i64 0)),h)) (bnd (A2t [a0,a1,a2] h) fun p2=>bnd (C2 p2.1 0) fun v3=>bnd (C2 p2.1 1) fun v4=>bnd (G8 .i64 v3) fun v5=>some (v5,p2.2)):=by kernel_rfl
theorem K_er01_At:FnK Tryz.prog 51 A_er01_At A2f A6q:=.mk' (B3 B3f C3) Tryz.func51 (by kernel_rfl) (by intro n args h;kernel_rfl)
def X7:Fun:=tidy (Lim A_er01_At A2f)
theorem B00:SOk Tryz.prog 51 X7:=K_er01_At.sok
theorem D4u {n:Nat} {args:List Val} {h h2:A0} {v:Val} (he:A6q n args (ro h)=some (v,h2)) (hf:v.flat=true):X7 args h=some (v,h):=K_er01_At.flat he hf
def B8w:List AOper:=[aO 4 (.nilrow 1)]
def F1N:ACode:=.ops B8w
def B8x:List AOper:=[aO 5 (.nilrow 1)]
def F1P:ACode:=.ops B8x
def B8y:List AOper:=[aO 6 (.mv (.v (.c (.i .i64 0))))]
def F19:ACode:=.ops B8y
def B8z:List AOper:=[aO 7 (.mv (.t 6)),aO 8 (.mv (.t 0)),aO 9 (.bin .lss (.t 7) (.t 8))]
def F2d:ACode:=.ops B8z
def F2f:ACode:=.cond (.t 9) .skip (.exit 0)
def F2h:ACode:=.seq [0,1,5,6,9] F2d F2f
def B8A:List AOper:=[aO 12 (.mv (.t 5)),aO 13 (.mv (.t 1)),aO 14 (.bin .rem (.t 13) (.v (.c (.i .u64 256)))),aO 15 (.conv .u8 (.t 14)),aO 16 (.buildSl 1 1 ([.i .u8 0]) [(0,1,(.t 15))]),aO 17 (.app 1 (.t 12) (.t 16)),aO 5 (.mv (.t 17))]
def F2j:ACode:=.ops B8A
def B8B:List AOper:=[aO 18 (.mv (.t 1)),aO 19 (.bin .quo (.t 18) (.v (.c (.i .u64 256)))),aO 1 (.mv (.t 19))]
def F2l:ACode:=.ops B8B
def F2n:ACode:=.seq [0,1,5,6] F2j F2l
def F2p:ACode:=.block 1 F2n
def B8C:List AOper:=[aO 10 (.mv (.t 6)),aO 11 (.bin .add (.t 10) (.v (.c (.i .i64 1)))),aO 6 (.mv (.t 11))]
def F1Q:ACode:=.ops B8C
def F1S:ACode:=.seq [0,1,5,6] F2p F1Q
def F1U:ACode:=.seq [0,1,5,6] F2h F1S
def F1V:ACode:=.loop [0,1,5,6] F1U
def F1X:ACode:=.block 0 F1V
def F1Z:ACode:=.seq [0,1,5,6] F19 F1X
def B8D:List AOper:=[aO 20 (.mv (.t 5)),aO 4 (.mv (.t 20))]
def F11:ACode:=.ops B8D
def F13:ACode:=.seq [4] F11 .ret
def F14:ACode:=.seq [5] F1Z F13
def F16:ACode:=.seq [0,1,5] F1P F14
def F2a:ACode:=.seq [0,1] F1N F16
def A_er01_Bytes:AFn:=⟨F2a,[.tmp 4]⟩
def A0u:B6:=C1
def F1O (n:Nat):SmV:=A2 A0u B8w
def F18 (n:Nat):SmV:=A2 A0u B8x
def F2c (n:Nat):SmV:=A2 A0u B8y
def F2e (n:Nat):SmV:=A2 A0u B8z
def F2g (n:Nat):SmV:=B8 (.t 9) C0 (E3 0)
def F2i (n:Nat):SmV:=A1 [0,1,5,6,9] (F2e n) (F2g n)
def F2k (n:Nat):SmV:=A2 A0u B8A
def F2m (n:Nat):SmV:=A2 A0u B8B
def F2o (n:Nat):SmV:=A1 [0,1,5,6] (F2k n) (F2m n)
def F2q (n:Nat):SmV:=C6 1 (F2o n)
def F1R (n:Nat):SmV:=A2 A0u B8C
def F1T (n:Nat):SmV:=A1 [0,1,5,6] (F2q n) (F1R n)
def B8t (n:Nat):SmV:=A1 [0,1,5,6] (F2i n) (F1T n)
def F1W (n:Nat):SmV:=E4 n [0,1,5,6] (B8t n)
def F1Y (n:Nat):SmV:=C6 0 (F1W n)
def F10 (n:Nat):SmV:=A1 [0,1,5,6] (F2c n) (F1Y n)
def F12 (n:Nat):SmV:=A2 A0u B8D
def B8u (n:Nat):SmV:=A1 [4] (F12 n) A8
def F15 (n:Nat):SmV:=A1 [5] (F10 n) (B8u n)
def F17 (n:Nat):SmV:=A1 [0,1,5] (F18 n) (F15 n)
def F2b (n:Nat):SmV:=A1 [0,1] (F1O n) (F17 n)
def A8c (n:Nat):AExit → Env → A0 → A6:=fun x e h=>match x with | .normal=>hold ((B8u n) A_er01_Bytes.fin (e.keep [5]) h) | .exit id=>A_er01_Bytes.fin (.exit id) e h | .ret=>A_er01_Bytes.fin .ret e h
def F2r (n:Nat):AExit → Env → A0 → A6:=fun x e h=>match x with | .exit i=>bif Nat.beq i 0 then (A8c n) .normal e h else (A8c n) (.exit i) e h | .normal=>(A8c n) .normal e h | .ret=>(A8c n) .ret e h
def A8d (n m:Nat) (x0 x1 x5 x6:Val) (h:A0):A6:=E1 (B8t n) [0,1,5,6] (F2r n) m [(0,x0),(1,x1),(5,x5),(6,x6)] h
def B0z (n:Nat) (args:List Val) (h:A0):A6:=(F2b n) A_er01_Bytes.fin (params 0 args) h
theorem D2y (n:Nat) (a0 a1:Val) (h:A0):B0z n [a0,a1] h=A8d n n a0 a1 ((.c (.sl ((h ++ [some (Row.mk ([]) true)])).length 0 0 1))) (.c (.i .i64 0)) (((h ++ [some (Row.mk ([]) true)]) ++ [some (Row.mk ([]) true)])):=by kernel_rfl
theorem B8v (n m:Nat) (x0 x1 x5 x6:Val) (h:A0):A8d n (m + 1) x0 x1 x5 x6 h=bnd (A4 .lss x6 x0) fun v1=>cnd v1 (bnd (A4 .rem x1 (.c (.i .u64 256))) fun v2=>bnd (G8 .u8 v2) fun v3=>bnd (B0 ([.i .u8 0]) [(0,1,v3)]) fun c4=>bnd (E5 ((h ++ [some (Row.mk (c4) true)])) 1 x5 ((.c (.sl h.length 0 1 1)))) fun p5=>bnd (A4 .quo x1 (.c (.i .u64 256))) fun v6=>bnd (A4 .add x6 (.c (.i .i64 1))) fun v7=>A8d n m x0 v6 p5.1 v7 p5.2) (some (x5,h)):=by kernel_rfl
theorem K_er01_Bytes:FnK Tryz.prog 90 A_er01_Bytes A0u B0z:=.mk' (C3) Tryz.func90 (by kernel_rfl) (by intro n args h;kernel_rfl)
def V7:Fun:=tidy (Lim A_er01_Bytes A0u)
theorem B01:SOk Tryz.prog 90 V7:=K_er01_Bytes.sok
theorem D4v {n:Nat} {args:List Val} {h h2:A0} {v:Val} {sz k:Nat} {cs:List Cell} (he:B0z n args (ro h)=some (v,h2)) (ho:Out h.length h2 v sz k cs) (hf:D9 cs=true):V7 args h=some (.c (.sl h.length 0 k sz),h ++ [some ⟨cs,true⟩]):=K_er01_Bytes.out he ho hf
def B83:List AOper:=[aO 6 (.nilrow 1)]
def F3Q:ACode:=.ops B83
def B84:List AOper:=[aO 7 (.nilrow 1)]
def F3S:ACode:=.ops B84
def B85:List AOper:=[aO 8 (.mv (.v (.c (.i .i64 0))))]
def F4b:ACode:=.ops B85
def B86:List AOper:=[aO 10 (.mv (.t 8)),aO 11 (.mv (.t 0)),aO 12 (.len (.t 11)),aO 13 (.bin .lss (.t 10) (.t 12))]
def F4o:ACode:=.ops B86
def F4q:ACode:=.cond (.t 13) .skip (.exit 0)
def F4s:ACode:=.seq [0,1,2,7,8,13] F4o F4q
def B87:List AOper:=[aO 16 (.mv (.t 0)),aO 17 (.mv (.t 8)),aO 18 (.iAddrL 1 (.t 16) (.t 17)),aO 19 (.load1 (.t 18)),aO 9 (.mv (.t 19))]
def F4u:ACode:=.ops B87
def B88:List AOper:=[aO 20 (.mv (.t 1)),aO 21 (.bin .geq (.t 20) (.v (.c (.i .i64 0)))),aO 22 (.mv (.t 21)),{ dst:=some 23,op:=.mv (.t 8),guard:=some (22,true) },{ dst:=some 24,op:=.mv (.t 1),guard:=some (22,true) },{ dst:=some 25,op:=.bin .geq (.t 23) (.t 24),guard:=some (22,true) },aO 26 (.pick (.t 22) (.t 25) (.v (.c (.b false)))),aO 27 (.mv (.t 26)),{ dst:=some 28,op:=.mv (.t 8),guard:=some (27,true) },{ dst:=some 29,op:=.mv (.t 1),guard:=some (27,true) },{ dst:=some 30,op:=.bin .sub (.t 28) (.t 29),guard:=some (27,true) },{ dst:=some 31,op:=.mv (.t 2),guard:=some (27,true) },{ dst:=some 32,op:=.len (.t 31),guard:=some (27,true) },{ dst:=some 33,op:=.bin .lss (.t 30) (.t 32),guard:=some (27,true) },aO 34 (.pick (.t 27) (.t 33) (.v (.c (.b false))))]
def F4w:ACode:=.ops B88
def B89:List AOper:=[aO 35 (.mv (.t 2)),aO 36 (.mv (.t 8)),aO 37 (.mv (.t 1)),aO 38 (.bin .sub (.t 36) (.t 37)),aO 39 (.iAddrL 1 (.t 35) (.t 38)),aO 40 (.load1 (.t 39)),aO 9 (.mv (.t 40))]
def F4y:ACode:=.ops B89
def F4A:ACode:=.cond (.t 34) F4y .skip
def F3T:ACode:=.seq [0,1,2,7,8,9,34] F4w F4A
def B9a:List AOper:=[aO 41 (.mv (.t 7)),aO 42 (.mv (.t 9)),aO 43 (.buildSl 1 1 ([.i .u8 0]) [(0,1,(.t 42))]),aO 44 (.app 1 (.t 41) (.t 43)),aO 7 (.mv (.t 44))]
def F3V:ACode:=.ops B9a
def F3W:ACode:=.seq [0,1,2,7,8,9] F3T F3V
def F3Y:ACode:=.seq [0,1,2,7,8,9] F4u F3W
def F30:ACode:=.block 1 F3Y
def B9b:List AOper:=[aO 14 (.mv (.t 8)),aO 15 (.bin .add (.t 14) (.v (.c (.i .i64 1)))),aO 8 (.mv (.t 15))]
def F32:ACode:=.ops B9b
def F33:ACode:=.seq [0,1,2,7,8] F30 F32
def F35:ACode:=.seq [0,1,2,7,8] F4s F33
def F36:ACode:=.loop [0,1,2,7,8] F35
def F38:ACode:=.block 0 F36
def F4c:ACode:=.seq [0,1,2,7,8] F4b F38
def B9c:List AOper:=[aO 45 (.mv (.t 7)),aO 6 (.mv (.t 45))]
def F4e:ACode:=.ops B9c
def F4g:ACode:=.seq [6] F4e .ret
def F4h:ACode:=.seq [7] F4c F4g
def F4j:ACode:=.seq [0,1,2,7] F3S F4h
def F4l:ACode:=.seq [0,1,2] F3Q F4j
def A_er01_Lay:AFn:=⟨F4l,[.tmp 6]⟩
def W9:B6:=C1
def F3R (n:Nat):SmV:=A2 W9 B83
def F4a (n:Nat):SmV:=A2 W9 B84
def F4n (n:Nat):SmV:=A2 W9 B85
def F4p (n:Nat):SmV:=A2 W9 B86
def F4r (n:Nat):SmV:=B8 (.t 13) C0 (E3 0)
def F4t (n:Nat):SmV:=A1 [0,1,2,7,8,13] (F4p n) (F4r n)
def F4v (n:Nat):SmV:=A2 W9 B87
def F4x (n:Nat):SmV:=A2 W9 B88
def F4z (n:Nat):SmV:=A2 W9 B89
def F4B (n:Nat):SmV:=B8 (.t 34) (F4z n) C0
def F3U (n:Nat):SmV:=A1 [0,1,2,7,8,9,34] (F4x n) (F4B n)
def B8Z (n:Nat):SmV:=A2 W9 B9a
def F3X (n:Nat):SmV:=A1 [0,1,2,7,8,9] (F3U n) (B8Z n)
def F3Z (n:Nat):SmV:=A1 [0,1,2,7,8,9] (F4v n) (F3X n)
def F31 (n:Nat):SmV:=C6 1 (F3Z n)
def B80 (n:Nat):SmV:=A2 W9 B9b
def F34 (n:Nat):SmV:=A1 [0,1,2,7,8] (F31 n) (B80 n)
def B1Q (n:Nat):SmV:=A1 [0,1,2,7,8] (F4t n) (F34 n)
def F37 (n:Nat):SmV:=E4 n [0,1,2,7,8] (B1Q n)
def F39 (n:Nat):SmV:=C6 0 (F37 n)
def F4d (n:Nat):SmV:=A1 [0,1,2,7,8] (F4n n) (F39 n)
def F4f (n:Nat):SmV:=A2 W9 B9c
def B81 (n:Nat):SmV:=A1 [6] (F4f n) A8
def F4i (n:Nat):SmV:=A1 [7] (F4d n) (B81 n)
def F4k (n:Nat):SmV:=A1 [0,1,2,7] (F4a n) (F4i n)
def F4m (n:Nat):SmV:=A1 [0,1,2] (F3R n) (F4k n)
def A8j (n:Nat):AExit → Env → A0 → A6:=fun x e h=>match x with | .normal=>hold ((B81 n) A_er01_Lay.fin (e.keep [7]) h) | .exit id=>A_er01_Lay.fin (.exit id) e h | .ret=>A_er01_Lay.fin .ret e h
def A8k (n:Nat):AExit → Env → A0 → A6:=fun x e h=>match x with | .exit i=>bif Nat.beq i 0 then (A8j n) .normal e h else (A8j n) (.exit i) e h | .normal=>(A8j n) .normal e h | .ret=>(A8j n) .ret e h
def A8m (n m:Nat) (x0 x1 x2 x7 x8:Val) (h:A0):A6:=E1 (B1Q n) [0,1,2,7,8] (A8k n) m [(0,x0),(1,x1),(2,x2),(7,x7),(8,x8)] h
def B0C (n:Nat) (args:List Val) (h:A0):A6:=(F4m n) A_er01_Lay.fin (params 0 args) h
def B1R (n m:Nat):AExit → Env → A0 → A6:=fun x e h=>match x with | .normal=>E1 (B1Q n) [0,1,2,7,8] (A8k n) m (e.keep [0,1,2,7,8]) h | .exit id=>(A8k n) (.exit id) e h | .ret=>(A8k n) .ret e h
def A8l (n m:Nat):AExit → Env → A0 → A6:=fun x e h=>match x with | .normal=>hold ((B80 n) (B1R n m) (e.keep [0,1,2,7,8]) h) | .exit id=>(B1R n m) (.exit id) e h | .ret=>(B1R n m) .ret e h
def F4D (n m:Nat):AExit → Env → A0 → A6:=fun x e h=>match x with | .exit i=>bif Nat.beq i 1 then (A8l n m) .normal e h else (A8l n m) (.exit i) e h | .normal=>(A8l n m) .normal e h | .ret=>(A8l n m) .ret e h
def A8i (n m:Nat) (x0 x1 x2 x7 x8 x9:Val) (h:A0):A6:=hold ((B8Z n) (F4D n m) [(0,x0),(1,x1),(2,x2),(7,x7),(8,x8),(9,x9)] h)
theorem D2A (n:Nat) (a0 a1 a2:Val) (h:A0):B0C n [a0,a1,a2] h=A8m n n a0 a1 a2 ((.c (.sl ((h ++ [some (Row.mk ([]) true)])).length 0 0 1))) (.c (.i .i64 0)) (((h ++ [some (Row.mk ([]) true)]) ++ [some (Row.mk ([]) true)])):=by kernel_rfl
theorem B82 (n m:Nat) (x0 x1 x2 x7 x8:Val) (h:A0):A8m n (m + 1) x0 x1 x2 x7 x8 h=bnd (F5 x0) fun v1=>bnd (A4 .lss x8 v1) fun v2=>cnd v2 (bnd (D0 1 x0 x8) fun v3=>bnd (A9 h v3) fun v4=>bnd (A4 .geq x1 (.c (.i .i64 0))) fun v5=>bnd (gd v5 true (some (x8,h)) (some (.no,h))) fun p6=>bnd (gd v5 true (some (x1,p6.2)) (some (.no,p6.2))) fun p7=>bnd (gd v5 true (bnd (A4 .geq p6.1 p7.1) fun v8=>some (v8,p7.2)) (some (.no,p7.2))) fun p9=>bnd (C5 v5 p9.1 (.c (.b false))) fun v10=>bnd (gd v10 true (some (x8,p9.2)) (some (.no,p9.2))) fun p11=>bnd (gd v10 true (some (x1,p11.2)) (some (.no,p11.2))) fun p12=>bnd (gd v10 true (bnd (A4 .sub p11.1 p12.1) fun v13=>some (v13,p12.2)) (some (.no,p12.2))) fun p14=>bnd (gd v10 true (some (x2,p14.2)) (some (.no,p14.2))) fun p15=>bnd (gd v10 true (bnd (F5 p15.1) fun v16=>some (v16,p15.2)) (some (.no,p15.2))) fun p17=>bnd (gd v10 true (bnd (A4 .lss p14.1 p17.1) fun v18=>some (v18,p17.2)) (some (.no,p17.2))) fun p19=>bnd (C5 v10 p19.1 (.c (.b false))) fun v20=>cnd v20 (bnd (A4 .sub x8 x1) fun v21=>bnd (D0 1 x2 v21) fun v22=>bnd (A9 p19.2 v22) fun v23=>A8i n m x0 x1 x2 x7 x8 v23 p19.2) (A8i n m x0 x1 x2 x7 x8 v4 p19.2)) (some (x7,h)):=by kernel_rfl
theorem F4C (n m:Nat) (x0 x1 x2 x7 x8 x9:Val) (h:A0):A8i n m x0 x1 x2 x7 x8 x9 h=bnd (B0 ([.i .u8 0]) [(0,1,x9)]) fun c24=>bnd (E5 ((h ++ [some (Row.mk (c24) true)])) 1 x7 ((.c (.sl h.length 0 1 1)))) fun p25=>bnd (A4 .add x8 (.c (.i .i64 1))) fun v26=>A8m n m x0 x1 x2 p25.1 v26 p25.2:=by kernel_rfl
theorem K_er01_Lay:FnK Tryz.prog 104 A_er01_Lay W9 B0C:=.mk' (C3) Tryz.func104 (by kernel_rfl) (by intro n args h;kernel_rfl)
def A2u:Fun:=tidy (Lim A_er01_Lay W9)
theorem B3g:SOk Tryz.prog 104 A2u:=K_er01_Lay.sok
theorem D4y {n:Nat} {args:List Val} {h h2:A0} {v:Val} {sz k:Nat} {cs:List Cell} (he:B0C n args (ro h)=some (v,h2)) (ho:Out h.length h2 v sz k cs) (hf:D9 cs=true):A2u args h=some (.c (.sl h.length 0 k sz),h ++ [some ⟨cs,true⟩]):=K_er01_Lay.out he ho hf
def B9g:List AOper:=[aO 4 (.mv (.v (.c (.b false))))]
def F4E:ACode:=.ops B9g
def B9h:List AOper:=[aO 6 (.mv (.t 0)),aO 7 (.len (.t 6)),aO 8 (.mv (.t 1)),aO 9 (.len (.t 8)),aO 10 (.bin .neq (.t 7) (.t 9))]
def F4G:ACode:=.ops B9h
def B9i:List AOper:=[aO 4 (.mv (.v (.c (.b false))))]
def F41:ACode:=.ops B9i
def F5g:ACode:=.seq [4] F41 .ret
def F5i:ACode:=.cond (.t 10) F5g .skip
def F5k:ACode:=.seq [0,1,10] F4G F5i
def B9j:List AOper:=[aO 5 (.mv (.v (.c (.i .i64 0))))]
def F5m:ACode:=.ops B9j
def B9k:List AOper:=[aO 11 (.mv (.t 5)),aO 12 (.mv (.t 0)),aO 13 (.len (.t 12)),aO 14 (.bin .lss (.t 11) (.t 13))]
def F5o:ACode:=.ops B9k
def F5q:ACode:=.cond (.t 14) .skip (.exit 0)
def F5s:ACode:=.seq [0,1,5,14] F5o F5q
def B9l:List AOper:=[aO 17 (.mv (.t 0)),aO 18 (.mv (.t 5)),aO 19 (.iAddrL 1 (.t 17) (.t 18)),aO 20 (.load1 (.t 19)),aO 21 (.mv (.t 1)),aO 22 (.mv (.t 5)),aO 23 (.iAddrL 1 (.t 21) (.t 22)),aO 24 (.load1 (.t 23))]
def B9m:List AOper:=[aO 25 (.bin .neq (.t 20) (.t 24))]
def F4H:ACode:=.draw 0 B9l B9m
def B9n:List AOper:=[aO 4 (.mv (.v (.c (.b false))))]
def F4J:ACode:=.ops B9n
def F4L:ACode:=.seq [4] F4J .ret
def F4N:ACode:=.cond (.t 25) F4L .skip
def F4P:ACode:=.seq [0,1,5,25] F4H F4N
def F4R:ACode:=.block 1 F4P
def B9o:List AOper:=[aO 15 (.mv (.t 5)),aO 16 (.bin .add (.t 15) (.v (.c (.i .i64 1)))),aO 5 (.mv (.t 16))]
def F4T:ACode:=.ops B9o
def F4V:ACode:=.seq [0,1,5] F4R F4T
def F4X:ACode:=.seq [0,1,5] F5s F4V
def F4Y:ACode:=.loop [0,1,5] F4X
def F42:ACode:=.block 0 F4Y
def F44:ACode:=.seq [0,1,5] F5m F42
def B9p:List AOper:=[aO 4 (.mv (.v (.c (.b true))))]
def F46:ACode:=.ops B9p
def F48:ACode:=.seq [4] F46 .ret
def F49:ACode:=.seq [] F44 F48
def F5b:ACode:=.seq [0,1] F5k F49
def F5d:ACode:=.seq [0,1] F4E F5b
def A_er01_Same:AFn:=⟨F5d,[.tmp 4]⟩
def Z7:B6:=C1
def F4F (n:Nat):SmV:=A2 Z7 B9g
def F40 (n:Nat):SmV:=A2 Z7 B9h
def F5f (n:Nat):SmV:=A2 Z7 B9i
def F5h (n:Nat):SmV:=A1 [4] (F5f n) A8
def F5j (n:Nat):SmV:=B8 (.t 10) (F5h n) C0
def F5l (n:Nat):SmV:=A1 [0,1,10] (F40 n) (F5j n)
def F5n (n:Nat):SmV:=A2 Z7 B9j
def F5p (n:Nat):SmV:=A2 Z7 B9k
def F5r (n:Nat):SmV:=B8 (.t 14) C0 (E3 0)
def F5t (n:Nat):SmV:=A1 [0,1,5,14] (F5p n) (F5r n)
def F4I (n:Nat):SmV:=N3 Z7 0 B9l B9m
def F4K (n:Nat):SmV:=A2 Z7 B9n
def F4M (n:Nat):SmV:=A1 [4] (F4K n) A8
def F4O (n:Nat):SmV:=B8 (.t 25) (F4M n) C0
def F4Q (n:Nat):SmV:=A1 [0,1,5,25] (F4I n) (F4O n)
def F4S (n:Nat):SmV:=C6 1 (F4Q n)
def F4U (n:Nat):SmV:=A2 Z7 B9o
def F4W (n:Nat):SmV:=A1 [0,1,5] (F4S n) (F4U n)
def B9d (n:Nat):SmV:=A1 [0,1,5] (F5t n) (F4W n)
def F4Z (n:Nat):SmV:=E4 n [0,1,5] (B9d n)
def F43 (n:Nat):SmV:=C6 0 (F4Z n)
def F45 (n:Nat):SmV:=A1 [0,1,5] (F5n n) (F43 n)
def F47 (n:Nat):SmV:=A2 Z7 B9p
def B9e (n:Nat):SmV:=A1 [4] (F47 n) A8
def F5a (n:Nat):SmV:=A1 [] (F45 n) (B9e n)
def F5c (n:Nat):SmV:=A1 [0,1] (F5l n) (F5a n)
def F5e (n:Nat):SmV:=A1 [0,1] (F4F n) (F5c n)
def A8n (n:Nat):AExit → Env → A0 → A6:=fun x e h=>match x with | .normal=>hold ((B9e n) A_er01_Same.fin (e.keep []) h) | .exit id=>A_er01_Same.fin (.exit id) e h | .ret=>A_er01_Same.fin .ret e h
def F5u (n:Nat):AExit → Env → A0 → A6:=fun x e h=>match x with | .exit i=>bif Nat.beq i 0 then (A8n n) .normal e h else (A8n n) (.exit i) e h | .normal=>(A8n n) .normal e h | .ret=>(A8n n) .ret e h
def A8o (n m:Nat) (x0 x1 x5:Val) (h:A0):A6:=E1 (B9d n) [0,1,5] (F5u n) m [(0,x0),(1,x1),(5,x5)] h
def B0D (n:Nat) (args:List Val) (h:A0):A6:=(F5e n) A_er01_Same.fin (params 0 args) h
theorem D2B (n:Nat) (a0 a1:Val) (h:A0):B0D n [a0,a1] h=bnd (F5 a0) fun v1=>bnd (F5 a1) fun v2=>bnd (A4 .neq v1 v2) fun v3=>cnd v3 (some ((.c (.b false)),h)) (A8o n n a0 a1 (.c (.i .i64 0)) h):=by kernel_rfl
theorem B9f (n m:Nat) (x0 x1 x5:Val) (h:A0):A8o n (m + 1) x0 x1 x5 h=bnd (F5 x0) fun v4=>bnd (A4 .lss x5 v4) fun v5=>cnd v5 (bnd (D0 1 x0 x5) fun v6=>bnd (A9 h v6) fun v7=>bnd (D0 1 x1 x5) fun v8=>bnd (A9 h v8) fun v9=>bnd (A4 .neq v7 v9) fun v10=>cnd v10 (some ((.c (.b false)),(h ++ []))) (bnd (A4 .add x5 (.c (.i .i64 1))) fun v11=>A8o n m x0 x1 v11 ((h ++ [])))) (some ((.c (.b true)),h)):=by kernel_rfl
theorem K_er01_Same:FnK Tryz.prog 53 A_er01_Same Z7 B0D:=.mk' (C3) Tryz.func53 (by kernel_rfl) (by intro n args h;kernel_rfl)
def A0h:Fun:=tidy (Lim A_er01_Same Z7)
theorem A7o:SOk Tryz.prog 53 A0h:=K_er01_Same.sok
theorem D4z {n:Nat} {args:List Val} {h h2:A0} {v:Val} (he:B0D n args (ro h)=some (v,h2)) (hf:v.flat=true):A0h args h=some (v,h):=K_er01_Same.flat he hf
def B8G:List AOper:=[aO 6 (.nilrow 1)]
def F2s:ACode:=.ops B8G
def B8H:List AOper:=[aO 7 (.nilrow 1)]
def F2u:ACode:=.ops B8H
def B8I:List AOper:=[aO 9 (.mv (.t 1)),aO 8 (.mv (.t 9))]
def F2M:ACode:=.ops B8I
def B8J:List AOper:=[aO 10 (.mv (.t 1)),aO 11 (.bin .geq (.t 10) (.v (.c (.i .i64 0)))),aO 12 (.mv (.t 11)),{ dst:=some 13,op:=.mv (.t 8),guard:=some (12,true) },{ dst:=some 14,op:=.mv (.t 0),guard:=some (12,true) },{ dst:=some 15,op:=.len (.t 14),guard:=some (12,true) },{ dst:=some 16,op:=.bin .lss (.t 13) (.t 15),guard:=some (12,true) },aO 17 (.pick (.t 12) (.t 16) (.v (.c (.b false)))),aO 18 (.mv (.t 17)),{ dst:=some 19,op:=.mv (.t 8),guard:=some (18,true) },{ dst:=some 20,op:=.mv (.t 1),guard:=some (18,true) },{ dst:=some 21,op:=.bin .sub (.t 19) (.t 20),guard:=some (18,true) },{ dst:=some 22,op:=.mv (.t 2),guard:=some (18,true) },{ dst:=some 23,op:=.bin .lss (.t 21) (.t 22),guard:=some (18,true) },aO 24 (.pick (.t 18) (.t 23) (.v (.c (.b false))))]
def F2O:ACode:=.ops B8J
def F2Q:ACode:=.cond (.t 24) .skip (.exit 0)
def F2S:ACode:=.seq [0,1,2,7,8,24] F2O F2Q
def B8K:List AOper:=[aO 27 (.mv (.t 7)),aO 28 (.mv (.t 0)),aO 29 (.mv (.t 8)),aO 30 (.iAddrL 1 (.t 28) (.t 29)),aO 31 (.load1 (.t 30)),aO 32 (.buildSl 1 1 ([.i .u8 0]) [(0,1,(.t 31))]),aO 33 (.app 1 (.t 27) (.t 32)),aO 7 (.mv (.t 33))]
def F2U:ACode:=.ops B8K
def F2W:ACode:=.block 1 F2U
def B8L:List AOper:=[aO 25 (.mv (.t 8)),aO 26 (.bin .add (.t 25) (.v (.c (.i .i64 1)))),aO 8 (.mv (.t 26))]
def F2Y:ACode:=.ops B8L
def F20:ACode:=.seq [0,1,2,7,8] F2W F2Y
def F2v:ACode:=.seq [0,1,2,7,8] F2S F20
def F2w:ACode:=.loop [0,1,2,7,8] F2v
def F2y:ACode:=.block 0 F2w
def F2A:ACode:=.seq [0,1,2,7,8] F2M F2y
def B8M:List AOper:=[aO 34 (.mv (.t 7)),aO 6 (.mv (.t 34))]
def F2C:ACode:=.ops B8M
def F2E:ACode:=.seq [6] F2C .ret
def F2F:ACode:=.seq [7] F2A F2E
def F2H:ACode:=.seq [0,1,2,7] F2u F2F
def F2J:ACode:=.seq [0,1,2] F2s F2H
def A_er01_Cut:AFn:=⟨F2J,[.tmp 6]⟩
def A0T:B6:=C1
def F2t (n:Nat):SmV:=A2 A0T B8G
def F2L (n:Nat):SmV:=A2 A0T B8H
def F2N (n:Nat):SmV:=A2 A0T B8I
def F2P (n:Nat):SmV:=A2 A0T B8J
def F2R (n:Nat):SmV:=B8 (.t 24) C0 (E3 0)
def F2T (n:Nat):SmV:=A1 [0,1,2,7,8,24] (F2P n) (F2R n)
def F2V (n:Nat):SmV:=A2 A0T B8K
def F2X (n:Nat):SmV:=C6 1 (F2V n)
def F2Z (n:Nat):SmV:=A2 A0T B8L
def F21 (n:Nat):SmV:=A1 [0,1,2,7,8] (F2X n) (F2Z n)
def B8E (n:Nat):SmV:=A1 [0,1,2,7,8] (F2T n) (F21 n)
def F2x (n:Nat):SmV:=E4 n [0,1,2,7,8] (B8E n)
def F2z (n:Nat):SmV:=C6 0 (F2x n)
def F2B (n:Nat):SmV:=A1 [0,1,2,7,8] (F2N n) (F2z n)
def F2D (n:Nat):SmV:=A2 A0T B8M
def B8F (n:Nat):SmV:=A1 [6] (F2D n) A8
def F2G (n:Nat):SmV:=A1 [7] (F2B n) (B8F n)
def F2I (n:Nat):SmV:=A1 [0,1,2,7] (F2L n) (F2G n)
def F2K (n:Nat):SmV:=A1 [0,1,2] (F2t n) (F2I n)
def A8e (n:Nat):AExit → Env → A0 → A6:=fun x e h=>match x with | .normal=>hold ((B8F n) A_er01_Cut.fin (e.keep [7]) h) | .exit id=>A_er01_Cut.fin (.exit id) e h | .ret=>A_er01_Cut.fin .ret e h
def F22 (n:Nat):AExit → Env → A0 → A6:=fun x e h=>match x with | .exit i=>bif Nat.beq i 0 then (A8e n) .normal e h else (A8e n) (.exit i) e h | .normal=>(A8e n) .normal e h | .ret=>(A8e n) .ret e h
def A5k (n m:Nat) (x0 x1 x2 x7 x8:Val) (h:A0):A6:=E1 (B8E n) [0,1,2,7,8] (F22 n) m [(0,x0),(1,x1),(2,x2),(7,x7),(8,x8)] h
def B0A (n:Nat) (args:List Val) (h:A0):A6:=(F2K n) A_er01_Cut.fin (params 0 args) h
theorem B21 (n:Nat) (a0 a1 a2:Val) (h:A0):B0A n [a0,a1,a2] h=A5k n n a0 a1 a2 ((.c (.sl ((h ++ [some (Row.mk ([]) true)])).length 0 0 1))) a1 (((h ++ [some (Row.mk ([]) true)]) ++ [some (Row.mk ([]) true)])):=by kernel_rfl
theorem A8f (n m:Nat) (x0 x1 x2 x7 x8:Val) (h:A0):A5k n (m + 1) x0 x1 x2 x7 x8 h=bnd (A4 .geq x1 (.c (.i .i64 0))) fun v1=>bnd (gd v1 true (some (x8,h)) (some (.no,h))) fun p2=>bnd (gd v1 true (some (x0,p2.2)) (some (.no,p2.2))) fun p3=>bnd (gd v1 true (bnd (F5 p3.1) fun v4=>some (v4,p3.2)) (some (.no,p3.2))) fun p5=>bnd (gd v1 true (bnd (A4 .lss p2.1 p5.1) fun v6=>some (v6,p5.2)) (some (.no,p5.2))) fun p7=>bnd (C5 v1 p7.1 (.c (.b false))) fun v8=>bnd (gd v8 true (some (x8,p7.2)) (some (.no,p7.2))) fun p9=>bnd (gd v8 true (some (x1,p9.2)) (some (.no,p9.2))) fun p10=>bnd (gd v8 true (bnd (A4 .sub p9.1 p10.1) fun v11=>some (v11,p10.2)) (some (.no,p10.2))) fun p12=>bnd (gd v8 true (some (x2,p12.2)) (some (.no,p12.2))) fun p13=>bnd (gd v8 true (bnd (A4 .lss p12.1 p13.1) fun v14=>some (v14,p13.2)) (some (.no,p13.2))) fun p15=>bnd (C5 v8 p15.1 (.c (.b false))) fun v16=>cnd v16 (bnd (D0 1 x0 x8) fun v17=>bnd (A9 p15.2 v17) fun v18=>bnd (B0 ([.i .u8 0]) [(0,1,v18)]) fun c19=>bnd (E5 ((p15.2 ++ [some (Row.mk (c19) true)])) 1 x7 ((.c (.sl p15.2.length 0 1 1)))) fun p20=>bnd (A4 .add x8 (.c (.i .i64 1))) fun v21=>A5k n m x0 x1 x2 p20.1 v21 p20.2) (some (x7,p15.2)):=by kernel_rfl
theorem K_er01_Cut:FnK Tryz.prog 50 A_er01_Cut A0T B0A:=.mk' (C3) Tryz.func50 (by kernel_rfl) (by intro n args h;kernel_rfl)
def A3w:Fun:=tidy (Lim A_er01_Cut A0T)
theorem D4w:SOk Tryz.prog 50 A3w:=K_er01_Cut.sok
theorem B3e {n:Nat} {args:List Val} {h h2:A0} {v:Val} {sz k:Nat} {cs:List Cell} (he:B0A n args (ro h)=some (v,h2)) (ho:Out h.length h2 v sz k cs) (hf:D9 cs=true):A3w args h=some (.c (.sl h.length 0 k sz),h ++ [some ⟨cs,true⟩]):=K_er01_Cut.out he ho hf
end Go.Proofs.YtdgggnlbdoiloaaGreat
end
section
namespace Go.Proofs.YtdgggnlbdoiloaaGreat
open Go Go.Esc
theorem C9V {v u:Val} {nv nu:Nat} {l r:List UInt8} {h:A0} (hv:Has h v 1 nv (A3 l)) (hu:Has h u 1 nu (A3 r)) (hlr:l.length=r.length) (hl:l.length < 9223372036854775807) {k:Nat}:∀ d i m,i + d=l.length → d < m →
    A8o k m v u (.c (.i .i64 i)) h=some (.c (.b (decide (l.drop i=r.drop i))),h)
  | d,i,0,_,hm=>by omega
  | 0,i,m + 1,hi,hm=>by
    have hnv:l.length=nv:=by simpa [B4] using hv.length
    have e1:l.drop i=[]:=List.drop_of_length_le (by omega)
    have e2:r.drop i=[]:=List.drop_of_length_le (by omega)
    have h1':¬ (i:Int) < l.length:=by omega
    rw [B9f]
    simp only [esc,hv.len,← hnv,h1',e1,e2]
  | d + 1,i,m + 1,hi,hm=>by
    have ih:=C9V hv hu hlr hl (k:=k) d (i + 1) m (by omega) (by omega)
    have hnv:l.length=nv:=by simpa [B4] using hv.length
    have hnu:r.length=nu:=by simpa [B4] using hu.length
    have hlen:=hv.len
    obtain ⟨id,off,rfl,hid,h1,h2⟩:=hv.sl (by omega)
    obtain ⟨id',off',rfl,hid',h1',h2'⟩:=hu.sl (by omega)
    have hx:=h1 i (.i .u8 l[i].toNat) (by rw [W4,List.getElem?_eq_getElem (by omega)];rfl)
    have hy:=h1' i (.i .u8 r[i].toNat) (by rw [W4,List.getElem?_eq_getElem (by omega)];rfl)
    have ea:D0 1 (.c (.sl id off nv 1)) (.c (.i .i64 (i:Int)))=some (.c (.p id (off + i))):=by rw [I9 (by omega)];simp
    have eb:D0 1 (.c (.sl id' off' nu 1)) (.c (.i .i64 (i:Int)))=some (.c (.p id' (off' + i))):=by rw [I9 (by omega)];simp
    have c1:(i:Int) < nv:=by omega
    rw [B9f,List.drop_eq_getElem_cons (by omega:i < l.length),List.drop_eq_getElem_cons (by omega:i < r.length)]
    by_cases c:l[i]=r[i]
    · simp only [esc,c1,ea,eb,hx,hy,c,E6 (show i + 1 < 9223372036854775808 by omega),List.cons.injEq,true_and]
      exact ih
    · have c':¬ (l[i].toNat:Int)=r[i].toNat:=fun e=>c (UInt8.toNat_inj.1 (by omega))
      simp only [esc,c1,ea,eb,hx,hy,c',c,List.cons.injEq,false_and]
theorem A95 {v u:Val} {nv nu:Nat} {l r:List UInt8} {h:A0} (hv:Has h v 1 nv (A3 l)) (hu:Has h u 1 nu (A3 r)) (hl:l.length < 9223372036854775807) :
    A0h [v,u] h=some (.c (.b (decide (l=r))),h):=by
  refine D4z (n:=l.length + 1) (h2:=ro h) ?_ (by simp)
  have hnv:l.length=nv:=by simpa [B4] using hv.length
  have hnu:r.length=nu:=by simpa [B4] using hu.length
  rw [D2B]
  by_cases c:l.length=r.length
  · have:=C9V hv.ro hu.ro c hl (k:=l.length + 1) l.length 0 (l.length + 1) (by omega) (by omega)
    simp only [List.drop_zero] at this
    have c':(nv:Int)=nu:=by omega
    simp only [esc,hv.len,hu.len,c']
    exact this
  · have c':¬ (nv:Int)=nu:=by omega
    have c2:¬ l=r:=fun e=>c (by rw [e])
    simp only [esc,hv.len,hu.len,c',c2]
theorem C9S {v:Val} {nv:Nat} {l:List UInt8} {h:A0} (hv:Has h v 1 nv (A3 l)) {a w k:Nat} (hw:w ≤ 8) (haw:a + w ≤ l.length) (hl:l.length < 9223372036854775808):∀ j m,j ≤ w → j < m →
    A8h k m v (.c (.i .i64 a)) (.c (.i .u64 (le ((l.drop (a + j)).take (w - j))))) (.c (.i .i64 ((j:Int) - 1))) h=some (.t [.c (.i .u64 (le ((l.drop a).take w))),.c (.b true)],h)
  | j,0,_,hm=>by omega
  | 0,m + 1,hj,hm=>by
    rw [B8P]
    have h1':¬ (0:Int) ≤ ((0:Nat):Int) - 1:=by omega
    simp only [esc,h1',Nat.sub_zero]
  | j + 1,m + 1,hj,hm=>by
    have ih:=C9S hv (k:=k) hw haw hl j m (by omega) (by omega)
    have hnv:l.length=nv:=by simpa [B4] using hv.length
    obtain ⟨id,off,rfl,hid,h1,h2⟩:=hv.sl (by omega)
    have hx:=h1 (a + j) (.i .u8 l[a + j].toNat) (by rw [W4,List.getElem?_eq_getElem (by omega)];rfl)
    have hb:=l[a + j].toNat_lt
    have ea:D0 1 (.c (.sl id off nv 1)) (.c (.i .i64 ((a + j:Nat):Int)))=some (.c (.p id (off + (a + j)))):=by rw [I9 (by omega)];simp
    have e0:((j + 1:Nat):Int) - 1=j:=by omega
    have e5:IntKind.wrap .u64 (l[a + j].toNat:Int)=l[a + j].toNat:=wrap_u64 (by omega) (by omega)
    have e6:IntKind.wrap .i64 ((j:Int) - 1)=(j:Int) - 1:=wrap_i64 (by omega) (by omega)
    have hlen:((l.drop (a + (j + 1))).take (w - (j + 1))).length=w - (j + 1):=by simp;omega
    have hle:=A26 ((l.drop (a + (j + 1))).take (w - (j + 1)))
    rw [hlen] at hle
    have hp:256 ^ (w - (j + 1)) ≤ 256 ^ 7:=A31 (by omega)
    have e7:(l.drop (a + j)).take (w - j)=l[a + j] :: (l.drop (a + (j + 1))).take (w - (j + 1)):=by
      rw [List.drop_eq_getElem_cons (by omega),show w - j=(w - (j + 1)) + 1 by omega,List.take_succ_cons]
      rfl
    rw [e7] at ih
    have e8:IntKind.wrap .u64 ((le ((l.drop (a + (j + 1))).take (w - (j + 1))):Nat) * 256)=((le ((l.drop (a + (j + 1))).take (w - (j + 1))) * 256:Nat):Int):=by
      rw [wrap_u64 (by omega) (by omega)];omega
    have e9:IntKind.wrap .u64 (((le ((l.drop (a + (j + 1))).take (w - (j + 1))) * 256:Nat):Int) + l[a + j].toNat)=((le (l[a + j] :: (l.drop (a + (j + 1))).take (w - (j + 1))):Nat):Int):=by
      simp only [le]
      rw [wrap_u64 (by omega) (by omega)];omega
    have h1':(0:Int) ≤ j:=by omega
    rw [B8P,e0]
    simp only [esc,h1',A0O (show a + j < 9223372036854775808 by omega),ea,hx,e5,e8,e9,e6]
    exact ih
theorem C9R {v:Val} {nv:Nat} {l:List UInt8} {h:A0} (hv:Has h v 1 nv (A3 l)) {a w:Int} (hl:l.length < 9223372036854775808) :
    A2t [v,.c (.i .i64 a),.c (.i .i64 w)] h=some (.t [.c (.i .u64 ((A0m l a w).getD 0:Nat)),.c (.b (A0m l a w).isSome)],h):=by
  refine D4x (n:=w.toNat + 1) (h2:=ro h) ?_ (by simp)
  rw [D2z]
  have hv':=hv.ro
  have hnv:l.length=nv:=by simpa [B4] using hv.length
  unfold A0m
  by_cases c1:w < 1
  · rw [if_neg (by rw [T3];omega)]
    simp only [esc,c1,Option.getD_none,Option.isSome_none] <;> rfl
  · by_cases c2:8 < w
    · rw [if_neg (by omega)]
      simp only [esc,c1,c2,Option.getD_none,Option.isSome_none] <;> rfl
    · by_cases c3:a < 0
      · rw [if_neg (by rw [T3];omega)]
        simp only [esc,c1,c2,c3,Option.getD_none,Option.isSome_none] <;> rfl
      · have e1:IntKind.wrap .i64 ((nv:Int) - w)=nv - w:=wrap_i64 (by omega) (by omega)
        by_cases c4:(nv:Int) - w < a
        · rw [if_neg (by rw [T3];omega)]
          simp only [esc,c1,c2,c3,c4,hv'.len,e1,Option.getD_none,Option.isSome_none] <;> rfl
        · rw [if_pos (by rw [T3];omega)]
          have:=C9S hv' (a:=a.toNat) (w:=w.toNat) (k:=w.toNat + 1) (by omega) (by omega) hl w.toNat (w.toNat + 1) (by omega) (by omega)
          simp only [show ((a.toNat:Nat):Int)=a by omega,show ((w.toNat:Nat):Int)=w by omega,Nat.sub_self,List.take_zero,le] at this
          have e2:IntKind.wrap .i64 (w - 1)=w - 1:=wrap_i64 (by omega) (by omega)
          simp only [esc,c1,c2,c3,c4,hv'.len,e1,e2,Option.getD_some,Option.isSome_some]
          exact this
theorem C9O {g:A0} {w k:Nat} {v:Int} (hw:w ≤ 8) (hv:0 ≤ v) (hv2:v < 18446744073709551616):∀ d i m h id,i + d=w → d < m → Low g.length g h → g.length ≤ id → rd h id=some ⟨A3 (B5 i v),true⟩ →
    ∃ v' h',A8d k m (.c (.i .i64 w)) (.c (.i .u64 (v / 256 ^ i))) (.c (.sl id 0 i 1)) (.c (.i .i64 i)) h=some (v',h') ∧ Out g.length h' v' 1 w (A3 (B5 w v))
  | d,i,0,h,id,_,hm,_,_,_=>by omega
  | 0,i,m + 1,h,id,hi,hm,hlow,hb,hr=>by
    have e:i=w:=by omega
    subst e
    have h1':¬ (i:Int) < i:=by omega
    rw [B8v]
    exact ⟨_,_,by simp only [esc,h1'] <;> rfl,by simp [B4],id,rfl,hb,hr⟩
  | d + 1,i,m + 1,h,id,hi,hm,hlow,hb,hr=>by
    have hq:0 ≤ v / 256 ^ i:=Int.ediv_nonneg hv (Int.pow_nonneg (by omega))
    have e1:A4 .rem (.c (.i .u64 (v / 256 ^ i))) (.c (.i .u64 256))=some (.c (.i .u64 (v / 256 ^ i % 256))):=by
      rw [B3J (by omega),Int.tmod_eq_emod_of_nonneg hq]
    have e2:IntKind.wrap .u8 (v / 256 ^ i % 256)=((byI v i).toNat:Int):=by rw [B0l,A2Z];omega
    have hle:v / 256 ^ i ≤ v:=Int.ediv_le_self _ hv
    have e3:A4 .quo (.c (.i .u64 (v / 256 ^ i))) (.c (.i .u64 256))=some (.c (.i .u64 (v / 256 ^ (i + 1)))):=by
      have h0:v / 256 ^ i / 256=v / 256 ^ (i + 1):=by rw [Int.ediv_ediv_of_nonneg (Int.pow_nonneg (by omega)),Int.pow_succ]
      rw [B3I (by omega),Int.tdiv_eq_ediv_of_nonneg hq,h0]
      have h1:0 ≤ v / 256 ^ (i + 1):=Int.ediv_nonneg hv (Int.pow_nonneg (by omega))
      have h2:v / 256 ^ (i + 1) ≤ v:=Int.ediv_le_self _ hv
      exact congrArg some (congrArg Val.c (congrArg (Cell.i .u64) (wrap_u64 h1 (by omega))))
    obtain ⟨h',a1,a2,a3,a4,a5⟩:=push (ys:=[.i .u8 (byI v i).toNat]) (sz:=1) (n:=i) hlow hr (by simp [B4]) hb rfl (by omega) (by omega)
    have e4:A3 (B5 i v) ++ [Cell.i .u8 (byI v i).toNat]=A3 (B5 (i + 1) v):=by rw [B1u,W3];rfl
    rw [e4] at a2
    obtain ⟨v',h'',b1,b2⟩:=C9O (k:=k) hw hv hv2 d (i + 1) m h' (h.length + 1) (by omega) (by omega) a3 a4 a2
    have h1':(i:Int) < w:=by omega
    have e5:B0 [Cell.i .u8 0] [(0,1,.c (.i .u8 (byI v i).toNat))]=some [.i .u8 (byI v i).toNat]:=rfl
    rw [B8v]
    exact ⟨v',h'',by simp only [esc,h1',e1,e2,e5,a1,e3,E6 (show i + 1 < 9223372036854775808 by omega)];exact b1,b2⟩
theorem B2F {w:Nat} {v:Int} {h:A0} (hw:w ≤ 8) (hv:0 ≤ v) (hv2:v < 18446744073709551616) :
    V7 [.c (.i .i64 w),.c (.i .u64 v)] h=some (.c (.sl h.length 0 w 1),h ++ [some ⟨A3 (B5 w v),true⟩]):=by
  obtain ⟨v',h',e,ho⟩:=C9O (g:=ro h) (k:=w + 1) hw hv hv2 w 0 (w + 1) (ro h ++ [some ⟨[],true⟩,some ⟨[],true⟩]) ((ro h).length + 1) (by omega) (by omega) ((Low.refl (Nat.le_refl _)).new _) (by simp) (by simp [B5];rfl)
  refine D4v (n:=w + 1) (v:=v') (h2:=h') ?_ (by simpa [L6] using ho) (by simp)
  rw [D2y]
  simp only [Int.pow_zero,Int.ediv_one] at e
  simp only [esc]
  exact e
def S8 (l:List UInt8) (a:Int) (data:List UInt8):List UInt8:=if 0 ≤ a then l.take a.toNat ++ ((data.take (l.length - a.toNat)) ++ l.drop (a.toNat + data.length)) else l
theorem B2i {l data:List UInt8} {a:Int}:(S8 l a data).length=l.length:=by
  unfold S8
  split
  · simp;omega
  · rfl
theorem I0H {l data:List UInt8} {a:Int} {i:Nat} (hi:i < l.length):(S8 l a data)[i]? = if 0 ≤ a ∧ a ≤ i ∧ i - a < data.length then data[i - a.toNat]? else l[i]? := by
  unfold S8
  by_cases c1:0 ≤ a
  · rw [if_pos c1]
    by_cases c2:a ≤ i
    · rw [List.getElem?_append_right (by simp;omega)]
      have e1:(l.take a.toNat).length=a.toNat:=by simp;omega
      rw [e1]
      by_cases c3:i - a < data.length
      · rw [if_pos ⟨c1,c2,c3⟩,List.getElem?_append_left (by simp;omega),List.getElem?_take_of_lt (by omega)]
      · rw [if_neg (by omega),List.getElem?_append_right (by simp;omega),List.getElem?_drop]
        congr 1
        simp;omega
    · rw [if_neg (by omega),List.getElem?_append_left (by simp;omega),List.getElem?_take_of_lt (by omega)]
  · rw [if_neg c1,if_neg (by omega)]
theorem C9U {g:A0} {v u:Val} {nv nu:Nat} {l data:List UInt8} (hv:Has g v 1 nv (A3 l)) (hu:Has g u 1 nu (A3 data)) {a:Int} (ha:a < 9223372036854775808) {k:Nat} (hl:l.length ≤ 1073741824):∀ d i m h id,i + d=l.length → d < m → Low g.length g h → g.length ≤ id → rd h id=some ⟨A3 ((S8 l a data).take i),true⟩ →
    ∃ v' h',A8m k m v (.c (.i .i64 a)) u (.c (.sl id 0 i 1)) (.c (.i .i64 i)) h=some (v',h') ∧ Out g.length h' v' 1 l.length (A3 (S8 l a data))
  | d,i,0,h,id,_,hm,_,_,_=>by omega
  | 0,i,m + 1,h,id,hi,hm,hlow,hb,hr=>by
    have hnv:l.length=nv:=by simpa [B4] using hv.length
    have e:i=nv:=by omega
    subst e
    have h1':¬ (i:Int) < i:=by omega
    rw [List.take_of_length_le (by rw [B2i];omega)] at hr
    rw [B82]
    exact ⟨_,_,by simp only [esc,(hv.since hlow).len,h1'] <;> rfl,by simp [B4,B2i],id,by rw [hnv],hb,hr⟩
  | d + 1,i,m + 1,h,id,hi,hm,hlow,hb,hr=>by
    have hnv:l.length=nv:=by simpa [B4] using hv.length
    have hnu:data.length=nu:=by simpa [B4] using hu.length
    have hvl:=(hv.since hlow).len
    have hul:=(hu.since hlow).len
    obtain ⟨idv,offv,rfl,-,hv1,-⟩:=(hv.since hlow).sl (by omega)
    have hx:=hv1 i (.i .u8 l[i].toNat) (by rw [W4,List.getElem?_eq_getElem (by omega)];rfl)
    have ea:D0 1 (.c (.sl idv offv nv 1)) (.c (.i .i64 (i:Int)))=some (.c (.p idv (offv + i))):=by rw [I9 (by omega)];simp
    have c1:(i:Int) < nv:=by omega
    have step:∀ x:UInt8,(S8 l a data)[i]? = some x → ∃ v' h',A8i k m (.c (.sl idv offv nv 1)) (.c (.i .i64 a)) u (.c (.sl id 0 i 1)) (.c (.i .i64 i)) (.c (.i .u8 x.toNat)) h=some (v',h') ∧ Out g.length h' v' 1 l.length (A3 (S8 l a data)):=by
      intro x hx
      obtain ⟨h',a1,a2,a3,a4,a5⟩:=push (ys:=[.i .u8 x.toNat]) (sz:=1) (n:=i) hlow hr (by rw [B4,List.length_take,B2i];omega) hb rfl (by omega) (by omega)
      have e4:A3 ((S8 l a data).take i) ++ [Cell.i .u8 x.toNat]=A3 ((S8 l a data).take (i + 1)):=by
        rw [List.take_add_one,hx,W3];rfl
      rw [e4] at a2
      obtain ⟨v',h'',b1,b2⟩:=C9U (k:=k) hv hu ha hl d (i + 1) m h' (h.length + 1) (by omega) (by omega) a3 a4 a2
      have e5:B0 [Cell.i .u8 0] [(0,1,.c (.i .u8 x.toNat))]=some [.i .u8 x.toNat]:=rfl
      rw [F4C]
      exact ⟨v',h'',by simp only [esc,e5,a1,E6 (show i + 1 < 9223372036854775808 by omega)];exact b1,b2⟩
    have hg:=I0H (l:=l) (data:=data) (a:=a) (i:=i) (by omega)
    have hli:l[i]? = some l[i]:=List.getElem?_eq_getElem (by omega)
    rw [B82]
    by_cases c2:0 ≤ a
    · by_cases c3:a ≤ i
      · have e6:IntKind.wrap .i64 ((i:Int) - a)=((i - a.toNat:Nat):Int):=by rw [wrap_i64 (by omega) (by omega)];omega
        by_cases c4:i - a.toNat < data.length
        · rw [if_pos (by omega),List.getElem?_eq_getElem c4] at hg
          obtain ⟨idu,offu,rfl,-,hu1,-⟩:=(hu.since hlow).sl (by omega)
          have hy:=hu1 (i - a.toNat) (.i .u8 (data[i - a.toNat]'(by omega)).toNat) (by rw [W4,List.getElem?_eq_getElem c4];rfl)
          have eb:D0 1 (.c (.sl idu offu nu 1)) (.c (.i .i64 ((i - a.toNat:Nat):Int)))=some (.c (.p idu (offu + (i - a.toNat)))):=by rw [I9 (by omega)];simp
          have c4':((i - a.toNat:Nat):Int) < nu:=by omega
          simp only [esc,hvl,c1,ea,hx,c2,c3,e6,hul,c4',eb,hy]
          exact step _ hg
        · rw [if_neg (by omega),hli] at hg
          have c4':¬ ((i - a.toNat:Nat):Int) < nu:=by omega
          simp only [esc,hvl,c1,ea,hx,c2,c3,e6,hul,c4']
          exact step _ hg
      · rw [if_neg (by omega),hli] at hg
        simp only [esc,hvl,c1,ea,hx,c2,c3]
        exact step _ hg
    · rw [if_neg (by omega),hli] at hg
      simp only [esc,hvl,c1,ea,hx,c2]
      exact step _ hg
theorem C9T {v u:Val} {nv nu:Nat} {l data:List UInt8} {h:A0} (hv:Has h v 1 nv (A3 l)) (hu:Has h u 1 nu (A3 data)) {a:Int} (ha:a < 9223372036854775808) (hl:l.length ≤ 1073741824) :
    A2u [v,.c (.i .i64 a),u] h=some (.c (.sl h.length 0 l.length 1),h ++ [some ⟨A3 (S8 l a data),true⟩]):=by
  obtain ⟨v',h',e,ho⟩:=C9U (k:=l.length + 1) hv.ro hu.ro ha hl l.length 0 (l.length + 1) (ro h ++ [some ⟨[],true⟩,some ⟨[],true⟩]) ((ro h).length + 1) (by omega) (by omega) ((Low.refl (Nat.le_refl _)).new _) (by simp) (by simp;rfl)
  refine D4y (n:=l.length + 1) (v:=v') (h2:=h') ?_ (by simpa [L6] using ho) (by simp)
  rw [D2A]
  simp only [esc]
  exact e
theorem C5X {l xs:List UInt8} {a:Nat} (h:a + xs.length ≤ l.length):S8 l a xs=D2 l a xs:=by
  unfold S8 D2
  rw [if_pos (by omega)]
  simp only [Int.toNat_natCast]
  rw [List.take_of_length_le (l:=xs) (by omega)]
def atG (l:List UInt8) (a w:Int):Nat:=if w ≤ 4 ∧ V2 a w l.length=true then le ((l.drop a.toNat).take w.toNat) else 0
theorem D7k {l:List UInt8} {a w:Int} (hl:l.length=256):atG l a w=atN l a w:=by
  unfold atG atN;rw [hl];rfl
theorem J3Z {v:Val} {nv:Nat} {l:List UInt8} {h:A0} (hv:Has h v 1 nv (A3 l)) {a w:Int} (hl:l.length < 9223372036854775808) :
    X7 [v,.c (.i .i64 a),.c (.i .i64 w)] h=some (.c (.i .i64 (atG l a w)),h):=by
  have key:∀ g,Has g v 1 nv (A3 l) → A6q 0 [v,.c (.i .i64 a),.c (.i .i64 w)] g=some (.c (.i .i64 (atG l a w)),g):=by
    intro g hv
    rw [D2x]
    unfold atG
    by_cases c1:4 < w
    · rw [if_neg (by omega)]
      simp only [esc,c1] <;> rfl
    · have e:=C9R hv (a:=a) (w:=w) hl
      unfold A0m at e
      by_cases c2:V2 a w l.length=true
      · have c3:=T3.1 c2
        rw [if_pos ⟨by omega,c2⟩] at e
        rw [if_pos ⟨by omega,c2⟩]
        have hle:=A26 ((l.drop a.toNat).take w.toNat)
        have hlen:((l.drop a.toNat).take w.toNat).length=w.toNat:=by simp;omega
        rw [hlen] at hle
        have hp:256 ^ w.toNat ≤ 256 ^ 4:=A31 (by omega)
        simp only [Option.getD_some,Option.isSome_some] at e
        have e2:IntKind.wrap .i64 ((le ((l.drop a.toNat).take w.toNat):Nat):Int)=le ((l.drop a.toNat).take w.toNat):=wrap_i64 (by omega) (by omega)
        simp only [esc,c1,e,e2]
      · rw [if_neg (fun h=>c2 h.2)] at e
        rw [if_neg (fun h=>c2 h.2)]
        simp only [Option.getD_none,Option.isSome_none] at e
        simp only [esc,c1,e] <;> rfl
  exact D4u (key _ hv.ro) (by simp)
theorem A5D {v:Val} {nv:Nat} {l:List UInt8} {h:A0} (hv:Has h v 1 nv (A3 l)) {a w:Int} (hl:l.length=256) :
    X7 [v,.c (.i .i64 a),.c (.i .i64 w)] h=some (.c (.i .i64 (atN l a w)),h):=by
  rw [J3Z hv (by omega),D7k hl]
theorem E3c {v:Int} {i:Nat} (hi:i < 8):byI (IntKind.wrap .u64 v) i=byI v i:=by
  have hw:IntKind.wrap .u64 v=v % 18446744073709551616:=by
    simp only [IntKind.wrap,IntKind.bits,IntKind.signed,Bool.false_and]
    rfl
  apply UInt8.toNat_inj.1
  have h1:((byI (IntKind.wrap .u64 v) i).toNat:Int)=(v % 18446744073709551616) / 256 ^ i % 256:=by rw [A2Z,hw]
  have h2:=A2Z v i
  have h3:(v % 18446744073709551616) / 256 ^ i % 256=v / 256 ^ i % 256:=by
    have:i=0 ∨ i=1 ∨ i=2 ∨ i=3 ∨ i=4 ∨ i=5 ∨ i=6 ∨ i=7:=by omega
    rcases this with rfl | rfl | rfl | rfl | rfl | rfl | rfl | rfl <;> simp only [Int.reducePow] <;> omega
  omega
theorem E3e {v:Int} {w:Nat} (hw:w ≤ 8):B5 w (IntKind.wrap .u64 v)=B5 w v:=by
  unfold B5
  refine List.map_congr_left fun i hi=>E3c ?_
  have:=List.mem_range.1 hi
  omega
theorem C9Q {g:A0} {v:Val} {nv:Nat} {l:List UInt8} (hv:Has g v 1 nv (A3 l)) {a n:Int} (h0:0 ≤ a) (h1:a < 9223372036854775808) {k:Nat} (hl:l.length ≤ 1073741824):∀ d i m h id,i + d=(F3 l a n).length → d < m → Low g.length g h → g.length ≤ id → rd h id=some ⟨A3 ((F3 l a n).take i),true⟩ →
    ∃ v' h',A5k k m v (.c (.i .i64 a)) (.c (.i .i64 n)) (.c (.sl id 0 i 1)) (.c (.i .i64 (a + i))) h=some (v',h') ∧ Out g.length h' v' 1 (F3 l a n).length (A3 (F3 l a n))
  | d,i,0,h,id,_,hm,_,_,_=>by omega
  | 0,i,m + 1,h,id,hi,hm,hlow,hb,hr=>by
    have hnv:l.length=nv:=by simpa [B4] using hv.length
    have e:i=(F3 l a n).length:=by omega
    rw [List.take_of_length_le (by omega)] at hr
    have hc:(F3 l a n).length=min n.toNat (l.length - a.toNat):=by unfold F3;rw [if_pos h0];simp
    rw [A8f]
    subst e
    by_cases c1:a + ((F3 l a n).length:Int) < nv
    · have c2:¬ ((F3 l a n).length:Int) < n:=by omega
      have e1:IntKind.wrap .i64 (a + ((F3 l a n).length:Int) - a)=(F3 l a n).length:=by rw [wrap_i64 (by omega) (by omega)];omega
      exact ⟨_,_,by simp only [esc,(hv.since hlow).len,h0,c1,e1,c2] <;> rfl,by simp [B4],id,rfl,hb,hr⟩
    · exact ⟨_,_,by simp only [esc,(hv.since hlow).len,h0,c1] <;> rfl,by simp [B4],id,rfl,hb,hr⟩
  | d + 1,i,m + 1,h,id,hi,hm,hlow,hb,hr=>by
    have hnv:l.length=nv:=by simpa [B4] using hv.length
    have hc:(F3 l a n).length=min n.toNat (l.length - a.toNat):=by unfold F3;rw [if_pos h0];simp
    have hvl:=(hv.since hlow).len
    obtain ⟨idv,offv,rfl,-,hv1,-⟩:=(hv.since hlow).sl (by omega)
    have hx:=hv1 (a.toNat + i) (.i .u8 (l[a.toNat + i]'(by omega)).toNat) (by rw [W4,List.getElem?_eq_getElem (by omega)];rfl)
    have e0:(a + (i:Int))=((a.toNat + i:Nat):Int):=by omega
    have ea:D0 1 (.c (.sl idv offv nv 1)) (.c (.i .i64 ((a.toNat + i:Nat):Int)))=some (.c (.p idv (offv + (a.toNat + i)))):=by rw [I9 (by omega)];simp
    have c1:((a.toNat + i:Nat):Int) < nv:=by omega
    have e1:IntKind.wrap .i64 (((a.toNat + i:Nat):Int) - a)=i:=by rw [wrap_i64 (by omega) (by omega)];omega
    have c2:(i:Int) < n:=by omega
    obtain ⟨h',a1,a2,a3,a4,a5⟩:=push (ys:=[.i .u8 (l[a.toNat + i]'(by omega)).toNat]) (sz:=1) (n:=i) hlow hr (by rw [B4,List.length_take];omega) hb rfl (by omega) (by omega)
    have e4:A3 ((F3 l a n).take i) ++ [Cell.i .u8 (l[a.toNat + i]'(by omega)).toNat]=A3 ((F3 l a n).take (i + 1)):=by
      have:(F3 l a n)[i]? = some (l[a.toNat + i]'(by omega)):=by
        unfold F3
        rw [if_pos h0,List.getElem?_take_of_lt (by omega),List.getElem?_drop,List.getElem?_eq_getElem (by omega)]
      rw [List.take_add_one,this,W3];rfl
    rw [e4] at a2
    obtain ⟨v',h'',b1,b2⟩:=C9Q (k:=k) hv h0 h1 hl d (i + 1) m h' (h.length + 1) (by omega) (by omega) a3 a4 a2
    have e6:a + ((i + 1:Nat):Int)=((a.toNat + i + 1:Nat):Int):=by omega
    rw [e6] at b1
    have e5:B0 [Cell.i .u8 0] [(0,1,.c (.i .u8 (l[a.toNat + i]'(by omega)).toNat))]=some [.i .u8 (l[a.toNat + i]'(by omega)).toNat]:=rfl
    rw [A8f,e0]
    exact ⟨v',h'',by simp only [esc,hvl,h0,c1,e1,c2,ea,hx,e5,a1,E6 (show a.toNat + i + 1 < 9223372036854775808 by omega)];exact b1,b2⟩
theorem C9P {v:Val} {nv:Nat} {l:List UInt8} {h:A0} (hv:Has h v 1 nv (A3 l)) {a n:Int} (h1:a < 9223372036854775808) (hl:l.length ≤ 1073741824) :
    A3w [v,.c (.i .i64 a),.c (.i .i64 n)] h=some (.c (.sl h.length 0 (F3 l a n).length 1),h ++ [some ⟨A3 (F3 l a n),true⟩]):=by
  by_cases h0:0 ≤ a
  · obtain ⟨v',h',e,ho⟩:=C9Q (k:=(F3 l a n).length + 1) (n:=n) hv.ro h0 h1 hl (F3 l a n).length 0 ((F3 l a n).length + 1) (ro h ++ [some ⟨[],true⟩,some ⟨[],true⟩]) ((ro h).length + 1) (by omega) (by omega) ((Low.refl (Nat.le_refl _)).new _) (by simp) (by simp;rfl)
    refine B3e (n:=(F3 l a n).length + 1) (v:=v') (h2:=h') ?_ (by simpa [L6] using ho) (by simp)
    rw [B21]
    simp only [esc]
    simpa using e
  · have e:F3 l a n=[]:=by unfold F3;rw [if_neg h0]
    rw [e]
    refine B3e (n:=1) (v:=.c (.sl ((ro h).length + 1) 0 0 1)) (h2:=ro h ++ [some ⟨[],true⟩,some ⟨[],true⟩]) ?_ ⟨by simp [B4],_,rfl,by rw [L6];omega,by simp;rfl⟩ (by simp)
    rw [B21]
    have:∀ n:Nat,∀ x h,A5k n 1 v (.c (.i .i64 a)) x (.c (.sl ((ro h).length + 1) 0 0 1)) (.c (.i .i64 a)) h=some (.c (.sl ((ro h).length + 1) 0 0 1),h):=by
      intro n x h
      rw [A8f n 0]
      simp only [esc,h0]
    simp only [esc]
    have e2:=A8f 1 0 v (.c (.i .i64 a)) (.c (.i .i64 n)) (.c (.sl ((ro h).length + 1) 0 0 1)) (.c (.i .i64 a)) (ro h ++ [some ⟨[],true⟩,some ⟨[],true⟩])
    rw [e2]
    simp only [esc,h0]
end Go.Proofs.YtdgggnlbdoiloaaGreat
end
section
namespace Go.Proofs.YtdgggnlbdoiloaaGreat
open Go Go.Esc
theorem C8j {v:Val} {nv:Nat} {l:List UInt8} {h:A0} (hv:Has h v 1 nv (A3 l)) {a w k:Nat} (hw:w ≤ 8) (haw:a + w ≤ l.length) (hl:l.length < 9223372036854775808):∀ d i m,i + d=w → d < m →
    A9I k m v (.c (.i .i64 a)) (.c (.i .u64 (le ((l.drop a).take i)))) (.c (.i .i64 w)) (.c (.i .i64 i)) h=some (.t [.c (.i .u64 (le ((l.drop a).take w))),.c (.b true)],h)
  | d,i,0,_,hm=>by omega
  | 0,i,m + 1,hi,hm=>by
    have e:i=w:=by omega
    subst e
    rw [C8i]
    simp
  | d + 1,i,m + 1,hi,hm=>by
    have ih:=C8j hv (k:=k) hw haw hl d (i + 1) m (by omega) (by omega)
    have hnv:l.length=nv:=by simpa [B4] using hv.length
    obtain ⟨id,off,rfl,hid,h1,h2⟩:=hv.sl (by omega)
    have hx:=h1 (a + i) (.i .u8 l[a + i].toNat) (by rw [W4,List.getElem?_eq_getElem (by omega)];rfl)
    have hb:=l[a + i].toNat_lt
    have hlen:((l.drop a).take i).length=i:=by simp;omega
    have hle:=A26 ((l.drop a).take i)
    rw [hlen] at hle
    have hp:=A31 (show i ≤ 8 by omega)
    have hbp:=B5Y (x:=l[a + i]) (show i < 8 by omega)
    have e2:IntKind.wrap .i64 (8 * (i:Int))=8 * i:=wrap_i64 (by omega) (by omega)
    have e3:IntKind.wrap .u64 (8 * (i:Int))=8 * i:=wrap_u64 (by omega) (by omega)
    have e5:IntKind.wrap .u64 (l[a + i].toNat:Int)=l[a + i].toNat:=wrap_u64 (by omega) (by omega)
    have e6:=D0o (k:=.u64) (x:=l[a + i]) (show i < 8 by omega) (wrap_u64 (by omega) (by omega)) rfl
    have e7:A4 .or (.c (.i .u64 (le ((l.drop a).take i):Nat))) (.c (.i .u64 ((l[a + i].toNat * 256 ^ i:Nat):Int)))=some (.c (.i .u64 (le ((l.drop a).take (i + 1)):Nat))):=by
      rw [J2p (by omega) (by omega),B2U (by omega),← C9f,hlen]
    have ea:D0 1 (.c (.sl id off nv 1)) (.c (.i .i64 ((a + i:Nat):Int)))=some (.c (.p id (off + (a + i)))):=by rw [I9 (by omega)];simp
    have h1':(i:Int) < w:=by omega
    rw [C8i]
    simp only [esc,h1',A0O (show a + i < 9223372036854775808 by omega),e2,e3,ea,hx,e5,e6,e7,E6 (show i + 1 < 9223372036854775808 by omega)]
    exact ih
theorem I9m {v:Val} {nv:Nat} {l:List UInt8} {h:A0} (hv:Has h v 1 nv (A3 l)) {a w:Int} (hl:l.length < 9223372036854775808) :
    A4X [v,.c (.i .i64 a),.c (.i .i64 w)] h=some (.t [.c (.i .u64 ((A0m l a w).getD 0:Nat)),.c (.b (A0m l a w).isSome)],h):=by
  refine D55 (n:=w.toNat + 1) (h2:=ro h) ?_ (by simp)
  rw [D3z]
  have hv':=hv.ro
  have hnv:l.length=nv:=by simpa [B4] using hv.length
  unfold A0m
  by_cases c1:8 < w
  · have c1':¬ w ≤ 8:=by omega
    simp [c1,c1']
  · have c1':w ≤ 8:=by omega
    cases c2:V2 a w l.length with
    | false=>simp [c1,hv'.len,← hnv,A2b (show (l.length:Int) < 9223372036854775808 by omega),c2]
    | true =>
      simp [c1,c1',hv'.len,← hnv,A2b (show (l.length:Int) < 9223372036854775808 by omega),c2]
      rw [T3] at c2
      have:=C8j hv' (a:=a.toNat) (w:=w.toNat) (k:=w.toNat + 1) (by omega) (by omega) hl w.toNat 0 (w.toNat + 1) (by omega) (by omega)
      simp only [show ((a.toNat:Nat):Int)=a by omega,show ((w.toNat:Nat):Int)=w by omega] at this
      simpa [le] using this
theorem C8L {l:List UInt8} {b id a w k:Nat} {v:Int} (hw:w ≤ 8) (haw:a + w ≤ l.length) (hl:l.length < 9223372036854775808):∀ d i m (h:A0),i + d=w → d < m → b ≤ id → b ≤ h.length → rd h id=some ⟨A3 (D2 l a (B5 i v)),true⟩ →
    ∃ h',A9O k m (.c (.i .i64 a)) (.c (.i .u64 v)) (.c (.sl id 0 l.length 1)) (.c (.i .i64 w)) (.c (.i .i64 i)) h=some (.t [.c (.sl id 0 l.length 1),.c (.b true)],h') ∧ rd h' id=some ⟨A3 (D2 l a (B5 w v)),true⟩
  | d,i,0,h,_,hm,_,_,_=>by omega
  | 0,i,m + 1,h,hi,hm,_,_,hr=>by
    have e:i=w:=by omega
    subst e
    have h1':¬ (i:Int) < i:=by omega
    rw [C8K]
    exact ⟨h,by simp only [esc,h1'],hr⟩
  | d + 1,i,m + 1,h,hi,hm,hb,hbl,hr=>by
    have e2:IntKind.wrap .i64 (8 * (i:Int))=8 * i:=wrap_i64 (by omega) (by omega)
    have e3:IntKind.wrap .u64 (8 * (i:Int))=8 * i:=wrap_u64 (by omega) (by omega)
    have e4:A4 .shr (.c (.i .u64 v)) (.c (.i .u64 (8 * (i:Int))))=some (.c (.i .u64 (v / 2 ^ (Nat.min (8 * (i:Int)).toNat 64)))):=B09 (by omega)
    have ea:D0 1 (.c (.sl id 0 l.length 1)) (.c (.i .i64 ((a + i:Nat):Int)))=some (.c (.p id (a + i))):=by rw [I9 (by omega)];simp
    have hst:=Z1 (off:=a + i) (x:=.i .u8 (byI v i).toNat) hr (by rw [B4,A0p (by simp;omega)];omega)
    have e5:(D2 l a (B5 i v)).set (a + i) (byI v i)=D2 l a (B5 (i + 1) v):=by
      rw [B1u]
      have:=A9i (l:=l) (xs:=B5 i v) (a:=a) (x:=byI v i) (by simp;omega)
      simpa using this
    rw [A0G,e5] at hst
    obtain ⟨h',ih,hr'⟩:=C8L (b:=b) (k:=k) (v:=v) hw haw hl d (i + 1) m (h.set id (some ⟨A3 (D2 l a (B5 (i + 1) v)),true⟩)) (by omega) (by omega) hb (by simpa using hbl) (I5 (D5 hr))
    have h1':(i:Int) < w:=by omega
    rw [C8K]
    exact ⟨h',by simp only [esc,h1',A0O (show a + i < 9223372036854775808 by omega),e2,e3,e4,B5Z (v:=v) (show i < 8 by omega),ea,hst,E6 (show i + 1 < 9223372036854775808 by omega)];exact ih,hr'⟩
def V0 (l:List UInt8) (a w v:Int):Option (List UInt8):=if w ≤ 8 ∧ V2 a w l.length=true then some (D2 l a.toNat (B5 w.toNat v)) else none
theorem J1k {x:Val} {nv:Nat} {l:List UInt8} {h:A0} (hv:Has h x 1 nv (A3 l)) {a w v:Int} (hl:l.length ≤ 1073741824) :
    A4Y [x,.c (.i .i64 a),.c (.i .i64 w),.c (.i .u64 v)] h=some (.t [.c (.sl h.length 0 ((V0 l a w v).getD []).length 1),.c (.b (V0 l a w v).isSome)],h ++ [some ⟨A3 ((V0 l a w v).getD []),true⟩]):=by
  have hnv:l.length=nv:=by simpa [B4] using hv.length
  have key:∀ g,Has g x 1 nv (A3 l) → ∃ id g',A68 (w.toNat + 1) [x,.c (.i .i64 a),.c (.i .i64 w),.c (.i .u64 v)] g=some (.t [.c (.sl id 0 ((V0 l a w v).getD []).length 1),.c (.b (V0 l a w v).isSome)],g') ∧ g.length ≤ id ∧ rd g' id=some ⟨A3 ((V0 l a w v).getD []),true⟩:=by
    intro g hv
    rw [D3C]
    have hvm:=hv.more [some ⟨[],true⟩]
    unfold V0
    by_cases c1:8 < w
    · rw [if_neg (by omega)]
      exact ⟨_,_,by simp only [esc,c1];rfl,by simp,by simp;rfl⟩
    · cases c2:V2 a w l.length with
      | false =>
        rw [if_neg (by simp)]
        exact ⟨_,_,by simp only [esc,c1,hvm.len,← hnv,A2b (show (l.length:Int) < 9223372036854775808 by omega),c2];rfl,by simp,by simp;rfl⟩
      | true =>
        rw [if_pos ⟨by omega,rfl⟩]
        have c3:=T3.1 c2
        have hvm2:=hv.more [some ⟨[],true⟩,some ⟨[],true⟩]
        have e1:E5 (g ++ [some ⟨[],true⟩,some ⟨[],true⟩]) 1 (.c (.sl (g.length + 1) 0 0 1)) x=some (.c (.sl (g.length + 2) 0 l.length 1),g ++ [some ⟨[],true⟩,none,some ⟨A3 l,true⟩]):=by
          simp [E5,hvm2.add,B4]
          exact hl
        obtain ⟨g',e2,hr⟩:=C8L (l:=l) (b:=g.length) (id:=g.length + 2) (a:=a.toNat) (w:=w.toNat) (k:=w.toNat + 1) (v:=v) (by omega) (by omega) (by omega) w.toNat 0 (w.toNat + 1) (g ++ [some ⟨[],true⟩,none,some ⟨A3 l,true⟩]) (by omega) (by omega) (by omega) (by simp) (by simp [B5,A9h])
        simp only [show ((a.toNat:Nat):Int)=a by omega,show ((w.toNat:Nat):Int)=w by omega] at e2
        have hlen:((some (D2 l a.toNat (B5 w.toNat v))).getD []).length=l.length:=by
          simp only [Option.getD_some];rw [A0p (by simp;omega)]
        rw [hlen]
        exact ⟨g.length + 2,g',by simp only [esc,c1,hvm.len,← hnv,A2b (show (l.length:Int) < 9223372036854775808 by omega),c2,B0,e1];exact e2,by omega,hr⟩
  obtain ⟨id,g',e,hb,hr⟩:=key _ hv.ro
  have hb':h.length ≤ id:=by simpa [L6] using hb
  have:=D6a e (v2:=.t [.c (.sl h.length 0 ((V0 l a w v).getD []).length 1),.c (.b (V0 l a w v).isSome)]) (ids:=[id]) (by
    have e2:I0 g' h.length [id] [.b (V0 l a w v).isSome]=some ([.b (V0 l a w v).isSome],[id]):=A1H (by simp)
    simp [K4,O5,I0,hb',show ¬ id < h.length by omega,A9C hr (by simp:D9 (A3 ((V0 l a w v).getD []))=true)])
  rw [this]
  simp [hr]
end Go.Proofs.YtdgggnlbdoiloaaGreat
end
section
namespace Go.Proofs.YtdgggnlbdoiloaaGreat
open Go Go.Esc
def D4 (n:Nat) (l:List UInt8):List UInt8:=l ++ zeros (n - l.length)
theorem J1 {n:Nat} {l:List UInt8} (h:l.length ≤ n):(D4 n l).length=n:=by
  unfold D4;rw [List.length_append,zeros_length];omega
theorem B2w {n:Nat}:D4 n []=zeros n:=by simp [D4]
theorem A9W {l xs:List UInt8} {a:Nat} (h1:l.length ≤ a) (h2:a + xs.length ≤ 256):D2 (D4 256 l) a xs=D4 256 (l ++ zeros (a - l.length) ++ xs):=by
  unfold D2 D4
  have e1:(l ++ zeros (256 - l.length)).take a=l ++ zeros (a - l.length):=by
    rw [List.take_append,List.take_of_length_le h1]
    unfold zeros
    rw [List.take_replicate,Nat.min_eq_left (by omega)]
  have e2:(l ++ zeros (256 - l.length)).drop (a + xs.length)=zeros (256 - (l ++ zeros (a - l.length) ++ xs).length):=by
    rw [List.drop_append,List.drop_of_length_le (by omega),List.nil_append]
    unfold zeros
    rw [List.drop_replicate]
    congr 1
    simp
    omega
  rw [e1,e2]
  simp only [List.append_assoc]
theorem A0P {l:List UInt8} {a w:Nat} {v:Int} (h1:l.length ≤ a) (h2:a + w ≤ 256) (hw:1 ≤ w) (hw4:w ≤ 4):L7 (D4 256 l) a w v=D4 256 (l ++ zeros (a - l.length) ++ B5 w v):=by
  unfold L7
  rw [if_pos ⟨by omega,T3.2 (by omega)⟩]
  simp only [Int.toNat_natCast]
  exact A9W h1 (by simp;exact h2)
def fieldN (b:List UInt8) (a w:Nat):Int:=((le ((b.drop a).take w):Nat):Int)
theorem A9S {b:List UInt8} (hb:b.length ≤ 256):Q6 (zeros 256) 0 b=D4 256 b:=by
  unfold Q6 D2 D4
  rw [if_pos (by omega)]
  simp only [Int.toNat_zero,List.take_zero,List.nil_append,Nat.sub_zero,Nat.zero_add]
  rw [List.take_of_length_le hb]
  unfold zeros
  rw [List.drop_replicate]
theorem B1m {b:List UInt8} {a w:Nat} (h1:a + w ≤ b.length) (h2:b.length ≤ 256) (hw:1 ≤ w) (hw4:w ≤ 4):((atN (D4 256 b) a w:Nat):Int)=fieldN b a w:=by
  unfold atN fieldN D4
  rw [if_pos ⟨by omega,T3.2 (by omega)⟩]
  simp only [Int.toNat_natCast]
  rw [List.drop_append_of_le_length (by omega),List.take_append_of_le_length (by simp;omega)]
end Go.Proofs.YtdgggnlbdoiloaaGreat
end
noncomputable section
namespace Go.Proofs.YtdgggnlbdoiloaaGreat
open Go Go.Esc
set_option maxRecDepth 100000
def C6n:List AOper:=[aO 4 (.mv (.v (.c (.i .u32 0))))]
def I1x:ACode:=.ops C6n
def C6o:List AOper:=[aO 6 (.mv (.t 1)),aO 7 (.lenS (.t 6)),aO 8 (.mv (.v (.c (.i .i64 0))))]
def I1z:ACode:=.ops C6o
def C6p:List AOper:=[aO 9 (.bin .lss (.t 8) (.t 7))]
def I1R:ACode:=.ops C6p
def I1T:ACode:=.cond (.t 9) .skip (.exit 0)
def C6q:List AOper:=[aO 10 (.mv (.t 8)),aO 5 (.mv (.t 10))]
def I1V:ACode:=.ops C6q
def C6r:List AOper:=[aO 11 (.mv (.t 0)),aO 12 (.mv (.t 1)),aO 13 (.mv (.t 5)),aO 14 (.idxS (.t 12) (.t 13)),aO 15 (.conv .u32 (.t 14)),aO 16 (.bin .xor (.t 11) (.t 15)),aO 17 (.bin .mul (.t 16) (.v (.c (.i .u32 16777619)))),aO 0 (.mv (.t 17))]
def I1X:ACode:=.ops C6r
def I1Z:ACode:=.seq [0,1,5,7,8] I1V I1X
def I11:ACode:=.block 1 I1Z
def C6s:List AOper:=[aO 18 (.bin .add (.t 8) (.v (.c (.i .i64 1)))),aO 8 (.mv (.t 18))]
def I13:ACode:=.ops C6s
def I15:ACode:=.seq [0,1,7,8] I11 I13
def I1A:ACode:=.seq [0,1,7,8] I1T I15
def I1C:ACode:=.seq [0,1,7,8,9] I1R I1A
def I1D:ACode:=.loop [0,1,7,8] I1C
def I1F:ACode:=.block 0 I1D
def I1H:ACode:=.seq [0,1,7,8] I1z I1F
def C6t:List AOper:=[aO 19 (.mv (.t 0)),aO 4 (.mv (.t 19))]
def I1J:ACode:=.ops C6t
def I1L:ACode:=.seq [4] I1J .ret
def I1M:ACode:=.seq [0] I1H I1L
def I1O:ACode:=.seq [0,1] I1x I1M
def A_mix_More:AFn:=⟨I1O,[.tmp 4]⟩
def A0Z:B6:=C1
def I1y (n:Nat):SmV:=A2 A0Z C6n
def I1Q (n:Nat):SmV:=A2 A0Z C6o
def I1S (n:Nat):SmV:=A2 A0Z C6p
def I1U (n:Nat):SmV:=B8 (.t 9) C0 (E3 0)
def I1W (n:Nat):SmV:=A2 A0Z C6q
def I1Y (n:Nat):SmV:=A2 A0Z C6r
def I10 (n:Nat):SmV:=A1 [0,1,5,7,8] (I1W n) (I1Y n)
def I12 (n:Nat):SmV:=C6 1 (I10 n)
def I14 (n:Nat):SmV:=A2 A0Z C6s
def I16 (n:Nat):SmV:=A1 [0,1,7,8] (I12 n) (I14 n)
def I1B (n:Nat):SmV:=A1 [0,1,7,8] (I1U n) (I16 n)
def C6j (n:Nat):SmV:=A1 [0,1,7,8,9] (I1S n) (I1B n)
def I1E (n:Nat):SmV:=E4 n [0,1,7,8] (C6j n)
def I1G (n:Nat):SmV:=C6 0 (I1E n)
def I1I (n:Nat):SmV:=A1 [0,1,7,8] (I1Q n) (I1G n)
def I1K (n:Nat):SmV:=A2 A0Z C6t
def C6k (n:Nat):SmV:=A1 [4] (I1K n) A8
def I1N (n:Nat):SmV:=A1 [0] (I1I n) (C6k n)
def I1P (n:Nat):SmV:=A1 [0,1] (I1y n) (I1N n)
def A9q (n:Nat):AExit → Env → A0 → A6:=fun x e h=>match x with | .normal=>hold ((C6k n) A_mix_More.fin (e.keep [0]) h) | .exit id=>A_mix_More.fin (.exit id) e h | .ret=>A_mix_More.fin .ret e h
def I17 (n:Nat):AExit → Env → A0 → A6:=fun x e h=>match x with | .exit i=>bif Nat.beq i 0 then (A9q n) .normal e h else (A9q n) (.exit i) e h | .normal=>(A9q n) .normal e h | .ret=>(A9q n) .ret e h
def A9r (n m:Nat) (x0 x1 x7 x8:Val) (h:A0):A6:=E1 (C6j n) [0,1,7,8] (I17 n) m [(0,x0),(1,x1),(7,x7),(8,x8)] h
def B0Q (n:Nat) (args:List Val) (h:A0):A6:=(I1P n) A_mix_More.fin (params 0 args) h
theorem D3p (n:Nat) (a0 a1:Val) (h:A0):B0Q n [a0,a1] h=bnd (Q0 a1) fun v1=>A9r n n a0 a1 v1 (.c (.i .i64 0)) h:=by kernel_rfl
theorem C6l (n m:Nat) (x0 x1 x7 x8:Val) (h:A0):A9r n (m + 1) x0 x1 x7 x8 h=bnd (A4 .lss x8 x7) fun v2=>cnd v2 (bnd (U3 x1 x8) fun v3=>bnd (G8 .u32 v3) fun v4=>bnd (A4 .xor x0 v4) fun v5=>bnd (A4 .mul v5 (.c (.i .u32 16777619))) fun v6=>bnd (A4 .add x8 (.c (.i .i64 1))) fun v7=>A9r n m v6 x1 x7 v7 h) (some (x0,h)):=by kernel_rfl
theorem K_mix_More:FnK Tryz.prog 78 A_mix_More A0Z B0Q:=.mk' (C3) Tryz.func78 (by kernel_rfl) (by intro n args h;kernel_rfl)
def A4T:Fun:=tidy (Lim A_mix_More A0Z)
theorem D5R:SOk Tryz.prog 78 A4T:=K_mix_More.sok
theorem D5Q {n:Nat} {args:List Val} {h h2:A0} {v:Val} (he:B0Q n args (ro h)=some (v,h2)) (hf:v.flat=true):A4T args h=some (v,h):=K_mix_More.flat he hf
def C6v:List AOper:=[aO 2 (.mv (.v (.c (.i .u32 0))))]
def I18:ACode:=.ops C6v
def C6w:List AOper:=[aO 3 (.mv (.t 0)),aO 4 (.call 78 [(.v (.c (.i .u32 2166136261))),(.t 3)]),aO 2 (.mv (.t 4))]
def I2a:ACode:=.ops C6w
def I2c:ACode:=.seq [2] I2a .ret
def I2e:ACode:=.seq [0] I18 I2c
def A_mix_Of:AFn:=⟨I2e,[.tmp 2]⟩
def A54:B6:=B1 78 A4T C1
def I19 (n:Nat):SmV:=A2 A54 C6v
def I2b (n:Nat):SmV:=A2 A54 C6w
def I2d (n:Nat):SmV:=A1 [2] (I2b n) A8
def I2f (n:Nat):SmV:=A1 [0] (I19 n) (I2d n)
def B0R (n:Nat) (args:List Val) (h:A0):A6:=(I2f n) A_mix_Of.fin (params 0 args) h
theorem D3q (n:Nat) (a0:Val) (h:A0):B0R n [a0] h=bnd (A4T [.c (.i .u32 2166136261),a0] h) fun p1=>some (p1.1,p1.2):=by kernel_rfl
theorem K_mix_Of:FnK Tryz.prog 37 A_mix_Of A54 B0R:=.mk' (B3 D5R C3) Tryz.func37 (by kernel_rfl) (by intro n args h;kernel_rfl)
def A2K:Fun:=tidy (Lim A_mix_Of A54)
theorem B3w:SOk Tryz.prog 37 A2K:=K_mix_Of.sok
theorem D5S {n:Nat} {args:List Val} {h h2:A0} {v:Val} (he:B0R n args (ro h)=some (v,h2)) (hf:v.flat=true):A2K args h=some (v,h):=K_mix_Of.flat he hf
def C6d:List AOper:=[aO 4 (.mv (.v (.c (.i .i64 0))))]
def I00:ACode:=.ops C6d
def C6e:List AOper:=[aO 6 (.mv (.t 1)),aO 7 (.bin .lss (.t 6) (.v (.c (.i .i64 1)))),aO 5 (.mv (.t 7))]
def I02:ACode:=.ops C6e
def C6f:List AOper:=[aO 4 (.mv (.v (.c (.i .i64 0))))]
def I1g:ACode:=.ops C6f
def I1i:ACode:=.seq [4] I1g .ret
def C6g:List AOper:=[aO 9 (.mv (.t 1)),aO 10 (.bin .geq (.t 9) (.v (.c (.i .i64 32)))),aO 8 (.mv (.t 10))]
def I1k:ACode:=.ops C6g
def C6h:List AOper:=[aO 11 (.mv (.t 0)),aO 12 (.conv .i64 (.t 11)),aO 4 (.mv (.t 12))]
def I1m:ACode:=.ops C6h
def I1o:ACode:=.seq [4] I1m .ret
def I1q:ACode:=.cond (.t 8) I1o .skip
def I1s:ACode:=.seq [0,1,8] I1k I1q
def I1u:ACode:=.cond (.t 5) I1i I1s
def I03:ACode:=.seq [0,1,5] I02 I1u
def I05:ACode:=.block 0 I03
def C6i:List AOper:=[aO 13 (.mv (.t 0)),aO 14 (.mv (.t 1)),aO 15 (.conv .u64 (.t 14)),aO 16 (.bin .shl (.v (.c (.i .u32 1))) (.t 15)),aO 17 (.bin .sub (.t 16) (.v (.c (.i .u32 1)))),aO 18 (.bin .and (.t 13) (.t 17)),aO 19 (.conv .i64 (.t 18)),aO 4 (.mv (.t 19))]
def I07:ACode:=.ops C6i
def I09:ACode:=.seq [4] I07 .ret
def I1b:ACode:=.seq [0,1] I05 I09
def I1d:ACode:=.seq [0,1] I00 I1b
def A_mix_Low:AFn:=⟨I1d,[.tmp 4]⟩
def A1x:B6:=C1
def I01 (n:Nat):SmV:=A2 A1x C6d
def I1f (n:Nat):SmV:=A2 A1x C6e
def I1h (n:Nat):SmV:=A2 A1x C6f
def I1j (n:Nat):SmV:=A1 [4] (I1h n) A8
def I1l (n:Nat):SmV:=A2 A1x C6g
def I1n (n:Nat):SmV:=A2 A1x C6h
def I1p (n:Nat):SmV:=A1 [4] (I1n n) A8
def I1r (n:Nat):SmV:=B8 (.t 8) (I1p n) C0
def I1t (n:Nat):SmV:=A1 [0,1,8] (I1l n) (I1r n)
def I1v (n:Nat):SmV:=B8 (.t 5) (I1j n) (I1t n)
def I04 (n:Nat):SmV:=A1 [0,1,5] (I1f n) (I1v n)
def I06 (n:Nat):SmV:=C6 0 (I04 n)
def I08 (n:Nat):SmV:=A2 A1x C6i
def I1a (n:Nat):SmV:=A1 [4] (I08 n) A8
def I1c (n:Nat):SmV:=A1 [0,1] (I06 n) (I1a n)
def I1e (n:Nat):SmV:=A1 [0,1] (I01 n) (I1c n)
def A60 (n:Nat) (args:List Val) (h:A0):A6:=(I1e n) A_mix_Low.fin (params 0 args) h
theorem D3o (n:Nat) (a0 a1:Val) (h:A0):A60 n [a0,a1] h=bnd (A4 .lss a1 (.c (.i .i64 1))) fun v1=>cnd v1 (some ((.c (.i .i64 0)),h)) (bnd (A4 .geq a1 (.c (.i .i64 32))) fun v2=>cnd v2 (bnd (G8 .i64 a0) fun v3=>some (v3,h)) (bnd (G8 .u64 a1) fun v4=>bnd (A4 .shl (.c (.i .u32 1)) v4) fun v5=>bnd (A4 .sub v5 (.c (.i .u32 1))) fun v6=>bnd (A4 .and a0 v6) fun v7=>bnd (G8 .i64 v7) fun v8=>some (v8,h))):=by kernel_rfl
theorem K_mix_Low:FnK Tryz.prog 76 A_mix_Low A1x A60:=.mk' (C3) Tryz.func76 (by kernel_rfl) (by intro n args h;kernel_rfl)
def A4S:Fun:=tidy (Lim A_mix_Low A1x)
theorem D5P:SOk Tryz.prog 76 A4S:=K_mix_Low.sok
theorem D5O {n:Nat} {args:List Val} {h h2:A0} {v:Val} (he:A60 n args (ro h)=some (v,h2)) (hf:v.flat=true):A4S args h=some (v,h):=K_mix_Low.flat he hf
end Go.Proofs.YtdgggnlbdoiloaaGreat
end
noncomputable section
namespace Go.Proofs.YtdgggnlbdoiloaaGreat
open Go Go.Esc
set_option maxRecDepth 100000
def B9D:List AOper:=[aO 4 (.mv (.v (.c (.i .u64 0))))]
def F56:ACode:=.ops B9D
def B9E:List AOper:=[aO 5 (.mv (.v (.c (.i .i64 0))))]
def F58:ACode:=.ops B9E
def B9F:List AOper:=[aO 7 (.mv (.t 5)),aO 8 (.mv (.t 1)),aO 9 (.lenS (.t 8)),aO 10 (.bin .lss (.t 7) (.t 9))]
def F6q:ACode:=.ops B9F
def F6s:ACode:=.cond (.t 10) .skip (.exit 0)
def F6u:ACode:=.seq [0,1,5,10] F6q F6s
def B9G:List AOper:=[aO 13 (.mv (.t 0)),aO 14 (.bin .rem (.t 13) (.v (.c (.i .u64 256)))),aO 15 (.mv (.t 1)),aO 16 (.mv (.t 5)),aO 17 (.idxS (.t 15) (.t 16)),aO 18 (.conv .u64 (.t 17)),aO 19 (.bin .xor (.t 14) (.t 18)),aO 6 (.mv (.t 19))]
def F6w:ACode:=.ops B9G
def B9H:List AOper:=[aO 20 (.mv (.t 0)),aO 21 (.mv (.t 0)),aO 22 (.bin .rem (.t 21) (.v (.c (.i .u64 256)))),aO 23 (.bin .sub (.t 20) (.t 22)),aO 24 (.mv (.t 6)),aO 25 (.bin .add (.t 23) (.t 24)),aO 26 (.bin .mul (.t 25) (.v (.c (.i .u64 16777619)))),aO 27 (.bin .rem (.t 26) (.v (.c (.i .u64 4294967296)))),aO 0 (.mv (.t 27))]
def F6y:ACode:=.ops B9H
def F6A:ACode:=.seq [0,1,5,6] F6w F6y
def F6C:ACode:=.block 1 F6A
def B9I:List AOper:=[aO 11 (.mv (.t 5)),aO 12 (.bin .add (.t 11) (.v (.c (.i .i64 1)))),aO 5 (.mv (.t 12))]
def F6E:ACode:=.ops B9I
def F59:ACode:=.seq [0,1,5] F6C F6E
def F6b:ACode:=.seq [0,1,5] F6u F59
def F6c:ACode:=.loop [0,1,5] F6b
def F6e:ACode:=.block 0 F6c
def F6g:ACode:=.seq [0,1,5] F58 F6e
def B9J:List AOper:=[aO 28 (.mv (.t 0)),aO 4 (.mv (.t 28))]
def F6i:ACode:=.ops B9J
def F6k:ACode:=.seq [4] F6i .ret
def F6l:ACode:=.seq [0] F6g F6k
def F6n:ACode:=.seq [0,1] F56 F6l
def A_er02_More:AFn:=⟨F6n,[.tmp 4]⟩
def A0V:B6:=C1
def F57 (n:Nat):SmV:=A2 A0V B9D
def F6p (n:Nat):SmV:=A2 A0V B9E
def F6r (n:Nat):SmV:=A2 A0V B9F
def F6t (n:Nat):SmV:=B8 (.t 10) C0 (E3 0)
def F6v (n:Nat):SmV:=A1 [0,1,5,10] (F6r n) (F6t n)
def F6x (n:Nat):SmV:=A2 A0V B9G
def F6z (n:Nat):SmV:=A2 A0V B9H
def F6B (n:Nat):SmV:=A1 [0,1,5,6] (F6x n) (F6z n)
def F6D (n:Nat):SmV:=C6 1 (F6B n)
def F6F (n:Nat):SmV:=A2 A0V B9I
def F6a (n:Nat):SmV:=A1 [0,1,5] (F6D n) (F6F n)
def B9A (n:Nat):SmV:=A1 [0,1,5] (F6v n) (F6a n)
def F6d (n:Nat):SmV:=E4 n [0,1,5] (B9A n)
def F6f (n:Nat):SmV:=C6 0 (F6d n)
def F6h (n:Nat):SmV:=A1 [0,1,5] (F6p n) (F6f n)
def F6j (n:Nat):SmV:=A2 A0V B9J
def B9B (n:Nat):SmV:=A1 [4] (F6j n) A8
def F6m (n:Nat):SmV:=A1 [0] (F6h n) (B9B n)
def F6o (n:Nat):SmV:=A1 [0,1] (F57 n) (F6m n)
def A8r (n:Nat):AExit → Env → A0 → A6:=fun x e h=>match x with | .normal=>hold ((B9B n) A_er02_More.fin (e.keep [0]) h) | .exit id=>A_er02_More.fin (.exit id) e h | .ret=>A_er02_More.fin .ret e h
def F6G (n:Nat):AExit → Env → A0 → A6:=fun x e h=>match x with | .exit i=>bif Nat.beq i 0 then (A8r n) .normal e h else (A8r n) (.exit i) e h | .normal=>(A8r n) .normal e h | .ret=>(A8r n) .ret e h
def A8s (n m:Nat) (x0 x1 x5:Val) (h:A0):A6:=E1 (B9A n) [0,1,5] (F6G n) m [(0,x0),(1,x1),(5,x5)] h
def B0F (n:Nat) (args:List Val) (h:A0):A6:=(F6o n) A_er02_More.fin (params 0 args) h
theorem D2D (n:Nat) (a0 a1:Val) (h:A0):B0F n [a0,a1] h=A8s n n a0 a1 (.c (.i .i64 0)) h:=by kernel_rfl
theorem B9C (n m:Nat) (x0 x1 x5:Val) (h:A0):A8s n (m + 1) x0 x1 x5 h=bnd (Q0 x1) fun v1=>bnd (A4 .lss x5 v1) fun v2=>cnd v2 (bnd (A4 .rem x0 (.c (.i .u64 256))) fun v3=>bnd (U3 x1 x5) fun v4=>bnd (G8 .u64 v4) fun v5=>bnd (A4 .xor v3 v5) fun v6=>bnd (A4 .rem x0 (.c (.i .u64 256))) fun v7=>bnd (A4 .sub x0 v7) fun v8=>bnd (A4 .add v8 v6) fun v9=>bnd (A4 .mul v9 (.c (.i .u64 16777619))) fun v10=>bnd (A4 .rem v10 (.c (.i .u64 4294967296))) fun v11=>bnd (A4 .add x5 (.c (.i .i64 1))) fun v12=>A8s n m v11 x1 v12 h) (some (x0,h)):=by kernel_rfl
theorem K_er02_More:FnK Tryz.prog 80 A_er02_More A0V B0F:=.mk' (C3) Tryz.func80 (by kernel_rfl) (by intro n args h;kernel_rfl)
def A4r:Fun:=tidy (Lim A_er02_More A0V)
theorem D4D:SOk Tryz.prog 80 A4r:=K_er02_More.sok
theorem D4C {n:Nat} {args:List Val} {h h2:A0} {v:Val} (he:B0F n args (ro h)=some (v,h2)) (hf:v.flat=true):A4r args h=some (v,h):=K_er02_More.flat he hf
def B9K:List AOper:=[aO 2 (.mv (.v (.c (.i .u64 0))))]
def F6H:ACode:=.ops B9K
def B9L:List AOper:=[aO 3 (.mv (.t 0)),aO 4 (.call 80 [(.v (.c (.i .u64 2166136261))),(.t 3)]),aO 2 (.mv (.t 4))]
def F6J:ACode:=.ops B9L
def F6L:ACode:=.seq [2] F6J .ret
def F6N:ACode:=.seq [0] F6H F6L
def A_er02_Of:AFn:=⟨F6N,[.tmp 2]⟩
def A5Q:B6:=B1 80 A4r C1
def F6I (n:Nat):SmV:=A2 A5Q B9K
def F6K (n:Nat):SmV:=A2 A5Q B9L
def F6M (n:Nat):SmV:=A1 [2] (F6K n) A8
def F6O (n:Nat):SmV:=A1 [0] (F6I n) (F6M n)
def B0G (n:Nat) (args:List Val) (h:A0):A6:=(F6O n) A_er02_Of.fin (params 0 args) h
theorem D2E (n:Nat) (a0:Val) (h:A0):B0G n [a0] h=bnd (A4r [.c (.i .u64 2166136261),a0] h) fun p1=>some (p1.1,p1.2):=by kernel_rfl
theorem K_er02_Of:FnK Tryz.prog 40 A_er02_Of A5Q B0G:=.mk' (B3 D4D C3) Tryz.func40 (by kernel_rfl) (by intro n args h;kernel_rfl)
def A2v:Fun:=tidy (Lim A_er02_Of A5Q)
theorem B3h:SOk Tryz.prog 40 A2v:=K_er02_Of.sok
theorem D4E {n:Nat} {args:List Val} {h h2:A0} {v:Val} (he:B0G n args (ro h)=some (v,h2)) (hf:v.flat=true):A2v args h=some (v,h):=K_er02_Of.flat he hf
def B9t:List AOper:=[aO 4 (.mv (.v (.c (.i .i64 0))))]
def F5v:ACode:=.ops B9t
def B9u:List AOper:=[aO 5 (.mv (.v (.c (.i .u64 1))))]
def F5x:ACode:=.ops B9u
def B9v:List AOper:=[aO 6 (.mv (.v (.c (.i .i64 0))))]
def F5P:ACode:=.ops B9v
def B9w:List AOper:=[aO 7 (.mv (.t 6)),aO 8 (.mv (.t 1)),aO 9 (.bin .lss (.t 7) (.t 8)),aO 10 (.mv (.t 9)),{ dst:=some 11,op:=.mv (.t 6),guard:=some (10,true) },{ dst:=some 12,op:=.bin .lss (.t 11) (.v (.c (.i .i64 32))),guard:=some (10,true) },aO 13 (.pick (.t 10) (.t 12) (.v (.c (.b false))))]
def F5R:ACode:=.ops B9w
def F5T:ACode:=.cond (.t 13) .skip (.exit 0)
def F5V:ACode:=.seq [0,1,5,6,13] F5R F5T
def B9x:List AOper:=[aO 16 (.mv (.t 5)),aO 17 (.bin .mul (.t 16) (.v (.c (.i .u64 2)))),aO 5 (.mv (.t 17))]
def F5X:ACode:=.ops B9x
def F5Z:ACode:=.block 1 F5X
def B9y:List AOper:=[aO 14 (.mv (.t 6)),aO 15 (.bin .add (.t 14) (.v (.c (.i .i64 1)))),aO 6 (.mv (.t 15))]
def F51:ACode:=.ops B9y
def F53:ACode:=.seq [0,1,5,6] F5Z F51
def F5y:ACode:=.seq [0,1,5,6] F5V F53
def F5z:ACode:=.loop [0,1,5,6] F5y
def F5B:ACode:=.block 0 F5z
def F5D:ACode:=.seq [0,1,5,6] F5P F5B
def B9z:List AOper:=[aO 18 (.mv (.t 0)),aO 19 (.mv (.t 5)),aO 20 (.bin .rem (.t 18) (.t 19)),aO 21 (.conv .i64 (.t 20)),aO 4 (.mv (.t 21))]
def F5F:ACode:=.ops B9z
def F5H:ACode:=.seq [4] F5F .ret
def F5I:ACode:=.seq [0,5] F5D F5H
def F5K:ACode:=.seq [0,1,5] F5x F5I
def F5M:ACode:=.seq [0,1] F5v F5K
def A_er02_Low:AFn:=⟨F5M,[.tmp 4]⟩
def A0U:B6:=C1
def F5w (n:Nat):SmV:=A2 A0U B9t
def F5O (n:Nat):SmV:=A2 A0U B9u
def F5Q (n:Nat):SmV:=A2 A0U B9v
def F5S (n:Nat):SmV:=A2 A0U B9w
def F5U (n:Nat):SmV:=B8 (.t 13) C0 (E3 0)
def F5W (n:Nat):SmV:=A1 [0,1,5,6,13] (F5S n) (F5U n)
def F5Y (n:Nat):SmV:=A2 A0U B9x
def F50 (n:Nat):SmV:=C6 1 (F5Y n)
def F52 (n:Nat):SmV:=A2 A0U B9y
def F54 (n:Nat):SmV:=A1 [0,1,5,6] (F50 n) (F52 n)
def B9q (n:Nat):SmV:=A1 [0,1,5,6] (F5W n) (F54 n)
def F5A (n:Nat):SmV:=E4 n [0,1,5,6] (B9q n)
def F5C (n:Nat):SmV:=C6 0 (F5A n)
def F5E (n:Nat):SmV:=A1 [0,1,5,6] (F5Q n) (F5C n)
def F5G (n:Nat):SmV:=A2 A0U B9z
def B9r (n:Nat):SmV:=A1 [4] (F5G n) A8
def F5J (n:Nat):SmV:=A1 [0,5] (F5E n) (B9r n)
def F5L (n:Nat):SmV:=A1 [0,1,5] (F5O n) (F5J n)
def F5N (n:Nat):SmV:=A1 [0,1] (F5w n) (F5L n)
def A8p (n:Nat):AExit → Env → A0 → A6:=fun x e h=>match x with | .normal=>hold ((B9r n) A_er02_Low.fin (e.keep [0,5]) h) | .exit id=>A_er02_Low.fin (.exit id) e h | .ret=>A_er02_Low.fin .ret e h
def F55 (n:Nat):AExit → Env → A0 → A6:=fun x e h=>match x with | .exit i=>bif Nat.beq i 0 then (A8p n) .normal e h else (A8p n) (.exit i) e h | .normal=>(A8p n) .normal e h | .ret=>(A8p n) .ret e h
def A8q (n m:Nat) (x0 x1 x5 x6:Val) (h:A0):A6:=E1 (B9q n) [0,1,5,6] (F55 n) m [(0,x0),(1,x1),(5,x5),(6,x6)] h
def B0E (n:Nat) (args:List Val) (h:A0):A6:=(F5N n) A_er02_Low.fin (params 0 args) h
theorem D2C (n:Nat) (a0 a1:Val) (h:A0):B0E n [a0,a1] h=A8q n n a0 a1 (.c (.i .u64 1)) (.c (.i .i64 0)) h:=by kernel_rfl
theorem B9s (n m:Nat) (x0 x1 x5 x6:Val) (h:A0):A8q n (m + 1) x0 x1 x5 x6 h=bnd (A4 .lss x6 x1) fun v1=>bnd (gd v1 true (some (x6,h)) (some (.no,h))) fun p2=>bnd (gd v1 true (bnd (A4 .lss p2.1 (.c (.i .i64 32))) fun v3=>some (v3,p2.2)) (some (.no,p2.2))) fun p4=>bnd (C5 v1 p4.1 (.c (.b false))) fun v5=>cnd v5 (bnd (A4 .mul x5 (.c (.i .u64 2))) fun v6=>bnd (A4 .add x6 (.c (.i .i64 1))) fun v7=>A8q n m x0 x1 v6 v7 p4.2) (bnd (A4 .rem x0 x5) fun v8=>bnd (G8 .i64 v8) fun v9=>some (v9,p4.2)):=by kernel_rfl
theorem K_er02_Low:FnK Tryz.prog 39 A_er02_Low A0U B0E:=.mk' (C3) Tryz.func39 (by kernel_rfl) (by intro n args h;kernel_rfl)
def A4q:Fun:=tidy (Lim A_er02_Low A0U)
theorem D4B:SOk Tryz.prog 39 A4q:=K_er02_Low.sok
theorem D4A {n:Nat} {args:List Val} {h h2:A0} {v:Val} (he:B0E n args (ro h)=some (v,h2)) (hf:v.flat=true):A4q args h=some (v,h):=K_er02_Low.flat he hf
end Go.Proofs.YtdgggnlbdoiloaaGreat
end
section
namespace Go.Proofs.YtdgggnlbdoiloaaGreat
open Go Go.Esc
def A1X (h:Nat) (c:UInt8):Nat:=((h ^^^ c.toNat) * 16777619) % 4294967296
def A3U (h:Nat) (s:List UInt8):Nat:=s.foldl A1X h
def K0 (s:List UInt8):Nat:=A3U 2166136261 s
theorem B2m {h:Nat} {c:UInt8}:A1X h c < 4294967296:=Nat.mod_lt _ (by omega)
theorem I0Z {s:List UInt8}:∀ {h:Nat},h < 4294967296 → A3U h s < 4294967296:=by
  induction s with
  | nil=>intro h hh;exact hh
  | cons c s ih=>intro h _;exact ih B2m
theorem A9p {s:List UInt8}:K0 s < 4294967296:=I0Z (by omega)
theorem K1T {a:Int}:IntKind.wrap .u32 a=a % 4294967296:=by
  simp only [IntKind.wrap,IntKind.bits,IntKind.signed,Bool.false_and]
  rfl
theorem C6m {s:List UInt8} (hs:s.length < 9223372036854775807) {q:Nat} {h:A0}:∀ (d i m H:Nat),i + d=s.length → d < m → H < 4294967296 →
    A9r q m (.c (.i .u32 H)) (.c (.s s)) (.c (.i .i64 s.length)) (.c (.i .i64 i)) h=some (.c (.i .u32 ((A3U H (s.drop i):Nat):Int)),h)
  | d,i,0,H,_,hm,_=>by omega
  | 0,i,m + 1,H,hi,hm,hH=>by
    have c0:¬ (i:Int) < s.length:=by omega
    rw [C6l,List.drop_of_length_le (by omega)]
    simp only [esc,c0,A3U,List.foldl_nil]
  | d + 1,i,m + 1,H,hi,hm,hH=>by
    have h2:i < s.length:=by omega
    have hb:=s[i].toNat_lt
    have ih:=C6m hs (q:=q) (h:=h) d (i + 1) m (A1X H s[i]) (by omega) (by omega) B2m
    have c0:(i:Int) < s.length:=by omega
    have e1:IntKind.wrap .u32 (s[i].toNat:Int)=s[i].toNat:=wrap_u32 (by omega) (by omega)
    have e2:=K1V (a:=H) (b:=s[i].toNat) hH (by omega)
    have e3:IntKind.wrap .u32 (((H ^^^ s[i].toNat:Nat):Int) * 16777619)=((A1X H s[i]:Nat):Int):=by
      rw [K1T];unfold A1X;omega
    rw [C6l,List.drop_eq_getElem_cons h2]
    simp only [esc,c0,A0H h2,e1,e2,e3,E6 (show i + 1 < 9223372036854775808 by omega)]
    exact ih
theorem C6u {s:List UInt8} (hs:s.length < 9223372036854775807) {h:A0}:A2K [.c (.s s)] h=some (.c (.i .u32 ((K0 s:Nat):Int)),h):=by
  have hm:∀ h,A4T [.c (.i .u32 2166136261),.c (.s s)] h=some (.c (.i .u32 ((K0 s:Nat):Int)),h):=fun h=>by
    refine D5Q (n:=s.length + 1) (h2:=ro h) ?_ rfl
    rw [D3p]
    have:=C6m hs (q:=s.length + 1) (h:=ro h) s.length 0 (s.length + 1) 2166136261 (by omega) (by omega) (by omega)
    simp only [esc]
    exact this
  refine D5S (n:=0) (h2:=ro h) ?_ rfl
  rw [D3q]
  simp only [esc,hm]
theorem K1U {h c:Nat} (hc:c < 256):h - h % 256 + (h % 256 ^^^ c)=h ^^^ c:=by
  have e1:(h ^^^ c) / 256=h / 256:=by
    have:=Nat.xor_div_two_pow (a:=h) (b:=c) (n:=8)
    rw [show (2:Nat) ^ 8=256 from rfl,Nat.div_eq_of_lt hc,Nat.xor_zero] at this
    exact this
  have e2:(h ^^^ c) % 256=h % 256 ^^^ c:=by
    have:=Nat.xor_mod_two_pow (a:=h) (b:=c) (n:=8)
    rw [show (2:Nat) ^ 8=256 from rfl,Nat.mod_eq_of_lt hc] at this
    exact this
  have h1:=Nat.div_add_mod (h ^^^ c) 256
  have h2:=Nat.div_add_mod h 256
  rw [e1,e2] at h1
  omega
theorem C9W {s:List UInt8} (hs:s.length < 9223372036854775807) {q:Nat} {h:A0}:∀ (d i m H:Nat),i + d=s.length → d < m → H < 4294967296 →
    A8s q m (.c (.i .u64 H)) (.c (.s s)) (.c (.i .i64 i)) h=some (.c (.i .u64 ((A3U H (s.drop i):Nat):Int)),h)
  | d,i,0,H,_,hm,_=>by omega
  | 0,i,m + 1,H,hi,hm,hH=>by
    have c0:¬ (i:Int) < s.length:=by omega
    rw [B9C,List.drop_of_length_le (by omega)]
    simp only [esc,c0,A3U,List.foldl_nil]
  | d + 1,i,m + 1,H,hi,hm,hH=>by
    have h2:i < s.length:=by omega
    have hb:=s[i].toNat_lt
    have ih:=C9W hs (q:=q) (h:=h) d (i + 1) m (A1X H s[i]) (by omega) (by omega) B2m
    have c0:(i:Int) < s.length:=by omega
    have hx:(H ^^^ s[i].toNat) < 2 ^ 32:=Nat.xor_lt_two_pow (by simpa using hH) (by omega)
    have e0:A4 .rem (.c (.i .u64 (H:Int))) (.c (.i .u64 256))=some (.c (.i .u64 ((H % 256:Nat):Int))):=by
      rw [A35 (by omega) (by omega)];simp
    have e1:IntKind.wrap .u64 (s[i].toNat:Int)=s[i].toNat:=wrap_u64 (by omega) (by omega)
    have e2:A4 .xor (.c (.i .u64 ((H % 256:Nat):Int))) (.c (.i .u64 (s[i].toNat:Int)))=some (.c (.i .u64 ((H % 256 ^^^ s[i].toNat:Nat):Int))):=by
      rw [B3K]
      have h1:(IntKind.u64).bits=64:=rfl
      have h3:(H % 256 ^^^ s[i].toNat) < 2 ^ 64:=Nat.xor_lt_two_pow (by omega) (by omega)
      rw [h1]
      simp only [BitVec.ofInt_natCast,BitVec.toNat_xor,BitVec.toNat_ofNat]
      rw [Nat.mod_eq_of_lt (show H % 256 < 2 ^ 64 by omega),Nat.mod_eq_of_lt (show s[i].toNat < 2 ^ 64 by omega)]
      exact congrArg some (congrArg Val.c (congrArg (Cell.i .u64) (wrap_u64 (by omega) (by omega))))
    have hl:=K1U (h:=H) (c:=s[i].toNat) (by omega)
    have e3:IntKind.wrap .u64 ((H:Int) - ((H % 256:Nat):Int))=((H - H % 256:Nat):Int):=by rw [wrap_u64 (by omega) (by omega)];omega
    have e4:IntKind.wrap .u64 (((H - H % 256:Nat):Int) + ((H % 256 ^^^ s[i].toNat:Nat):Int))=((H ^^^ s[i].toNat:Nat):Int):=by
      have e:((H - H % 256:Nat):Int) + ((H % 256 ^^^ s[i].toNat:Nat):Int)=((H ^^^ s[i].toNat:Nat):Int):=by rw [← hl];omega
      rw [e];exact wrap_u64 (by omega) (by omega)
    have e5:IntKind.wrap .u64 (((H ^^^ s[i].toNat:Nat):Int) * 16777619)=(((H ^^^ s[i].toNat) * 16777619:Nat):Int):=by
      have e:((H ^^^ s[i].toNat:Nat):Int) * 16777619=(((H ^^^ s[i].toNat) * 16777619:Nat):Int):=by omega
      rw [e];exact wrap_u64 (by omega) (by omega)
    have e6:A4 .rem (.c (.i .u64 (((H ^^^ s[i].toNat) * 16777619:Nat):Int))) (.c (.i .u64 4294967296))=some (.c (.i .u64 ((A1X H s[i]:Nat):Int))):=by
      rw [A35 (a:=(((H ^^^ s[i].toNat) * 16777619:Nat):Int)) (b:=4294967296) (by omega) (by omega)]
      unfold A1X
      exact congrArg some (congrArg Val.c (congrArg (Cell.i .u64) (by omega)))
    rw [B9C,List.drop_eq_getElem_cons h2]
    simp only [esc,c0,e0,A0H h2,e1,e2,e3,e4,e5,e6,E6 (show i + 1 < 9223372036854775808 by omega)]
    exact ih
theorem C9X {s:List UInt8} (hs:s.length < 9223372036854775807) {h:A0}:A2v [.c (.s s)] h=some (.c (.i .u64 ((K0 s:Nat):Int)),h):=by
  have hm:∀ h,A4r [.c (.i .u64 2166136261),.c (.s s)] h=some (.c (.i .u64 ((K0 s:Nat):Int)),h):=fun h=>by
    refine D4C (n:=s.length + 1) (h2:=ro h) ?_ rfl
    rw [D2D]
    exact C9W hs (q:=s.length + 1) (h:=ro h) s.length 0 (s.length + 1) 2166136261 (by omega) (by omega) (by omega)
  refine D4E (n:=0) (h2:=ro h) ?_ rfl
  rw [D2E]
  simp only [esc,hm]
end Go.Proofs.YtdgggnlbdoiloaaGreat
end
noncomputable section
namespace Go.Proofs.YtdgggnlbdoiloaaGreat
open Go Go.Esc
set_option maxRecDepth 100000
def D0E:List AOper:=[aO 1 (.box (.t 0)),aO 2 (.mv (.v (.c (.i .i64 0))))]
def J5w:ACode:=.ops D0E
def D0F:List AOper:=[aO 4 (.fAddr (.t 1) 0),aO 5 (.load1 (.t 4)),aO 6 (.bin .lss (.t 5) (.v (.c (.i .i64 16)))),aO 3 (.mv (.t 6))]
def J5y:ACode:=.ops D0F
def D0H:List AOper:=[aO 7 (.fAddr (.t 1) 0),aO 8 (.load1 (.t 7)),aO 9 (.bin .gtr (.t 8) (.v (.c (.i .i64 512)))),aO 3 (.mv (.t 9))]
def J5U:ACode:=.ops D0H
def J6d:ACode:=.cond (.t 3) .skip J5U
def J6f:ACode:=.seq [1,3] J5y J6d
def D0I:List AOper:=[aO 2 (.mv (.v (.c (.i .i64 1))))]
def J6h:ACode:=.ops D0I
def J6j:ACode:=.seq [2] J6h .ret
def D0J:List AOper:=[aO 11 (.fAddr (.t 1) 1),aO 12 (.load1 (.t 11)),aO 13 (.bin .lss (.t 12) (.v (.c (.i .i64 8)))),aO 10 (.mv (.t 13))]
def J6l:ACode:=.ops D0J
def D0K:List AOper:=[aO 14 (.fAddr (.t 1) 1),aO 15 (.load1 (.t 14)),aO 16 (.bin .gtr (.t 15) (.v (.c (.i .i64 128)))),aO 10 (.mv (.t 16))]
def J6n:ACode:=.ops D0K
def D0L:List AOper:=[aO 17 (.fAddr (.t 1) 1),aO 18 (.load1 (.t 17)),aO 19 (.bin .rem (.t 18) (.v (.c (.i .i64 8)))),aO 20 (.bin .neq (.t 19) (.v (.c (.i .i64 0)))),aO 10 (.mv (.t 20))]
def J6p:ACode:=.ops D0L
def J5z:ACode:=.cond (.t 10) .skip J6p
def J5B:ACode:=.seq [1,10] J6n J5z
def J5D:ACode:=.cond (.t 10) .skip J5B
def J5F:ACode:=.seq [1,10] J6l J5D
def D0M:List AOper:=[aO 2 (.mv (.v (.c (.i .i64 1))))]
def J5H:ACode:=.ops D0M
def J5J:ACode:=.seq [2] J5H .ret
def D0N:List AOper:=[aO 22 (.fAddr (.t 1) 1),aO 23 (.load1 (.t 22)),aO 24 (.bin .quo (.t 23) (.v (.c (.i .i64 8)))),aO 25 (.bin .add (.v (.c (.i .i64 2))) (.t 24)),aO 26 (.fAddr (.t 1) 0),aO 27 (.load1 (.t 26)),aO 28 (.bin .geq (.t 25) (.t 27)),aO 21 (.mv (.t 28))]
def J5L:ACode:=.ops D0N
def D0O:List AOper:=[aO 2 (.mv (.v (.c (.i .i64 1))))]
def J5N:ACode:=.ops D0O
def J5P:ACode:=.seq [2] J5N .ret
def J5R:ACode:=.cond (.t 21) J5P .skip
def J5V:ACode:=.seq [21] J5L J5R
def J5X:ACode:=.cond (.t 10) J5J J5V
def J5Y:ACode:=.seq [1,10] J5F J5X
def J50:ACode:=.cond (.t 3) J6j J5Y
def J51:ACode:=.seq [1,3] J6f J50
def J53:ACode:=.block 0 J51
def D0G:List AOper:=[aO 2 (.mv (.v (.c (.i .i64 0))))]
def J55:ACode:=.ops D0G
def J57:ACode:=.seq [2] J55 .ret
def J58:ACode:=.seq [] J53 J57
def J6a:ACode:=.seq [1] J5w J58
def A_super_Check:AFn:=⟨J6a,[.tmp 2]⟩
def V5:B6:=C1
def J5x (n:Nat):SmV:=A2 V5 D0E
def J5T (n:Nat):SmV:=A2 V5 D0F
def J6c (n:Nat):SmV:=A2 V5 D0H
def J6e (n:Nat):SmV:=B8 (.t 3) C0 (J6c n)
def J6g (n:Nat):SmV:=A1 [1,3] (J5T n) (J6e n)
def J6i (n:Nat):SmV:=A2 V5 D0I
def J6k (n:Nat):SmV:=A1 [2] (J6i n) A8
def J6m (n:Nat):SmV:=A2 V5 D0J
def J6o (n:Nat):SmV:=A2 V5 D0K
def J6q (n:Nat):SmV:=A2 V5 D0L
def J5A (n:Nat):SmV:=B8 (.t 10) C0 (J6q n)
def J5C (n:Nat):SmV:=A1 [1,10] (J6o n) (J5A n)
def J5E (n:Nat):SmV:=B8 (.t 10) C0 (J5C n)
def J5G (n:Nat):SmV:=A1 [1,10] (J6m n) (J5E n)
def J5I (n:Nat):SmV:=A2 V5 D0M
def J5K (n:Nat):SmV:=A1 [2] (J5I n) A8
def J5M (n:Nat):SmV:=A2 V5 D0N
def J5O (n:Nat):SmV:=A2 V5 D0O
def J5Q (n:Nat):SmV:=A1 [2] (J5O n) A8
def J5S (n:Nat):SmV:=B8 (.t 21) (J5Q n) C0
def J5W (n:Nat):SmV:=A1 [21] (J5M n) (J5S n)
def D0A (n:Nat):SmV:=B8 (.t 10) (J5K n) (J5W n)
def J5Z (n:Nat):SmV:=A1 [1,10] (J5G n) (D0A n)
def D0B (n:Nat):SmV:=B8 (.t 3) (J6k n) (J5Z n)
def J52 (n:Nat):SmV:=A1 [1,3] (J6g n) (D0B n)
def J54 (n:Nat):SmV:=C6 0 (J52 n)
def J56 (n:Nat):SmV:=A2 V5 D0G
def D0C (n:Nat):SmV:=A1 [2] (J56 n) A8
def J59 (n:Nat):SmV:=A1 [] (J54 n) (D0C n)
def J6b (n:Nat):SmV:=A1 [1] (J5x n) (J59 n)
def B0d (n:Nat):AExit → Env → A0 → A6:=fun x e h=>match x with | .normal=>hold ((D0C n) A_super_Check.fin (e.keep []) h) | .exit id=>A_super_Check.fin (.exit id) e h | .ret=>A_super_Check.fin .ret e h
def D0D (n:Nat):AExit → Env → A0 → A6:=fun x e h=>match x with | .exit i=>bif Nat.beq i 0 then (B0d n) .normal e h else (B0d n) (.exit i) e h | .normal=>(B0d n) .normal e h | .ret=>(B0d n) .ret e h
def B2T (n:Nat) (x1 x3:Val) (h:A0):A6:=hold ((D0B n) (D0D n) [(1,x1),(3,x3)] h)
def A7c (n:Nat) (args:List Val) (h:A0):A6:=(J6b n) A_super_Check.fin (params 0 args) h
def B0c (n:Nat) (x1 x10:Val) (h:A0):A6:=hold ((D0A n) (D0D n) [(1,x1),(10,x10)] h)
theorem D3H (n:Nat) (a0:Val) (h:A0):A7c n [a0] h=bnd (cells? a0) fun c1=>bnd (B9 ((.c (.p h.length 0))) 0) fun v2=>bnd (A9 ((h ++ [some (Row.mk (c1) true)])) v2) fun v3=>bnd (A4 .lss v3 (.c (.i .i64 16))) fun v4=>cnd v4 (B2T n ((.c (.p h.length 0))) v4 ((h ++ [some (Row.mk (c1) true)]))) (bnd (B9 ((.c (.p h.length 0))) 0) fun v5=>bnd (A9 ((h ++ [some (Row.mk (c1) true)])) v5) fun v6=>bnd (A4 .gtr v6 (.c (.i .i64 512))) fun v7=>B2T n ((.c (.p h.length 0))) v7 ((h ++ [some (Row.mk (c1) true)]))):=by kernel_rfl
theorem A3h (n:Nat) (x1 x3:Val) (h:A0):B2T n x1 x3 h=cnd x3 (some ((.c (.i .i64 1)),h)) (bnd (B9 x1 1) fun v8=>bnd (A9 h v8) fun v9=>bnd (A4 .lss v9 (.c (.i .i64 8))) fun v10=>cnd v10 (B0c n x1 v10 h) (bnd (B9 x1 1) fun v11=>bnd (A9 h v11) fun v12=>bnd (A4 .gtr v12 (.c (.i .i64 128))) fun v13=>cnd v13 (B0c n x1 v13 h) (bnd (B9 x1 1) fun v14=>bnd (A9 h v14) fun v15=>bnd (A4 .rem v15 (.c (.i .i64 8))) fun v16=>bnd (A4 .neq v16 (.c (.i .i64 0))) fun v17=>B0c n x1 v17 h))):=by kernel_rfl
theorem A5J (n:Nat) (x1 x10:Val) (h:A0):B0c n x1 x10 h=cnd x10 (some ((.c (.i .i64 1)),h)) (bnd (B9 x1 1) fun v18=>bnd (A9 h v18) fun v19=>bnd (A4 .quo v19 (.c (.i .i64 8))) fun v20=>bnd (A4 .add (.c (.i .i64 2)) v20) fun v21=>bnd (B9 x1 0) fun v22=>bnd (A9 h v22) fun v23=>bnd (A4 .geq v21 v23) fun v24=>cnd v24 (some ((.c (.i .i64 1)),h)) (some ((.c (.i .i64 0)),h))):=by kernel_rfl
theorem K_super_Check:FnK Tryz.prog 91 A_super_Check V5 A7c:=.mk' (C3) Tryz.func91 (by kernel_rfl) (by intro n args h;kernel_rfl)
def A2N:Fun:=tidy (Lim A_super_Check V5)
theorem B3z:SOk Tryz.prog 91 A2N:=K_super_Check.sok
theorem D6h {n:Nat} {args:List Val} {h h2:A0} {v:Val} (he:A7c n args (ro h)=some (v,h2)) (hf:v.flat=true):A2N args h=some (v,h):=K_super_Check.flat he hf
def D0Z:List AOper:=[aO 1 (.box (.t 0)),aO 2 (.alloc (List.replicate 256 (.i .u8 0))),aO 3 (.mv (.v (.c (.i .i64 0))))]
def J6X:ACode:=.ops D0Z
def D00:List AOper:=[aO 9 (.loadN 3 (.t 1)),aO 10 (.call 91 [(.t 9)]),aO 4 (.mv (.t 10))]
def J6Z:ACode:=.ops D00
def D03:List AOper:=[aO 11 (.mv (.t 4)),aO 12 (.bin .neq (.t 11) (.v (.c (.i .i64 0))))]
def J7l:ACode:=.ops D03
def D04:List AOper:=[aO 13 (.build (List.replicate 256 (.i .u8 0)) []),aO 14 (.mv (.t 4)),{ dst:=none,op:=.storeN 256 (.t 2) (.t 13) },aO 3 (.mv (.t 14))]
def J7v:ACode:=.ops D04
def J7x:ACode:=.seq [2,3] J7v .ret
def J7z:ACode:=.cond (.t 12) J7x .skip
def J7B:ACode:=.seq [1,2,4,12] J7l J7z
def J7D:ACode:=.seq [1,2,4] J6Z J7B
def D05:List AOper:=[aO 15 (.buildSl 1 8 ([.i .u8 0,.i .u8 0,.i .u8 0,.i .u8 0,.i .u8 0,.i .u8 0,.i .u8 0,.i .u8 0]) [(0,1,(.v (.c (.i .u8 101)))),(1,1,(.v (.c (.i .u8 115)))),(2,1,(.v (.c (.i .u8 99)))),(3,1,(.v (.c (.i .u8 104)))),(4,1,(.v (.c (.i .u8 101)))),(5,1,(.v (.c (.i .u8 97)))),(6,1,(.v (.c (.i .u8 116)))),(7,1,(.v (.c (.i .u8 49))))]),aO 16 (.mark (.t 15)),aO 17 (.call 92 [(.t 16)]),aO 5 (.alloc (List.replicate 256 (.i .u8 0))),{ dst:=none,op:=.storeN 256 (.t 5) (.t 17) }]
def J7F:ACode:=.ops D05
def D06:List AOper:=[aO 18 (.loadN 256 (.t 5)),aO 19 (.fAddr (.t 1) 0),aO 20 (.load1 (.t 19)),aO 21 (.call 93 [(.t 18),(.v (.c (.i .i64 8))),(.v (.c (.i .i64 2))),(.t 20)]),{ dst:=none,op:=.storeN 256 (.t 5) (.t 21) }]
def J7H:ACode:=.ops D06
def D07:List AOper:=[aO 22 (.loadN 256 (.t 5)),aO 23 (.fAddr (.t 1) 1),aO 24 (.load1 (.t 23)),aO 25 (.call 93 [(.t 22),(.v (.c (.i .i64 10))),(.v (.c (.i .i64 2))),(.t 24)]),{ dst:=none,op:=.storeN 256 (.t 5) (.t 25) }]
def J60:ACode:=.ops D07
def D08:List AOper:=[{ dst:=some 27,op:=.mkSl 1 ([.i .u8 0]) (.v (.c (.i .i64 8))) (.v (.c (.i .i64 8))),slot:=some 0 },aO 28 (.fAddr (.t 1) 2),aO 29 (.load1 (.t 28)),aO 30 (.call 94 [(.t 27),(.v (.c (.i .i64 0))),(.v (.c (.i .i64 8))),(.t 29)]),aO 26 (.mv (.t 30)),aO 31 (.ext (.t 26) 0),aO 32 (.ext (.t 26) 1),aO 6 (.mv (.t 31))]
def D09:List AOper:=[aO 7 (.mv (.t 32))]
def J62:ACode:=.draw 1 D08 D09
def D1a:List AOper:=[aO 33 (.loadN 256 (.t 5)),aO 34 (.mv (.t 6)),aO 35 (.call 95 [(.t 33),(.v (.c (.i .i64 12))),(.t 34)]),{ dst:=none,op:=.storeN 256 (.t 5) (.t 35) }]
def J64:ACode:=.ops D1a
def D01:List AOper:=[aO 36 (.loadN 256 (.t 5)),aO 37 (.call 60 [(.t 36),(.v (.c (.i .i64 0))),(.v (.c (.i .i64 20)))]),aO 38 (.b2s (.t 37)),aO 39 (.call 37 [(.t 38)]),aO 8 (.mv (.t 39))]
def J66:ACode:=.ops D01
def D02:List AOper:=[aO 40 (.loadN 256 (.t 5)),aO 41 (.mv (.t 8)),aO 42 (.conv .i64 (.t 41)),aO 43 (.call 93 [(.t 40),(.v (.c (.i .i64 20))),(.v (.c (.i .i64 4))),(.t 42)]),{ dst:=none,op:=.storeN 256 (.t 2) (.t 43) },aO 3 (.mv (.v (.c (.i .i64 0))))]
def J68:ACode:=.ops D02
def J7a:ACode:=.seq [2,3] J68 .ret
def J7c:ACode:=.seq [2,5,8] J66 J7a
def J7e:ACode:=.seq [2,5] J64 J7c
def J7g:ACode:=.seq [2,5,6] J62 J7e
def J7i:ACode:=.seq [1,2,5] J60 J7g
def J7m:ACode:=.seq [1,2,5] J7H J7i
def J7o:ACode:=.seq [1,2,5] J7F J7m
def J7q:ACode:=.seq [1,2] J7D J7o
def J7s:ACode:=.seq [1,2] J6X J7q
def A_super_Put:AFn:=⟨J7s,[.cellN 2 256,.tmp 3]⟩
def V6:B6:=B1 91 A2N (B1 92 A0i (B1 93 P9 (B1 94 A4Y (B1 95 A09 (B1 60 A08 (B1 37 A2K C1))))))
def J6Y (n:Nat):SmV:=A2 V6 D0Z
def J7k (n:Nat):SmV:=A2 V6 D00
def J7u (n:Nat):SmV:=A2 V6 D03
def J7w (n:Nat):SmV:=A2 V6 D04
def J7y (n:Nat):SmV:=A1 [2,3] (J7w n) A8
def J7A (n:Nat):SmV:=B8 (.t 12) (J7y n) C0
def J7C (n:Nat):SmV:=A1 [1,2,4,12] (J7u n) (J7A n)
def J7E (n:Nat):SmV:=A1 [1,2,4] (J7k n) (J7C n)
def J7G (n:Nat):SmV:=A2 V6 D05
def J7I (n:Nat):SmV:=A2 V6 D06
def J61 (n:Nat):SmV:=A2 V6 D07
def J63 (n:Nat):SmV:=N3 V6 1 D08 D09
def J65 (n:Nat):SmV:=A2 V6 D1a
def J67 (n:Nat):SmV:=A2 V6 D01
def J69 (n:Nat):SmV:=A2 V6 D02
def J7b (n:Nat):SmV:=A1 [2,3] (J69 n) A8
def J7d (n:Nat):SmV:=A1 [2,5,8] (J67 n) (J7b n)
def J7f (n:Nat):SmV:=A1 [2,5] (J65 n) (J7d n)
def J7h (n:Nat):SmV:=A1 [2,5,6] (J63 n) (J7f n)
def J7j (n:Nat):SmV:=A1 [1,2,5] (J61 n) (J7h n)
def J7n (n:Nat):SmV:=A1 [1,2,5] (J7I n) (J7j n)
def J7p (n:Nat):SmV:=A1 [1,2,5] (J7G n) (J7n n)
def J7r (n:Nat):SmV:=A1 [1,2] (J7E n) (J7p n)
def J7t (n:Nat):SmV:=A1 [1,2] (J6Y n) (J7r n)
def A7e (n:Nat) (args:List Val) (h:A0):A6:=(J7t n) A_super_Put.fin (params 0 args) h
theorem D3J (n:Nat) (a0:Val) (h:A0):A7e n [a0] h=bnd (cells? a0) fun c1=>bnd (A5 (((h ++ [some (Row.mk (c1) true)]) ++ [some (Row.mk (List.replicate 256 (.i .u8 0)) true)])) 3 ((.c (.p h.length 0)))) fun v2=>bnd (A2N [v2] (((h ++ [some (Row.mk (c1) true)]) ++ [some (Row.mk (List.replicate 256 (.i .u8 0)) true)]))) fun p3=>bnd (A4 .neq p3.1 (.c (.i .i64 0))) fun v4=>cnd v4 (bnd (B0 (List.replicate 256 (.i .u8 0)) []) fun c5=>bnd (B7 p3.2 256 ((.c (.p ((h ++ [some (Row.mk (c1) true)])).length 0))) ((.a c5))) fun h6=>C7 [A5 h6 256 ((.c (.p ((h ++ [some (Row.mk (c1) true)])).length 0))),some p3.1] h6) (bnd (B0 ([.i .u8 0,.i .u8 0,.i .u8 0,.i .u8 0,.i .u8 0,.i .u8 0,.i .u8 0,.i .u8 0]) [(0,1,.c (.i .u8 101)),(1,1,.c (.i .u8 115)),(2,1,.c (.i .u8 99)),(3,1,.c (.i .u8 104)),(4,1,.c (.i .u8 101)),(5,1,.c (.i .u8 97)),(6,1,.c (.i .u8 116)),(7,1,.c (.i .u8 49))]) fun c7=>bnd (O3 ((p3.2 ++ [some (Row.mk (c7) true)])) ((.c (.sl p3.2.length 0 8 1)))) fun v8=>bnd (A0i [v8] ((p3.2 ++ [some (Row.mk (c7) true)]))) fun p9=>bnd (B7 ((p9.2 ++ [some (Row.mk (List.replicate 256 (.i .u8 0)) true)])) 256 ((.c (.p p9.2.length 0))) p9.1) fun h10=>bnd (A5 h10 256 ((.c (.p p9.2.length 0)))) fun v11=>bnd (B9 ((.c (.p h.length 0))) 0) fun v12=>bnd (A9 h10 v12) fun v13=>bnd (P9 [v11,.c (.i .i64 8),.c (.i .i64 2),v13] h10) fun p14=>bnd (B7 p14.2 256 ((.c (.p p9.2.length 0))) p14.1) fun h15=>bnd (A5 h15 256 ((.c (.p p9.2.length 0)))) fun v16=>bnd (B9 ((.c (.p h.length 0))) 1) fun v17=>bnd (A9 h15 v17) fun v18=>bnd (P9 [v16,.c (.i .i64 10),.c (.i .i64 2),v18] h15) fun p19=>bnd (B7 p19.2 256 ((.c (.p p9.2.length 0))) p19.1) fun h20=>bnd (U4 (.c (.i .i64 8)) (.c (.i .i64 8))) fun n21=>bnd (B9 ((.c (.p h.length 0))) 2) fun v22=>bnd (A9 h20 v22) fun v23=>bnd (quiet ((((h20 ++ [none])).set (h20.length + 0) (some (Row.mk (rows ([.i .u8 0]) n21) true)))) (A4Y [(.c (.sl (h20.length + 0) 0 n21 1)),.c (.i .i64 0),.c (.i .i64 8),v23] ((((h20 ++ [none])).set (h20.length + 0) (some (Row.mk (rows ([.i .u8 0]) n21) true)))))) fun p24=>bnd (C2 p24.1 0) fun v25=>bnd (C2 p24.1 1) fun v26=>bnd (A5 p24.2 256 ((.c (.p p9.2.length 0)))) fun v27=>bnd (A09 [v27,.c (.i .i64 12),v25] p24.2) fun p28=>bnd (B7 p28.2 256 ((.c (.p p9.2.length 0))) p28.1) fun h29=>bnd (A5 h29 256 ((.c (.p p9.2.length 0)))) fun v30=>bnd (A08 [v30,.c (.i .i64 0),.c (.i .i64 20)] h29) fun p31=>bnd (N7 p31.2 p31.1) fun v32=>bnd (A2K [v32] p31.2) fun p33=>bnd (A5 p33.2 256 ((.c (.p p9.2.length 0)))) fun v34=>bnd (G8 .i64 p33.1) fun v35=>bnd (P9 [v34,.c (.i .i64 20),.c (.i .i64 4),v35] p33.2) fun p36=>bnd (B7 p36.2 256 ((.c (.p ((h ++ [some (Row.mk (c1) true)])).length 0))) p36.1) fun h37=>C7 [A5 h37 256 ((.c (.p ((h ++ [some (Row.mk (c1) true)])).length 0))),some (.c (.i .i64 0))] h37):=by kernel_rfl
theorem K_super_Put:FnK Tryz.prog 55 A_super_Put V6 A7e:=.mk' (B3 B3z (B3 A7q (B3 B07 (B3 D59 (B3 B06 (B3 B05 (B3 B3w C3))))))) Tryz.func55 (by kernel_rfl) (by intro n args h;kernel_rfl)
def A2O:Fun:=tidy (Lim A_super_Put V6)
theorem B3A:SOk Tryz.prog 55 A2O:=K_super_Put.sok
theorem D6k {n:Nat} {args:List Val} {h h2:A0} {v:Val} (he:A7e n args (ro h)=some (v,h2)) (hf:v.flat=true):A2O args h=some (v,h):=K_super_Put.flat he hf
def D0Q:List AOper:=[aO 1 (.box (.t 0)),aO 2 (.alloc ([.i .i64 0,.i .i64 0,.i .u64 0])),aO 3 (.mv (.v (.c (.i .i64 0))))]
def J6r:ACode:=.ops D0Q
def D0R:List AOper:=[aO 10 (.loadN 256 (.t 1)),aO 11 (.call 60 [(.t 10),(.v (.c (.i .i64 12))),(.v (.c (.i .i64 8)))]),aO 12 (.call 59 [(.t 11),(.v (.c (.i .i64 0))),(.v (.c (.i .i64 8)))]),aO 9 (.mv (.t 12)),aO 13 (.ext (.t 9) 0),aO 14 (.ext (.t 9) 1),aO 4 (.mv (.t 13)),aO 5 (.mv (.t 14))]
def J6t:ACode:=.ops D0R
def D0S:List AOper:=[aO 15 (.loadN 256 (.t 1)),aO 16 (.call 61 [(.t 15),(.v (.c (.i .i64 8))),(.v (.c (.i .i64 2)))]),aO 17 (.loadN 256 (.t 1)),aO 18 (.call 61 [(.t 17),(.v (.c (.i .i64 10))),(.v (.c (.i .i64 2)))]),aO 19 (.mv (.t 4)),aO 20 (.build ([.i .i64 0,.i .i64 0,.i .u64 0]) [(0,1,(.t 16)),(1,1,(.t 18)),(2,1,(.t 19))]),{ dst:=some 6,op:=.alloc ([.i .i64 0,.i .i64 0,.i .u64 0]),slot:=some 0 }]
def D0T:List AOper:=[{ dst:=none,op:=.storeN 3 (.t 6) (.t 20) }]
def J6H:ACode:=.draw 1 D0S D0T
def D0U:List AOper:=[aO 22 (.loadN 3 (.t 6)),aO 23 (.call 55 [(.t 22)]),aO 21 (.mv (.t 23)),aO 24 (.ext (.t 21) 0),aO 25 (.ext (.t 21) 1),aO 7 (.alloc (List.replicate 256 (.i .u8 0))),{ dst:=none,op:=.storeN 256 (.t 7) (.t 24) },aO 8 (.mv (.t 25))]
def J6J:ACode:=.ops D0U
def D0V:List AOper:=[aO 26 (.mv (.t 8)),aO 27 (.bin .neq (.t 26) (.v (.c (.i .i64 0)))),aO 28 (.mv (.t 27)),{ dst:=some 29,op:=.loadN 256 (.t 7),guard:=some (28,false) },{ dst:=some 30,op:=.loadN 256 (.t 1),guard:=some (28,false) },{ dst:=some 31,op:=.eqA true (List.replicate 256 (.i .u8)) (.t 29) (.t 30),guard:=some (28,false) },aO 32 (.pick (.t 28) (.v (.c (.b true))) (.t 31))]
def J6L:ACode:=.ops D0V
def D0W:List AOper:=[aO 33 (.build ([.i .i64 0,.i .i64 0,.i .u64 0]) []),{ dst:=none,op:=.storeN 3 (.t 2) (.t 33) },aO 3 (.mv (.v (.c (.i .i64 13))))]
def J6N:ACode:=.ops D0W
def J6P:ACode:=.seq [2,3] J6N .ret
def J6R:ACode:=.cond (.t 32) J6P .skip
def J6T:ACode:=.seq [2,6,32] J6L J6R
def J6V:ACode:=.seq [1,2,6,7,8] J6J J6T
def D0X:List AOper:=[aO 34 (.loadN 3 (.t 6)),{ dst:=none,op:=.storeN 3 (.t 2) (.t 34) },aO 3 (.mv (.v (.c (.i .i64 0))))]
def J6u:ACode:=.ops D0X
def J6w:ACode:=.seq [2,3] J6u .ret
def J6y:ACode:=.seq [2,6] J6V J6w
def J6A:ACode:=.seq [1,2,6] J6H J6y
def J6C:ACode:=.seq [1,2,4] J6t J6A
def J6E:ACode:=.seq [1,2] J6r J6C
def A_super_Get:AFn:=⟨J6E,[.cellN 2 3,.tmp 3]⟩
def A00:B6:=B1 60 A08 (B1 59 A4X (B1 61 N5 (B1 55 A2O C1)))
def J6s (n:Nat):SmV:=A2 A00 D0Q
def J6G (n:Nat):SmV:=A2 A00 D0R
def J6I (n:Nat):SmV:=N3 A00 1 D0S D0T
def J6K (n:Nat):SmV:=A2 A00 D0U
def J6M (n:Nat):SmV:=A2 A00 D0V
def J6O (n:Nat):SmV:=A2 A00 D0W
def J6Q (n:Nat):SmV:=A1 [2,3] (J6O n) A8
def J6S (n:Nat):SmV:=B8 (.t 32) (J6Q n) C0
def J6U (n:Nat):SmV:=A1 [2,6,32] (J6M n) (J6S n)
def J6W (n:Nat):SmV:=A1 [1,2,6,7,8] (J6K n) (J6U n)
def J6v (n:Nat):SmV:=A2 A00 D0X
def J6x (n:Nat):SmV:=A1 [2,3] (J6v n) A8
def J6z (n:Nat):SmV:=A1 [2,6] (J6W n) (J6x n)
def J6B (n:Nat):SmV:=A1 [1,2,6] (J6I n) (J6z n)
def J6D (n:Nat):SmV:=A1 [1,2,4] (J6G n) (J6B n)
def J6F (n:Nat):SmV:=A1 [1,2] (J6s n) (J6D n)
def A7d (n:Nat) (args:List Val) (h:A0):A6:=(J6F n) A_super_Get.fin (params 0 args) h
theorem D3I (n:Nat) (a0:Val) (h:A0):A7d n [a0] h=bnd (cells? a0) fun c1=>bnd (A5 (((h ++ [some (Row.mk (c1) true)]) ++ [some (Row.mk ([.i .i64 0,.i .i64 0,.i .u64 0]) true)])) 256 ((.c (.p h.length 0)))) fun v2=>bnd (A08 [v2,.c (.i .i64 12),.c (.i .i64 8)] (((h ++ [some (Row.mk (c1) true)]) ++ [some (Row.mk ([.i .i64 0,.i .i64 0,.i .u64 0]) true)]))) fun p3=>bnd (A4X [p3.1,.c (.i .i64 0),.c (.i .i64 8)] p3.2) fun p4=>bnd (C2 p4.1 0) fun v5=>bnd (C2 p4.1 1) fun v6=>bnd (A5 p4.2 256 ((.c (.p h.length 0)))) fun v7=>bnd (quiet ((p4.2 ++ [none])) (N5 [v7,.c (.i .i64 8),.c (.i .i64 2)] ((p4.2 ++ [none])))) fun p8=>bnd (A5 p4.2 256 ((.c (.p h.length 0)))) fun v9=>bnd (quiet p8.2 (N5 [v9,.c (.i .i64 10),.c (.i .i64 2)] p8.2)) fun p10=>bnd (B0 ([.i .i64 0,.i .i64 0,.i .u64 0]) [(0,1,p8.1),(1,1,p10.1),(2,1,v5)]) fun c11=>bnd (B7 ((p10.2.set (p4.2.length + 0) (some (Row.mk ([.i .i64 0,.i .i64 0,.i .u64 0]) true)))) 3 ((.c (.p (p4.2.length + 0) 0))) ((.a c11))) fun h12=>bnd (A5 h12 3 ((.c (.p (p4.2.length + 0) 0)))) fun v13=>bnd (A2O [v13] h12) fun p14=>bnd (C2 p14.1 0) fun v15=>bnd (C2 p14.1 1) fun v16=>bnd (B7 ((p14.2 ++ [some (Row.mk (List.replicate 256 (.i .u8 0)) true)])) 256 ((.c (.p p14.2.length 0))) v15) fun h17=>bnd (A4 .neq v16 (.c (.i .i64 0))) fun v18=>bnd (gd v18 false (bnd (A5 h17 256 ((.c (.p p14.2.length 0)))) fun v19=>some (v19,h17)) (some (.no,h17))) fun p20=>bnd (gd v18 false (bnd (A5 p20.2 256 ((.c (.p h.length 0)))) fun v21=>some (v21,p20.2)) (some (.no,p20.2))) fun p22=>bnd (gd v18 false (bnd (aeq true (List.replicate 256 (.i .u8)) p20.1 p22.1) fun v23=>some (v23,p22.2)) (some (.no,p22.2))) fun p24=>bnd (C5 v18 (.c (.b true)) p24.1) fun v25=>cnd v25 (bnd (B0 ([.i .i64 0,.i .i64 0,.i .u64 0]) []) fun c26=>bnd (B7 p24.2 3 ((.c (.p ((h ++ [some (Row.mk (c1) true)])).length 0))) ((.a c26))) fun h27=>C7 [A5 h27 3 ((.c (.p ((h ++ [some (Row.mk (c1) true)])).length 0))),some (.c (.i .i64 13))] h27) (bnd (A5 p24.2 3 ((.c (.p (p4.2.length + 0) 0)))) fun v28=>bnd (B7 p24.2 3 ((.c (.p ((h ++ [some (Row.mk (c1) true)])).length 0))) v28) fun h29=>C7 [A5 h29 3 ((.c (.p ((h ++ [some (Row.mk (c1) true)])).length 0))),some (.c (.i .i64 0))] h29):=by kernel_rfl
theorem K_super_Get:FnK Tryz.prog 25 A_super_Get A00 A7d:=.mk' (B3 B05 (B3 D56 (B3 A7p (B3 B3A C3)))) Tryz.func25 (by kernel_rfl) (by intro n args h;kernel_rfl)
def A41:Fun:=tidy (Lim A_super_Get A00)
theorem D6j:SOk Tryz.prog 25 A41:=K_super_Get.sok
theorem D6i {n:Nat} {args:List Val} {h h2:A0} {v:Val} (he:A7d n args (ro h)=some (v,h2)) (hf:v.flat=true):A41 args h=some (v,h):=K_super_Get.flat he hf
end Go.Proofs.YtdgggnlbdoiloaaGreat
end
noncomputable section
namespace Go.Proofs.YtdgggnlbdoiloaaGreat
open Go Go.Esc
set_option maxRecDepth 100000
def C3c:List AOper:=[aO 1 (.box (.t 0)),aO 2 (.mv (.v (.c (.b false))))]
def H0K:ACode:=.ops C3c
def C3d:List AOper:=[aO 3 (.loadN 3 (.t 1)),aO 4 (.call 91 [(.t 3)]),aO 5 (.bin .eql (.t 4) (.v (.c (.i .i64 0)))),aO 2 (.mv (.t 5))]
def H0M:ACode:=.ops C3d
def H0O:ACode:=.seq [2] H0M .ret
def H0Q:ACode:=.seq [1] H0K H0O
def A_geom_ok:AFn:=⟨H0Q,[.tmp 2]⟩
def A5Y:B6:=B1 91 A2N C1
def H0L (n:Nat):SmV:=A2 A5Y C3c
def H0N (n:Nat):SmV:=A2 A5Y C3d
def H0P (n:Nat):SmV:=A1 [2] (H0N n) A8
def H0R (n:Nat):SmV:=A1 [1] (H0L n) (H0P n)
def A6N (n:Nat) (args:List Val) (h:A0):A6:=(H0R n) A_geom_ok.fin (params 0 args) h
theorem D29 (n:Nat) (a0:Val) (h:A0):A6N n [a0] h=bnd (cells? a0) fun c1=>bnd (A5 ((h ++ [some (Row.mk (c1) true)])) 3 ((.c (.p h.length 0)))) fun v2=>bnd (A2N [v2] ((h ++ [some (Row.mk (c1) true)]))) fun p3=>bnd (A4 .eql p3.1 (.c (.i .i64 0))) fun v4=>some (v4,p3.2):=by kernel_rfl
theorem K_geom_ok:FnK Tryz.prog 70 A_geom_ok A5Y A6N:=.mk' (B3 B3z C3) Tryz.func70 (by kernel_rfl) (by intro n args h;kernel_rfl)
def A06:Fun:=tidy (Lim A_geom_ok A5Y)
theorem B03:SOk Tryz.prog 70 A06:=K_geom_ok.sok
theorem D5q {n:Nat} {args:List Val} {h h2:A0} {v:Val} (he:A6N n args (ro h)=some (v,h2)) (hf:v.flat=true):A06 args h=some (v,h):=K_geom_ok.flat he hf
def C2W:List AOper:=[aO 2 (.box (.t 0)),aO 4 (.mv (.v (.c (.b false))))]
def G9L:ACode:=.ops C2W
def C2X:List AOper:=[aO 5 (.loadN 3 (.t 2)),aO 6 (.call 70 [(.t 5)]),aO 7 (.mv (.t 6)),{ dst:=some 8,op:=.mv (.t 1),guard:=some (7,true) },{ dst:=some 9,op:=.bin .geq (.t 8) (.v (.c (.i .i64 1))),guard:=some (7,true) },aO 10 (.pick (.t 7) (.t 9) (.v (.c (.b false)))),aO 11 (.mv (.t 10)),{ dst:=some 12,op:=.mv (.t 1),guard:=some (11,true) },{ dst:=some 13,op:=.fAddr (.t 2) 1,guard:=some (11,true) },{ dst:=some 14,op:=.load1 (.t 13),guard:=some (11,true) },{ dst:=some 15,op:=.bin .leq (.t 12) (.t 14),guard:=some (11,true) },aO 16 (.pick (.t 11) (.t 15) (.v (.c (.b false)))),aO 4 (.mv (.t 16))]
def G9N:ACode:=.ops C2X
def G9P:ACode:=.seq [4] G9N .ret
def G9R:ACode:=.seq [1,2] G9L G9P
def A_geom_IsInode:AFn:=⟨G9R,[.tmp 4]⟩
def A5W:B6:=B1 70 A06 C1
def G9M (n:Nat):SmV:=A2 A5W C2W
def G9O (n:Nat):SmV:=A2 A5W C2X
def G9Q (n:Nat):SmV:=A1 [4] (G9O n) A8
def G9S (n:Nat):SmV:=A1 [1,2] (G9M n) (G9Q n)
def A6K (n:Nat) (args:List Val) (h:A0):A6:=(G9S n) A_geom_IsInode.fin (params 0 args) h
theorem D25 (n:Nat) (a0 a1:Val) (h:A0):A6K n [a0,a1] h=bnd (cells? a0) fun c1=>bnd (A5 ((h ++ [some (Row.mk (c1) true)])) 3 ((.c (.p h.length 0)))) fun v2=>bnd (A06 [v2] ((h ++ [some (Row.mk (c1) true)]))) fun p3=>bnd (gd p3.1 true (some (a1,p3.2)) (some (.no,p3.2))) fun p4=>bnd (gd p3.1 true (bnd (A4 .geq p4.1 (.c (.i .i64 1))) fun v5=>some (v5,p4.2)) (some (.no,p4.2))) fun p6=>bnd (C5 p3.1 p6.1 (.c (.b false))) fun v7=>bnd (gd v7 true (some (a1,p6.2)) (some (.no,p6.2))) fun p8=>bnd (gd v7 true (bnd (B9 ((.c (.p h.length 0))) 1) fun v9=>some (v9,p8.2)) (some (.no,p8.2))) fun p10=>bnd (gd v7 true (bnd (A9 p10.2 p10.1) fun v11=>some (v11,p10.2)) (some (.no,p10.2))) fun p12=>bnd (gd v7 true (bnd (A4 .leq p8.1 p12.1) fun v13=>some (v13,p12.2)) (some (.no,p12.2))) fun p14=>bnd (C5 v7 p14.1 (.c (.b false))) fun v15=>some (v15,p14.2):=by kernel_rfl
theorem K_geom_IsInode:FnK Tryz.prog 65 A_geom_IsInode A5W A6K:=.mk' (B3 B03 C3) Tryz.func65 (by kernel_rfl) (by intro n args h;kernel_rfl)
def A4H:Fun:=tidy (Lim A_geom_IsInode A5W)
theorem D5k:SOk Tryz.prog 65 A4H:=K_geom_IsInode.sok
theorem D5j {n:Nat} {args:List Val} {h h2:A0} {v:Val} (he:A6K n args (ro h)=some (v,h2)) (hf:v.flat=true):A4H args h=some (v,h):=K_geom_IsInode.flat he hf
def C2Y:List AOper:=[aO 0 (.mv (.v (.c (.i .i64 0))))]
def G9T:ACode:=.ops C2Y
def C2Z:List AOper:=[aO 0 (.mv (.v (.c (.i .i64 1))))]
def G9V:ACode:=.ops C2Z
def G9X:ACode:=.seq [0] G9V .ret
def G9Z:ACode:=.seq [] G9T G9X
def A_geom_Map:AFn:=⟨G9Z,[.tmp 0]⟩
def A5X:B6:=C1
def G9U (n:Nat):SmV:=A2 A5X C2Y
def G9W (n:Nat):SmV:=A2 A5X C2Z
def G9Y (n:Nat):SmV:=A1 [0] (G9W n) A8
def G90 (n:Nat):SmV:=A1 [] (G9U n) (G9Y n)
def B0N (n:Nat) (args:List Val) (h:A0):A6:=(G90 n) A_geom_Map.fin (params 0 args) h
theorem D26 (n:Nat) (h:A0):B0N n [] h=some ((.c (.i .i64 1)),h):=by kernel_rfl
theorem K_geom_Map:FnK Tryz.prog 105 A_geom_Map A5X B0N:=.mk' (C3) Tryz.func105 (by kernel_rfl) (by intro n args h;kernel_rfl)
def A4I:Fun:=tidy (Lim A_geom_Map A5X)
theorem D5m:SOk Tryz.prog 105 A4I:=K_geom_Map.sok
theorem D5l {n:Nat} {args:List Val} {h h2:A0} {v:Val} (he:B0N n args (ro h)=some (v,h2)) (hf:v.flat=true):A4I args h=some (v,h):=K_geom_Map.flat he hf
def C21:List AOper:=[aO 1 (.box (.t 0)),aO 2 (.mv (.v (.c (.i .i64 0)))),aO 3 (.mv (.v (.c (.i .i64 0))))]
def G92:ACode:=.ops C21
def C22:List AOper:=[aO 4 (.loadN 3 (.t 1)),aO 5 (.call 70 [(.t 4)]),aO 6 (.un .not (.t 5))]
def G94:ACode:=.ops C22
def C23:List AOper:=[aO 2 (.mv (.v (.c (.i .i64 0)))),aO 3 (.mv (.v (.c (.i .i64 0))))]
def G96:ACode:=.ops C23
def G98:ACode:=.seq [2,3] G96 .ret
def H0a:ACode:=.cond (.t 6) G98 .skip
def H0c:ACode:=.seq [1,6] G94 H0a
def C24:List AOper:=[aO 7 (.call 105 []),aO 8 (.bin .add (.t 7) (.v (.c (.i .i64 1)))),aO 9 (.fAddr (.t 1) 1),aO 10 (.load1 (.t 9)),aO 11 (.bin .quo (.t 10) (.v (.c (.i .i64 8)))),aO 2 (.mv (.t 8))]
def C25:List AOper:=[aO 3 (.mv (.t 11))]
def H0e:ACode:=.draw 0 C24 C25
def H0g:ACode:=.seq [2,3] H0e .ret
def H0i:ACode:=.seq [1] H0c H0g
def H0k:ACode:=.seq [1] G92 H0i
def A_geom_Table:AFn:=⟨H0k,[.tmp 2,.tmp 3]⟩
def A3r:B6:=B1 70 A06 (B1 105 A4I C1)
def G93 (n:Nat):SmV:=A2 A3r C21
def G95 (n:Nat):SmV:=A2 A3r C22
def G97 (n:Nat):SmV:=A2 A3r C23
def G99 (n:Nat):SmV:=A1 [2,3] (G97 n) A8
def H0b (n:Nat):SmV:=B8 (.t 6) (G99 n) C0
def H0d (n:Nat):SmV:=A1 [1,6] (G95 n) (H0b n)
def H0f (n:Nat):SmV:=N3 A3r 0 C24 C25
def H0h (n:Nat):SmV:=A1 [2,3] (H0f n) A8
def H0j (n:Nat):SmV:=A1 [1] (H0d n) (H0h n)
def H0l (n:Nat):SmV:=A1 [1] (G93 n) (H0j n)
def A6L (n:Nat) (args:List Val) (h:A0):A6:=(H0l n) A_geom_Table.fin (params 0 args) h
theorem D27 (n:Nat) (a0:Val) (h:A0):A6L n [a0] h=bnd (cells? a0) fun c1=>bnd (A5 ((h ++ [some (Row.mk (c1) true)])) 3 ((.c (.p h.length 0)))) fun v2=>bnd (A06 [v2] ((h ++ [some (Row.mk (c1) true)]))) fun p3=>bnd (aun .not p3.1) fun v4=>cnd v4 (C7 [some (.c (.i .i64 0)),some (.c (.i .i64 0))] p3.2) (bnd (quiet ((p3.2 ++ [])) (A4I [] ((p3.2 ++ [])))) fun p5=>bnd (A4 .add p5.1 (.c (.i .i64 1))) fun v6=>bnd (B9 ((.c (.p h.length 0))) 1) fun v7=>bnd (A9 p3.2 v7) fun v8=>bnd (A4 .quo v8 (.c (.i .i64 8))) fun v9=>C7 [some v6,some v9] p5.2):=by kernel_rfl
theorem K_geom_Table:FnK Tryz.prog 66 A_geom_Table A3r A6L:=.mk' (B3 B03 (B3 D5m C3)) Tryz.func66 (by kernel_rfl) (by intro n args h;kernel_rfl)
def A2E:Fun:=tidy (Lim A_geom_Table A3r)
theorem B3r:SOk Tryz.prog 66 A2E:=K_geom_Table.sok
theorem D5n {n:Nat} {args:List Val} {h h2:A0} {v:Val} (he:A6L n args (ro h)=some (v,h2)) (hf:v.flat=true):A2E args h=some (v,h):=K_geom_Table.flat he hf
def C27:List AOper:=[aO 2 (.box (.t 0)),aO 4 (.mv (.v (.c (.i .i64 0)))),aO 5 (.mv (.v (.c (.i .i64 0)))),aO 6 (.mv (.v (.c (.b false))))]
def H0m:ACode:=.ops C27
def C28:List AOper:=[aO 9 (.loadN 3 (.t 2)),aO 10 (.mv (.t 1)),aO 11 (.call 65 [(.t 9),(.t 10)]),aO 12 (.un .not (.t 11))]
def H0o:ACode:=.ops C28
def C29:List AOper:=[aO 4 (.mv (.v (.c (.i .i64 0)))),aO 5 (.mv (.v (.c (.i .i64 0)))),aO 6 (.mv (.v (.c (.b false))))]
def H0u:ACode:=.ops C29
def H0w:ACode:=.seq [4,5,6] H0u .ret
def H0y:ACode:=.cond (.t 12) H0w .skip
def H0A:ACode:=.seq [1,2,12] H0o H0y
def C3a:List AOper:=[aO 14 (.loadN 3 (.t 2)),aO 15 (.call 66 [(.t 14)]),aO 13 (.mv (.t 15)),aO 16 (.ext (.t 13) 0),aO 17 (.ext (.t 13) 1),aO 7 (.mv (.t 16)),aO 8 (.mv (.t 17))]
def H0C:ACode:=.ops C3a
def C3b:List AOper:=[aO 18 (.mv (.t 7)),aO 19 (.mv (.t 1)),aO 20 (.bin .sub (.t 19) (.v (.c (.i .i64 1)))),aO 21 (.bin .quo (.t 20) (.v (.c (.i .i64 8)))),aO 22 (.bin .add (.t 18) (.t 21)),aO 23 (.mv (.t 1)),aO 24 (.bin .sub (.t 23) (.v (.c (.i .i64 1)))),aO 25 (.bin .rem (.t 24) (.v (.c (.i .i64 8)))),aO 4 (.mv (.t 22)),aO 5 (.mv (.t 25)),aO 6 (.mv (.v (.c (.b true))))]
def H0E:ACode:=.ops C3b
def H0G:ACode:=.seq [4,5,6] H0E .ret
def H0I:ACode:=.seq [1,7] H0C H0G
def H0p:ACode:=.seq [1,2] H0A H0I
def H0r:ACode:=.seq [1,2] H0m H0p
def A_geom_Where:AFn:=⟨H0r,[.tmp 4,.tmp 5,.tmp 6]⟩
def A2h:B6:=B1 65 A4H (B1 66 A2E C1)
def H0n (n:Nat):SmV:=A2 A2h C27
def H0t (n:Nat):SmV:=A2 A2h C28
def H0v (n:Nat):SmV:=A2 A2h C29
def H0x (n:Nat):SmV:=A1 [4,5,6] (H0v n) A8
def H0z (n:Nat):SmV:=B8 (.t 12) (H0x n) C0
def H0B (n:Nat):SmV:=A1 [1,2,12] (H0t n) (H0z n)
def H0D (n:Nat):SmV:=A2 A2h C3a
def H0F (n:Nat):SmV:=A2 A2h C3b
def H0H (n:Nat):SmV:=A1 [4,5,6] (H0F n) A8
def H0J (n:Nat):SmV:=A1 [1,7] (H0D n) (H0H n)
def H0q (n:Nat):SmV:=A1 [1,2] (H0B n) (H0J n)
def H0s (n:Nat):SmV:=A1 [1,2] (H0n n) (H0q n)
def A6M (n:Nat) (args:List Val) (h:A0):A6:=(H0s n) A_geom_Where.fin (params 0 args) h
theorem D28 (n:Nat) (a0 a1:Val) (h:A0):A6M n [a0,a1] h=bnd (cells? a0) fun c1=>bnd (A5 ((h ++ [some (Row.mk (c1) true)])) 3 ((.c (.p h.length 0)))) fun v2=>bnd (A4H [v2,a1] ((h ++ [some (Row.mk (c1) true)]))) fun p3=>bnd (aun .not p3.1) fun v4=>cnd v4 (C7 [some (.c (.i .i64 0)),some (.c (.i .i64 0)),some (.c (.b false))] p3.2) (bnd (A5 p3.2 3 ((.c (.p h.length 0)))) fun v5=>bnd (A2E [v5] p3.2) fun p6=>bnd (C2 p6.1 0) fun v7=>bnd (C2 p6.1 1) fun v8=>bnd (A4 .sub a1 (.c (.i .i64 1))) fun v9=>bnd (A4 .quo v9 (.c (.i .i64 8))) fun v10=>bnd (A4 .add v7 v10) fun v11=>bnd (A4 .sub a1 (.c (.i .i64 1))) fun v12=>bnd (A4 .rem v12 (.c (.i .i64 8))) fun v13=>C7 [some v11,some v13,some (.c (.b true))] p6.2):=by kernel_rfl
theorem K_geom_Where:FnK Tryz.prog 28 A_geom_Where A2h A6M:=.mk' (B3 D5k (B3 B3r C3)) Tryz.func28 (by kernel_rfl) (by intro n args h;kernel_rfl)
def A4J:Fun:=tidy (Lim A_geom_Where A2h)
theorem D5p:SOk Tryz.prog 28 A4J:=K_geom_Where.sok
theorem D5o {n:Nat} {args:List Val} {h h2:A0} {v:Val} (he:A6M n args (ro h)=some (v,h2)) (hf:v.flat=true):A4J args h=some (v,h):=K_geom_Where.flat he hf
def C2Q:List AOper:=[aO 1 (.box (.t 0)),aO 2 (.mv (.v (.c (.i .i64 0))))]
def G9r:ACode:=.ops C2Q
def C2R:List AOper:=[aO 6 (.loadN 3 (.t 1)),aO 7 (.call 66 [(.t 6)]),aO 5 (.mv (.t 7)),aO 8 (.ext (.t 5) 0),aO 9 (.ext (.t 5) 1),aO 3 (.mv (.t 8)),aO 4 (.mv (.t 9))]
def G9t:ACode:=.ops C2R
def C2S:List AOper:=[aO 10 (.mv (.t 3)),aO 11 (.mv (.t 4)),aO 12 (.bin .add (.t 10) (.t 11)),aO 2 (.mv (.t 12))]
def G9v:ACode:=.ops C2S
def G9x:ACode:=.seq [2] G9v .ret
def G9z:ACode:=.seq [3,4] G9t G9x
def G9B:ACode:=.seq [1] G9r G9z
def A_geom_Data:AFn:=⟨G9B,[.tmp 2]⟩
def A4b:B6:=B1 66 A2E C1
def G9s (n:Nat):SmV:=A2 A4b C2Q
def G9u (n:Nat):SmV:=A2 A4b C2R
def G9w (n:Nat):SmV:=A2 A4b C2S
def G9y (n:Nat):SmV:=A1 [2] (G9w n) A8
def G9A (n:Nat):SmV:=A1 [3,4] (G9u n) (G9y n)
def G9C (n:Nat):SmV:=A1 [1] (G9s n) (G9A n)
def A6I (n:Nat) (args:List Val) (h:A0):A6:=(G9C n) A_geom_Data.fin (params 0 args) h
theorem D22 (n:Nat) (a0:Val) (h:A0):A6I n [a0] h=bnd (cells? a0) fun c1=>bnd (A5 ((h ++ [some (Row.mk (c1) true)])) 3 ((.c (.p h.length 0)))) fun v2=>bnd (A2E [v2] ((h ++ [some (Row.mk (c1) true)]))) fun p3=>bnd (C2 p3.1 0) fun v4=>bnd (C2 p3.1 1) fun v5=>bnd (A4 .add v4 v5) fun v6=>some (v6,p3.2):=by kernel_rfl
theorem K_geom_Data:FnK Tryz.prog 71 A_geom_Data A4b A6I:=.mk' (B3 B3r C3) Tryz.func71 (by kernel_rfl) (by intro n args h;kernel_rfl)
def A4G:Fun:=tidy (Lim A_geom_Data A4b)
theorem D5h:SOk Tryz.prog 71 A4G:=K_geom_Data.sok
theorem D5g {n:Nat} {args:List Val} {h h2:A0} {v:Val} (he:A6I n args (ro h)=some (v,h2)) (hf:v.flat=true):A4G args h=some (v,h):=K_geom_Data.flat he hf
def C2T:List AOper:=[aO 2 (.box (.t 0)),aO 4 (.mv (.v (.c (.b false))))]
def G9D:ACode:=.ops C2T
def C2U:List AOper:=[aO 5 (.loadN 3 (.t 2)),aO 6 (.call 70 [(.t 5)]),aO 7 (.mv (.t 6)),{ dst:=some 8,op:=.mv (.t 1),guard:=some (7,true) },{ dst:=some 9,op:=.loadN 3 (.t 2),guard:=some (7,true) },{ dst:=some 10,op:=.call 71 [(.t 9)],guard:=some (7,true) },{ dst:=some 11,op:=.bin .geq (.t 8) (.t 10),guard:=some (7,true) },aO 12 (.pick (.t 7) (.t 11) (.v (.c (.b false)))),aO 13 (.mv (.t 12)),{ dst:=some 14,op:=.mv (.t 1),guard:=some (13,true) },{ dst:=some 15,op:=.fAddr (.t 2) 0,guard:=some (13,true) },{ dst:=some 16,op:=.load1 (.t 15),guard:=some (13,true) },{ dst:=some 17,op:=.bin .lss (.t 14) (.t 16),guard:=some (13,true) },aO 18 (.pick (.t 13) (.t 17) (.v (.c (.b false)))),aO 4 (.mv (.t 18))]
def G9F:ACode:=.ops C2U
def G9H:ACode:=.seq [4] G9F .ret
def G9J:ACode:=.seq [1,2] G9D G9H
def A_geom_IsData:AFn:=⟨G9J,[.tmp 4]⟩
def A5V:B6:=B1 70 A06 (B1 71 A4G C1)
def G9E (n:Nat):SmV:=A2 A5V C2T
def G9G (n:Nat):SmV:=A2 A5V C2U
def G9I (n:Nat):SmV:=A1 [4] (G9G n) A8
def G9K (n:Nat):SmV:=A1 [1,2] (G9E n) (G9I n)
def A6J (n:Nat) (args:List Val) (h:A0):A6:=(G9K n) A_geom_IsData.fin (params 0 args) h
theorem D23 (n:Nat) (a0 a1:Val) (h:A0):A6J n [a0,a1] h=bnd (cells? a0) fun c1=>bnd (A5 ((h ++ [some (Row.mk (c1) true)])) 3 ((.c (.p h.length 0)))) fun v2=>bnd (A06 [v2] ((h ++ [some (Row.mk (c1) true)]))) fun p3=>bnd (gd p3.1 true (some (a1,p3.2)) (some (.no,p3.2))) fun p4=>bnd (gd p3.1 true (bnd (A5 p4.2 3 ((.c (.p h.length 0)))) fun v5=>some (v5,p4.2)) (some (.no,p4.2))) fun p6=>bnd (gd p3.1 true (bnd (A4G [p6.1] p6.2) fun p7=>some (p7.1,p7.2)) (some (.no,p6.2))) fun p8=>bnd (gd p3.1 true (bnd (A4 .geq p4.1 p8.1) fun v9=>some (v9,p8.2)) (some (.no,p8.2))) fun p10=>bnd (C5 p3.1 p10.1 (.c (.b false))) fun v11=>bnd (gd v11 true (some (a1,p10.2)) (some (.no,p10.2))) fun p12=>bnd (gd v11 true (bnd (B9 ((.c (.p h.length 0))) 0) fun v13=>some (v13,p12.2)) (some (.no,p12.2))) fun p14=>bnd (gd v11 true (bnd (A9 p14.2 p14.1) fun v15=>some (v15,p14.2)) (some (.no,p14.2))) fun p16=>bnd (gd v11 true (bnd (A4 .lss p12.1 p16.1) fun v17=>some (v17,p16.2)) (some (.no,p16.2))) fun p18=>bnd (C5 v11 p18.1 (.c (.b false))) fun v19=>some (v19,p18.2):=by kernel_rfl
theorem K_geom_IsData:FnK Tryz.prog 31 A_geom_IsData A5V A6J:=.mk' (B3 B03 (B3 D5h C3)) Tryz.func31 (by kernel_rfl) (by intro n args h;kernel_rfl)
def A05:Fun:=tidy (Lim A_geom_IsData A5V)
theorem B02:SOk Tryz.prog 31 A05:=K_geom_IsData.sok
theorem D5i {n:Nat} {args:List Val} {h h2:A0} {v:Val} (he:A6J n args (ro h)=some (v,h2)) (hf:v.flat=true):A05 args h=some (v,h):=K_geom_IsData.flat he hf
end Go.Proofs.YtdgggnlbdoiloaaGreat
end
noncomputable section
namespace Go.Proofs.YtdgggnlbdoiloaaGreat
open Go Go.Esc
set_option maxRecDepth 100000
def C0n:List AOper:=[aO 1 (.box (.t 0)),aO 2 (.mv (.v (.c (.b false))))]
def F9r:ACode:=.ops C0n
def C0o:List AOper:=[aO 3 (.fAddr (.t 1) 0),aO 4 (.load1 (.t 3)),aO 5 (.bin .geq (.t 4) (.v (.c (.i .i64 16)))),aO 6 (.mv (.t 5)),{ dst:=some 7,op:=.fAddr (.t 1) 0,guard:=some (6,true) },{ dst:=some 8,op:=.load1 (.t 7),guard:=some (6,true) },{ dst:=some 9,op:=.bin .leq (.t 8) (.v (.c (.i .i64 512))),guard:=some (6,true) },aO 10 (.pick (.t 6) (.t 9) (.v (.c (.b false)))),aO 11 (.mv (.t 10)),{ dst:=some 12,op:=.fAddr (.t 1) 1,guard:=some (11,true) },{ dst:=some 13,op:=.load1 (.t 12),guard:=some (11,true) },{ dst:=some 14,op:=.bin .geq (.t 13) (.v (.c (.i .i64 8))),guard:=some (11,true) },aO 15 (.pick (.t 11) (.t 14) (.v (.c (.b false)))),aO 16 (.mv (.t 15)),{ dst:=some 17,op:=.fAddr (.t 1) 1,guard:=some (16,true) },{ dst:=some 18,op:=.load1 (.t 17),guard:=some (16,true) },{ dst:=some 19,op:=.bin .leq (.t 18) (.v (.c (.i .i64 128))),guard:=some (16,true) },aO 20 (.pick (.t 16) (.t 19) (.v (.c (.b false)))),aO 21 (.mv (.t 20)),{ dst:=some 22,op:=.fAddr (.t 1) 1,guard:=some (21,true) },{ dst:=some 23,op:=.load1 (.t 22),guard:=some (21,true) },{ dst:=some 24,op:=.bin .rem (.t 23) (.v (.c (.i .i64 8))),guard:=some (21,true) },{ dst:=some 25,op:=.bin .eql (.t 24) (.v (.c (.i .i64 0))),guard:=some (21,true) },aO 26 (.pick (.t 21) (.t 25) (.v (.c (.b false)))),aO 27 (.mv (.t 26)),{ dst:=some 28,op:=.fAddr (.t 1) 1,guard:=some (27,true) },{ dst:=some 29,op:=.load1 (.t 28),guard:=some (27,true) },{ dst:=some 30,op:=.bin .quo (.t 29) (.v (.c (.i .i64 8))),guard:=some (27,true) },{ dst:=some 31,op:=.bin .add (.v (.c (.i .i64 2))) (.t 30),guard:=some (27,true) },{ dst:=some 32,op:=.fAddr (.t 1) 0,guard:=some (27,true) },{ dst:=some 33,op:=.load1 (.t 32),guard:=some (27,true) },{ dst:=some 34,op:=.bin .lss (.t 31) (.t 33),guard:=some (27,true) },aO 35 (.pick (.t 27) (.t 34) (.v (.c (.b false)))),aO 2 (.mv (.t 35))]
def F9t:ACode:=.ops C0o
def F9v:ACode:=.seq [2] F9t .ret
def F9x:ACode:=.seq [1] F9r F9v
def A_er14_May:AFn:=⟨F9x,[.tmp 2]⟩
def A5R:B6:=C1
def F9s (n:Nat):SmV:=A2 A5R C0n
def F9u (n:Nat):SmV:=A2 A5R C0o
def F9w (n:Nat):SmV:=A1 [2] (F9u n) A8
def F9y (n:Nat):SmV:=A1 [1] (F9s n) (F9w n)
def A6t (n:Nat) (args:List Val) (h:A0):A6:=(F9y n) A_er14_May.fin (params 0 args) h
theorem D2J (n:Nat) (a0:Val) (h:A0):A6t n [a0] h=bnd (cells? a0) fun c1=>bnd (B9 ((.c (.p h.length 0))) 0) fun v2=>bnd (A9 ((h ++ [some (Row.mk (c1) true)])) v2) fun v3=>bnd (A4 .geq v3 (.c (.i .i64 16))) fun v4=>bnd (gd v4 true (bnd (B9 ((.c (.p h.length 0))) 0) fun v5=>some (v5,(h ++ [some (Row.mk (c1) true)]))) (some (.no,(h ++ [some (Row.mk (c1) true)])))) fun p6=>bnd (gd v4 true (bnd (A9 p6.2 p6.1) fun v7=>some (v7,p6.2)) (some (.no,p6.2))) fun p8=>bnd (gd v4 true (bnd (A4 .leq p8.1 (.c (.i .i64 512))) fun v9=>some (v9,p8.2)) (some (.no,p8.2))) fun p10=>bnd (C5 v4 p10.1 (.c (.b false))) fun v11=>bnd (gd v11 true (bnd (B9 ((.c (.p h.length 0))) 1) fun v12=>some (v12,p10.2)) (some (.no,p10.2))) fun p13=>bnd (gd v11 true (bnd (A9 p13.2 p13.1) fun v14=>some (v14,p13.2)) (some (.no,p13.2))) fun p15=>bnd (gd v11 true (bnd (A4 .geq p15.1 (.c (.i .i64 8))) fun v16=>some (v16,p15.2)) (some (.no,p15.2))) fun p17=>bnd (C5 v11 p17.1 (.c (.b false))) fun v18=>bnd (gd v18 true (bnd (B9 ((.c (.p h.length 0))) 1) fun v19=>some (v19,p17.2)) (some (.no,p17.2))) fun p20=>bnd (gd v18 true (bnd (A9 p20.2 p20.1) fun v21=>some (v21,p20.2)) (some (.no,p20.2))) fun p22=>bnd (gd v18 true (bnd (A4 .leq p22.1 (.c (.i .i64 128))) fun v23=>some (v23,p22.2)) (some (.no,p22.2))) fun p24=>bnd (C5 v18 p24.1 (.c (.b false))) fun v25=>bnd (gd v25 true (bnd (B9 ((.c (.p h.length 0))) 1) fun v26=>some (v26,p24.2)) (some (.no,p24.2))) fun p27=>bnd (gd v25 true (bnd (A9 p27.2 p27.1) fun v28=>some (v28,p27.2)) (some (.no,p27.2))) fun p29=>bnd (gd v25 true (bnd (A4 .rem p29.1 (.c (.i .i64 8))) fun v30=>some (v30,p29.2)) (some (.no,p29.2))) fun p31=>bnd (gd v25 true (bnd (A4 .eql p31.1 (.c (.i .i64 0))) fun v32=>some (v32,p31.2)) (some (.no,p31.2))) fun p33=>bnd (C5 v25 p33.1 (.c (.b false))) fun v34=>bnd (gd v34 true (bnd (B9 ((.c (.p h.length 0))) 1) fun v35=>some (v35,p33.2)) (some (.no,p33.2))) fun p36=>bnd (gd v34 true (bnd (A9 p36.2 p36.1) fun v37=>some (v37,p36.2)) (some (.no,p36.2))) fun p38=>bnd (gd v34 true (bnd (A4 .quo p38.1 (.c (.i .i64 8))) fun v39=>some (v39,p38.2)) (some (.no,p38.2))) fun p40=>bnd (gd v34 true (bnd (A4 .add (.c (.i .i64 2)) p40.1) fun v41=>some (v41,p40.2)) (some (.no,p40.2))) fun p42=>bnd (gd v34 true (bnd (B9 ((.c (.p h.length 0))) 0) fun v43=>some (v43,p42.2)) (some (.no,p42.2))) fun p44=>bnd (gd v34 true (bnd (A9 p44.2 p44.1) fun v45=>some (v45,p44.2)) (some (.no,p44.2))) fun p46=>bnd (gd v34 true (bnd (A4 .lss p42.1 p46.1) fun v47=>some (v47,p46.2)) (some (.no,p46.2))) fun p48=>bnd (C5 v34 p48.1 (.c (.b false))) fun v49=>some (v49,p48.2):=by kernel_rfl
theorem K_er14_May:FnK Tryz.prog 63 A_er14_May A5R A6t:=.mk' (C3) Tryz.func63 (by kernel_rfl) (by intro n args h;kernel_rfl)
def A2y:Fun:=tidy (Lim A_er14_May A5R)
theorem B3k:SOk Tryz.prog 63 A2y:=K_er14_May.sok
theorem D4L {n:Nat} {args:List Val} {h h2:A0} {v:Val} (he:A6t n args (ro h)=some (v,h2)) (hf:v.flat=true):A2y args h=some (v,h):=K_er14_May.flat he hf
def C0p:List AOper:=[aO 1 (.box (.t 0)),aO 2 (.nilrow 1)]
def F9z:ACode:=.ops C0p
def C0q:List AOper:=[aO 4 (.buildSl 1 8 ([.i .u8 0,.i .u8 0,.i .u8 0,.i .u8 0,.i .u8 0,.i .u8 0,.i .u8 0,.i .u8 0]) [(0,1,(.v (.c (.i .u8 101)))),(1,1,(.v (.c (.i .u8 115)))),(2,1,(.v (.c (.i .u8 99)))),(3,1,(.v (.c (.i .u8 104)))),(4,1,(.v (.c (.i .u8 101)))),(5,1,(.v (.c (.i .u8 97)))),(6,1,(.v (.c (.i .u8 116)))),(7,1,(.v (.c (.i .u8 49))))]),aO 5 (.mark (.t 4)),aO 6 (.fAddr (.t 1) 0),aO 7 (.load1 (.t 6)),aO 8 (.conv .u64 (.t 7)),aO 9 (.call 90 [(.v (.c (.i .i64 2))),(.t 8)]),aO 10 (.app 1 (.t 5) (.t 9)),aO 3 (.mv (.t 10))]
def F9B:ACode:=.ops C0q
def C0r:List AOper:=[aO 11 (.mv (.t 3)),aO 12 (.fAddr (.t 1) 1),aO 13 (.load1 (.t 12)),aO 14 (.conv .u64 (.t 13)),aO 15 (.call 90 [(.v (.c (.i .i64 2))),(.t 14)]),aO 16 (.app 1 (.t 11) (.t 15)),aO 3 (.mv (.t 16))]
def F9H:ACode:=.ops C0r
def C0s:List AOper:=[aO 17 (.mv (.t 3)),aO 18 (.fAddr (.t 1) 2),aO 19 (.load1 (.t 18)),aO 20 (.call 90 [(.v (.c (.i .i64 8))),(.t 19)]),aO 21 (.app 1 (.t 17) (.t 20)),aO 3 (.mv (.t 21))]
def F9J:ACode:=.ops C0s
def C0t:List AOper:=[aO 22 (.mv (.t 3)),aO 23 (.mv (.t 3)),aO 24 (.b2s (.t 23)),aO 25 (.call 40 [(.t 24)]),aO 26 (.call 90 [(.v (.c (.i .i64 4))),(.t 25)]),aO 27 (.app 1 (.t 22) (.t 26)),aO 3 (.mv (.t 27))]
def F9L:ACode:=.ops C0t
def C0u:List AOper:=[aO 28 (.mkSl 1 ([.i .u8 0]) (.v (.c (.i .i64 256))) (.v (.c (.i .i64 256)))),aO 29 (.mv (.t 3)),aO 30 (.call 104 [(.t 28),(.v (.c (.i .i64 0))),(.t 29)]),aO 2 (.mv (.t 30))]
def F9N:ACode:=.ops C0u
def F9P:ACode:=.seq [2] F9N .ret
def F9R:ACode:=.seq [3] F9L F9P
def F9T:ACode:=.seq [3] F9J F9R
def F9V:ACode:=.seq [1,3] F9H F9T
def F9C:ACode:=.seq [1,3] F9B F9V
def F9E:ACode:=.seq [1] F9z F9C
def A_er14_Put:AFn:=⟨F9E,[.tmp 2]⟩
def A1t:B6:=B1 90 V7 (B1 40 A2v (B1 104 A2u C1))
def F9A (n:Nat):SmV:=A2 A1t C0p
def F9G (n:Nat):SmV:=A2 A1t C0q
def F9I (n:Nat):SmV:=A2 A1t C0r
def F9K (n:Nat):SmV:=A2 A1t C0s
def F9M (n:Nat):SmV:=A2 A1t C0t
def F9O (n:Nat):SmV:=A2 A1t C0u
def F9Q (n:Nat):SmV:=A1 [2] (F9O n) A8
def F9S (n:Nat):SmV:=A1 [3] (F9M n) (F9Q n)
def F9U (n:Nat):SmV:=A1 [3] (F9K n) (F9S n)
def F9W (n:Nat):SmV:=A1 [1,3] (F9I n) (F9U n)
def F9D (n:Nat):SmV:=A1 [1,3] (F9G n) (F9W n)
def F9F (n:Nat):SmV:=A1 [1] (F9A n) (F9D n)
def A6u (n:Nat) (args:List Val) (h:A0):A6:=(F9F n) A_er14_Put.fin (params 0 args) h
theorem D2K (n:Nat) (a0:Val) (h:A0):A6u n [a0] h=bnd (cells? a0) fun c1=>bnd (B0 ([.i .u8 0,.i .u8 0,.i .u8 0,.i .u8 0,.i .u8 0,.i .u8 0,.i .u8 0,.i .u8 0]) [(0,1,.c (.i .u8 101)),(1,1,.c (.i .u8 115)),(2,1,.c (.i .u8 99)),(3,1,.c (.i .u8 104)),(4,1,.c (.i .u8 101)),(5,1,.c (.i .u8 97)),(6,1,.c (.i .u8 116)),(7,1,.c (.i .u8 49))]) fun c2=>bnd (O3 ((((h ++ [some (Row.mk (c1) true)]) ++ [some (Row.mk ([]) true)]) ++ [some (Row.mk (c2) true)])) ((.c (.sl (((h ++ [some (Row.mk (c1) true)]) ++ [some (Row.mk ([]) true)])).length 0 8 1)))) fun v3=>bnd (B9 ((.c (.p h.length 0))) 0) fun v4=>bnd (A9 ((((h ++ [some (Row.mk (c1) true)]) ++ [some (Row.mk ([]) true)]) ++ [some (Row.mk (c2) true)])) v4) fun v5=>bnd (G8 .u64 v5) fun v6=>bnd (V7 [.c (.i .i64 2),v6] ((((h ++ [some (Row.mk (c1) true)]) ++ [some (Row.mk ([]) true)]) ++ [some (Row.mk (c2) true)]))) fun p7=>bnd (E5 p7.2 1 v3 p7.1) fun p8=>bnd (B9 ((.c (.p h.length 0))) 1) fun v9=>bnd (A9 p8.2 v9) fun v10=>bnd (G8 .u64 v10) fun v11=>bnd (V7 [.c (.i .i64 2),v11] p8.2) fun p12=>bnd (E5 p12.2 1 p8.1 p12.1) fun p13=>bnd (B9 ((.c (.p h.length 0))) 2) fun v14=>bnd (A9 p13.2 v14) fun v15=>bnd (V7 [.c (.i .i64 8),v15] p13.2) fun p16=>bnd (E5 p16.2 1 p13.1 p16.1) fun p17=>bnd (N7 p17.2 p17.1) fun v18=>bnd (A2v [v18] p17.2) fun p19=>bnd (V7 [.c (.i .i64 4),p19.1] p19.2) fun p20=>bnd (E5 p20.2 1 p17.1 p20.1) fun p21=>bnd (U4 (.c (.i .i64 256)) (.c (.i .i64 256))) fun n22=>bnd (A2u [(.c (.sl p21.2.length 0 n22 1)),.c (.i .i64 0),p21.1] ((p21.2 ++ [some (Row.mk (rows ([.i .u8 0]) n22) true)]))) fun p23=>some (p23.1,p23.2):=by kernel_rfl
theorem K_er14_Put:FnK Tryz.prog 64 A_er14_Put A1t A6u:=.mk' (B3 B01 (B3 B3h (B3 B3g C3))) Tryz.func64 (by kernel_rfl) (by intro n args h;kernel_rfl)
def A4u:Fun:=tidy (Lim A_er14_Put A1t)
theorem D4M:SOk Tryz.prog 64 A4u:=K_er14_Put.sok
theorem D4N {n:Nat} {args:List Val} {h h2:A0} {v:Val} {sz k:Nat} {cs:List Cell} (he:A6u n args (ro h)=some (v,h2)) (ho:Out h.length h2 v sz k cs) (hf:D9 cs=true):A4u args h=some (.c (.sl h.length 0 k sz),h ++ [some ⟨cs,true⟩]):=K_er14_Put.out he ho hf
def C0h:List AOper:=[aO 2 (.alloc ([.i .i64 0,.i .i64 0,.i .u64 0])),aO 3 (.mv (.v (.c (.b false))))]
def F8Z:ACode:=.ops C0h
def C0i:List AOper:=[aO 8 (.mv (.t 0)),aO 9 (.call 62 [(.t 8),(.v (.c (.i .i64 12))),(.v (.c (.i .i64 8)))]),aO 7 (.mv (.t 9)),aO 10 (.ext (.t 7) 0),aO 11 (.ext (.t 7) 1),aO 4 (.mv (.t 10)),aO 5 (.mv (.t 11))]
def F81:ACode:=.ops C0i
def C0j:List AOper:=[aO 12 (.mv (.t 0)),aO 13 (.call 51 [(.t 12),(.v (.c (.i .i64 8))),(.v (.c (.i .i64 2)))]),aO 14 (.mv (.t 0)),aO 15 (.call 51 [(.t 14),(.v (.c (.i .i64 10))),(.v (.c (.i .i64 2)))]),aO 16 (.mv (.t 4)),aO 17 (.build ([.i .i64 0,.i .i64 0,.i .u64 0]) [(0,1,(.t 13)),(1,1,(.t 15)),(2,1,(.t 16))]),aO 6 (.alloc ([.i .i64 0,.i .i64 0,.i .u64 0])),{ dst:=none,op:=.storeN 3 (.t 6) (.t 17) }]
def F9b:ACode:=.ops C0j
def C0k:List AOper:=[aO 18 (.loadN 3 (.t 6)),aO 19 (.call 63 [(.t 18)]),aO 20 (.un .not (.t 19)),aO 21 (.mv (.t 20)),{ dst:=some 22,op:=.loadN 3 (.t 6),guard:=some (21,false) },{ dst:=some 23,op:=.call 64 [(.t 22)],guard:=some (21,false) },{ dst:=some 24,op:=.mv (.t 0),guard:=some (21,false) },{ dst:=some 25,op:=.call 53 [(.t 23),(.t 24)],guard:=some (21,false) },{ dst:=some 26,op:=.un .not (.t 25),guard:=some (21,false) },aO 27 (.pick (.t 21) (.v (.c (.b true))) (.t 26))]
def F9d:ACode:=.ops C0k
def C0l:List AOper:=[aO 28 (.build ([.i .i64 0,.i .i64 0,.i .u64 0]) []),{ dst:=none,op:=.storeN 3 (.t 2) (.t 28) },aO 3 (.mv (.v (.c (.b false))))]
def F9f:ACode:=.ops C0l
def F9h:ACode:=.seq [2,3] F9f .ret
def F9j:ACode:=.cond (.t 27) F9h .skip
def F9l:ACode:=.seq [2,6,27] F9d F9j
def C0m:List AOper:=[aO 29 (.loadN 3 (.t 6)),{ dst:=none,op:=.storeN 3 (.t 2) (.t 29) },aO 3 (.mv (.v (.c (.b true))))]
def F9n:ACode:=.ops C0m
def F9p:ACode:=.seq [2,3] F9n .ret
def F82:ACode:=.seq [2,6] F9l F9p
def F84:ACode:=.seq [0,2,6] F9b F82
def F86:ACode:=.seq [0,2,4] F81 F84
def F88:ACode:=.seq [0,2] F8Z F86
def A_er14_Get:AFn:=⟨F88,[.cellN 2 3,.tmp 3]⟩
def A1s:B6:=B1 62 A2t (B1 51 X7 (B1 63 A2y (B1 64 A4u (B1 53 A0h C1))))
def F80 (n:Nat):SmV:=A2 A1s C0h
def F9a (n:Nat):SmV:=A2 A1s C0i
def F9c (n:Nat):SmV:=A2 A1s C0j
def F9e (n:Nat):SmV:=A2 A1s C0k
def F9g (n:Nat):SmV:=A2 A1s C0l
def F9i (n:Nat):SmV:=A1 [2,3] (F9g n) A8
def F9k (n:Nat):SmV:=B8 (.t 27) (F9i n) C0
def F9m (n:Nat):SmV:=A1 [2,6,27] (F9e n) (F9k n)
def F9o (n:Nat):SmV:=A2 A1s C0m
def F9q (n:Nat):SmV:=A1 [2,3] (F9o n) A8
def F83 (n:Nat):SmV:=A1 [2,6] (F9m n) (F9q n)
def F85 (n:Nat):SmV:=A1 [0,2,6] (F9c n) (F83 n)
def F87 (n:Nat):SmV:=A1 [0,2,4] (F9a n) (F85 n)
def F89 (n:Nat):SmV:=A1 [0,2] (F80 n) (F87 n)
def A6s (n:Nat) (args:List Val) (h:A0):A6:=(F89 n) A_er14_Get.fin (params 0 args) h
theorem D2I (n:Nat) (a0:Val) (h:A0):A6s n [a0] h=bnd (A2t [a0,.c (.i .i64 12),.c (.i .i64 8)] ((h ++ [some (Row.mk ([.i .i64 0,.i .i64 0,.i .u64 0]) true)]))) fun p1=>bnd (C2 p1.1 0) fun v2=>bnd (C2 p1.1 1) fun v3=>bnd (X7 [a0,.c (.i .i64 8),.c (.i .i64 2)] p1.2) fun p4=>bnd (X7 [a0,.c (.i .i64 10),.c (.i .i64 2)] p4.2) fun p5=>bnd (B0 ([.i .i64 0,.i .i64 0,.i .u64 0]) [(0,1,p4.1),(1,1,p5.1),(2,1,v2)]) fun c6=>bnd (B7 ((p5.2 ++ [some (Row.mk ([.i .i64 0,.i .i64 0,.i .u64 0]) true)])) 3 ((.c (.p p5.2.length 0))) ((.a c6))) fun h7=>bnd (A5 h7 3 ((.c (.p p5.2.length 0)))) fun v8=>bnd (A2y [v8] h7) fun p9=>bnd (aun .not p9.1) fun v10=>bnd (gd v10 false (bnd (A5 p9.2 3 ((.c (.p p5.2.length 0)))) fun v11=>some (v11,p9.2)) (some (.no,p9.2))) fun p12=>bnd (gd v10 false (bnd (A4u [p12.1] p12.2) fun p13=>some (p13.1,p13.2)) (some (.no,p12.2))) fun p14=>bnd (gd v10 false (some (a0,p14.2)) (some (.no,p14.2))) fun p15=>bnd (gd v10 false (bnd (A0h [p14.1,p15.1] p15.2) fun p16=>some (p16.1,p16.2)) (some (.no,p15.2))) fun p17=>bnd (gd v10 false (bnd (aun .not p17.1) fun v18=>some (v18,p17.2)) (some (.no,p17.2))) fun p19=>bnd (C5 v10 (.c (.b true)) p19.1) fun v20=>cnd v20 (bnd (B0 ([.i .i64 0,.i .i64 0,.i .u64 0]) []) fun c21=>bnd (B7 p19.2 3 ((.c (.p h.length 0))) ((.a c21))) fun h22=>C7 [A5 h22 3 ((.c (.p h.length 0))),some (.c (.b false))] h22) (bnd (A5 p19.2 3 ((.c (.p p5.2.length 0)))) fun v23=>bnd (B7 p19.2 3 ((.c (.p h.length 0))) v23) fun h24=>C7 [A5 h24 3 ((.c (.p h.length 0))),some (.c (.b true))] h24):=by kernel_rfl
theorem K_er14_Get:FnK Tryz.prog 27 A_er14_Get A1s A6s:=.mk' (B3 B3f (B3 B00 (B3 B3k (B3 D4M (B3 A7o C3))))) Tryz.func27 (by kernel_rfl) (by intro n args h;kernel_rfl)
def A4t:Fun:=tidy (Lim A_er14_Get A1s)
theorem D4K:SOk Tryz.prog 27 A4t:=K_er14_Get.sok
theorem D4J {n:Nat} {args:List Val} {h h2:A0} {v:Val} (he:A6s n args (ro h)=some (v,h2)) (hf:v.flat=true):A4t args h=some (v,h):=K_er14_Get.flat he hf
end Go.Proofs.YtdgggnlbdoiloaaGreat
end
noncomputable section
namespace Go.Proofs.YtdgggnlbdoiloaaGreat
open Go Go.Esc
set_option maxRecDepth 100000
def C0v:List AOper:=[aO 2 (.box (.t 0)),aO 4 (.mv (.v (.c (.i .i64 0))))]
def F9X:ACode:=.ops C0v
def C0w:List AOper:=[aO 5 (.loadN 3 (.t 2)),aO 6 (.call 63 [(.t 5)]),aO 7 (.un .not (.t 6)),aO 8 (.mv (.t 7)),{ dst:=some 9,op:=.mv (.t 1),guard:=some (8,false) },{ dst:=some 10,op:=.bin .lss (.t 9) (.v (.c (.i .i64 0))),guard:=some (8,false) },aO 11 (.pick (.t 8) (.v (.c (.b true))) (.t 10)),aO 12 (.mv (.t 11)),{ dst:=some 13,op:=.mv (.t 1),guard:=some (12,false) },{ dst:=some 14,op:=.fAddr (.t 2) 0,guard:=some (12,false) },{ dst:=some 15,op:=.load1 (.t 14),guard:=some (12,false) },{ dst:=some 16,op:=.bin .geq (.t 13) (.t 15),guard:=some (12,false) },aO 17 (.pick (.t 12) (.v (.c (.b true))) (.t 16))]
def F9Z:ACode:=.ops C0w
def C0x:List AOper:=[aO 4 (.mv (.v (.c (.i .i64 0))))]
def G0l:ACode:=.ops C0x
def G0r:ACode:=.seq [4] G0l .ret
def G0t:ACode:=.cond (.t 17) G0r .skip
def G0v:ACode:=.seq [1,2,17] F9Z G0t
def C0y:List AOper:=[aO 18 (.mv (.t 1)),aO 19 (.bin .lss (.t 18) (.v (.c (.i .i64 2))))]
def G0x:ACode:=.ops C0y
def C0z:List AOper:=[aO 20 (.mv (.t 1)),aO 21 (.bin .add (.t 20) (.v (.c (.i .i64 1)))),aO 4 (.mv (.t 21))]
def G0z:ACode:=.ops C0z
def G0B:ACode:=.seq [4] G0z .ret
def G0D:ACode:=.cond (.t 19) G0B .skip
def F90:ACode:=.seq [1,2,19] G0x G0D
def C0A:List AOper:=[aO 22 (.mv (.t 1)),aO 23 (.bin .sub (.t 22) (.v (.c (.i .i64 2)))),aO 24 (.bin .mul (.t 23) (.v (.c (.i .i64 8)))),aO 25 (.fAddr (.t 2) 1),aO 26 (.load1 (.t 25)),aO 27 (.bin .lss (.t 24) (.t 26))]
def F92:ACode:=.ops C0A
def C0B:List AOper:=[aO 4 (.mv (.v (.c (.i .i64 3))))]
def F94:ACode:=.ops C0B
def F96:ACode:=.seq [4] F94 .ret
def F98:ACode:=.cond (.t 27) F96 .skip
def G0a:ACode:=.seq [27] F92 F98
def C0C:List AOper:=[aO 4 (.mv (.v (.c (.i .i64 4))))]
def G0c:ACode:=.ops C0C
def G0e:ACode:=.seq [4] G0c .ret
def G0g:ACode:=.seq [] G0a G0e
def G0i:ACode:=.seq [1,2] F90 G0g
def G0m:ACode:=.seq [1,2] G0v G0i
def G0o:ACode:=.seq [1,2] F9X G0m
def A_er15_Area:AFn:=⟨G0o,[.tmp 4]⟩
def A0v:B6:=B1 63 A2y C1
def F9Y (n:Nat):SmV:=A2 A0v C0v
def G0k (n:Nat):SmV:=A2 A0v C0w
def G0q (n:Nat):SmV:=A2 A0v C0x
def G0s (n:Nat):SmV:=A1 [4] (G0q n) A8
def G0u (n:Nat):SmV:=B8 (.t 17) (G0s n) C0
def G0w (n:Nat):SmV:=A1 [1,2,17] (G0k n) (G0u n)
def G0y (n:Nat):SmV:=A2 A0v C0y
def G0A (n:Nat):SmV:=A2 A0v C0z
def G0C (n:Nat):SmV:=A1 [4] (G0A n) A8
def G0E (n:Nat):SmV:=B8 (.t 19) (G0C n) C0
def F91 (n:Nat):SmV:=A1 [1,2,19] (G0y n) (G0E n)
def F93 (n:Nat):SmV:=A2 A0v C0A
def F95 (n:Nat):SmV:=A2 A0v C0B
def F97 (n:Nat):SmV:=A1 [4] (F95 n) A8
def F99 (n:Nat):SmV:=B8 (.t 27) (F97 n) C0
def G0b (n:Nat):SmV:=A1 [27] (F93 n) (F99 n)
def G0d (n:Nat):SmV:=A2 A0v C0C
def G0f (n:Nat):SmV:=A1 [4] (G0d n) A8
def G0h (n:Nat):SmV:=A1 [] (G0b n) (G0f n)
def G0j (n:Nat):SmV:=A1 [1,2] (F91 n) (G0h n)
def G0n (n:Nat):SmV:=A1 [1,2] (G0w n) (G0j n)
def G0p (n:Nat):SmV:=A1 [1,2] (F9Y n) (G0n n)
def A6v (n:Nat) (args:List Val) (h:A0):A6:=(G0p n) A_er15_Area.fin (params 0 args) h
theorem D2L (n:Nat) (a0 a1:Val) (h:A0):A6v n [a0,a1] h=bnd (cells? a0) fun c1=>bnd (A5 ((h ++ [some (Row.mk (c1) true)])) 3 ((.c (.p h.length 0)))) fun v2=>bnd (A2y [v2] ((h ++ [some (Row.mk (c1) true)]))) fun p3=>bnd (aun .not p3.1) fun v4=>bnd (gd v4 false (some (a1,p3.2)) (some (.no,p3.2))) fun p5=>bnd (gd v4 false (bnd (A4 .lss p5.1 (.c (.i .i64 0))) fun v6=>some (v6,p5.2)) (some (.no,p5.2))) fun p7=>bnd (C5 v4 (.c (.b true)) p7.1) fun v8=>bnd (gd v8 false (some (a1,p7.2)) (some (.no,p7.2))) fun p9=>bnd (gd v8 false (bnd (B9 ((.c (.p h.length 0))) 0) fun v10=>some (v10,p9.2)) (some (.no,p9.2))) fun p11=>bnd (gd v8 false (bnd (A9 p11.2 p11.1) fun v12=>some (v12,p11.2)) (some (.no,p11.2))) fun p13=>bnd (gd v8 false (bnd (A4 .geq p9.1 p13.1) fun v14=>some (v14,p13.2)) (some (.no,p13.2))) fun p15=>bnd (C5 v8 (.c (.b true)) p15.1) fun v16=>cnd v16 (some ((.c (.i .i64 0)),p15.2)) (bnd (A4 .lss a1 (.c (.i .i64 2))) fun v17=>cnd v17 (bnd (A4 .add a1 (.c (.i .i64 1))) fun v18=>some (v18,p15.2)) (bnd (A4 .sub a1 (.c (.i .i64 2))) fun v19=>bnd (A4 .mul v19 (.c (.i .i64 8))) fun v20=>bnd (B9 ((.c (.p h.length 0))) 1) fun v21=>bnd (A9 p15.2 v21) fun v22=>bnd (A4 .lss v20 v22) fun v23=>cnd v23 (some ((.c (.i .i64 3)),p15.2)) (some ((.c (.i .i64 4)),p15.2)))):=by kernel_rfl
theorem K_er15_Area:FnK Tryz.prog 74 A_er15_Area A0v A6v:=.mk' (B3 B3k C3) Tryz.func74 (by kernel_rfl) (by intro n args h;kernel_rfl)
def A4v:Fun:=tidy (Lim A_er15_Area A0v)
theorem D4P:SOk Tryz.prog 74 A4v:=K_er15_Area.sok
theorem D4O {n:Nat} {args:List Val} {h h2:A0} {v:Val} (he:A6v n args (ro h)=some (v,h2)) (hf:v.flat=true):A4v args h=some (v,h):=K_er15_Area.flat he hf
end Go.Proofs.YtdgggnlbdoiloaaGreat
end
section
namespace Go.Proofs.YtdgggnlbdoiloaaGreat
open Go Go.Esc
def G7 (b n:Int):Bool:=decide (16 ≤ b) && decide (b ≤ 512) && decide (8 ≤ n) && decide (n ≤ 128) && decide (n % 8=0) && decide (2 + n / 8 < b)
theorem A28 {b n:Int}:G7 b n=true ↔ 16 ≤ b ∧ b ≤ 512 ∧ 8 ≤ n ∧ n ≤ 128 ∧ n % 8=0 ∧ 2 + n / 8 < b:=by
  unfold G7;simp [and_assoc]
theorem Y7 {b n:Int}:G7 b n=false ↔ ¬ (16 ≤ b ∧ b ≤ 512 ∧ 8 ≤ n ∧ n ≤ 128 ∧ n % 8=0 ∧ 2 + n / 8 < b):=by
  rw [← A28];simp
abbrev C4 (b n m:Int):List Cell:=[.i .i64 b,.i .i64 n,.i .u64 m]
theorem B0b {b n m:Int} {h:A0}:A2N [.a (C4 b n m)] h=some (.c (.i .i64 (bif G7 b n then 0 else 1)),h):=by
  have key:∀ g,∃ g',A7c 0 [.a (C4 b n m)] g=some (.c (.i .i64 (bif G7 b n then 0 else 1)),g'):=by
    intro g
    rw [D3H]
    have bad:G7 b n=false → (some (Val.c (.i .i64 1),g ++ [some ⟨C4 b n m,true⟩]))=some (.c (.i .i64 (bif G7 b n then 0 else 1)),g ++ [some ⟨C4 b n m,true⟩]):=fun h=>by rw [h];rfl
    by_cases c1:b < 16
    · rw [Y7.2 (by omega)]
      exact ⟨_,by simp only [esc,esh,Nat.reduceAdd,Nat.reduceMul,Nat.reduceLT,c1,A3h] <;> rfl⟩
    · by_cases c2:512 < b
      · rw [Y7.2 (by omega)]
        exact ⟨_,by simp only [esc,esh,Nat.reduceAdd,Nat.reduceMul,Nat.reduceLT,c1,c2,A3h] <;> rfl⟩
      · by_cases c3:n < 8
        · rw [Y7.2 (by omega)]
          exact ⟨_,by simp only [esc,esh,Nat.reduceAdd,Nat.reduceMul,Nat.reduceLT,c1,c2,c3,A3h,A5J] <;> rfl⟩
        · by_cases c4:128 < n
          · rw [Y7.2 (by omega)]
            exact ⟨_,by simp only [esc,esh,Nat.reduceAdd,Nat.reduceMul,Nat.reduceLT,c1,c2,c3,c4,A3h,A5J] <;> rfl⟩
          · have e1:=A35 (a:=n) (b:=8) (k:=.i64) (by omega) (by omega)
            by_cases c5:n % 8=0
            · have e2:=A5C (a:=n) (b:=8) (by omega) (by omega) (by omega)
              have e3:IntKind.wrap .i64 (2 + n / 8)=2 + n / 8:=wrap_i64 (by omega) (by omega)
              by_cases c6:b ≤ 2 + n / 8
              · rw [Y7.2 (by omega)]
                exact ⟨_,by simp only [esc,esh,Nat.reduceAdd,Nat.reduceMul,Nat.reduceLT,c1,c2,c3,c4,e1,c5,e2,e3,c6,A3h,A5J] <;> rfl⟩
              · rw [A28.2 (by omega)]
                exact ⟨_,by simp only [esc,esh,Nat.reduceAdd,Nat.reduceMul,Nat.reduceLT,c1,c2,c3,c4,e1,c5,e2,e3,c6,A3h,A5J] <;> rfl⟩
            · rw [Y7.2 (by omega)]
              exact ⟨_,by simp only [esc,esh,Nat.reduceAdd,Nat.reduceMul,Nat.reduceLT,c1,c2,c3,c4,e1,c5,A3h,A5J] <;> rfl⟩
  obtain ⟨g',e⟩:=key (ro h)
  exact D6h e (by simp)
theorem A3f {b n m:Int} {h:A0}:A2y [.a (C4 b n m)] h=some (.c (.b (G7 b n)),h):=by
  have key:∀ g,∃ g',A6t 0 [.a (C4 b n m)] g=some (.c (.b (G7 b n)),g'):=by
    intro g
    rw [D2J]
    by_cases c1:16 ≤ b
    · by_cases c2:b ≤ 512
      · by_cases c3:8 ≤ n
        · by_cases c4:n ≤ 128
          · have e1:=A35 (a:=n) (b:=8) (k:=.i64) (by omega) (by omega)
            by_cases c5:n % 8=0
            · have e2:=A5C (a:=n) (b:=8) (by omega) (by omega) (by omega)
              have e3:IntKind.wrap .i64 (2 + n / 8)=2 + n / 8:=wrap_i64 (by omega) (by omega)
              by_cases c6:2 + n / 8 < b
              · rw [A28.2 (by omega)]
                exact ⟨_,by simp only [esc,esh,Nat.reduceAdd,Nat.reduceMul,Nat.reduceLT,c1,c2,c3,c4,e1,c5,e2,e3,c6] <;> rfl⟩
              · rw [Y7.2 (by omega)]
                exact ⟨_,by simp only [esc,esh,Nat.reduceAdd,Nat.reduceMul,Nat.reduceLT,c1,c2,c3,c4,e1,c5,e2,e3,c6] <;> rfl⟩
            · rw [Y7.2 (by omega)]
              exact ⟨_,by simp only [esc,esh,Nat.reduceAdd,Nat.reduceMul,Nat.reduceLT,c1,c2,c3,c4,e1,c5] <;> rfl⟩
          · rw [Y7.2 (by omega)]
            exact ⟨_,by simp only [esc,esh,Nat.reduceAdd,Nat.reduceMul,Nat.reduceLT,c1,c2,c3,c4] <;> rfl⟩
        · rw [Y7.2 (by omega)]
          exact ⟨_,by simp only [esc,esh,Nat.reduceAdd,Nat.reduceMul,Nat.reduceLT,c1,c2,c3] <;> rfl⟩
      · rw [Y7.2 (by omega)]
        exact ⟨_,by simp only [esc,esh,Nat.reduceAdd,Nat.reduceMul,Nat.reduceLT,c1,c2] <;> rfl⟩
    · rw [Y7.2 (by omega)]
      exact ⟨_,by simp only [esc,esh,Nat.reduceAdd,Nat.reduceMul,Nat.reduceLT,c1] <;> rfl⟩
  obtain ⟨g',e⟩:=key (ro h)
  exact D4L e (by simp)
theorem A1R {b n m:Int} {h:A0}:A06 [.a (C4 b n m)] h=some (.c (.b (G7 b n)),h):=by
  have key:∀ g,∃ g',A6N 0 [.a (C4 b n m)] g=some (.c (.b (G7 b n)),g'):=by
    intro g
    rw [D29]
    cases c:G7 b n with
    | true=>exact ⟨_,by simp only [esc,esh,Nat.reduceAdd,Nat.reduceMul,Nat.reduceLT,B0b,c] <;> rfl⟩
    | false=>exact ⟨_,by simp only [esc,esh,Nat.reduceAdd,Nat.reduceMul,Nat.reduceLT,B0b,c,Int.reduceEq] <;> rfl⟩
  obtain ⟨g',e⟩:=key (ro h)
  exact D5q e (by simp)
theorem G91 {h:A0}:A4I [] h=some (.c (.i .i64 1),h) :=
  D5l (n:=0) (h2:=ro h) (by rw [D26]) rfl
def A0N (b n:Int):Int:=bif G7 b n then 2 else 0
def A2a (b n:Int):Int:=bif G7 b n then n / 8 else 0
def Y1 (b n:Int):Int:=A0N b n + A2a b n
theorem C20 {b n m:Int} {h:A0}:A2E [.a (C4 b n m)] h=some (.t [.c (.i .i64 (A0N b n)),.c (.i .i64 (A2a b n))],h):=by
  have key:∀ g,∃ g',A6L 0 [.a (C4 b n m)] g=some (.t [.c (.i .i64 (A0N b n)),.c (.i .i64 (A2a b n))],g'):=by
    intro g
    rw [D27]
    unfold A0N A2a
    cases c:G7 b n with
    | true =>
      have c':=A28.1 c
      have e2:=A5C (a:=n) (b:=8) (by omega) (by omega) (by omega)
      have e3:IntKind.wrap .i64 (1 + 1)=2:=wrap_i64 (by omega) (by omega)
      exact ⟨_,by simp only [esc,esh,Nat.reduceAdd,Nat.reduceMul,Nat.reduceLT,A1R,c,G91,e2,e3] <;> rfl⟩
    | false=>exact ⟨_,by simp only [esc,esh,Nat.reduceAdd,Nat.reduceMul,Nat.reduceLT,A1R,c] <;> rfl⟩
  obtain ⟨g',e⟩:=key (ro h)
  exact D5n e (by simp)
theorem E3w {b n:Int}:0 ≤ Y1 b n ∧ Y1 b n ≤ 18:=by
  unfold Y1 A0N A2a
  cases c:G7 b n with
  | true=>have:=A28.1 c;simp only [cond_true];omega
  | false=>simp only [cond_false];omega
theorem C2P {b n m:Int} {h:A0}:A4G [.a (C4 b n m)] h=some (.c (.i .i64 (Y1 b n)),h):=by
  have key:∀ g,∃ g',A6I 0 [.a (C4 b n m)] g=some (.c (.i .i64 (Y1 b n)),g'):=by
    intro g
    rw [D22]
    have hr:=E3w (b:=b) (n:=n)
    have e3:IntKind.wrap .i64 (A0N b n + A2a b n)=Y1 b n:=wrap_i64 (by unfold Y1 at hr;omega) (by unfold Y1 at hr;omega)
    exact ⟨_,by simp only [esc,esh,Nat.reduceAdd,Nat.reduceMul,Nat.reduceLT,C20,e3] <;> rfl⟩
  obtain ⟨g',e⟩:=key (ro h)
  exact D5g e (by simp)
def S7 (b n i:Int):Bool:=G7 b n && decide (1 ≤ i) && decide (i ≤ n)
def N0 (b n i:Int):Bool:=G7 b n && decide (Y1 b n ≤ i) && decide (i < b)
theorem C2V {b n m i:Int} {h:A0}:A4H [.a (C4 b n m),.c (.i .i64 i)] h=some (.c (.b (S7 b n i)),h):=by
  have key:∀ g,∃ g',A6K 0 [.a (C4 b n m),.c (.i .i64 i)] g=some (.c (.b (S7 b n i)),g'):=by
    intro g
    rw [D25]
    unfold S7
    cases c:G7 b n with
    | true =>
      by_cases c1:1 ≤ i
      · exact ⟨_,by simp only [esc,esh,Nat.reduceAdd,Nat.reduceMul,Nat.reduceLT,A1R,c,c1] <;> rfl⟩
      · exact ⟨_,by simp only [esc,esh,Nat.reduceAdd,Nat.reduceMul,Nat.reduceLT,A1R,c,c1] <;> rfl⟩
    | false=>exact ⟨_,by simp only [esc,esh,Nat.reduceAdd,Nat.reduceMul,Nat.reduceLT,A1R,c] <;> rfl⟩
  obtain ⟨g',e⟩:=key (ro h)
  exact D5j e (by simp)
theorem B12 {b n m i:Int} {h:A0}:A05 [.a (C4 b n m),.c (.i .i64 i)] h=some (.c (.b (N0 b n i)),h):=by
  have key:∀ g,∃ g',A6J 0 [.a (C4 b n m),.c (.i .i64 i)] g=some (.c (.b (N0 b n i)),g'):=by
    intro g
    rw [D23]
    unfold N0
    cases c:G7 b n with
    | true =>
      by_cases c1:Y1 b n ≤ i
      · exact ⟨_,by simp only [esc,esh,Nat.reduceAdd,Nat.reduceMul,Nat.reduceLT,A1R,C2P,c,c1] <;> rfl⟩
      · exact ⟨_,by simp only [esc,esh,Nat.reduceAdd,Nat.reduceMul,Nat.reduceLT,A1R,C2P,c,c1] <;> rfl⟩
    | false=>exact ⟨_,by simp only [esc,esh,Nat.reduceAdd,Nat.reduceMul,Nat.reduceLT,A1R,c] <;> rfl⟩
  obtain ⟨g',e⟩:=key (ro h)
  exact D5i e (by simp)
def A3j (b n i:Int):Int:=bif S7 b n i then 2 + (i - 1) / 8 else 0
def A3k (b n i:Int):Int:=bif S7 b n i then (i - 1) % 8 else 0
theorem I0z {b n i:Int}:S7 b n i=true ↔ G7 b n=true ∧ 1 ≤ i ∧ i ≤ n:=by
  unfold S7;simp [and_assoc]
theorem C26 {b n m i:Int} {h:A0}:A4J [.a (C4 b n m),.c (.i .i64 i)] h=some (.t [.c (.i .i64 (A3j b n i)),.c (.i .i64 (A3k b n i)),.c (.b (S7 b n i))],h):=by
  have key:∀ g,∃ g',A6M 0 [.a (C4 b n m),.c (.i .i64 i)] g=some (.t [.c (.i .i64 (A3j b n i)),.c (.i .i64 (A3k b n i)),.c (.b (S7 b n i))],g'):=by
    intro g
    rw [D28]
    unfold A3j A3k
    cases c:S7 b n i with
    | true =>
      obtain ⟨c1,c2,c3⟩:=I0z.1 c
      have c':=A28.1 c1
      have e0:A0N b n=2:=by unfold A0N;rw [c1];rfl
      have e1:IntKind.wrap .i64 (i - 1)=i - 1:=wrap_i64 (by omega) (by omega)
      have e2:=A5C (a:=i - 1) (b:=8) (by omega) (by omega) (by omega)
      have e3:IntKind.wrap .i64 (2 + (i - 1) / 8)=2 + (i - 1) / 8:=wrap_i64 (by omega) (by omega)
      have e4:=A35 (a:=i - 1) (b:=8) (k:=.i64) (by omega) (by omega)
      exact ⟨_,by simp only [esc,esh,Nat.reduceAdd,Nat.reduceMul,Nat.reduceLT,C2V,c,C20,e0,e1,e2,e3,e4] <;> rfl⟩
    | false=>exact ⟨_,by simp only [esc,esh,Nat.reduceAdd,Nat.reduceMul,Nat.reduceLT,C2V,c] <;> rfl⟩
  obtain ⟨g',e⟩:=key (ro h)
  exact D5o e (by simp)
def A5c (b n no:Int):Int:=if G7 b n=true ∧ 0 ≤ no ∧ no < b then (if no < 2 then no + 1 else if (no - 2) * 8 < n then 3 else 4) else 0
theorem J33 {b n m no:Int} {h:A0}:A4v [.a (C4 b n m),.c (.i .i64 no)] h=some (.c (.i .i64 (A5c b n no)),h):=by
  have key:∀ g,∃ g',A6v 0 [.a (C4 b n m),.c (.i .i64 no)] g=some (.c (.i .i64 (A5c b n no)),g'):=by
    intro g
    rw [D2L]
    unfold A5c
    cases c:G7 b n with
    | true =>
      have c':=A28.1 c
      by_cases c1:no < 0
      · rw [if_neg (by omega)]
        exact ⟨_,by simp only [esc,esh,Nat.reduceAdd,Nat.reduceMul,Nat.reduceLT,A3f,c,c1] <;> rfl⟩
      · by_cases c2:b ≤ no
        · rw [if_neg (by omega)]
          exact ⟨_,by simp only [esc,esh,Nat.reduceAdd,Nat.reduceMul,Nat.reduceLT,A3f,c,c1,c2] <;> rfl⟩
        · rw [if_pos ⟨rfl,by omega,by omega⟩]
          by_cases c3:no < 2
          · rw [if_pos c3]
            have e1:IntKind.wrap .i64 (no + 1)=no + 1:=wrap_i64 (by omega) (by omega)
            exact ⟨_,by simp only [esc,esh,Nat.reduceAdd,Nat.reduceMul,Nat.reduceLT,A3f,c,c1,c2,c3,e1] <;> rfl⟩
          · rw [if_neg c3]
            have e1:IntKind.wrap .i64 (no - 2)=no - 2:=wrap_i64 (by omega) (by omega)
            have e2:IntKind.wrap .i64 ((no - 2) * 8)=(no - 2) * 8:=wrap_i64 (by omega) (by omega)
            by_cases c4:(no - 2) * 8 < n
            · rw [if_pos c4]
              exact ⟨_,by simp only [esc,esh,Nat.reduceAdd,Nat.reduceMul,Nat.reduceLT,A3f,c,c1,c2,c3,e1,e2,c4] <;> rfl⟩
            · rw [if_neg c4]
              exact ⟨_,by simp only [esc,esh,Nat.reduceAdd,Nat.reduceMul,Nat.reduceLT,A3f,c,c1,c2,c3,e1,e2,c4] <;> rfl⟩
    | false =>
      rw [if_neg (by simp)]
      exact ⟨_,by simp only [esc,esh,Nat.reduceAdd,Nat.reduceMul,Nat.reduceLT,A3f,c] <;> rfl⟩
  obtain ⟨g',e⟩:=key (ro h)
  exact D4O e (by simp)
end Go.Proofs.YtdgggnlbdoiloaaGreat
end
section
namespace Go.Proofs.YtdgggnlbdoiloaaGreat
open Go Go.Esc
theorem D15 (v:Int):0 ≤ IntKind.wrap .u64 v ∧ IntKind.wrap .u64 v < 18446744073709551616:=by
  have hw:IntKind.wrap .u64 v=v % 18446744073709551616:=by
    simp only [IntKind.wrap,IntKind.bits,IntKind.signed,Bool.false_and]
    rfl
  rw [hw]
  exact ⟨Int.emod_nonneg _ (by omega),Int.emod_lt_of_pos _ (by omega)⟩
theorem A7N {w:Nat} {v:Int} {h:A0} (hw:w ≤ 8):V7 [.c (.i .i64 w),.c (.i .u64 (IntKind.wrap .u64 v))] h=some (.c (.sl h.length 0 w 1),h ++ [some ⟨A3 (B5 w v),true⟩]):=by
  rw [B2F hw (D15 v).1 (D15 v).2,E3e hw]
end Go.Proofs.YtdgggnlbdoiloaaGreat
end
section
namespace Go.Proofs.YtdgggnlbdoiloaaGreat
open Go Go.Esc
theorem B3V {h:A0} {id off len sz:Nat} {cs:List Cell} (hr:rd h id=some ⟨cs,true⟩) (hn:0 < len):O3 h (.c (.sl id off len sz))=some (.c (.sl id off len sz)):=by
  simp [O3,hr,hn]
def magicB:List UInt8:=[101,115,99,104,101,97,116,49]
def E8 (b n m:Int):List UInt8:=magicB ++ B5 2 b ++ B5 2 n ++ B5 8 m
def P7 (b n m:Int):List UInt8:=D4 256 (E8 b n m ++ B5 4 (K0 (E8 b n m):Nat))
theorem V1 {b n m:Int}:(E8 b n m).length=20:=by simp [E8,magicB]
theorem A19 {b n m:Int}:(P7 b n m).length=256:=J1 (by rw [List.length_append,V1,A1g];omega)
theorem I0G {l xs:List UInt8} {a:Nat} (h1:l.length ≤ a) (h2:a + xs.length ≤ 256) (h3:a < 256):Q6 (D4 256 l) a xs=D4 256 (l ++ zeros (a - l.length) ++ xs):=by
  unfold Q6
  rw [if_pos (by omega)]
  simp only [Int.toNat_natCast]
  rw [List.take_of_length_le (by omega),A9W h1 h2]
theorem D0Y {b n m:Int} {h:A0} (hm0:0 ≤ m) (hm1:m < 18446744073709551616) :
    A2O [.a (C4 b n m)] h=some (.t [.a (A3 (bif G7 b n then P7 b n m else zeros 256)),.c (.i .i64 (bif G7 b n then 0 else 1))],h):=by
  have key:∀ g,∃ g',A7e 0 [.a (C4 b n m)] g=some (.t [.a (A3 (bif G7 b n then P7 b n m else zeros 256)),.c (.i .i64 (bif G7 b n then 0 else 1))],g'):=by
    intro g
    have hz:(A3 (zeros 256)).length=256:=by rw [B4];exact zeros_length
    have haf:B0 (List.replicate 256 (Cell.i .u8 0)) []=some (List.replicate 256 (Cell.i .u8 0)):=rfl
    rw [M0] at haf
    rw [D3J,M0]
    cases c:G7 b n with
    | false =>
      simp only [cond_false]
      generalize zeros 256=z at *
      exact ⟨_,by simp only [esc,esh,Nat.reduceAdd,Nat.reduceMul,Nat.reduceLT,B0b,c,haf,hz,Int.reduceEq] <;> rfl⟩
    | true =>
      simp only [cond_true]
      have e7:B0 [Cell.i .u8 0,.i .u8 0,.i .u8 0,.i .u8 0,.i .u8 0,.i .u8 0,.i .u8 0,.i .u8 0] [(0,1,.c (.i .u8 101)),(1,1,.c (.i .u8 115)),(2,1,.c (.i .u8 99)),(3,1,.c (.i .u8 104)),(4,1,.c (.i .u8 101)),(5,1,.c (.i .u8 97)),(6,1,.c (.i .u8 116)),(7,1,.c (.i .u8 49))]=some (A3 magicB):=rfl
      have hmk:=B3V (h:=g ++ [some ⟨C4 b n m,true⟩,some ⟨A3 (zeros 256),true⟩,some ⟨A3 magicB,true⟩]) (id:=g.length + 2) (off:=0) (len:=8) (sz:=1) (cs:=A3 magicB) (by simp) (by omega)
      have ho:=A9M (h:=g ++ [some ⟨C4 b n m,true⟩,some ⟨A3 (zeros 256),true⟩,some ⟨A3 magicB,true⟩]) (v:=.c (.sl (g.length + 2) 0 8 1)) (nv:=8) (data:=magicB) (Has.tr (by simp) (by simp [B4,magicB]) (I3 _)) (by decide)
      rw [A9S (by decide)] at ho
      have lm:magicB.length=8:=rfl
      have w1:=fun h=>A0L (h:=h) (l:=D4 256 magicB) (J1 (by decide)) (a:=8) (w:=2) (v:=b)
      have e1:=A0P (l:=magicB) (a:=8) (w:=2) (v:=b) (by decide) (by omega) (by omega) (by omega)
      simp only [lm,Nat.sub_self,show zeros 0=[] from rfl,List.append_nil,Int.cast_ofNat_Int] at e1
      simp only [e1] at w1
      have l1:(magicB ++ B5 2 b).length=10:=by simp [lm]
      have w2:=fun h=>A0L (h:=h) (l:=D4 256 (magicB ++ B5 2 b)) (J1 (by omega)) (a:=10) (w:=2) (v:=n)
      have e2:=A0P (l:=magicB ++ B5 2 b) (a:=10) (w:=2) (v:=n) (by omega) (by omega) (by omega) (by omega)
      simp only [l1,Nat.sub_self,show zeros 0=[] from rfl,List.append_nil,Int.cast_ofNat_Int] at e2
      simp only [e2] at w2
      have l2:(magicB ++ B5 2 b ++ B5 2 n).length=12:=by simp [lm]
      have L0:(A3 (D4 256 magicB)).length=256:=by rw [B4,J1 (by decide)]
      have L1:(A3 (D4 256 (magicB ++ B5 2 b))).length=256:=by rw [B4,J1 (by omega)]
      have L2:(A3 (D4 256 (magicB ++ B5 2 b ++ B5 2 n))).length=256:=by rw [B4,J1 (by omega)]
      have L3:(A3 (D4 256 (E8 b n m))).length=256:=by rw [B4,J1 (by rw [V1];omega)]
      have L4:(A3 (P7 b n m)).length=256:=by rw [B4,A19]
      have mk8:U4 (.c (.i .i64 8)) (.c (.i .i64 8))=some 8:=rfl
      have hp:=J1k (h:=g ++ [some ⟨C4 b n m,true⟩,some ⟨A3 (zeros 256),true⟩,some ⟨A3 magicB,true⟩,some ⟨A3 (D4 256 (magicB ++ B5 2 b ++ B5 2 n)),true⟩,some ⟨A3 (zeros 8),true⟩]) (x:=.c (.sl (g.length + 4) 0 8 1)) (nv:=8) (l:=zeros 8) (a:=0) (w:=8) (v:=m) (Has.tr (by simp) (by simp [B4]) (I3 _)) (by simp)
      have ep:V0 (zeros 8) 0 8 m=some (B5 8 m):=by
        unfold V0
        rw [if_pos ⟨by omega,by decide⟩]
        unfold D2
        simp [zeros]
      rw [ep] at hp
      simp only [Option.getD_some,Option.isSome_some,A1g] at hp
      have hl:=B2t (h:=g ++ [some ⟨C4 b n m,true⟩,some ⟨A3 (zeros 256),true⟩,some ⟨A3 magicB,true⟩,some ⟨A3 (D4 256 (magicB ++ B5 2 b ++ B5 2 n)),true⟩,some ⟨A3 (zeros 8),true⟩,some ⟨A3 (B5 8 m),true⟩]) (v:=.c (.sl (g.length + 5) 0 8 1)) (nv:=8) (data:=B5 8 m) (l:=D4 256 (magicB ++ B5 2 b ++ B5 2 n)) (a:=12) (Has.tr (by simp) (by simp [B4]) (I3 _)) (J1 (by omega)) (by simp)
      have e3:=I0G (l:=magicB ++ B5 2 b ++ B5 2 n) (xs:=B5 8 m) (a:=12) (by omega) (by simp) (by omega)
      simp only [l2,Nat.sub_self,show zeros 0=[] from rfl,List.append_nil,Int.cast_ofNat_Int] at e3
      rw [e3] at hl
      have hc:=fun h=>B2r (h:=h) (l:=D4 256 (E8 b n m)) (J1 (by rw [V1];omega)) (a:=0) (n:=20)
      have e4:F3 (D4 256 (E8 b n m)) 0 20=E8 b n m:=by
        unfold F3 D4
        rw [if_pos (by omega)]
        simp only [Int.toNat_zero,List.drop_zero]
        exact List.take_left' V1
      simp only [e4,V1] at hc
      have hstr:=(Has.tr (h:=g ++ [some ⟨C4 b n m,true⟩,some ⟨A3 (zeros 256),true⟩,some ⟨A3 magicB,true⟩,some ⟨A3 (D4 256 (E8 b n m)),true⟩,some ⟨A3 (zeros 8),true⟩,some ⟨A3 (B5 8 m),true⟩,some ⟨A3 (E8 b n m),true⟩]) (id:=g.length + 6) (sz:=1) (n:=20) (cs:=A3 (E8 b n m)) (by simp) (by rw [B4,V1]) (I3 _)).str
      have hmx:=fun h=>C6u (s:=E8 b n m) (h:=h) (by rw [V1];omega)
      have hmlt:=A9p (s:=E8 b n m)
      have e5:IntKind.wrap .i64 ((K0 (E8 b n m):Nat):Int)=(K0 (E8 b n m):Nat):=wrap_i64 (by omega) (by omega)
      have w3:=fun h=>A0L (h:=h) (l:=D4 256 (E8 b n m)) (J1 (by rw [V1];omega)) (a:=20) (w:=4) (v:=(K0 (E8 b n m):Nat))
      have e6:=A0P (l:=E8 b n m) (a:=20) (w:=4) (v:=(K0 (E8 b n m):Nat)) (by rw [V1];omega) (by omega) (by omega) (by omega)
      simp only [V1,Nat.sub_self,show zeros 0=[] from rfl,List.append_nil,Int.cast_ofNat_Int] at e6
      simp only [e6] at w3
      have eS:magicB ++ B5 2 b ++ B5 2 n ++ B5 8 m=E8 b n m:=rfl
      rw [eS] at hl
      have rz:=A5E 8
      change ∀ h,P9 [_,_,_,_] h=some (.a (A3 (P7 b n m)),h) at w3
      generalize P7 b n m=SB at *
      generalize D4 256 magicB=P0 at *
      generalize D4 256 (magicB ++ B5 2 b)=P1 at *
      generalize D4 256 (magicB ++ B5 2 b ++ B5 2 n)=P2 at *
      generalize D4 256 (E8 b n m)=P3 at *
      simp only [esc] at hp
      generalize zeros 256=z at *
      generalize zeros 8=z8 at *
      exact ⟨_,by simp only [esc,esh,Nat.reduceAdd,Nat.reduceMul,Nat.reduceLT,B0b,c,e7,hmk,ho,hz,L0,w1,L1,w2,L2,mk8,rz,hp,hl,L3,hc,hstr,hmx,e5,w3,L4] <;> rfl⟩
  obtain ⟨g',e⟩:=key (ro h)
  exact D6k e (by simp)
theorem A7z {b:List UInt8} {a w:Nat} (hb:b.length=256) (h1:a + w ≤ 256) (hw:1 ≤ w) (hw4:w ≤ 4):((atN b a w:Nat):Int)=fieldN b a w:=by
  unfold atN fieldN
  rw [if_pos ⟨by omega,T3.2 (by omega)⟩]
  simp only [Int.toNat_natCast]
theorem H0S {b:List UInt8} (hb:b.length=256):A0m (F3 b 12 8) 0 8=some (le ((b.drop 12).take 8)):=by
  have hc:F3 b 12 8=(b.drop 12).take 8:=by
    unfold F3
    rw [if_pos (by omega)];rfl
  have hl:((b.drop 12).take 8).length=8:=by simp;omega
  unfold A0m
  rw [hc,hl,if_pos ⟨by omega,by decide⟩]
  simp only [Int.toNat_zero,List.drop_zero]
  rw [List.take_of_length_le (by rw [hl];decide)]
def okS (b:List UInt8):Bool:=G7 (fieldN b 8 2) (fieldN b 10 2) && decide (P7 (fieldN b 8 2) (fieldN b 10 2) (fieldN b 12 8)=b)
def Y4 (b:List UInt8):List Cell:=bif okS b then C4 (fieldN b 8 2) (fieldN b 10 2) (fieldN b 12 8) else C4 0 0 0
theorem A8J (b:List UInt8):0 ≤ fieldN b 12 8 ∧ fieldN b 12 8 < 18446744073709551616:=by
  unfold fieldN
  have h1:=A26 ((b.drop 12).take 8)
  have h2:((b.drop 12).take 8).length ≤ 8:=by simp;omega
  have h3:=A31 h2
  have h4:(256:Nat) ^ 8=18446744073709551616:=by decide
  omega
end Go.Proofs.YtdgggnlbdoiloaaGreat
end
section
namespace Go.Proofs.YtdgggnlbdoiloaaGreat
open Go Go.Esc
theorem D0P {b:List UInt8} {h:A0} (hb:b.length=256):A41 [.a (A3 b)] h=some (.t [.a (Y4 b),.c (.i .i64 (bif okS b then 0 else 13))],h):=by
  have key:∀ g,∃ g',A7d 0 [.a (A3 b)] g=some (.t [.a (Y4 b),.c (.i .i64 (bif okS b then 0 else 13))],g'):=by
    intro g
    have hl:(A3 b).length=256:=by rw [B4,hb]
    have hc:=B2r (h:=g ++ [some ⟨A3 b,true⟩,some ⟨C4 0 0 0,true⟩]) hb (a:=12) (n:=8)
    have hcl:(F3 b 12 8).length=8:=by unfold F3;rw [if_pos (by omega)];simp;omega
    rw [hcl] at hc
    have hg:=I9m (h:=g ++ [some ⟨A3 b,true⟩,some ⟨C4 0 0 0,true⟩,some ⟨A3 (F3 b 12 8),true⟩]) (v:=.c (.sl (g.length + 2) 0 8 1)) (nv:=8) (l:=F3 b 12 8) (Has.tr (by simp) (by rw [B4,hcl]) (I3 _)) (a:=0) (w:=8) (by rw [hcl];omega)
    rw [H0S hb] at hg
    simp only [Option.getD_some,Option.isSome_some] at hg
    have a1:=fun h=>A10 (h:=h) hb (a:=8) (w:=2)
    have a2:=fun h=>A10 (h:=h) hb (a:=10) (w:=2)
    have f1:=A7z (a:=8) (w:=2) hb (by omega) (by omega) (by omega)
    have f2:=A7z (a:=10) (w:=2) hb (by omega) (by omega) (by omega)
    simp only [Int.cast_ofNat_Int] at f1 f2
    simp only [f1] at a1
    simp only [f2] at a2
    have e12:((le ((b.drop 12).take 8):Nat):Int)=fieldN b 12 8:=rfl
    rw [e12] at hg
    have ef:∀ x y z:Int,B0 (C4 0 0 0) [(0,1,.c (.i .i64 x)),(1,1,.c (.i .i64 y)),(2,1,.c (.i .u64 z))]=some (C4 x y z):=fun _ _ _=>rfl
    have ef0:B0 (C4 0 0 0) []=some (C4 0 0 0):=rfl
    have hp:=fun h=>D0Y (b:=fieldN b 8 2) (n:=fieldN b 10 2) (m:=fieldN b 12 8) (h:=h) (A8J b).1 (A8J b).2
    have hz:(List.replicate 256 (Cell.i .u8 0)).length=256:=List.length_replicate
    have hS:(A3 (P7 (fieldN b 8 2) (fieldN b 10 2) (fieldN b 12 8))).length=256:=by rw [B4,A19]
    have hZ:(A3 (zeros 256)).length=256:=by rw [B4];exact zeros_length
    have hq:=A7t (l:=P7 (fieldN b 8 2) (fieldN b 10 2) (fieldN b 12 8)) (m:=b) (n:=256) A19 hb
    simp only [esc] at hc
    rw [D3I]
    unfold Y4 okS
    generalize List.replicate 256 (Cell.i .u8 0)=z at *
    cases c:G7 (fieldN b 8 2) (fieldN b 10 2) with
    | false =>
      simp only [c,cond_false] at hp
      generalize zeros 256=zz at *
      exact ⟨_,by simp only [esc,esh,Nat.reduceAdd,Nat.reduceMul,Nat.reduceLT,hl,hc,hg,a1,a2,ef,ef0,hp,hz,hZ,Bool.false_and,Int.reduceEq] <;> rfl⟩
    | true =>
      simp only [c,cond_true] at hp
      cases c2:decide (P7 (fieldN b 8 2) (fieldN b 10 2) (fieldN b 12 8)=b) with
      | false =>
        rw [c2] at hq
        exact ⟨_,by simp only [esc,esh,Nat.reduceAdd,Nat.reduceMul,Nat.reduceLT,hl,hc,hg,a1,a2,ef,ef0,hp,hz,hS,hq,Bool.and_false] <;> rfl⟩
      | true =>
        rw [c2] at hq
        exact ⟨_,by simp only [esc,esh,Nat.reduceAdd,Nat.reduceMul,Nat.reduceLT,hl,hc,hg,a1,a2,ef,ef0,hp,hz,hS,hq,Bool.and_true] <;> rfl⟩
  obtain ⟨g',e⟩:=key (ro h)
  refine D6i e ?_
  unfold Y4
  cases okS b <;> simp
end Go.Proofs.YtdgggnlbdoiloaaGreat
end
noncomputable section
namespace Go.Proofs.YtdgggnlbdoiloaaGreat
open Go Go.Esc
set_option maxRecDepth 100000
def C5Q:List AOper:=[aO 2 (.mv (.v (.c (.b false))))]
def I0q:ACode:=.ops C5Q
def C5R:List AOper:=[aO 3 (.mv (.t 0)),aO 4 (.bin .geq (.t 3) (.v (.c (.i .i64 0)))),aO 5 (.mv (.t 4)),{ dst:=some 6,op:=.mv (.t 0),guard:=some (5,true) },{ dst:=some 7,op:=.bin .leq (.t 6) (.v (.c (.i .i64 65535))),guard:=some (5,true) },aO 8 (.pick (.t 5) (.t 7) (.v (.c (.b false)))),aO 2 (.mv (.t 8))]
def I0s:ACode:=.ops C5R
def I0u:ACode:=.seq [2] I0s .ret
def I0w:ACode:=.seq [0] I0q I0u
def A_inode_small:AFn:=⟨I0w,[.tmp 2]⟩
def A53:B6:=C1
def I0r (n:Nat):SmV:=A2 A53 C5Q
def I0t (n:Nat):SmV:=A2 A53 C5R
def I0v (n:Nat):SmV:=A1 [2] (I0t n) A8
def I0x (n:Nat):SmV:=A1 [0] (I0r n) (I0v n)
def B0P (n:Nat) (args:List Val) (h:A0):A6:=(I0x n) A_inode_small.fin (params 0 args) h
theorem D3n (n:Nat) (a0:Val) (h:A0):B0P n [a0] h=bnd (A4 .geq a0 (.c (.i .i64 0))) fun v1=>bnd (gd v1 true (some (a0,h)) (some (.no,h))) fun p2=>bnd (gd v1 true (bnd (A4 .leq p2.1 (.c (.i .i64 65535))) fun v3=>some (v3,p2.2)) (some (.no,p2.2))) fun p4=>bnd (C5 v1 p4.1 (.c (.b false))) fun v5=>some (v5,p4.2):=by kernel_rfl
theorem K_inode_small:FnK Tryz.prog 120 A_inode_small A53 B0P:=.mk' (C3) Tryz.func120 (by kernel_rfl) (by intro n args h;kernel_rfl)
def A2J:Fun:=tidy (Lim A_inode_small A53)
theorem D5N:SOk Tryz.prog 120 A2J:=K_inode_small.sok
theorem D5M {n:Nat} {args:List Val} {h h2:A0} {v:Val} (he:B0P n args (ro h)=some (v,h2)) (hf:v.flat=true):A2J args h=some (v,h):=K_inode_small.flat he hf
def C5f:List AOper:=[aO 1 (.box (.t 0)),aO 2 (.alloc ([.i .i64 0,.i .i64 0,.i .i64 0,.i .i64 0,.i .i64 0,.i .i64 0,.i .i64 0]))]
def H7Z:ACode:=.ops C5f
def C5g:List AOper:=[aO 3 (.alloc ([.i .i64 0,.i .i64 0,.i .i64 0,.i .i64 0,.i .i64 0,.i .i64 0,.i .i64 0]))]
def H71:ACode:=.ops C5g
def C5h:List AOper:=[aO 6 (.fAddr (.t 1) 4),aO 7 (.loadN 6 (.t 6)),aO 8 (.mv (.v (.c (.i .i64 0))))]
def H8l:ACode:=.ops C5h
def C5i:List AOper:=[aO 9 (.bin .lss (.t 8) (.v (.c (.i .i64 6))))]
def H8t:ACode:=.ops C5i
def H8v:ACode:=.cond (.t 9) .skip (.exit 0)
def C5j:List AOper:=[aO 10 (.mv (.t 8)),aO 11 (.idxA1 6 (.t 7) (.t 8)),aO 4 (.mv (.t 10)),aO 5 (.mv (.t 11))]
def H8x:ACode:=.ops C5j
def C5k:List AOper:=[aO 12 (.mv (.t 4)),aO 13 (.mv (.t 5)),aO 14 (.iAddrA 7 1 (.t 3) (.t 12)),{ dst:=none,op:=.store1 (.t 14) (.t 13) }]
def H8z:ACode:=.ops C5k
def H8B:ACode:=.seq [1,2,3,4,5,7,8] H8x H8z
def H8D:ACode:=.block 1 H8B
def C5l:List AOper:=[aO 15 (.bin .add (.t 8) (.v (.c (.i .i64 1)))),aO 8 (.mv (.t 15))]
def H8F:ACode:=.ops C5l
def H72:ACode:=.seq [1,2,3,7,8] H8D H8F
def H74:ACode:=.seq [1,2,3,7,8] H8v H72
def H76:ACode:=.seq [1,2,3,7,8,9] H8t H74
def H77:ACode:=.loop [1,2,3,7,8] H76
def H79:ACode:=.block 0 H77
def H8b:ACode:=.seq [1,2,3,7,8] H8l H79
def C5m:List AOper:=[aO 16 (.fAddr (.t 1) 10),aO 17 (.load1 (.t 16)),aO 18 (.iAddrA 7 1 (.t 3) (.v (.c (.i .i64 6)))),{ dst:=none,op:=.store1 (.t 18) (.t 17) }]
def H8d:ACode:=.ops C5m
def C5n:List AOper:=[aO 19 (.loadN 7 (.t 3)),{ dst:=none,op:=.storeN 7 (.t 2) (.t 19) }]
def H8f:ACode:=.ops C5n
def H8h:ACode:=.seq [2] H8f .ret
def H8j:ACode:=.seq [2,3] H8d H8h
def H8m:ACode:=.seq [1,2,3] H8b H8j
def H8o:ACode:=.seq [1,2,3] H71 H8m
def H8q:ACode:=.seq [1,2] H7Z H8o
def A_inode_Numbers:AFn:=⟨H8q,[.cellN 2 7]⟩
def A0c:B6:=C1
def H70 (n:Nat):SmV:=A2 A0c C5f
def H8k (n:Nat):SmV:=A2 A0c C5g
def H8s (n:Nat):SmV:=A2 A0c C5h
def H8u (n:Nat):SmV:=A2 A0c C5i
def H8w (n:Nat):SmV:=B8 (.t 9) C0 (E3 0)
def H8y (n:Nat):SmV:=A2 A0c C5j
def H8A (n:Nat):SmV:=A2 A0c C5k
def H8C (n:Nat):SmV:=A1 [1,2,3,4,5,7,8] (H8y n) (H8A n)
def H8E (n:Nat):SmV:=C6 1 (H8C n)
def H8G (n:Nat):SmV:=A2 A0c C5l
def H73 (n:Nat):SmV:=A1 [1,2,3,7,8] (H8E n) (H8G n)
def H75 (n:Nat):SmV:=A1 [1,2,3,7,8] (H8w n) (H73 n)
def C5c (n:Nat):SmV:=A1 [1,2,3,7,8,9] (H8u n) (H75 n)
def H78 (n:Nat):SmV:=E4 n [1,2,3,7,8] (C5c n)
def H8a (n:Nat):SmV:=C6 0 (H78 n)
def H8c (n:Nat):SmV:=A1 [1,2,3,7,8] (H8s n) (H8a n)
def H8e (n:Nat):SmV:=A2 A0c C5m
def H8g (n:Nat):SmV:=A2 A0c C5n
def H8i (n:Nat):SmV:=A1 [2] (H8g n) A8
def C5d (n:Nat):SmV:=A1 [2,3] (H8e n) (H8i n)
def H8n (n:Nat):SmV:=A1 [1,2,3] (H8c n) (C5d n)
def H8p (n:Nat):SmV:=A1 [1,2,3] (H8k n) (H8n n)
def H8r (n:Nat):SmV:=A1 [1,2] (H70 n) (H8p n)
def A88 (n:Nat):AExit → Env → A0 → A6:=fun x e h=>match x with | .normal=>hold ((C5d n) A_inode_Numbers.fin (e.keep [1,2,3]) h) | .exit id=>A_inode_Numbers.fin (.exit id) e h | .ret=>A_inode_Numbers.fin .ret e h
def H8H (n:Nat):AExit → Env → A0 → A6:=fun x e h=>match x with | .exit i=>bif Nat.beq i 0 then (A88 n) .normal e h else (A88 n) (.exit i) e h | .normal=>(A88 n) .normal e h | .ret=>(A88 n) .ret e h
def A89 (n m:Nat) (x1 x2 x3 x7 x8:Val) (h:A0):A6:=E1 (C5c n) [1,2,3,7,8] (H8H n) m [(1,x1),(2,x2),(3,x3),(7,x7),(8,x8)] h
def A6Y (n:Nat) (args:List Val) (h:A0):A6:=(H8r n) A_inode_Numbers.fin (params 0 args) h
theorem D3l (n:Nat) (a0:Val) (h:A0):A6Y n [a0] h=bnd (cells? a0) fun c1=>bnd (B9 ((.c (.p h.length 0))) 4) fun v2=>bnd (A5 ((((h ++ [some (Row.mk (c1) true)]) ++ [some (Row.mk ([.i .i64 0,.i .i64 0,.i .i64 0,.i .i64 0,.i .i64 0,.i .i64 0,.i .i64 0]) true)]) ++ [some (Row.mk ([.i .i64 0,.i .i64 0,.i .i64 0,.i .i64 0,.i .i64 0,.i .i64 0,.i .i64 0]) true)])) 6 v2) fun v3=>A89 n n ((.c (.p h.length 0))) ((.c (.p ((h ++ [some (Row.mk (c1) true)])).length 0))) ((.c (.p (((h ++ [some (Row.mk (c1) true)]) ++ [some (Row.mk ([.i .i64 0,.i .i64 0,.i .i64 0,.i .i64 0,.i .i64 0,.i .i64 0,.i .i64 0]) true)])).length 0))) v3 (.c (.i .i64 0)) ((((h ++ [some (Row.mk (c1) true)]) ++ [some (Row.mk ([.i .i64 0,.i .i64 0,.i .i64 0,.i .i64 0,.i .i64 0,.i .i64 0,.i .i64 0]) true)]) ++ [some (Row.mk ([.i .i64 0,.i .i64 0,.i .i64 0,.i .i64 0,.i .i64 0,.i .i64 0,.i .i64 0]) true)])):=by kernel_rfl
theorem C5e (n m:Nat) (x1 x2 x3 x7 x8:Val) (h:A0):A89 n (m + 1) x1 x2 x3 x7 x8 h=bnd (A4 .lss x8 (.c (.i .i64 6))) fun v4=>cnd v4 (bnd (V9 6 x7 x8) fun v5=>bnd (D7 7 1 x3 x8) fun v6=>bnd (F2 h v6 v5) fun h7=>bnd (A4 .add x8 (.c (.i .i64 1))) fun v8=>A89 n m x1 x2 x3 x7 v8 h7) (bnd (B9 x1 10) fun v9=>bnd (A9 h v9) fun v10=>bnd (D7 7 1 x3 (.c (.i .i64 6))) fun v11=>bnd (F2 h v11 v10) fun h12=>bnd (A5 h12 7 x3) fun v13=>bnd (B7 h12 7 x2 v13) fun h14=>mp (A5 h14 7 x2) fun v=>(v,h14)):=by kernel_rfl
theorem K_inode_Numbers:FnK Tryz.prog 117 A_inode_Numbers A0c A6Y:=.mk' (C3) Tryz.func117 (by kernel_rfl) (by intro n args h;kernel_rfl)
def A2H:Fun:=tidy (Lim A_inode_Numbers A0c)
theorem B3u:SOk Tryz.prog 117 A2H:=K_inode_Numbers.sok
theorem D5K {n:Nat} {args:List Val} {h h2:A0} {v:Val} (he:A6Y n args (ro h)=some (v,h2)) (hf:v.flat=true):A2H args h=some (v,h):=K_inode_Numbers.flat he hf
def C4G:List AOper:=[aO 1 (.box (.t 0)),aO 2 (.mv (.v (.c (.i .i64 0))))]
def H5C:ACode:=.ops C4G
def C4H:List AOper:=[aO 5 (.fAddr (.t 1) 0),aO 6 (.load1 (.t 5)),aO 7 (.bin .lss (.t 6) (.v (.c (.i .i64 0)))),aO 8 (.mv (.t 7)),{ dst:=some 9,op:=.fAddr (.t 1) 0,guard:=some (8,false) },{ dst:=some 10,op:=.load1 (.t 9),guard:=some (8,false) },{ dst:=some 11,op:=.bin .gtr (.t 10) (.v (.c (.i .i64 2))),guard:=some (8,false) },aO 12 (.pick (.t 8) (.v (.c (.b true))) (.t 11)),aO 13 (.mv (.t 12)),{ dst:=some 14,op:=.fAddr (.t 1) 0,guard:=some (13,false) },{ dst:=some 15,op:=.load1 (.t 14),guard:=some (13,false) },{ dst:=some 16,op:=.bin .eql (.t 15) (.v (.c (.i .i64 0))),guard:=some (13,false) },{ dst:=some 17,op:=.mv (.t 16),guard:=some (13,false) },{ dst:=some 18,op:=.loadN 11 (.t 1),guard:=some (17,true) },{ dst:=some 19,op:=.build ([.i .i64 0,.i .i64 0,.i .i64 0,.i .i64 0,.i .i64 0,.i .i64 0,.i .i64 0,.i .i64 0,.i .i64 0,.i .i64 0,.i .i64 0]) [],guard:=some (17,true) },{ dst:=some 20,op:=.eqA true ([.i .i64,.i .i64,.i .i64,.i .i64,.i .i64,.i .i64,.i .i64,.i .i64,.i .i64,.i .i64,.i .i64]) (.t 18) (.t 19),guard:=some (17,true) },{ dst:=some 21,op:=.pick (.t 17) (.t 20) (.v (.c (.b false))),guard:=some (13,false) },aO 22 (.pick (.t 13) (.v (.c (.b true))) (.t 21))]
def H5E:ACode:=.ops C4H
def C4K:List AOper:=[aO 2 (.mv (.v (.c (.i .i64 1))))]
def H50:ACode:=.ops C4K
def H6l:ACode:=.seq [2] H50 .ret
def H6w:ACode:=.cond (.t 22) H6l .skip
def H6y:ACode:=.seq [1,22] H5E H6w
def C4L:List AOper:=[aO 23 (.fAddr (.t 1) 1),aO 24 (.load1 (.t 23)),aO 25 (.call 120 [(.t 24)]),aO 26 (.un .not (.t 25)),aO 27 (.mv (.t 26)),{ dst:=some 28,op:=.fAddr (.t 1) 3,guard:=some (27,false) },{ dst:=some 29,op:=.load1 (.t 28),guard:=some (27,false) },{ dst:=some 30,op:=.call 120 [(.t 29)],guard:=some (27,false) },{ dst:=some 31,op:=.un .not (.t 30),guard:=some (27,false) },aO 32 (.pick (.t 27) (.v (.c (.b true))) (.t 31)),aO 33 (.mv (.t 32)),{ dst:=some 34,op:=.fAddr (.t 1) 2,guard:=some (33,false) },{ dst:=some 35,op:=.load1 (.t 34),guard:=some (33,false) },{ dst:=some 36,op:=.bin .lss (.t 35) (.v (.c (.i .i64 0))),guard:=some (33,false) },aO 37 (.pick (.t 33) (.v (.c (.b true))) (.t 36)),aO 38 (.mv (.t 37)),{ dst:=some 39,op:=.fAddr (.t 1) 2,guard:=some (38,false) },{ dst:=some 40,op:=.load1 (.t 39),guard:=some (38,false) },{ dst:=some 41,op:=.bin .gtr (.t 40) (.v (.c (.i .i64 34304))),guard:=some (38,false) },aO 42 (.pick (.t 38) (.v (.c (.b true))) (.t 41))]
def H6A:ACode:=.ops C4L
def C4M:List AOper:=[aO 2 (.mv (.v (.c (.i .i64 1))))]
def H6C:ACode:=.ops C4M
def H6E:ACode:=.seq [2] H6C .ret
def H6G:ACode:=.cond (.t 42) H6E .skip
def H5F:ACode:=.seq [1,42] H6A H6G
def C4N:List AOper:=[aO 43 (.loadN 11 (.t 1)),aO 44 (.call 117 [(.t 43)]),aO 45 (.mv (.v (.c (.i .i64 0))))]
def H5H:ACode:=.ops C4N
def C4O:List AOper:=[aO 46 (.bin .lss (.t 45) (.v (.c (.i .i64 7))))]
def H5J:ACode:=.ops C4O
def H5L:ACode:=.cond (.t 46) .skip (.exit 0)
def C4P:List AOper:=[aO 47 (.idxA1 7 (.t 44) (.t 45)),aO 4 (.mv (.t 47))]
def H5N:ACode:=.ops C4P
def C4Q:List AOper:=[aO 48 (.mv (.t 4)),aO 49 (.call 120 [(.t 48)]),aO 50 (.un .not (.t 49))]
def H5P:ACode:=.ops C4Q
def C4R:List AOper:=[aO 2 (.mv (.v (.c (.i .i64 1))))]
def H5R:ACode:=.ops C4R
def H5T:ACode:=.seq [2] H5R .ret
def H5V:ACode:=.cond (.t 50) H5T .skip
def H5X:ACode:=.seq [44,45,50] H5P H5V
def H51:ACode:=.seq [4,44,45] H5N H5X
def H53:ACode:=.block 1 H51
def C4I:List AOper:=[aO 51 (.bin .add (.t 45) (.v (.c (.i .i64 1)))),aO 45 (.mv (.t 51))]
def H55:ACode:=.ops C4I
def H57:ACode:=.seq [44,45] H53 H55
def H59:ACode:=.seq [44,45] H5L H57
def H6b:ACode:=.seq [44,45,46] H5J H59
def H6c:ACode:=.loop [44,45] H6b
def H6e:ACode:=.block 0 H6c
def H6g:ACode:=.seq [44,45] H5H H6e
def C4J:List AOper:=[aO 2 (.mv (.v (.c (.i .i64 0))))]
def H6i:ACode:=.ops C4J
def H6m:ACode:=.seq [2] H6i .ret
def H6n:ACode:=.seq [] H6g H6m
def H6p:ACode:=.seq [1] H5F H6n
def H6r:ACode:=.seq [1] H6y H6p
def H6t:ACode:=.seq [1] H5C H6r
def A_inode_Check:AFn:=⟨H6t,[.tmp 2]⟩
def T9:B6:=B1 120 A2J (B1 117 A2H C1)
def H5D (n:Nat):SmV:=A2 T9 C4G
def H5Z (n:Nat):SmV:=A2 T9 C4H
def H6k (n:Nat):SmV:=A2 T9 C4K
def H6v (n:Nat):SmV:=A1 [2] (H6k n) A8
def H6x (n:Nat):SmV:=B8 (.t 22) (H6v n) C0
def H6z (n:Nat):SmV:=A1 [1,22] (H5Z n) (H6x n)
def H6B (n:Nat):SmV:=A2 T9 C4L
def H6D (n:Nat):SmV:=A2 T9 C4M
def H6F (n:Nat):SmV:=A1 [2] (H6D n) A8
def H6H (n:Nat):SmV:=B8 (.t 42) (H6F n) C0
def H5G (n:Nat):SmV:=A1 [1,42] (H6B n) (H6H n)
def H5I (n:Nat):SmV:=A2 T9 C4N
def H5K (n:Nat):SmV:=A2 T9 C4O
def H5M (n:Nat):SmV:=B8 (.t 46) C0 (E3 0)
def H5O (n:Nat):SmV:=A2 T9 C4P
def H5Q (n:Nat):SmV:=A2 T9 C4Q
def H5S (n:Nat):SmV:=A2 T9 C4R
def H5U (n:Nat):SmV:=A1 [2] (H5S n) A8
def H5W (n:Nat):SmV:=B8 (.t 50) (H5U n) C0
def H5Y (n:Nat):SmV:=A1 [44,45,50] (H5Q n) (H5W n)
def H52 (n:Nat):SmV:=A1 [4,44,45] (H5O n) (H5Y n)
def H54 (n:Nat):SmV:=C6 1 (H52 n)
def H56 (n:Nat):SmV:=A2 T9 C4I
def H58 (n:Nat):SmV:=A1 [44,45] (H54 n) (H56 n)
def H6a (n:Nat):SmV:=A1 [44,45] (H5M n) (H58 n)
def C4C (n:Nat):SmV:=A1 [44,45,46] (H5K n) (H6a n)
def H6d (n:Nat):SmV:=E4 n [44,45] (C4C n)
def H6f (n:Nat):SmV:=C6 0 (H6d n)
def H6h (n:Nat):SmV:=A1 [44,45] (H5I n) (H6f n)
def H6j (n:Nat):SmV:=A2 T9 C4J
def C4D (n:Nat):SmV:=A1 [2] (H6j n) A8
def H6o (n:Nat):SmV:=A1 [] (H6h n) (C4D n)
def H6q (n:Nat):SmV:=A1 [1] (H5G n) (H6o n)
def H6s (n:Nat):SmV:=A1 [1] (H6z n) (H6q n)
def H6u (n:Nat):SmV:=A1 [1] (H5D n) (H6s n)
def A84 (n:Nat):AExit → Env → A0 → A6:=fun x e h=>match x with | .normal=>hold ((C4D n) A_inode_Check.fin (e.keep []) h) | .exit id=>A_inode_Check.fin (.exit id) e h | .ret=>A_inode_Check.fin .ret e h
def H6I (n:Nat):AExit → Env → A0 → A6:=fun x e h=>match x with | .exit i=>bif Nat.beq i 0 then (A84 n) .normal e h else (A84 n) (.exit i) e h | .normal=>(A84 n) .normal e h | .ret=>(A84 n) .ret e h
def A85 (n m:Nat) (x44 x45:Val) (h:A0):A6:=E1 (C4C n) [44,45] (H6I n) m [(44,x44),(45,x45)] h
def A6V (n:Nat) (args:List Val) (h:A0):A6:=(H6u n) A_inode_Check.fin (params 0 args) h
theorem D3i (n:Nat) (a0:Val) (h:A0):A6V n [a0] h=bnd (cells? a0) fun c1=>bnd (B9 ((.c (.p h.length 0))) 0) fun v2=>bnd (A9 ((h ++ [some (Row.mk (c1) true)])) v2) fun v3=>bnd (A4 .lss v3 (.c (.i .i64 0))) fun v4=>bnd (gd v4 false (bnd (B9 ((.c (.p h.length 0))) 0) fun v5=>some (v5,(h ++ [some (Row.mk (c1) true)]))) (some (.no,(h ++ [some (Row.mk (c1) true)])))) fun p6=>bnd (gd v4 false (bnd (A9 p6.2 p6.1) fun v7=>some (v7,p6.2)) (some (.no,p6.2))) fun p8=>bnd (gd v4 false (bnd (A4 .gtr p8.1 (.c (.i .i64 2))) fun v9=>some (v9,p8.2)) (some (.no,p8.2))) fun p10=>bnd (C5 v4 (.c (.b true)) p10.1) fun v11=>bnd (gd v11 false (bnd (B9 ((.c (.p h.length 0))) 0) fun v12=>some (v12,p10.2)) (some (.no,p10.2))) fun p13=>bnd (gd v11 false (bnd (A9 p13.2 p13.1) fun v14=>some (v14,p13.2)) (some (.no,p13.2))) fun p15=>bnd (gd v11 false (bnd (A4 .eql p15.1 (.c (.i .i64 0))) fun v16=>some (v16,p15.2)) (some (.no,p15.2))) fun p17=>bnd (gd v11 false (some (p17.1,p17.2)) (some (.no,p17.2))) fun p18=>bnd (gd p18.1 true (bnd (A5 p18.2 11 ((.c (.p h.length 0)))) fun v19=>some (v19,p18.2)) (some (.no,p18.2))) fun p20=>bnd (gd p18.1 true (bnd (B0 ([.i .i64 0,.i .i64 0,.i .i64 0,.i .i64 0,.i .i64 0,.i .i64 0,.i .i64 0,.i .i64 0,.i .i64 0,.i .i64 0,.i .i64 0]) []) fun c21=>some ((.a c21),p20.2)) (some (.no,p20.2))) fun p22=>bnd (gd p18.1 true (bnd (aeq true ([.i .i64,.i .i64,.i .i64,.i .i64,.i .i64,.i .i64,.i .i64,.i .i64,.i .i64,.i .i64,.i .i64]) p20.1 p22.1) fun v23=>some (v23,p22.2)) (some (.no,p22.2))) fun p24=>bnd (gd v11 false (bnd (C5 p18.1 p24.1 (.c (.b false))) fun v25=>some (v25,p24.2)) (some (.no,p24.2))) fun p26=>bnd (C5 v11 (.c (.b true)) p26.1) fun v27=>cnd v27 (some ((.c (.i .i64 1)),p26.2)) (bnd (B9 ((.c (.p h.length 0))) 1) fun v28=>bnd (A9 p26.2 v28) fun v29=>bnd (A2J [v29] p26.2) fun p30=>bnd (aun .not p30.1) fun v31=>bnd (gd v31 false (bnd (B9 ((.c (.p h.length 0))) 3) fun v32=>some (v32,p30.2)) (some (.no,p30.2))) fun p33=>bnd (gd v31 false (bnd (A9 p33.2 p33.1) fun v34=>some (v34,p33.2)) (some (.no,p33.2))) fun p35=>bnd (gd v31 false (bnd (A2J [p35.1] p35.2) fun p36=>some (p36.1,p36.2)) (some (.no,p35.2))) fun p37=>bnd (gd v31 false (bnd (aun .not p37.1) fun v38=>some (v38,p37.2)) (some (.no,p37.2))) fun p39=>bnd (C5 v31 (.c (.b true)) p39.1) fun v40=>bnd (gd v40 false (bnd (B9 ((.c (.p h.length 0))) 2) fun v41=>some (v41,p39.2)) (some (.no,p39.2))) fun p42=>bnd (gd v40 false (bnd (A9 p42.2 p42.1) fun v43=>some (v43,p42.2)) (some (.no,p42.2))) fun p44=>bnd (gd v40 false (bnd (A4 .lss p44.1 (.c (.i .i64 0))) fun v45=>some (v45,p44.2)) (some (.no,p44.2))) fun p46=>bnd (C5 v40 (.c (.b true)) p46.1) fun v47=>bnd (gd v47 false (bnd (B9 ((.c (.p h.length 0))) 2) fun v48=>some (v48,p46.2)) (some (.no,p46.2))) fun p49=>bnd (gd v47 false (bnd (A9 p49.2 p49.1) fun v50=>some (v50,p49.2)) (some (.no,p49.2))) fun p51=>bnd (gd v47 false (bnd (A4 .gtr p51.1 (.c (.i .i64 34304))) fun v52=>some (v52,p51.2)) (some (.no,p51.2))) fun p53=>bnd (C5 v47 (.c (.b true)) p53.1) fun v54=>cnd v54 (some ((.c (.i .i64 1)),p53.2)) (bnd (A5 p53.2 11 ((.c (.p h.length 0)))) fun v55=>bnd (A2H [v55] p53.2) fun p56=>A85 n n p56.1 (.c (.i .i64 0)) p56.2)):=by kernel_rfl
theorem C4F (n m:Nat) (x44 x45:Val) (h:A0):A85 n (m + 1) x44 x45 h=bnd (A4 .lss x45 (.c (.i .i64 7))) fun v57=>cnd v57 (bnd (V9 7 x44 x45) fun v58=>bnd (A2J [v58] h) fun p59=>bnd (aun .not p59.1) fun v60=>cnd v60 (some ((.c (.i .i64 1)),p59.2)) (bnd (A4 .add x45 (.c (.i .i64 1))) fun v61=>A85 n m x44 v61 p59.2)) (some ((.c (.i .i64 0)),h)):=by kernel_rfl
theorem K_inode_Check:FnK Tryz.prog 116 A_inode_Check T9 A6V:=.mk' (B3 D5N (B3 B3u C3)) Tryz.func116 (by kernel_rfl) (by intro n args h;kernel_rfl)
def A4P:Fun:=tidy (Lim A_inode_Check T9)
theorem D5F:SOk Tryz.prog 116 A4P:=K_inode_Check.sok
theorem D5E {n:Nat} {args:List Val} {h h2:A0} {v:Val} (he:A6V n args (ro h)=some (v,h2)) (hf:v.flat=true):A4P args h=some (v,h):=K_inode_Check.flat he hf
def C5v:List AOper:=[aO 1 (.box (.t 0)),aO 2 (.alloc (List.replicate 32 (.i .u8 0))),aO 3 (.mv (.v (.c (.i .i64 0))))]
def H8I:ACode:=.ops C5v
def C5w:List AOper:=[aO 4 (.alloc (List.replicate 32 (.i .u8 0)))]
def H8K:ACode:=.ops C5w
def C5H:List AOper:=[aO 10 (.loadN 11 (.t 1)),aO 11 (.call 116 [(.t 10)]),aO 5 (.mv (.t 11))]
def H86:ACode:=.ops C5H
def C5J:List AOper:=[aO 12 (.mv (.t 5)),aO 13 (.bin .neq (.t 12) (.v (.c (.i .i64 0))))]
def H9r:ACode:=.ops C5J
def C5K:List AOper:=[aO 14 (.loadN 32 (.t 4)),aO 15 (.mv (.t 5)),{ dst:=none,op:=.storeN 32 (.t 2) (.t 14) },aO 3 (.mv (.t 15))]
def H9M:ACode:=.ops C5K
def H96:ACode:=.seq [2,3] H9M .ret
def I0g:ACode:=.cond (.t 13) H96 .skip
def I0i:ACode:=.seq [1,2,4,5,13] H9r I0g
def I0k:ACode:=.seq [1,2,4,5] H86 I0i
def C5L:List AOper:=[aO 6 (.alloc (List.replicate 256 (.i .u8 0)))]
def I0m:ACode:=.ops C5L
def C5M:List AOper:=[aO 16 (.loadN 256 (.t 6)),aO 17 (.fAddr (.t 1) 0),aO 18 (.load1 (.t 17)),aO 19 (.call 93 [(.t 16),(.v (.c (.i .i64 0))),(.v (.c (.i .i64 1))),(.t 18)]),{ dst:=none,op:=.storeN 256 (.t 6) (.t 19) }]
def H8L:ACode:=.ops C5M
def C5N:List AOper:=[aO 20 (.loadN 256 (.t 6)),aO 21 (.fAddr (.t 1) 1),aO 22 (.load1 (.t 21)),aO 23 (.call 93 [(.t 20),(.v (.c (.i .i64 2))),(.v (.c (.i .i64 2))),(.t 22)]),{ dst:=none,op:=.storeN 256 (.t 6) (.t 23) }]
def H8N:ACode:=.ops C5N
def C5O:List AOper:=[aO 24 (.loadN 256 (.t 6)),aO 25 (.fAddr (.t 1) 2),aO 26 (.load1 (.t 25)),aO 27 (.call 93 [(.t 24),(.v (.c (.i .i64 4))),(.v (.c (.i .i64 4))),(.t 26)]),{ dst:=none,op:=.storeN 256 (.t 6) (.t 27) }]
def H8P:ACode:=.ops C5O
def C5P:List AOper:=[aO 28 (.loadN 256 (.t 6)),aO 29 (.fAddr (.t 1) 3),aO 30 (.load1 (.t 29)),aO 31 (.call 93 [(.t 28),(.v (.c (.i .i64 8))),(.v (.c (.i .i64 2))),(.t 30)]),{ dst:=none,op:=.storeN 256 (.t 6) (.t 31) }]
def H8R:ACode:=.ops C5P
def C5x:List AOper:=[aO 32 (.loadN 11 (.t 1)),aO 33 (.call 117 [(.t 32)]),aO 34 (.mv (.v (.c (.i .i64 0))))]
def H8T:ACode:=.ops C5x
def C5y:List AOper:=[aO 35 (.bin .lss (.t 34) (.v (.c (.i .i64 7))))]
def H8V:ACode:=.ops C5y
def H8X:ACode:=.cond (.t 35) .skip (.exit 0)
def C5z:List AOper:=[aO 36 (.mv (.t 34)),aO 37 (.idxA1 7 (.t 33) (.t 34)),aO 7 (.mv (.t 36)),aO 8 (.mv (.t 37))]
def H8Z:ACode:=.ops C5z
def C5A:List AOper:=[aO 38 (.loadN 256 (.t 6)),aO 39 (.mv (.t 7)),aO 40 (.bin .mul (.v (.c (.i .i64 2))) (.t 39)),aO 41 (.bin .add (.v (.c (.i .i64 10))) (.t 40)),aO 42 (.mv (.t 8)),aO 43 (.call 93 [(.t 38),(.t 41),(.v (.c (.i .i64 2))),(.t 42)]),{ dst:=none,op:=.storeN 256 (.t 6) (.t 43) }]
def H81:ACode:=.ops C5A
def H83:ACode:=.seq [2,4,6,7,8,33,34] H8Z H81
def H87:ACode:=.block 1 H83
def C5B:List AOper:=[aO 44 (.bin .add (.t 34) (.v (.c (.i .i64 1)))),aO 34 (.mv (.t 44))]
def H89:ACode:=.ops C5B
def H9b:ACode:=.seq [2,4,6,33,34] H87 H89
def H9d:ACode:=.seq [2,4,6,33,34] H8X H9b
def H9f:ACode:=.seq [2,4,6,33,34,35] H8V H9d
def H9g:ACode:=.loop [2,4,6,33,34] H9f
def H9i:ACode:=.block 0 H9g
def H9k:ACode:=.seq [2,4,6,33,34] H8T H9i
def C5C:List AOper:=[aO 45 (.mv (.v (.c (.i .i64 0))))]
def H9m:ACode:=.ops C5C
def C5D:List AOper:=[aO 46 (.bin .lss (.t 45) (.v (.c (.i .i64 32))))]
def H9o:ACode:=.ops C5D
def H9s:ACode:=.cond (.t 46) .skip (.exit 2)
def C5E:List AOper:=[aO 47 (.mv (.t 45)),aO 9 (.mv (.t 47))]
def H9u:ACode:=.ops C5E
def C5F:List AOper:=[aO 48 (.mv (.t 9)),aO 49 (.mv (.t 9)),aO 50 (.iAddrA 256 1 (.t 6) (.t 49)),aO 51 (.load1 (.t 50)),aO 52 (.iAddrA 32 1 (.t 4) (.t 48)),{ dst:=none,op:=.store1 (.t 52) (.t 51) }]
def H9w:ACode:=.ops C5F
def H9y:ACode:=.seq [2,4,6,9,45] H9u H9w
def H9A:ACode:=.block 3 H9y
def C5G:List AOper:=[aO 53 (.bin .add (.t 45) (.v (.c (.i .i64 1)))),aO 45 (.mv (.t 53))]
def H9C:ACode:=.ops C5G
def H9E:ACode:=.seq [2,4,6,45] H9A H9C
def H9G:ACode:=.seq [2,4,6,45] H9s H9E
def H9I:ACode:=.seq [2,4,6,45,46] H9o H9G
def H9J:ACode:=.loop [2,4,6,45] H9I
def H9N:ACode:=.block 2 H9J
def H9P:ACode:=.seq [2,4,6,45] H9m H9N
def C5I:List AOper:=[aO 54 (.loadN 32 (.t 4)),{ dst:=none,op:=.storeN 32 (.t 2) (.t 54) },aO 3 (.mv (.v (.c (.i .i64 0))))]
def H9R:ACode:=.ops C5I
def H9T:ACode:=.seq [2,3] H9R .ret
def H9U:ACode:=.seq [2,4] H9P H9T
def H9V:ACode:=.seq [2,4,6] H9k H9U
def H9X:ACode:=.seq [1,2,4,6] H8R H9V
def H9Z:ACode:=.seq [1,2,4,6] H8P H9X
def H91:ACode:=.seq [1,2,4,6] H8N H9Z
def H93:ACode:=.seq [1,2,4,6] H8L H91
def H97:ACode:=.seq [1,2,4,6] I0m H93
def H99:ACode:=.seq [1,2,4] I0k H97
def I0b:ACode:=.seq [1,2,4] H8K H99
def I0d:ACode:=.seq [1,2] H8I I0b
def A_inode_Put:AFn:=⟨I0d,[.cellN 2 32,.tmp 3]⟩
def K8:B6:=B1 116 A4P (B1 93 P9 (B1 117 A2H C1))
def H8J (n:Nat):SmV:=A2 K8 C5v
def H85 (n:Nat):SmV:=A2 K8 C5w
def H9q (n:Nat):SmV:=A2 K8 C5H
def H9L (n:Nat):SmV:=A2 K8 C5J
def H95 (n:Nat):SmV:=A2 K8 C5K
def I0f (n:Nat):SmV:=A1 [2,3] (H95 n) A8
def I0h (n:Nat):SmV:=B8 (.t 13) (I0f n) C0
def I0j (n:Nat):SmV:=A1 [1,2,4,5,13] (H9L n) (I0h n)
def I0l (n:Nat):SmV:=A1 [1,2,4,5] (H9q n) (I0j n)
def I0n (n:Nat):SmV:=A2 K8 C5L
def H8M (n:Nat):SmV:=A2 K8 C5M
def H8O (n:Nat):SmV:=A2 K8 C5N
def H8Q (n:Nat):SmV:=A2 K8 C5O
def H8S (n:Nat):SmV:=A2 K8 C5P
def H8U (n:Nat):SmV:=A2 K8 C5x
def H8W (n:Nat):SmV:=A2 K8 C5y
def H8Y (n:Nat):SmV:=B8 (.t 35) C0 (E3 0)
def H80 (n:Nat):SmV:=A2 K8 C5z
def H82 (n:Nat):SmV:=A2 K8 C5A
def H84 (n:Nat):SmV:=A1 [2,4,6,7,8,33,34] (H80 n) (H82 n)
def H88 (n:Nat):SmV:=C6 1 (H84 n)
def H9a (n:Nat):SmV:=A2 K8 C5B
def H9c (n:Nat):SmV:=A1 [2,4,6,33,34] (H88 n) (H9a n)
def H9e (n:Nat):SmV:=A1 [2,4,6,33,34] (H8Y n) (H9c n)
def C5o (n:Nat):SmV:=A1 [2,4,6,33,34,35] (H8W n) (H9e n)
def H9h (n:Nat):SmV:=E4 n [2,4,6,33,34] (C5o n)
def H9j (n:Nat):SmV:=C6 0 (H9h n)
def H9l (n:Nat):SmV:=A1 [2,4,6,33,34] (H8U n) (H9j n)
def H9n (n:Nat):SmV:=A2 K8 C5C
def H9p (n:Nat):SmV:=A2 K8 C5D
def H9t (n:Nat):SmV:=B8 (.t 46) C0 (E3 2)
def H9v (n:Nat):SmV:=A2 K8 C5E
def H9x (n:Nat):SmV:=A2 K8 C5F
def H9z (n:Nat):SmV:=A1 [2,4,6,9,45] (H9v n) (H9x n)
def H9B (n:Nat):SmV:=C6 3 (H9z n)
def H9D (n:Nat):SmV:=A2 K8 C5G
def H9F (n:Nat):SmV:=A1 [2,4,6,45] (H9B n) (H9D n)
def H9H (n:Nat):SmV:=A1 [2,4,6,45] (H9t n) (H9F n)
def C5p (n:Nat):SmV:=A1 [2,4,6,45,46] (H9p n) (H9H n)
def H9K (n:Nat):SmV:=E4 n [2,4,6,45] (C5p n)
def H9O (n:Nat):SmV:=C6 2 (H9K n)
def H9Q (n:Nat):SmV:=A1 [2,4,6,45] (H9n n) (H9O n)
def H9S (n:Nat):SmV:=A2 K8 C5I
def C5q (n:Nat):SmV:=A1 [2,3] (H9S n) A8
def C5r (n:Nat):SmV:=A1 [2,4] (H9Q n) (C5q n)
def H9W (n:Nat):SmV:=A1 [2,4,6] (H9l n) (C5r n)
def H9Y (n:Nat):SmV:=A1 [1,2,4,6] (H8S n) (H9W n)
def H90 (n:Nat):SmV:=A1 [1,2,4,6] (H8Q n) (H9Y n)
def H92 (n:Nat):SmV:=A1 [1,2,4,6] (H8O n) (H90 n)
def H94 (n:Nat):SmV:=A1 [1,2,4,6] (H8M n) (H92 n)
def H98 (n:Nat):SmV:=A1 [1,2,4,6] (I0n n) (H94 n)
def I0a (n:Nat):SmV:=A1 [1,2,4] (I0l n) (H98 n)
def I0c (n:Nat):SmV:=A1 [1,2,4] (H85 n) (I0a n)
def I0e (n:Nat):SmV:=A1 [1,2] (H8J n) (I0c n)
def A9a (n:Nat):AExit → Env → A0 → A6:=fun x e h=>match x with | .normal=>hold ((C5r n) A_inode_Put.fin (e.keep [2,4,6]) h) | .exit id=>A_inode_Put.fin (.exit id) e h | .ret=>A_inode_Put.fin .ret e h
def I0o (n:Nat):AExit → Env → A0 → A6:=fun x e h=>match x with | .exit i=>bif Nat.beq i 0 then (A9a n) .normal e h else (A9a n) (.exit i) e h | .normal=>(A9a n) .normal e h | .ret=>(A9a n) .ret e h
def A9c (n m:Nat) (x2 x4 x6 x33 x34:Val) (h:A0):A6:=E1 (C5o n) [2,4,6,33,34] (I0o n) m [(2,x2),(4,x4),(6,x6),(33,x33),(34,x34)] h
def A6Z (n:Nat) (args:List Val) (h:A0):A6:=(I0e n) A_inode_Put.fin (params 0 args) h
def A9b (n:Nat):AExit → Env → A0 → A6:=fun x e h=>match x with | .normal=>hold ((C5q n) A_inode_Put.fin (e.keep [2,4]) h) | .exit id=>A_inode_Put.fin (.exit id) e h | .ret=>A_inode_Put.fin .ret e h
def I0p (n:Nat):AExit → Env → A0 → A6:=fun x e h=>match x with | .exit i=>bif Nat.beq i 2 then (A9b n) .normal e h else (A9b n) (.exit i) e h | .normal=>(A9b n) .normal e h | .ret=>(A9b n) .ret e h
def A9d (n m:Nat) (x2 x4 x6 x45:Val) (h:A0):A6:=E1 (C5p n) [2,4,6,45] (I0p n) m [(2,x2),(4,x4),(6,x6),(45,x45)] h
theorem D3m (n:Nat) (a0:Val) (h:A0):A6Z n [a0] h=bnd (cells? a0) fun c1=>bnd (A5 ((((h ++ [some (Row.mk (c1) true)]) ++ [some (Row.mk (List.replicate 32 (.i .u8 0)) true)]) ++ [some (Row.mk (List.replicate 32 (.i .u8 0)) true)])) 11 ((.c (.p h.length 0)))) fun v2=>bnd (A4P [v2] ((((h ++ [some (Row.mk (c1) true)]) ++ [some (Row.mk (List.replicate 32 (.i .u8 0)) true)]) ++ [some (Row.mk (List.replicate 32 (.i .u8 0)) true)]))) fun p3=>bnd (A4 .neq p3.1 (.c (.i .i64 0))) fun v4=>cnd v4 (bnd (A5 p3.2 32 ((.c (.p (((h ++ [some (Row.mk (c1) true)]) ++ [some (Row.mk (List.replicate 32 (.i .u8 0)) true)])).length 0)))) fun v5=>bnd (B7 p3.2 32 ((.c (.p ((h ++ [some (Row.mk (c1) true)])).length 0))) v5) fun h6=>C7 [A5 h6 32 ((.c (.p ((h ++ [some (Row.mk (c1) true)])).length 0))),some p3.1] h6) (bnd (A5 ((p3.2 ++ [some (Row.mk (List.replicate 256 (.i .u8 0)) true)])) 256 ((.c (.p p3.2.length 0)))) fun v7=>bnd (B9 ((.c (.p h.length 0))) 0) fun v8=>bnd (A9 ((p3.2 ++ [some (Row.mk (List.replicate 256 (.i .u8 0)) true)])) v8) fun v9=>bnd (P9 [v7,.c (.i .i64 0),.c (.i .i64 1),v9] ((p3.2 ++ [some (Row.mk (List.replicate 256 (.i .u8 0)) true)]))) fun p10=>bnd (B7 p10.2 256 ((.c (.p p3.2.length 0))) p10.1) fun h11=>bnd (A5 h11 256 ((.c (.p p3.2.length 0)))) fun v12=>bnd (B9 ((.c (.p h.length 0))) 1) fun v13=>bnd (A9 h11 v13) fun v14=>bnd (P9 [v12,.c (.i .i64 2),.c (.i .i64 2),v14] h11) fun p15=>bnd (B7 p15.2 256 ((.c (.p p3.2.length 0))) p15.1) fun h16=>bnd (A5 h16 256 ((.c (.p p3.2.length 0)))) fun v17=>bnd (B9 ((.c (.p h.length 0))) 2) fun v18=>bnd (A9 h16 v18) fun v19=>bnd (P9 [v17,.c (.i .i64 4),.c (.i .i64 4),v19] h16) fun p20=>bnd (B7 p20.2 256 ((.c (.p p3.2.length 0))) p20.1) fun h21=>bnd (A5 h21 256 ((.c (.p p3.2.length 0)))) fun v22=>bnd (B9 ((.c (.p h.length 0))) 3) fun v23=>bnd (A9 h21 v23) fun v24=>bnd (P9 [v22,.c (.i .i64 8),.c (.i .i64 2),v24] h21) fun p25=>bnd (B7 p25.2 256 ((.c (.p p3.2.length 0))) p25.1) fun h26=>bnd (A5 h26 11 ((.c (.p h.length 0)))) fun v27=>bnd (A2H [v27] h26) fun p28=>A9c n n ((.c (.p ((h ++ [some (Row.mk (c1) true)])).length 0))) ((.c (.p (((h ++ [some (Row.mk (c1) true)]) ++ [some (Row.mk (List.replicate 32 (.i .u8 0)) true)])).length 0))) ((.c (.p p3.2.length 0))) p28.1 (.c (.i .i64 0)) p28.2):=by kernel_rfl
theorem C5t (n m:Nat) (x2 x4 x6 x33 x34:Val) (h:A0):A9c n (m + 1) x2 x4 x6 x33 x34 h=bnd (A4 .lss x34 (.c (.i .i64 7))) fun v29=>cnd v29 (bnd (V9 7 x33 x34) fun v30=>bnd (A5 h 256 x6) fun v31=>bnd (A4 .mul (.c (.i .i64 2)) x34) fun v32=>bnd (A4 .add (.c (.i .i64 10)) v32) fun v33=>bnd (P9 [v31,v33,.c (.i .i64 2),v30] h) fun p34=>bnd (B7 p34.2 256 x6 p34.1) fun h35=>bnd (A4 .add x34 (.c (.i .i64 1))) fun v36=>A9c n m x2 x4 x6 x33 v36 h35) (A9d n n x2 x4 x6 (.c (.i .i64 0)) h):=by kernel_rfl
theorem C5u (n m:Nat) (x2 x4 x6 x45:Val) (h:A0):A9d n (m + 1) x2 x4 x6 x45 h=bnd (A4 .lss x45 (.c (.i .i64 32))) fun v37=>cnd v37 (bnd (D7 256 1 x6 x45) fun v38=>bnd (A9 h v38) fun v39=>bnd (D7 32 1 x4 x45) fun v40=>bnd (F2 h v40 v39) fun h41=>bnd (A4 .add x45 (.c (.i .i64 1))) fun v42=>A9d n m x2 x4 x6 v42 h41) (bnd (A5 h 32 x4) fun v43=>bnd (B7 h 32 x2 v43) fun h44=>C7 [A5 h44 32 x2,some (.c (.i .i64 0))] h44):=by kernel_rfl
theorem K_inode_Put:FnK Tryz.prog 107 A_inode_Put K8 A6Z:=.mk' (B3 D5F (B3 B07 (B3 B3u C3))) Tryz.func107 (by kernel_rfl) (by intro n args h;kernel_rfl)
def A2I:Fun:=tidy (Lim A_inode_Put K8)
theorem B3v:SOk Tryz.prog 107 A2I:=K_inode_Put.sok
theorem D5L {n:Nat} {args:List Val} {h h2:A0} {v:Val} (he:A6Z n args (ro h)=some (v,h2)) (hf:v.flat=true):A2I args h=some (v,h):=K_inode_Put.flat he hf
def C41:List AOper:=[aO 1 (.box (.t 0)),aO 2 (.alloc ([.i .i64 0,.i .i64 0,.i .i64 0,.i .i64 0,.i .i64 0,.i .i64 0,.i .i64 0,.i .i64 0,.i .i64 0,.i .i64 0,.i .i64 0]))]
def H7c:ACode:=.ops C41
def C42:List AOper:=[aO 6 (.slA 32 1 (.t 1) none none),aO 7 (.call 92 [(.t 6)]),aO 3 (.alloc (List.replicate 256 (.i .u8 0))),{ dst:=none,op:=.storeN 256 (.t 3) (.t 7) }]
def H7e:ACode:=.ops C42
def C44:List AOper:=[aO 8 (.loadN 256 (.t 3)),aO 9 (.call 61 [(.t 8),(.v (.c (.i .i64 0))),(.v (.c (.i .i64 1)))]),aO 10 (.loadN 256 (.t 3)),aO 11 (.call 61 [(.t 10),(.v (.c (.i .i64 2))),(.v (.c (.i .i64 2)))]),aO 12 (.loadN 256 (.t 3)),aO 13 (.call 61 [(.t 12),(.v (.c (.i .i64 4))),(.v (.c (.i .i64 4)))]),aO 14 (.loadN 256 (.t 3)),aO 15 (.call 61 [(.t 14),(.v (.c (.i .i64 8))),(.v (.c (.i .i64 2)))]),aO 16 (.build ([.i .i64 0,.i .i64 0,.i .i64 0,.i .i64 0,.i .i64 0,.i .i64 0,.i .i64 0,.i .i64 0,.i .i64 0,.i .i64 0,.i .i64 0]) [(0,1,(.t 9)),(1,1,(.t 11)),(2,1,(.t 13)),(3,1,(.t 15))]),{ dst:=some 4,op:=.alloc ([.i .i64 0,.i .i64 0,.i .i64 0,.i .i64 0,.i .i64 0,.i .i64 0,.i .i64 0,.i .i64 0,.i .i64 0,.i .i64 0,.i .i64 0]),slot:=some 0 }]
def C45:List AOper:=[{ dst:=none,op:=.storeN 11 (.t 4) (.t 16) }]
def H7z:ACode:=.draw 1 C44 C45
def C46:List AOper:=[aO 17 (.mv (.v (.c (.i .i64 0))))]
def H7K:ACode:=.ops C46
def C47:List AOper:=[aO 18 (.bin .lss (.t 17) (.v (.c (.i .i64 6))))]
def H7M:ACode:=.ops C47
def H7O:ACode:=.cond (.t 18) .skip (.exit 0)
def C48:List AOper:=[aO 19 (.mv (.t 17)),aO 5 (.mv (.t 19))]
def H7Q:ACode:=.ops C48
def C49:List AOper:=[aO 20 (.mv (.t 5)),aO 21 (.loadN 256 (.t 3)),aO 22 (.mv (.t 5)),aO 23 (.bin .mul (.v (.c (.i .i64 2))) (.t 22)),aO 24 (.bin .add (.v (.c (.i .i64 10))) (.t 23)),aO 25 (.call 61 [(.t 21),(.t 24),(.v (.c (.i .i64 2)))]),aO 26 (.fAddr (.t 4) 4),aO 27 (.iAddrA 6 1 (.t 26) (.t 20)),{ dst:=none,op:=.store1 (.t 27) (.t 25) }]
def H7S:ACode:=.ops C49
def H7U:ACode:=.seq [2,3,4,5,17] H7Q H7S
def H7W:ACode:=.block 1 H7U
def C5a:List AOper:=[aO 28 (.bin .add (.t 17) (.v (.c (.i .i64 1)))),aO 17 (.mv (.t 28))]
def H7f:ACode:=.ops C5a
def H7h:ACode:=.seq [2,3,4,17] H7W H7f
def H7j:ACode:=.seq [2,3,4,17] H7O H7h
def H7l:ACode:=.seq [2,3,4,17,18] H7M H7j
def H7m:ACode:=.loop [2,3,4,17] H7l
def H7o:ACode:=.block 0 H7m
def H7q:ACode:=.seq [2,3,4,17] H7K H7o
def C5b:List AOper:=[aO 29 (.loadN 256 (.t 3)),aO 30 (.call 61 [(.t 29),(.v (.c (.i .i64 22))),(.v (.c (.i .i64 2)))]),aO 31 (.fAddr (.t 4) 10),{ dst:=none,op:=.store1 (.t 31) (.t 30) }]
def H7s:ACode:=.ops C5b
def C43:List AOper:=[aO 32 (.loadN 11 (.t 4)),{ dst:=none,op:=.storeN 11 (.t 2) (.t 32) }]
def H7u:ACode:=.ops C43
def H7w:ACode:=.seq [2] H7u .ret
def H7A:ACode:=.seq [2,4] H7s H7w
def H7B:ACode:=.seq [2,3,4] H7q H7A
def H7D:ACode:=.seq [2,3,4] H7z H7B
def H7F:ACode:=.seq [2,3] H7e H7D
def H7H:ACode:=.seq [1,2] H7c H7F
def A_inode_Get:AFn:=⟨H7H,[.cellN 2 11]⟩
def X0:B6:=B1 92 A0i (B1 61 N5 C1)
def H7d (n:Nat):SmV:=A2 X0 C41
def H7y (n:Nat):SmV:=A2 X0 C42
def H7J (n:Nat):SmV:=N3 X0 1 C44 C45
def H7L (n:Nat):SmV:=A2 X0 C46
def H7N (n:Nat):SmV:=A2 X0 C47
def H7P (n:Nat):SmV:=B8 (.t 18) C0 (E3 0)
def H7R (n:Nat):SmV:=A2 X0 C48
def H7T (n:Nat):SmV:=A2 X0 C49
def H7V (n:Nat):SmV:=A1 [2,3,4,5,17] (H7R n) (H7T n)
def H7X (n:Nat):SmV:=C6 1 (H7V n)
def H7g (n:Nat):SmV:=A2 X0 C5a
def H7i (n:Nat):SmV:=A1 [2,3,4,17] (H7X n) (H7g n)
def H7k (n:Nat):SmV:=A1 [2,3,4,17] (H7P n) (H7i n)
def C4Y (n:Nat):SmV:=A1 [2,3,4,17,18] (H7N n) (H7k n)
def H7n (n:Nat):SmV:=E4 n [2,3,4,17] (C4Y n)
def H7p (n:Nat):SmV:=C6 0 (H7n n)
def H7r (n:Nat):SmV:=A1 [2,3,4,17] (H7L n) (H7p n)
def H7t (n:Nat):SmV:=A2 X0 C5b
def H7v (n:Nat):SmV:=A2 X0 C43
def H7x (n:Nat):SmV:=A1 [2] (H7v n) A8
def C4Z (n:Nat):SmV:=A1 [2,4] (H7t n) (H7x n)
def H7C (n:Nat):SmV:=A1 [2,3,4] (H7r n) (C4Z n)
def H7E (n:Nat):SmV:=A1 [2,3,4] (H7J n) (H7C n)
def H7G (n:Nat):SmV:=A1 [2,3] (H7y n) (H7E n)
def H7I (n:Nat):SmV:=A1 [1,2] (H7d n) (H7G n)
def A86 (n:Nat):AExit → Env → A0 → A6:=fun x e h=>match x with | .normal=>hold ((C4Z n) A_inode_Get.fin (e.keep [2,3,4]) h) | .exit id=>A_inode_Get.fin (.exit id) e h | .ret=>A_inode_Get.fin .ret e h
def H7Y (n:Nat):AExit → Env → A0 → A6:=fun x e h=>match x with | .exit i=>bif Nat.beq i 0 then (A86 n) .normal e h else (A86 n) (.exit i) e h | .normal=>(A86 n) .normal e h | .ret=>(A86 n) .ret e h
def A87 (n m:Nat) (x2 x3 x4 x17:Val) (h:A0):A6:=E1 (C4Y n) [2,3,4,17] (H7Y n) m [(2,x2),(3,x3),(4,x4),(17,x17)] h
def A6X (n:Nat) (args:List Val) (h:A0):A6:=(H7I n) A_inode_Get.fin (params 0 args) h
theorem D3k (n:Nat) (a0:Val) (h:A0):A6X n [a0] h=bnd (cells? a0) fun c1=>bnd (O4 (((h ++ [some (Row.mk (c1) true)]) ++ [some (Row.mk ([.i .i64 0,.i .i64 0,.i .i64 0,.i .i64 0,.i .i64 0,.i .i64 0,.i .i64 0,.i .i64 0,.i .i64 0,.i .i64 0,.i .i64 0]) true)])) 32 1 ((.c (.p h.length 0))) none none) fun v2=>bnd (A0i [v2] (((h ++ [some (Row.mk (c1) true)]) ++ [some (Row.mk ([.i .i64 0,.i .i64 0,.i .i64 0,.i .i64 0,.i .i64 0,.i .i64 0,.i .i64 0,.i .i64 0,.i .i64 0,.i .i64 0,.i .i64 0]) true)]))) fun p3=>bnd (B7 ((p3.2 ++ [some (Row.mk (List.replicate 256 (.i .u8 0)) true)])) 256 ((.c (.p p3.2.length 0))) p3.1) fun h4=>bnd (A5 h4 256 ((.c (.p p3.2.length 0)))) fun v5=>bnd (quiet ((h4 ++ [none])) (N5 [v5,.c (.i .i64 0),.c (.i .i64 1)] ((h4 ++ [none])))) fun p6=>bnd (A5 h4 256 ((.c (.p p3.2.length 0)))) fun v7=>bnd (quiet p6.2 (N5 [v7,.c (.i .i64 2),.c (.i .i64 2)] p6.2)) fun p8=>bnd (A5 h4 256 ((.c (.p p3.2.length 0)))) fun v9=>bnd (quiet p8.2 (N5 [v9,.c (.i .i64 4),.c (.i .i64 4)] p8.2)) fun p10=>bnd (A5 h4 256 ((.c (.p p3.2.length 0)))) fun v11=>bnd (quiet p10.2 (N5 [v11,.c (.i .i64 8),.c (.i .i64 2)] p10.2)) fun p12=>bnd (B0 ([.i .i64 0,.i .i64 0,.i .i64 0,.i .i64 0,.i .i64 0,.i .i64 0,.i .i64 0,.i .i64 0,.i .i64 0,.i .i64 0,.i .i64 0]) [(0,1,p6.1),(1,1,p8.1),(2,1,p10.1),(3,1,p12.1)]) fun c13=>bnd (B7 ((p12.2.set (h4.length + 0) (some (Row.mk ([.i .i64 0,.i .i64 0,.i .i64 0,.i .i64 0,.i .i64 0,.i .i64 0,.i .i64 0,.i .i64 0,.i .i64 0,.i .i64 0,.i .i64 0]) true)))) 11 ((.c (.p (h4.length + 0) 0))) ((.a c13))) fun h14=>A87 n n ((.c (.p ((h ++ [some (Row.mk (c1) true)])).length 0))) ((.c (.p p3.2.length 0))) ((.c (.p (h4.length + 0) 0))) (.c (.i .i64 0)) h14:=by kernel_rfl
theorem C40 (n m:Nat) (x2 x3 x4 x17:Val) (h:A0):A87 n (m + 1) x2 x3 x4 x17 h=bnd (A4 .lss x17 (.c (.i .i64 6))) fun v15=>cnd v15 (bnd (A5 h 256 x3) fun v16=>bnd (A4 .mul (.c (.i .i64 2)) x17) fun v17=>bnd (A4 .add (.c (.i .i64 10)) v17) fun v18=>bnd (N5 [v16,v18,.c (.i .i64 2)] h) fun p19=>bnd (B9 x4 4) fun v20=>bnd (D7 6 1 v20 x17) fun v21=>bnd (F2 p19.2 v21 p19.1) fun h22=>bnd (A4 .add x17 (.c (.i .i64 1))) fun v23=>A87 n m x2 x3 x4 v23 h22) (bnd (A5 h 256 x3) fun v24=>bnd (N5 [v24,.c (.i .i64 22),.c (.i .i64 2)] h) fun p25=>bnd (B9 x4 10) fun v26=>bnd (F2 p25.2 v26 p25.1) fun h27=>bnd (A5 h27 11 x4) fun v28=>bnd (B7 h27 11 x2 v28) fun h29=>mp (A5 h29 11 x2) fun v=>(v,h29)):=by kernel_rfl
theorem K_inode_Get:FnK Tryz.prog 106 A_inode_Get X0 A6X:=.mk' (B3 A7q (B3 A7p C3)) Tryz.func106 (by kernel_rfl) (by intro n args h;kernel_rfl)
def A4R:Fun:=tidy (Lim A_inode_Get X0)
theorem D5J:SOk Tryz.prog 106 A4R:=K_inode_Get.sok
theorem D5I {n:Nat} {args:List Val} {h h2:A0} {v:Val} (he:A6X n args (ro h)=some (v,h2)) (hf:v.flat=true):A4R args h=some (v,h):=K_inode_Get.flat he hf
def C4S:List AOper:=[aO 1 (.box (.t 0)),aO 2 (.alloc ([.i .i64 0,.i .i64 0,.i .i64 0,.i .i64 0,.i .i64 0,.i .i64 0,.i .i64 0,.i .i64 0,.i .i64 0,.i .i64 0,.i .i64 0])),aO 3 (.mv (.v (.c (.b false))))]
def H6J:ACode:=.ops C4S
def C4T:List AOper:=[aO 7 (.loadN 32 (.t 1)),aO 8 (.call 106 [(.t 7)]),aO 4 (.alloc ([.i .i64 0,.i .i64 0,.i .i64 0,.i .i64 0,.i .i64 0,.i .i64 0,.i .i64 0,.i .i64 0,.i .i64 0,.i .i64 0,.i .i64 0])),{ dst:=none,op:=.storeN 11 (.t 4) (.t 8) }]
def H6L:ACode:=.ops C4T
def C4U:List AOper:=[aO 10 (.loadN 11 (.t 4)),aO 11 (.call 107 [(.t 10)]),aO 9 (.mv (.t 11)),aO 12 (.ext (.t 9) 0),aO 13 (.ext (.t 9) 1),aO 5 (.alloc (List.replicate 32 (.i .u8 0))),{ dst:=none,op:=.storeN 32 (.t 5) (.t 12) },aO 6 (.mv (.t 13))]
def H6V:ACode:=.ops C4U
def C4V:List AOper:=[aO 14 (.mv (.t 6)),aO 15 (.bin .neq (.t 14) (.v (.c (.i .i64 0)))),aO 16 (.mv (.t 15)),{ dst:=some 17,op:=.loadN 32 (.t 5),guard:=some (16,false) },{ dst:=some 18,op:=.loadN 32 (.t 1),guard:=some (16,false) },{ dst:=some 19,op:=.eqA true (List.replicate 32 (.i .u8)) (.t 17) (.t 18),guard:=some (16,false) },aO 20 (.pick (.t 16) (.v (.c (.b true))) (.t 19))]
def H6X:ACode:=.ops C4V
def C4W:List AOper:=[aO 21 (.build ([.i .i64 0,.i .i64 0,.i .i64 0,.i .i64 0,.i .i64 0,.i .i64 0,.i .i64 0,.i .i64 0,.i .i64 0,.i .i64 0,.i .i64 0]) []),{ dst:=none,op:=.storeN 11 (.t 2) (.t 21) },aO 3 (.mv (.v (.c (.b false))))]
def H6Z:ACode:=.ops C4W
def H61:ACode:=.seq [2,3] H6Z .ret
def H63:ACode:=.cond (.t 20) H61 .skip
def H65:ACode:=.seq [2,4,20] H6X H63
def H67:ACode:=.seq [1,2,4,5,6] H6V H65
def C4X:List AOper:=[aO 22 (.loadN 11 (.t 4)),{ dst:=none,op:=.storeN 11 (.t 2) (.t 22) },aO 3 (.mv (.v (.c (.b true))))]
def H69:ACode:=.ops C4X
def H6M:ACode:=.seq [2,3] H69 .ret
def H6O:ACode:=.seq [2,4] H67 H6M
def H6Q:ACode:=.seq [1,2,4] H6L H6O
def H6S:ACode:=.seq [1,2] H6J H6Q
def A_inode_Clean:AFn:=⟨H6S,[.cellN 2 11,.tmp 3]⟩
def A1w:B6:=B1 106 A4R (B1 107 A2I C1)
def H6K (n:Nat):SmV:=A2 A1w C4S
def H6U (n:Nat):SmV:=A2 A1w C4T
def H6W (n:Nat):SmV:=A2 A1w C4U
def H6Y (n:Nat):SmV:=A2 A1w C4V
def H60 (n:Nat):SmV:=A2 A1w C4W
def H62 (n:Nat):SmV:=A1 [2,3] (H60 n) A8
def H64 (n:Nat):SmV:=B8 (.t 20) (H62 n) C0
def H66 (n:Nat):SmV:=A1 [2,4,20] (H6Y n) (H64 n)
def H68 (n:Nat):SmV:=A1 [1,2,4,5,6] (H6W n) (H66 n)
def H7a (n:Nat):SmV:=A2 A1w C4X
def H6N (n:Nat):SmV:=A1 [2,3] (H7a n) A8
def H6P (n:Nat):SmV:=A1 [2,4] (H68 n) (H6N n)
def H6R (n:Nat):SmV:=A1 [1,2,4] (H6U n) (H6P n)
def H6T (n:Nat):SmV:=A1 [1,2] (H6K n) (H6R n)
def A6W (n:Nat) (args:List Val) (h:A0):A6:=(H6T n) A_inode_Clean.fin (params 0 args) h
theorem D3j (n:Nat) (a0:Val) (h:A0):A6W n [a0] h=bnd (cells? a0) fun c1=>bnd (A5 (((h ++ [some (Row.mk (c1) true)]) ++ [some (Row.mk ([.i .i64 0,.i .i64 0,.i .i64 0,.i .i64 0,.i .i64 0,.i .i64 0,.i .i64 0,.i .i64 0,.i .i64 0,.i .i64 0,.i .i64 0]) true)])) 32 ((.c (.p h.length 0)))) fun v2=>bnd (A4R [v2] (((h ++ [some (Row.mk (c1) true)]) ++ [some (Row.mk ([.i .i64 0,.i .i64 0,.i .i64 0,.i .i64 0,.i .i64 0,.i .i64 0,.i .i64 0,.i .i64 0,.i .i64 0,.i .i64 0,.i .i64 0]) true)]))) fun p3=>bnd (B7 ((p3.2 ++ [some (Row.mk ([.i .i64 0,.i .i64 0,.i .i64 0,.i .i64 0,.i .i64 0,.i .i64 0,.i .i64 0,.i .i64 0,.i .i64 0,.i .i64 0,.i .i64 0]) true)])) 11 ((.c (.p p3.2.length 0))) p3.1) fun h4=>bnd (A5 h4 11 ((.c (.p p3.2.length 0)))) fun v5=>bnd (A2I [v5] h4) fun p6=>bnd (C2 p6.1 0) fun v7=>bnd (C2 p6.1 1) fun v8=>bnd (B7 ((p6.2 ++ [some (Row.mk (List.replicate 32 (.i .u8 0)) true)])) 32 ((.c (.p p6.2.length 0))) v7) fun h9=>bnd (A4 .neq v8 (.c (.i .i64 0))) fun v10=>bnd (gd v10 false (bnd (A5 h9 32 ((.c (.p p6.2.length 0)))) fun v11=>some (v11,h9)) (some (.no,h9))) fun p12=>bnd (gd v10 false (bnd (A5 p12.2 32 ((.c (.p h.length 0)))) fun v13=>some (v13,p12.2)) (some (.no,p12.2))) fun p14=>bnd (gd v10 false (bnd (aeq true (List.replicate 32 (.i .u8)) p12.1 p14.1) fun v15=>some (v15,p14.2)) (some (.no,p14.2))) fun p16=>bnd (C5 v10 (.c (.b true)) p16.1) fun v17=>cnd v17 (bnd (B0 ([.i .i64 0,.i .i64 0,.i .i64 0,.i .i64 0,.i .i64 0,.i .i64 0,.i .i64 0,.i .i64 0,.i .i64 0,.i .i64 0,.i .i64 0]) []) fun c18=>bnd (B7 p16.2 11 ((.c (.p ((h ++ [some (Row.mk (c1) true)])).length 0))) ((.a c18))) fun h19=>C7 [A5 h19 11 ((.c (.p ((h ++ [some (Row.mk (c1) true)])).length 0))),some (.c (.b false))] h19) (bnd (A5 p16.2 11 ((.c (.p p3.2.length 0)))) fun v20=>bnd (B7 p16.2 11 ((.c (.p ((h ++ [some (Row.mk (c1) true)])).length 0))) v20) fun h21=>C7 [A5 h21 11 ((.c (.p ((h ++ [some (Row.mk (c1) true)])).length 0))),some (.c (.b true))] h21):=by kernel_rfl
theorem K_inode_Clean:FnK Tryz.prog 67 A_inode_Clean A1w A6W:=.mk' (B3 D5J (B3 B3v C3)) Tryz.func67 (by kernel_rfl) (by intro n args h;kernel_rfl)
def A4Q:Fun:=tidy (Lim A_inode_Clean A1w)
theorem D5H:SOk Tryz.prog 67 A4Q:=K_inode_Clean.sok
theorem D5G {n:Nat} {args:List Val} {h h2:A0} {v:Val} (he:A6W n args (ro h)=some (v,h2)) (hf:v.flat=true):A4Q args h=some (v,h):=K_inode_Clean.flat he hf
end Go.Proofs.YtdgggnlbdoiloaaGreat
end
noncomputable section
namespace Go.Proofs.YtdgggnlbdoiloaaGreat
open Go Go.Esc
set_option maxRecDepth 100000
def C9k:List AOper:=[aO 1 (.box (.t 0)),aO 2 (.mv (.v (.c (.i .i64 0))))]
def J2x:ACode:=.ops C9k
def C9l:List AOper:=[aO 4 (.fAddr (.t 1) 1),aO 5 (.load1 (.t 4)),aO 6 (.len (.t 5)),aO 3 (.mv (.t 6))]
def J2z:ACode:=.ops C9l
def C9m:List AOper:=[aO 7 (.mv (.t 3)),aO 8 (.bin .lss (.t 7) (.v (.c (.i .i64 1)))),aO 9 (.mv (.t 8)),{ dst:=some 10,op:=.mv (.t 3),guard:=some (9,false) },{ dst:=some 11,op:=.bin .gtr (.t 10) (.v (.c (.i .i64 256))),guard:=some (9,false) },aO 12 (.pick (.t 9) (.v (.c (.b true))) (.t 11)),aO 13 (.mv (.t 12)),{ dst:=some 14,op:=.fAddr (.t 1) 0,guard:=some (13,false) },{ dst:=some 15,op:=.load1 (.t 14),guard:=some (13,false) },{ dst:=some 16,op:=.bin .lss (.t 15) (.v (.c (.i .i64 0))),guard:=some (13,false) },aO 17 (.pick (.t 13) (.v (.c (.b true))) (.t 16)),aO 18 (.mv (.t 17)),{ dst:=some 19,op:=.fAddr (.t 1) 0,guard:=some (18,false) },{ dst:=some 20,op:=.load1 (.t 19),guard:=some (18,false) },{ dst:=some 21,op:=.mv (.t 3),guard:=some (18,false) },{ dst:=some 22,op:=.bin .sub (.v (.c (.i .i64 256))) (.t 21),guard:=some (18,false) },{ dst:=some 23,op:=.bin .gtr (.t 20) (.t 22),guard:=some (18,false) },aO 24 (.pick (.t 18) (.v (.c (.b true))) (.t 23))]
def J2F:ACode:=.ops C9m
def C9n:List AOper:=[aO 2 (.mv (.v (.c (.i .i64 2))))]
def J2H:ACode:=.ops C9n
def J2J:ACode:=.seq [2] J2H .ret
def J2L:ACode:=.cond (.t 24) J2J .skip
def J2N:ACode:=.seq [24] J2F J2L
def C9o:List AOper:=[aO 2 (.mv (.v (.c (.i .i64 0))))]
def J2P:ACode:=.ops C9o
def J2R:ACode:=.seq [2] J2P .ret
def J2T:ACode:=.seq [] J2N J2R
def J2A:ACode:=.seq [1,3] J2z J2T
def J2C:ACode:=.seq [1] J2x J2A
def A_patch_Check:AFn:=⟨J2C,[.tmp 2]⟩
def A2i:B6:=C1
def J2y (n:Nat):SmV:=A2 A2i C9k
def J2E (n:Nat):SmV:=A2 A2i C9l
def J2G (n:Nat):SmV:=A2 A2i C9m
def J2I (n:Nat):SmV:=A2 A2i C9n
def J2K (n:Nat):SmV:=A1 [2] (J2I n) A8
def J2M (n:Nat):SmV:=B8 (.t 24) (J2K n) C0
def J2O (n:Nat):SmV:=A1 [24] (J2G n) (J2M n)
def J2Q (n:Nat):SmV:=A2 A2i C9o
def J2S (n:Nat):SmV:=A1 [2] (J2Q n) A8
def J2U (n:Nat):SmV:=A1 [] (J2O n) (J2S n)
def J2B (n:Nat):SmV:=A1 [1,3] (J2E n) (J2U n)
def J2D (n:Nat):SmV:=A1 [1] (J2y n) (J2B n)
def A7a (n:Nat) (args:List Val) (h:A0):A6:=(J2D n) A_patch_Check.fin (params 0 args) h
theorem D3F (n:Nat) (a0:Val) (h:A0):A7a n [a0] h=bnd (cells? a0) fun c1=>bnd (B9 ((.c (.p h.length 0))) 1) fun v2=>bnd (A9 ((h ++ [some (Row.mk (c1) true)])) v2) fun v3=>bnd (F5 v3) fun v4=>bnd (A4 .lss v4 (.c (.i .i64 1))) fun v5=>bnd (gd v5 false (some (v4,(h ++ [some (Row.mk (c1) true)]))) (some (.no,(h ++ [some (Row.mk (c1) true)])))) fun p6=>bnd (gd v5 false (bnd (A4 .gtr p6.1 (.c (.i .i64 256))) fun v7=>some (v7,p6.2)) (some (.no,p6.2))) fun p8=>bnd (C5 v5 (.c (.b true)) p8.1) fun v9=>bnd (gd v9 false (bnd (B9 ((.c (.p h.length 0))) 0) fun v10=>some (v10,p8.2)) (some (.no,p8.2))) fun p11=>bnd (gd v9 false (bnd (A9 p11.2 p11.1) fun v12=>some (v12,p11.2)) (some (.no,p11.2))) fun p13=>bnd (gd v9 false (bnd (A4 .lss p13.1 (.c (.i .i64 0))) fun v14=>some (v14,p13.2)) (some (.no,p13.2))) fun p15=>bnd (C5 v9 (.c (.b true)) p15.1) fun v16=>bnd (gd v16 false (bnd (B9 ((.c (.p h.length 0))) 0) fun v17=>some (v17,p15.2)) (some (.no,p15.2))) fun p18=>bnd (gd v16 false (bnd (A9 p18.2 p18.1) fun v19=>some (v19,p18.2)) (some (.no,p18.2))) fun p20=>bnd (gd v16 false (some (v4,p20.2)) (some (.no,p20.2))) fun p21=>bnd (gd v16 false (bnd (A4 .sub (.c (.i .i64 256)) p21.1) fun v22=>some (v22,p21.2)) (some (.no,p21.2))) fun p23=>bnd (gd v16 false (bnd (A4 .gtr p20.1 p23.1) fun v24=>some (v24,p23.2)) (some (.no,p23.2))) fun p25=>bnd (C5 v16 (.c (.b true)) p25.1) fun v26=>cnd v26 (some ((.c (.i .i64 2)),p25.2)) (some ((.c (.i .i64 0)),p25.2)):=by kernel_rfl
theorem K_patch_Check:FnK Tryz.prog 113 A_patch_Check A2i A7a:=.mk' (C3) Tryz.func113 (by kernel_rfl) (by intro n args h;kernel_rfl)
def A4Z:Fun:=tidy (Lim A_patch_Check A2i)
theorem D6e:SOk Tryz.prog 113 A4Z:=K_patch_Check.sok
theorem D6d {n:Nat} {args:List Val} {h h2:A0} {v:Val} (he:A7a n args (ro h)=some (v,h2)) (hf:v.flat=true):A4Z args h=some (v,h):=K_patch_Check.flat he hf
def C9t:List AOper:=[aO 2 (.box (.t 0)),aO 3 (.box (.t 1)),aO 4 (.alloc (List.replicate 256 (.i .u8 0)))]
def J2W:ACode:=.ops C9t
def C9u:List AOper:=[aO 7 (.loadN 2 (.t 3)),aO 8 (.call 113 [(.t 7)]),aO 9 (.bin .neq (.t 8) (.v (.c (.i .i64 0))))]
def J2Y:ACode:=.ops C9u
def C9v:List AOper:=[aO 10 (.loadN 256 (.t 2)),{ dst:=none,op:=.storeN 256 (.t 4) (.t 10) }]
def J3j:ACode:=.ops C9v
def J3u:ACode:=.seq [4] J3j .ret
def J3w:ACode:=.cond (.t 9) J3u .skip
def J3y:ACode:=.seq [2,3,4,9] J2Y J3w
def C9w:List AOper:=[aO 11 (.fAddr (.t 3) 1),aO 12 (.load1 (.t 11)),aO 13 (.len (.t 12)),aO 14 (.mv (.v (.c (.i .i64 0))))]
def J3A:ACode:=.ops C9w
def C9x:List AOper:=[aO 15 (.bin .lss (.t 14) (.t 13))]
def J3C:ACode:=.ops C9x
def J3E:ACode:=.cond (.t 15) .skip (.exit 0)
def C9y:List AOper:=[aO 16 (.mv (.t 14)),aO 17 (.iAddrL 1 (.t 12) (.t 14)),aO 18 (.load1 (.t 17)),aO 5 (.mv (.t 16)),aO 6 (.mv (.t 18))]
def J3G:ACode:=.ops C9y
def C9z:List AOper:=[aO 19 (.fAddr (.t 3) 0),aO 20 (.load1 (.t 19)),aO 21 (.mv (.t 5)),aO 22 (.bin .add (.t 20) (.t 21)),aO 23 (.mv (.t 6)),aO 24 (.iAddrA 256 1 (.t 2) (.t 22)),{ dst:=none,op:=.store1 (.t 24) (.t 23) }]
def J2Z:ACode:=.ops C9z
def J21:ACode:=.seq [2,3,4,5,6,12,13,14] J3G J2Z
def J23:ACode:=.block 1 J21
def C9A:List AOper:=[aO 25 (.bin .add (.t 14) (.v (.c (.i .i64 1)))),aO 14 (.mv (.t 25))]
def J25:ACode:=.ops C9A
def J27:ACode:=.seq [2,3,4,12,13,14] J23 J25
def J29:ACode:=.seq [2,3,4,12,13,14] J3E J27
def J3b:ACode:=.seq [2,3,4,12,13,14,15] J3C J29
def J3c:ACode:=.loop [2,3,4,12,13,14] J3b
def J3e:ACode:=.block 0 J3c
def J3g:ACode:=.seq [2,3,4,12,13,14] J3A J3e
def C9B:List AOper:=[aO 26 (.loadN 256 (.t 2)),{ dst:=none,op:=.storeN 256 (.t 4) (.t 26) }]
def J3k:ACode:=.ops C9B
def J3m:ACode:=.seq [4] J3k .ret
def J3n:ACode:=.seq [2,4] J3g J3m
def J3p:ACode:=.seq [2,3,4] J3y J3n
def J3r:ACode:=.seq [2,3,4] J2W J3p
def A_patch_Lay:AFn:=⟨J3r,[.cellN 4 256]⟩
def A0f:B6:=B1 113 A4Z C1
def J2X (n:Nat):SmV:=A2 A0f C9t
def J3i (n:Nat):SmV:=A2 A0f C9u
def J3t (n:Nat):SmV:=A2 A0f C9v
def J3v (n:Nat):SmV:=A1 [4] (J3t n) A8
def J3x (n:Nat):SmV:=B8 (.t 9) (J3v n) C0
def J3z (n:Nat):SmV:=A1 [2,3,4,9] (J3i n) (J3x n)
def J3B (n:Nat):SmV:=A2 A0f C9w
def J3D (n:Nat):SmV:=A2 A0f C9x
def J3F (n:Nat):SmV:=B8 (.t 15) C0 (E3 0)
def J3H (n:Nat):SmV:=A2 A0f C9y
def J20 (n:Nat):SmV:=A2 A0f C9z
def J22 (n:Nat):SmV:=A1 [2,3,4,5,6,12,13,14] (J3H n) (J20 n)
def J24 (n:Nat):SmV:=C6 1 (J22 n)
def J26 (n:Nat):SmV:=A2 A0f C9A
def J28 (n:Nat):SmV:=A1 [2,3,4,12,13,14] (J24 n) (J26 n)
def J3a (n:Nat):SmV:=A1 [2,3,4,12,13,14] (J3F n) (J28 n)
def C9p (n:Nat):SmV:=A1 [2,3,4,12,13,14,15] (J3D n) (J3a n)
def J3d (n:Nat):SmV:=E4 n [2,3,4,12,13,14] (C9p n)
def J3f (n:Nat):SmV:=C6 0 (J3d n)
def J3h (n:Nat):SmV:=A1 [2,3,4,12,13,14] (J3B n) (J3f n)
def J3l (n:Nat):SmV:=A2 A0f C9B
def C9q (n:Nat):SmV:=A1 [4] (J3l n) A8
def J3o (n:Nat):SmV:=A1 [2,4] (J3h n) (C9q n)
def J3q (n:Nat):SmV:=A1 [2,3,4] (J3z n) (J3o n)
def J3s (n:Nat):SmV:=A1 [2,3,4] (J2X n) (J3q n)
def A9Y (n:Nat):AExit → Env → A0 → A6:=fun x e h=>match x with | .normal=>hold ((C9q n) A_patch_Lay.fin (e.keep [2,4]) h) | .exit id=>A_patch_Lay.fin (.exit id) e h | .ret=>A_patch_Lay.fin .ret e h
def J3J (n:Nat):AExit → Env → A0 → A6:=fun x e h=>match x with | .exit i=>bif Nat.beq i 0 then (A9Y n) .normal e h else (A9Y n) (.exit i) e h | .normal=>(A9Y n) .normal e h | .ret=>(A9Y n) .ret e h
def A9Z (n m:Nat) (x2 x3 x4 x12 x13 x14:Val) (h:A0):A6:=E1 (C9p n) [2,3,4,12,13,14] (J3J n) m [(2,x2),(3,x3),(4,x4),(12,x12),(13,x13),(14,x14)] h
def A7b (n:Nat) (args:List Val) (h:A0):A6:=(J3s n) A_patch_Lay.fin (params 0 args) h
theorem D3G (n:Nat) (a0 a1:Val) (h:A0):A7b n [a0,a1] h=bnd (cells? a0) fun c1=>bnd (cells? a1) fun c2=>bnd (A5 ((((h ++ [some (Row.mk (c1) true)]) ++ [some (Row.mk (c2) true)]) ++ [some (Row.mk (List.replicate 256 (.i .u8 0)) true)])) 2 ((.c (.p ((h ++ [some (Row.mk (c1) true)])).length 0)))) fun v3=>bnd (A4Z [v3] ((((h ++ [some (Row.mk (c1) true)]) ++ [some (Row.mk (c2) true)]) ++ [some (Row.mk (List.replicate 256 (.i .u8 0)) true)]))) fun p4=>bnd (A4 .neq p4.1 (.c (.i .i64 0))) fun v5=>cnd v5 (bnd (A5 p4.2 256 ((.c (.p h.length 0)))) fun v6=>bnd (B7 p4.2 256 ((.c (.p (((h ++ [some (Row.mk (c1) true)]) ++ [some (Row.mk (c2) true)])).length 0))) v6) fun h7=>mp (A5 h7 256 ((.c (.p (((h ++ [some (Row.mk (c1) true)]) ++ [some (Row.mk (c2) true)])).length 0)))) fun v=>(v,h7)) (bnd (B9 ((.c (.p ((h ++ [some (Row.mk (c1) true)])).length 0))) 1) fun v8=>bnd (A9 p4.2 v8) fun v9=>bnd (F5 v9) fun v10=>A9Z n n ((.c (.p h.length 0))) ((.c (.p ((h ++ [some (Row.mk (c1) true)])).length 0))) ((.c (.p (((h ++ [some (Row.mk (c1) true)]) ++ [some (Row.mk (c2) true)])).length 0))) v9 v10 (.c (.i .i64 0)) p4.2):=by kernel_rfl
theorem C9r (n m:Nat) (x2 x3 x4 x12 x13 x14:Val) (h:A0):A9Z n (m + 1) x2 x3 x4 x12 x13 x14 h=bnd (A4 .lss x14 x13) fun v11=>cnd v11 (bnd (D0 1 x12 x14) fun v12=>bnd (A9 h v12) fun v13=>bnd (B9 x3 0) fun v14=>bnd (A9 h v14) fun v15=>bnd (A4 .add v15 x14) fun v16=>bnd (D7 256 1 x2 v16) fun v17=>bnd (F2 h v17 v13) fun h18=>bnd (A4 .add x14 (.c (.i .i64 1))) fun v19=>A9Z n m x2 x3 x4 x12 x13 v19 h18) (bnd (A5 h 256 x2) fun v20=>bnd (B7 h 256 x4 v20) fun h21=>mp (A5 h21 256 x4) fun v=>(v,h21)):=by kernel_rfl
theorem K_patch_Lay:FnK Tryz.prog 97 A_patch_Lay A0f A7b:=.mk' (B3 D6e C3) Tryz.func97 (by kernel_rfl) (by intro n args h;kernel_rfl)
def A40:Fun:=tidy (Lim A_patch_Lay A0f)
theorem D6g:SOk Tryz.prog 97 A40:=K_patch_Lay.sok
theorem D6f {n:Nat} {args:List Val} {h h2:A0} {v:Val} (he:A7b n args (ro h)=some (v,h2)) (hf:v.flat=true):A40 args h=some (v,h):=K_patch_Lay.flat he hf
end Go.Proofs.YtdgggnlbdoiloaaGreat
end
noncomputable section
namespace Go.Proofs.YtdgggnlbdoiloaaGreat
open Go Go.Esc
set_option maxRecDepth 100000
def D1f:List AOper:=[aO 3 (.box (.t 1)),aO 4 (.alloc ([.i .i64 0,.ns])),aO 5 (.mv (.v (.c (.i .i64 0))))]
def J74:ACode:=.ops D1f
def D1g:List AOper:=[aO 8 (.mv (.t 0)),aO 9 (.bin .lss (.t 8) (.v (.c (.i .i64 0)))),aO 10 (.mv (.t 9)),{ dst:=some 11,op:=.mv (.t 0),guard:=some (10,false) },{ dst:=some 12,op:=.bin .geq (.t 11) (.v (.c (.i .i64 8))),guard:=some (10,false) },aO 13 (.pick (.t 10) (.v (.c (.b true))) (.t 12))]
def J76:ACode:=.ops D1g
def D1h:List AOper:=[aO 14 (.build ([.i .i64 0,.ns]) []),{ dst:=none,op:=.storeN 2 (.t 4) (.t 14) },aO 5 (.mv (.v (.c (.i .i64 2))))]
def J8o:ACode:=.ops D1h
def J8q:ACode:=.seq [4,5] J8o .ret
def J8s:ACode:=.cond (.t 13) J8q .skip
def J8u:ACode:=.seq [0,3,4,13] J76 J8s
def D1i:List AOper:=[aO 16 (.loadN 11 (.t 3)),aO 17 (.call 107 [(.t 16)]),aO 15 (.mv (.t 17)),aO 18 (.ext (.t 15) 0),aO 19 (.ext (.t 15) 1),aO 6 (.alloc (List.replicate 32 (.i .u8 0))),{ dst:=none,op:=.storeN 32 (.t 6) (.t 18) },aO 7 (.mv (.t 19))]
def J8w:ACode:=.ops D1i
def D1j:List AOper:=[aO 20 (.mv (.t 7)),aO 21 (.bin .neq (.t 20) (.v (.c (.i .i64 0))))]
def J8y:ACode:=.ops D1j
def D1k:List AOper:=[aO 22 (.build ([.i .i64 0,.ns]) []),aO 23 (.mv (.t 7)),{ dst:=none,op:=.storeN 2 (.t 4) (.t 22) },aO 5 (.mv (.t 23))]
def J8A:ACode:=.ops D1k
def J8C:ACode:=.seq [4,5] J8A .ret
def J77:ACode:=.cond (.t 21) J8C .skip
def J79:ACode:=.seq [0,4,6,7,21] J8y J77
def D1l:List AOper:=[aO 24 (.mv (.t 0)),aO 25 (.bin .mul (.t 24) (.v (.c (.i .i64 32)))),aO 26 (.buildSl 1 0 ([]) []),aO 27 (.slA 32 1 (.t 6) none none),aO 28 (.app 1 (.t 26) (.t 27)),aO 29 (.build ([.i .i64 0,.ns]) [(0,1,(.t 25)),(1,1,(.t 28))]),{ dst:=none,op:=.storeN 2 (.t 4) (.t 29) },aO 5 (.mv (.v (.c (.i .i64 0))))]
def J8b:ACode:=.ops D1l
def J8d:ACode:=.seq [4,5] J8b .ret
def J8f:ACode:=.seq [0,4,6] J79 J8d
def J8h:ACode:=.seq [0,4,6,7] J8w J8f
def J8j:ACode:=.seq [0,3,4] J8u J8h
def J8l:ACode:=.seq [0,3,4] J74 J8j
def A_table_Patch:AFn:=⟨J8l,[.cellN 4 2,.tmp 5]⟩
def A01:B6:=B1 107 A2I C1
def J75 (n:Nat):SmV:=A2 A01 D1f
def J8n (n:Nat):SmV:=A2 A01 D1g
def J8p (n:Nat):SmV:=A2 A01 D1h
def J8r (n:Nat):SmV:=A1 [4,5] (J8p n) A8
def J8t (n:Nat):SmV:=B8 (.t 13) (J8r n) C0
def J8v (n:Nat):SmV:=A1 [0,3,4,13] (J8n n) (J8t n)
def J8x (n:Nat):SmV:=A2 A01 D1i
def J8z (n:Nat):SmV:=A2 A01 D1j
def J8B (n:Nat):SmV:=A2 A01 D1k
def J8D (n:Nat):SmV:=A1 [4,5] (J8B n) A8
def J78 (n:Nat):SmV:=B8 (.t 21) (J8D n) C0
def J8a (n:Nat):SmV:=A1 [0,4,6,7,21] (J8z n) (J78 n)
def J8c (n:Nat):SmV:=A2 A01 D1l
def J8e (n:Nat):SmV:=A1 [4,5] (J8c n) A8
def J8g (n:Nat):SmV:=A1 [0,4,6] (J8a n) (J8e n)
def J8i (n:Nat):SmV:=A1 [0,4,6,7] (J8x n) (J8g n)
def J8k (n:Nat):SmV:=A1 [0,3,4] (J8v n) (J8i n)
def J8m (n:Nat):SmV:=A1 [0,3,4] (J75 n) (J8k n)
def A7g (n:Nat) (args:List Val) (h:A0):A6:=(J8m n) A_table_Patch.fin (params 0 args) h
theorem D3L (n:Nat) (a0 a1:Val) (h:A0):A7g n [a0,a1] h=bnd (cells? a1) fun c1=>bnd (A4 .lss a0 (.c (.i .i64 0))) fun v2=>bnd (gd v2 false (some (a0,((h ++ [some (Row.mk (c1) true)]) ++ [some (Row.mk ([.i .i64 0,.ns]) true)]))) (some (.no,((h ++ [some (Row.mk (c1) true)]) ++ [some (Row.mk ([.i .i64 0,.ns]) true)])))) fun p3=>bnd (gd v2 false (bnd (A4 .geq p3.1 (.c (.i .i64 8))) fun v4=>some (v4,p3.2)) (some (.no,p3.2))) fun p5=>bnd (C5 v2 (.c (.b true)) p5.1) fun v6=>cnd v6 (bnd (B0 ([.i .i64 0,.ns]) []) fun c7=>bnd (B7 p5.2 2 ((.c (.p ((h ++ [some (Row.mk (c1) true)])).length 0))) ((.a c7))) fun h8=>C7 [A5 h8 2 ((.c (.p ((h ++ [some (Row.mk (c1) true)])).length 0))),some (.c (.i .i64 2))] h8) (bnd (A5 p5.2 11 ((.c (.p h.length 0)))) fun v9=>bnd (A2I [v9] p5.2) fun p10=>bnd (C2 p10.1 0) fun v11=>bnd (C2 p10.1 1) fun v12=>bnd (B7 ((p10.2 ++ [some (Row.mk (List.replicate 32 (.i .u8 0)) true)])) 32 ((.c (.p p10.2.length 0))) v11) fun h13=>bnd (A4 .neq v12 (.c (.i .i64 0))) fun v14=>cnd v14 (bnd (B0 ([.i .i64 0,.ns]) []) fun c15=>bnd (B7 h13 2 ((.c (.p ((h ++ [some (Row.mk (c1) true)])).length 0))) ((.a c15))) fun h16=>C7 [A5 h16 2 ((.c (.p ((h ++ [some (Row.mk (c1) true)])).length 0))),some v12] h16) (bnd (A4 .mul a0 (.c (.i .i64 32))) fun v17=>bnd (B0 ([]) []) fun c18=>bnd (O4 ((h13 ++ [some (Row.mk (c18) true)])) 32 1 ((.c (.p p10.2.length 0))) none none) fun v19=>bnd (E5 ((h13 ++ [some (Row.mk (c18) true)])) 1 ((.c (.sl h13.length 0 0 1))) v19) fun p20=>bnd (B0 ([.i .i64 0,.ns]) [(0,1,v17),(1,1,p20.1)]) fun c21=>bnd (B7 p20.2 2 ((.c (.p ((h ++ [some (Row.mk (c1) true)])).length 0))) ((.a c21))) fun h22=>C7 [A5 h22 2 ((.c (.p ((h ++ [some (Row.mk (c1) true)])).length 0))),some (.c (.i .i64 0))] h22)):=by kernel_rfl
theorem K_table_Patch:FnK Tryz.prog 96 A_table_Patch A01 A7g:=.mk' (B3 B3v C3) Tryz.func96 (by kernel_rfl) (by intro n args h;kernel_rfl)
def A43:Fun:=tidy (Lim A_table_Patch A01)
theorem D6n:SOk Tryz.prog 96 A43:=K_table_Patch.sok
theorem D6o {n:Nat} {args:List Val} {h h2:A0} {v:Val} {v2:Val} {ids:List Nat} (he:A7g n args (ro h)=some (v,h2)) (hc:K4 h2 h.length v=some (v2,ids)):A43 args h=some (v2,h ++ ids.map (rd h2)):=K_table_Patch.tidy he hc
def D1z:List AOper:=[aO 3 (.box (.t 0)),aO 5 (.box (.t 2)),aO 6 (.alloc (List.replicate 256 (.i .u8 0))),aO 7 (.mv (.v (.c (.i .i64 0))))]
def J9x:ACode:=.ops D1z
def D1A:List AOper:=[aO 11 (.mv (.t 1)),aO 12 (.loadN 11 (.t 5)),aO 13 (.call 96 [(.t 11),(.t 12)]),aO 10 (.mv (.t 13)),aO 14 (.ext (.t 10) 0),aO 15 (.ext (.t 10) 1),aO 8 (.alloc ([.i .i64 0,.ns])),{ dst:=none,op:=.storeN 2 (.t 8) (.t 14) },aO 9 (.mv (.t 15))]
def J9z:ACode:=.ops D1A
def D1B:List AOper:=[aO 16 (.mv (.t 9)),aO 17 (.bin .neq (.t 16) (.v (.c (.i .i64 0))))]
def J9F:ACode:=.ops D1B
def D1C:List AOper:=[aO 18 (.loadN 256 (.t 3)),aO 19 (.mv (.t 9)),{ dst:=none,op:=.storeN 256 (.t 6) (.t 18) },aO 7 (.mv (.t 19))]
def J9H:ACode:=.ops D1C
def J9J:ACode:=.seq [6,7] J9H .ret
def J9L:ACode:=.cond (.t 17) J9J .skip
def J9N:ACode:=.seq [3,6,8,9,17] J9F J9L
def D1D:List AOper:=[aO 20 (.loadN 256 (.t 3)),aO 21 (.loadN 2 (.t 8)),aO 22 (.call 97 [(.t 20),(.t 21)]),{ dst:=none,op:=.storeN 256 (.t 6) (.t 22) },aO 7 (.mv (.v (.c (.i .i64 0))))]
def J9P:ACode:=.ops D1D
def J9R:ACode:=.seq [6,7] J9P .ret
def J9T:ACode:=.seq [3,6,8] J9N J9R
def J9A:ACode:=.seq [3,6,8,9] J9z J9T
def J9C:ACode:=.seq [1,3,5,6] J9x J9A
def A_table_With:AFn:=⟨J9C,[.cellN 6 256,.tmp 7]⟩
def A2j:B6:=B1 96 A43 (B1 97 A40 C1)
def J9y (n:Nat):SmV:=A2 A2j D1z
def J9E (n:Nat):SmV:=A2 A2j D1A
def J9G (n:Nat):SmV:=A2 A2j D1B
def J9I (n:Nat):SmV:=A2 A2j D1C
def J9K (n:Nat):SmV:=A1 [6,7] (J9I n) A8
def J9M (n:Nat):SmV:=B8 (.t 17) (J9K n) C0
def J9O (n:Nat):SmV:=A1 [3,6,8,9,17] (J9G n) (J9M n)
def J9Q (n:Nat):SmV:=A2 A2j D1D
def J9S (n:Nat):SmV:=A1 [6,7] (J9Q n) A8
def J9U (n:Nat):SmV:=A1 [3,6,8] (J9O n) (J9S n)
def J9B (n:Nat):SmV:=A1 [3,6,8,9] (J9E n) (J9U n)
def J9D (n:Nat):SmV:=A1 [1,3,5,6] (J9y n) (J9B n)
def A7i (n:Nat) (args:List Val) (h:A0):A6:=(J9D n) A_table_With.fin (params 0 args) h
theorem D3N (n:Nat) (a0 a1 a2:Val) (h:A0):A7i n [a0,a1,a2] h=bnd (cells? a0) fun c1=>bnd (cells? a2) fun c2=>bnd (A5 ((((h ++ [some (Row.mk (c1) true)]) ++ [some (Row.mk (c2) true)]) ++ [some (Row.mk (List.replicate 256 (.i .u8 0)) true)])) 11 ((.c (.p ((h ++ [some (Row.mk (c1) true)])).length 0)))) fun v3=>bnd (A43 [a1,v3] ((((h ++ [some (Row.mk (c1) true)]) ++ [some (Row.mk (c2) true)]) ++ [some (Row.mk (List.replicate 256 (.i .u8 0)) true)]))) fun p4=>bnd (C2 p4.1 0) fun v5=>bnd (C2 p4.1 1) fun v6=>bnd (B7 ((p4.2 ++ [some (Row.mk ([.i .i64 0,.ns]) true)])) 2 ((.c (.p p4.2.length 0))) v5) fun h7=>bnd (A4 .neq v6 (.c (.i .i64 0))) fun v8=>cnd v8 (bnd (A5 h7 256 ((.c (.p h.length 0)))) fun v9=>bnd (B7 h7 256 ((.c (.p (((h ++ [some (Row.mk (c1) true)]) ++ [some (Row.mk (c2) true)])).length 0))) v9) fun h10=>C7 [A5 h10 256 ((.c (.p (((h ++ [some (Row.mk (c1) true)]) ++ [some (Row.mk (c2) true)])).length 0))),some v6] h10) (bnd (A5 h7 256 ((.c (.p h.length 0)))) fun v11=>bnd (A5 h7 2 ((.c (.p p4.2.length 0)))) fun v12=>bnd (A40 [v11,v12] h7) fun p13=>bnd (B7 p13.2 256 ((.c (.p (((h ++ [some (Row.mk (c1) true)]) ++ [some (Row.mk (c2) true)])).length 0))) p13.1) fun h14=>C7 [A5 h14 256 ((.c (.p (((h ++ [some (Row.mk (c1) true)]) ++ [some (Row.mk (c2) true)])).length 0))),some (.c (.i .i64 0))] h14):=by kernel_rfl
theorem K_table_With:FnK Tryz.prog 56 A_table_With A2j A7i:=.mk' (B3 D6n (B3 D6g C3)) Tryz.func56 (by kernel_rfl) (by intro n args h;kernel_rfl)
def A3y:Fun:=tidy (Lim A_table_With A2j)
theorem D6s:SOk Tryz.prog 56 A3y:=K_table_With.sok
theorem D6r {n:Nat} {args:List Val} {h h2:A0} {v:Val} (he:A7i n args (ro h)=some (v,h2)) (hf:v.flat=true):A3y args h=some (v,h):=K_table_With.flat he hf
def D1p:List AOper:=[aO 2 (.box (.t 0)),aO 4 (.alloc (List.replicate 32 (.i .u8 0)))]
def J8F:ACode:=.ops D1p
def D1q:List AOper:=[aO 5 (.alloc (List.replicate 32 (.i .u8 0)))]
def J8H:ACode:=.ops D1q
def D1r:List AOper:=[aO 7 (.mv (.t 1)),aO 8 (.bin .lss (.t 7) (.v (.c (.i .i64 0)))),aO 9 (.mv (.t 8)),{ dst:=some 10,op:=.mv (.t 1),guard:=some (9,false) },{ dst:=some 11,op:=.bin .geq (.t 10) (.v (.c (.i .i64 8))),guard:=some (9,false) },aO 12 (.pick (.t 9) (.v (.c (.b true))) (.t 11))]
def J82:ACode:=.ops D1r
def D1s:List AOper:=[aO 13 (.loadN 32 (.t 5)),{ dst:=none,op:=.storeN 32 (.t 4) (.t 13) }]
def J9h:ACode:=.ops D1s
def J9j:ACode:=.seq [4] J9h .ret
def J9l:ACode:=.cond (.t 12) J9j .skip
def J9n:ACode:=.seq [1,2,4,5,12] J82 J9l
def D1t:List AOper:=[aO 14 (.mv (.v (.c (.i .i64 0))))]
def J9p:ACode:=.ops D1t
def D1u:List AOper:=[aO 15 (.bin .lss (.t 14) (.v (.c (.i .i64 32))))]
def J9r:ACode:=.ops D1u
def J9t:ACode:=.cond (.t 15) .skip (.exit 0)
def D1v:List AOper:=[aO 16 (.mv (.t 14)),aO 6 (.mv (.t 16))]
def J8I:ACode:=.ops D1v
def D1w:List AOper:=[aO 17 (.mv (.t 6)),aO 18 (.mv (.t 1)),aO 19 (.bin .mul (.t 18) (.v (.c (.i .i64 32)))),aO 20 (.mv (.t 6)),aO 21 (.bin .add (.t 19) (.t 20)),aO 22 (.iAddrA 256 1 (.t 2) (.t 21)),aO 23 (.load1 (.t 22)),aO 24 (.iAddrA 32 1 (.t 5) (.t 17)),{ dst:=none,op:=.store1 (.t 24) (.t 23) }]
def J8K:ACode:=.ops D1w
def J8M:ACode:=.seq [1,2,4,5,6,14] J8I J8K
def J8O:ACode:=.block 1 J8M
def D1x:List AOper:=[aO 25 (.bin .add (.t 14) (.v (.c (.i .i64 1)))),aO 14 (.mv (.t 25))]
def J8Q:ACode:=.ops D1x
def J8S:ACode:=.seq [1,2,4,5,14] J8O J8Q
def J8U:ACode:=.seq [1,2,4,5,14] J9t J8S
def J8W:ACode:=.seq [1,2,4,5,14,15] J9r J8U
def J8X:ACode:=.loop [1,2,4,5,14] J8W
def J8Z:ACode:=.block 0 J8X
def J83:ACode:=.seq [1,2,4,5,14] J9p J8Z
def D1y:List AOper:=[aO 26 (.loadN 32 (.t 5)),{ dst:=none,op:=.storeN 32 (.t 4) (.t 26) }]
def J85:ACode:=.ops D1y
def J87:ACode:=.seq [4] J85 .ret
def J88:ACode:=.seq [4,5] J83 J87
def J9a:ACode:=.seq [1,2,4,5] J9n J88
def J9c:ACode:=.seq [1,2,4,5] J8H J9a
def J9e:ACode:=.seq [1,2,4] J8F J9c
def A_table_Raw:AFn:=⟨J9e,[.cellN 4 32]⟩
def X6:B6:=C1
def J8G (n:Nat):SmV:=A2 X6 D1p
def J81 (n:Nat):SmV:=A2 X6 D1q
def J9g (n:Nat):SmV:=A2 X6 D1r
def J9i (n:Nat):SmV:=A2 X6 D1s
def J9k (n:Nat):SmV:=A1 [4] (J9i n) A8
def J9m (n:Nat):SmV:=B8 (.t 12) (J9k n) C0
def J9o (n:Nat):SmV:=A1 [1,2,4,5,12] (J9g n) (J9m n)
def J9q (n:Nat):SmV:=A2 X6 D1t
def J9s (n:Nat):SmV:=A2 X6 D1u
def J9u (n:Nat):SmV:=B8 (.t 15) C0 (E3 0)
def J8J (n:Nat):SmV:=A2 X6 D1v
def J8L (n:Nat):SmV:=A2 X6 D1w
def J8N (n:Nat):SmV:=A1 [1,2,4,5,6,14] (J8J n) (J8L n)
def J8P (n:Nat):SmV:=C6 1 (J8N n)
def J8R (n:Nat):SmV:=A2 X6 D1x
def J8T (n:Nat):SmV:=A1 [1,2,4,5,14] (J8P n) (J8R n)
def J8V (n:Nat):SmV:=A1 [1,2,4,5,14] (J9u n) (J8T n)
def D1m (n:Nat):SmV:=A1 [1,2,4,5,14,15] (J9s n) (J8V n)
def J8Y (n:Nat):SmV:=E4 n [1,2,4,5,14] (D1m n)
def J80 (n:Nat):SmV:=C6 0 (J8Y n)
def J84 (n:Nat):SmV:=A1 [1,2,4,5,14] (J9q n) (J80 n)
def J86 (n:Nat):SmV:=A2 X6 D1y
def D1n (n:Nat):SmV:=A1 [4] (J86 n) A8
def J89 (n:Nat):SmV:=A1 [4,5] (J84 n) (D1n n)
def J9b (n:Nat):SmV:=A1 [1,2,4,5] (J9o n) (J89 n)
def J9d (n:Nat):SmV:=A1 [1,2,4,5] (J81 n) (J9b n)
def J9f (n:Nat):SmV:=A1 [1,2,4] (J8G n) (J9d n)
def B0e (n:Nat):AExit → Env → A0 → A6:=fun x e h=>match x with | .normal=>hold ((D1n n) A_table_Raw.fin (e.keep [4,5]) h) | .exit id=>A_table_Raw.fin (.exit id) e h | .ret=>A_table_Raw.fin .ret e h
def J9w (n:Nat):AExit → Env → A0 → A6:=fun x e h=>match x with | .exit i=>bif Nat.beq i 0 then (B0e n) .normal e h else (B0e n) (.exit i) e h | .normal=>(B0e n) .normal e h | .ret=>(B0e n) .ret e h
def B0f (n m:Nat) (x1 x2 x4 x5 x14:Val) (h:A0):A6:=E1 (D1m n) [1,2,4,5,14] (J9w n) m [(1,x1),(2,x2),(4,x4),(5,x5),(14,x14)] h
def A7h (n:Nat) (args:List Val) (h:A0):A6:=(J9f n) A_table_Raw.fin (params 0 args) h
theorem D3M (n:Nat) (a0 a1:Val) (h:A0):A7h n [a0,a1] h=bnd (cells? a0) fun c1=>bnd (A4 .lss a1 (.c (.i .i64 0))) fun v2=>bnd (gd v2 false (some (a1,(((h ++ [some (Row.mk (c1) true)]) ++ [some (Row.mk (List.replicate 32 (.i .u8 0)) true)]) ++ [some (Row.mk (List.replicate 32 (.i .u8 0)) true)]))) (some (.no,(((h ++ [some (Row.mk (c1) true)]) ++ [some (Row.mk (List.replicate 32 (.i .u8 0)) true)]) ++ [some (Row.mk (List.replicate 32 (.i .u8 0)) true)])))) fun p3=>bnd (gd v2 false (bnd (A4 .geq p3.1 (.c (.i .i64 8))) fun v4=>some (v4,p3.2)) (some (.no,p3.2))) fun p5=>bnd (C5 v2 (.c (.b true)) p5.1) fun v6=>cnd v6 (bnd (A5 p5.2 32 ((.c (.p (((h ++ [some (Row.mk (c1) true)]) ++ [some (Row.mk (List.replicate 32 (.i .u8 0)) true)])).length 0)))) fun v7=>bnd (B7 p5.2 32 ((.c (.p ((h ++ [some (Row.mk (c1) true)])).length 0))) v7) fun h8=>mp (A5 h8 32 ((.c (.p ((h ++ [some (Row.mk (c1) true)])).length 0)))) fun v=>(v,h8)) (B0f n n a1 ((.c (.p h.length 0))) ((.c (.p ((h ++ [some (Row.mk (c1) true)])).length 0))) ((.c (.p (((h ++ [some (Row.mk (c1) true)]) ++ [some (Row.mk (List.replicate 32 (.i .u8 0)) true)])).length 0))) (.c (.i .i64 0)) p5.2):=by kernel_rfl
theorem D1o (n m:Nat) (x1 x2 x4 x5 x14:Val) (h:A0):B0f n (m + 1) x1 x2 x4 x5 x14 h=bnd (A4 .lss x14 (.c (.i .i64 32))) fun v9=>cnd v9 (bnd (A4 .mul x1 (.c (.i .i64 32))) fun v10=>bnd (A4 .add v10 x14) fun v11=>bnd (D7 256 1 x2 v11) fun v12=>bnd (A9 h v12) fun v13=>bnd (D7 32 1 x5 x14) fun v14=>bnd (F2 h v14 v13) fun h15=>bnd (A4 .add x14 (.c (.i .i64 1))) fun v16=>B0f n m x1 x2 x4 x5 v16 h15) (bnd (A5 h 32 x5) fun v17=>bnd (B7 h 32 x4 v17) fun h18=>mp (A5 h18 32 x4) fun v=>(v,h18)):=by kernel_rfl
theorem K_table_Raw:FnK Tryz.prog 68 A_table_Raw X6 A7h:=.mk' (C3) Tryz.func68 (by kernel_rfl) (by intro n args h;kernel_rfl)
def A44:Fun:=tidy (Lim A_table_Raw X6)
theorem D6q:SOk Tryz.prog 68 A44:=K_table_Raw.sok
theorem D6p {n:Nat} {args:List Val} {h h2:A0} {v:Val} (he:A7h n args (ro h)=some (v,h2)) (hf:v.flat=true):A44 args h=some (v,h):=K_table_Raw.flat he hf
def D1b:List AOper:=[aO 2 (.box (.t 0)),aO 4 (.alloc ([.i .i64 0,.i .i64 0,.i .i64 0,.i .i64 0,.i .i64 0,.i .i64 0,.i .i64 0,.i .i64 0,.i .i64 0,.i .i64 0,.i .i64 0])),aO 5 (.mv (.v (.c (.b false))))]
def J7K:ACode:=.ops D1b
def D1c:List AOper:=[aO 6 (.mv (.t 1)),aO 7 (.bin .lss (.t 6) (.v (.c (.i .i64 0)))),aO 8 (.mv (.t 7)),{ dst:=some 9,op:=.mv (.t 1),guard:=some (8,false) },{ dst:=some 10,op:=.bin .geq (.t 9) (.v (.c (.i .i64 8))),guard:=some (8,false) },aO 11 (.pick (.t 8) (.v (.c (.b true))) (.t 10))]
def J7M:ACode:=.ops D1c
def D1d:List AOper:=[aO 12 (.build ([.i .i64 0,.i .i64 0,.i .i64 0,.i .i64 0,.i .i64 0,.i .i64 0,.i .i64 0,.i .i64 0,.i .i64 0,.i .i64 0,.i .i64 0]) []),{ dst:=none,op:=.storeN 11 (.t 4) (.t 12) },aO 5 (.mv (.v (.c (.b false))))]
def J7O:ACode:=.ops D1d
def J7Q:ACode:=.seq [4,5] J7O .ret
def J7S:ACode:=.cond (.t 11) J7Q .skip
def J7U:ACode:=.seq [1,2,4,11] J7M J7S
def D1e:List AOper:=[aO 13 (.loadN 256 (.t 2)),aO 14 (.mv (.t 1)),aO 15 (.call 68 [(.t 13),(.t 14)]),aO 16 (.call 67 [(.t 15)]),aO 17 (.ext (.t 16) 0),aO 18 (.ext (.t 16) 1),{ dst:=none,op:=.storeN 11 (.t 4) (.t 17) },aO 5 (.mv (.t 18))]
def J7W:ACode:=.ops D1e
def J7Y:ACode:=.seq [4,5] J7W .ret
def J70:ACode:=.seq [1,2,4] J7U J7Y
def J72:ACode:=.seq [1,2,4] J7K J70
def A_table_Get:AFn:=⟨J72,[.cellN 4 11,.tmp 5]⟩
def A3s:B6:=B1 68 A44 (B1 67 A4Q C1)
def J7L (n:Nat):SmV:=A2 A3s D1b
def J7N (n:Nat):SmV:=A2 A3s D1c
def J7P (n:Nat):SmV:=A2 A3s D1d
def J7R (n:Nat):SmV:=A1 [4,5] (J7P n) A8
def J7T (n:Nat):SmV:=B8 (.t 11) (J7R n) C0
def J7V (n:Nat):SmV:=A1 [1,2,4,11] (J7N n) (J7T n)
def J7X (n:Nat):SmV:=A2 A3s D1e
def J7Z (n:Nat):SmV:=A1 [4,5] (J7X n) A8
def J71 (n:Nat):SmV:=A1 [1,2,4] (J7V n) (J7Z n)
def J73 (n:Nat):SmV:=A1 [1,2,4] (J7L n) (J71 n)
def A7f (n:Nat) (args:List Val) (h:A0):A6:=(J73 n) A_table_Get.fin (params 0 args) h
theorem D3K (n:Nat) (a0 a1:Val) (h:A0):A7f n [a0,a1] h=bnd (cells? a0) fun c1=>bnd (A4 .lss a1 (.c (.i .i64 0))) fun v2=>bnd (gd v2 false (some (a1,((h ++ [some (Row.mk (c1) true)]) ++ [some (Row.mk ([.i .i64 0,.i .i64 0,.i .i64 0,.i .i64 0,.i .i64 0,.i .i64 0,.i .i64 0,.i .i64 0,.i .i64 0,.i .i64 0,.i .i64 0]) true)]))) (some (.no,((h ++ [some (Row.mk (c1) true)]) ++ [some (Row.mk ([.i .i64 0,.i .i64 0,.i .i64 0,.i .i64 0,.i .i64 0,.i .i64 0,.i .i64 0,.i .i64 0,.i .i64 0,.i .i64 0,.i .i64 0]) true)])))) fun p3=>bnd (gd v2 false (bnd (A4 .geq p3.1 (.c (.i .i64 8))) fun v4=>some (v4,p3.2)) (some (.no,p3.2))) fun p5=>bnd (C5 v2 (.c (.b true)) p5.1) fun v6=>cnd v6 (bnd (B0 ([.i .i64 0,.i .i64 0,.i .i64 0,.i .i64 0,.i .i64 0,.i .i64 0,.i .i64 0,.i .i64 0,.i .i64 0,.i .i64 0,.i .i64 0]) []) fun c7=>bnd (B7 p5.2 11 ((.c (.p ((h ++ [some (Row.mk (c1) true)])).length 0))) ((.a c7))) fun h8=>C7 [A5 h8 11 ((.c (.p ((h ++ [some (Row.mk (c1) true)])).length 0))),some (.c (.b false))] h8) (bnd (A5 p5.2 256 ((.c (.p h.length 0)))) fun v9=>bnd (A44 [v9,a1] p5.2) fun p10=>bnd (A4Q [p10.1] p10.2) fun p11=>bnd (C2 p11.1 0) fun v12=>bnd (C2 p11.1 1) fun v13=>bnd (B7 p11.2 11 ((.c (.p ((h ++ [some (Row.mk (c1) true)])).length 0))) v12) fun h14=>C7 [A5 h14 11 ((.c (.p ((h ++ [some (Row.mk (c1) true)])).length 0))),some v13] h14):=by kernel_rfl
theorem K_table_Get:FnK Tryz.prog 29 A_table_Get A3s A7f:=.mk' (B3 D6q (B3 D5H C3)) Tryz.func29 (by kernel_rfl) (by intro n args h;kernel_rfl)
def A42:Fun:=tidy (Lim A_table_Get A3s)
theorem D6m:SOk Tryz.prog 29 A42:=K_table_Get.sok
theorem D6l {n:Nat} {args:List Val} {h h2:A0} {v:Val} (he:A7f n args (ro h)=some (v,h2)) (hf:v.flat=true):A42 args h=some (v,h):=K_table_Get.flat he hf
end Go.Proofs.YtdgggnlbdoiloaaGreat
end
noncomputable section
namespace Go.Proofs.YtdgggnlbdoiloaaGreat
open Go Go.Esc
set_option maxRecDepth 100000
def D1K:List AOper:=[aO 2 (.alloc ([.i .i64 0,.i .i64 0,.i .u64 0,.nf])),aO 3 (.mv (.v (.c (.i .i64 0))))]
def K0i:ACode:=.ops D1K
def D1L:List AOper:=[aO 7 (.mv (.t 0)),aO 8 (.len (.t 7)),aO 9 (.bin .eql (.t 8) (.v (.c (.i .i64 0))))]
def K0k:ACode:=.ops D1L
def D1M:List AOper:=[aO 10 (.build ([.i .i64 0,.i .i64 0,.i .u64 0,.nf]) []),{ dst:=none,op:=.storeN 4 (.t 2) (.t 10) },aO 3 (.mv (.v (.c (.i .i64 13))))]
def K0G:ACode:=.ops D1M
def K0I:ACode:=.seq [2,3] K0G .ret
def K0K:ACode:=.cond (.t 9) K0I .skip
def K0M:ACode:=.seq [0,2,9] K0k K0K
def D1N:List AOper:=[aO 12 (.mv (.t 0)),aO 13 (.iAddrL 256 (.t 12) (.v (.c (.i .i64 0)))),aO 14 (.loadN 256 (.t 13)),aO 15 (.call 25 [(.t 14)]),aO 11 (.mv (.t 15)),aO 16 (.ext (.t 11) 0),aO 17 (.ext (.t 11) 1),aO 4 (.alloc ([.i .i64 0,.i .i64 0,.i .u64 0])),{ dst:=none,op:=.storeN 3 (.t 4) (.t 16) },aO 5 (.mv (.t 17))]
def K0O:ACode:=.ops D1N
def D1O:List AOper:=[aO 18 (.mv (.t 5)),aO 19 (.bin .neq (.t 18) (.v (.c (.i .i64 0)))),aO 20 (.mv (.t 19)),{ dst:=some 21,op:=.fAddr (.t 4) 0,guard:=some (20,false) },{ dst:=some 22,op:=.load1 (.t 21),guard:=some (20,false) },{ dst:=some 23,op:=.mv (.t 0),guard:=some (20,false) },{ dst:=some 24,op:=.len (.t 23),guard:=some (20,false) },{ dst:=some 25,op:=.bin .neq (.t 22) (.t 24),guard:=some (20,false) },aO 26 (.pick (.t 20) (.v (.c (.b true))) (.t 25))]
def K0Q:ACode:=.ops D1O
def D1P:List AOper:=[aO 27 (.build ([.i .i64 0,.i .i64 0,.i .u64 0,.nf]) []),{ dst:=none,op:=.storeN 4 (.t 2) (.t 27) },aO 3 (.mv (.v (.c (.i .i64 13))))]
def K0S:ACode:=.ops D1P
def K0U:ACode:=.seq [2,3] K0S .ret
def K0l:ACode:=.cond (.t 26) K0U .skip
def K0n:ACode:=.seq [0,2,4,26] K0Q K0l
def D1Q:List AOper:=[aO 28 (.buildSl 256 0 ([]) []),aO 29 (.mv (.t 0)),aO 30 (.app 256 (.t 28) (.t 29)),aO 6 (.alloc ([.ns])),{ dst:=none,op:=.store1 (.t 6) (.t 30) }]
def K0p:ACode:=.ops D1Q
def D1R:List AOper:=[aO 31 (.loadN 3 (.t 4)),aO 32 (.mkf 26 [(.t 6)]),aO 33 (.build ([.i .i64 0,.i .i64 0,.i .u64 0,.nf]) [(0,3,(.t 31)),(3,1,(.t 32))]),{ dst:=none,op:=.storeN 4 (.t 2) (.t 33) },aO 3 (.mv (.v (.c (.i .i64 0))))]
def K0r:ACode:=.ops D1R
def K0t:ACode:=.seq [2,3] K0r .ret
def K0v:ACode:=.seq [2,4,6] K0p K0t
def K0x:ACode:=.seq [0,2,4] K0n K0v
def K0z:ACode:=.seq [0,2,4,5] K0O K0x
def K0B:ACode:=.seq [0,2] K0M K0z
def K0D:ACode:=.seq [0,2] K0i K0B
def A_view_Of:AFn:=⟨K0D,[.cellN 2 4,.tmp 3]⟩
def A0z:B6:=B1 25 A41 C1
def K0j (n:Nat):SmV:=A2 A0z D1K
def K0F (n:Nat):SmV:=A2 A0z D1L
def K0H (n:Nat):SmV:=A2 A0z D1M
def K0J (n:Nat):SmV:=A1 [2,3] (K0H n) A8
def K0L (n:Nat):SmV:=B8 (.t 9) (K0J n) C0
def K0N (n:Nat):SmV:=A1 [0,2,9] (K0F n) (K0L n)
def K0P (n:Nat):SmV:=A2 A0z D1N
def K0R (n:Nat):SmV:=A2 A0z D1O
def K0T (n:Nat):SmV:=A2 A0z D1P
def K0V (n:Nat):SmV:=A1 [2,3] (K0T n) A8
def K0m (n:Nat):SmV:=B8 (.t 26) (K0V n) C0
def K0o (n:Nat):SmV:=A1 [0,2,4,26] (K0R n) (K0m n)
def K0q (n:Nat):SmV:=A2 A0z D1Q
def K0s (n:Nat):SmV:=A2 A0z D1R
def K0u (n:Nat):SmV:=A1 [2,3] (K0s n) A8
def K0w (n:Nat):SmV:=A1 [2,4,6] (K0q n) (K0u n)
def K0y (n:Nat):SmV:=A1 [0,2,4] (K0o n) (K0w n)
def K0A (n:Nat):SmV:=A1 [0,2,4,5] (K0P n) (K0y n)
def K0C (n:Nat):SmV:=A1 [0,2] (K0N n) (K0A n)
def K0E (n:Nat):SmV:=A1 [0,2] (K0j n) (K0C n)
def B0X (n:Nat) (args:List Val) (h:A0):A6:=(K0E n) A_view_Of.fin (params 0 args) h
theorem A7k (n:Nat) (a0:Val) (h:A0):B0X n [a0] h=bnd (F5 a0) fun v1=>bnd (A4 .eql v1 (.c (.i .i64 0))) fun v2=>cnd v2 (bnd (B0 ([.i .i64 0,.i .i64 0,.i .u64 0,.nf]) []) fun c3=>bnd (B7 ((h ++ [some (Row.mk ([.i .i64 0,.i .i64 0,.i .u64 0,.nf]) true)])) 4 ((.c (.p h.length 0))) ((.a c3))) fun h4=>C7 [A5 h4 4 ((.c (.p h.length 0))),some (.c (.i .i64 13))] h4) (bnd (D0 256 a0 (.c (.i .i64 0))) fun v5=>bnd (A5 ((h ++ [some (Row.mk ([.i .i64 0,.i .i64 0,.i .u64 0,.nf]) true)])) 256 v5) fun v6=>bnd (A41 [v6] ((h ++ [some (Row.mk ([.i .i64 0,.i .i64 0,.i .u64 0,.nf]) true)]))) fun p7=>bnd (C2 p7.1 0) fun v8=>bnd (C2 p7.1 1) fun v9=>bnd (B7 ((p7.2 ++ [some (Row.mk ([.i .i64 0,.i .i64 0,.i .u64 0]) true)])) 3 ((.c (.p p7.2.length 0))) v8) fun h10=>bnd (A4 .neq v9 (.c (.i .i64 0))) fun v11=>bnd (gd v11 false (bnd (B9 ((.c (.p p7.2.length 0))) 0) fun v12=>some (v12,h10)) (some (.no,h10))) fun p13=>bnd (gd v11 false (bnd (A9 p13.2 p13.1) fun v14=>some (v14,p13.2)) (some (.no,p13.2))) fun p15=>bnd (gd v11 false (some (a0,p15.2)) (some (.no,p15.2))) fun p16=>bnd (gd v11 false (bnd (F5 p16.1) fun v17=>some (v17,p16.2)) (some (.no,p16.2))) fun p18=>bnd (gd v11 false (bnd (A4 .neq p15.1 p18.1) fun v19=>some (v19,p18.2)) (some (.no,p18.2))) fun p20=>bnd (C5 v11 (.c (.b true)) p20.1) fun v21=>cnd v21 (bnd (B0 ([.i .i64 0,.i .i64 0,.i .u64 0,.nf]) []) fun c22=>bnd (B7 p20.2 4 ((.c (.p h.length 0))) ((.a c22))) fun h23=>C7 [A5 h23 4 ((.c (.p h.length 0))),some (.c (.i .i64 13))] h23) (bnd (B0 ([]) []) fun c24=>bnd (E5 ((p20.2 ++ [some (Row.mk (c24) true)])) 256 ((.c (.sl p20.2.length 0 0 256))) a0) fun p25=>bnd (F2 ((p25.2 ++ [some (Row.mk ([.ns]) true)])) ((.c (.p p25.2.length 0))) p25.1) fun h26=>bnd (A5 h26 3 ((.c (.p p7.2.length 0)))) fun v27=>bnd (X8 26 [(.c (.p p25.2.length 0))]) fun v28=>bnd (B0 ([.i .i64 0,.i .i64 0,.i .u64 0,.nf]) [(0,3,v27),(3,1,v28)]) fun c29=>bnd (B7 h26 4 ((.c (.p h.length 0))) ((.a c29))) fun h30=>C7 [A5 h30 4 ((.c (.p h.length 0))),some (.c (.i .i64 0))] h30)):=by kernel_rfl
theorem K_view_Of:FnK Tryz.prog 6 A_view_Of A0z B0X:=.mk' (B3 D6j C3) Tryz.func6 (by kernel_rfl) (by intro n args h;kernel_rfl)
def A0A:Fun:=Lim A_view_Of A0z
theorem B3B:SOk Tryz.prog 6 A0A:=K_view_Of.ok
theorem A7s {n:Nat} {args:List Val} {h:A0} {p:Val × A0} (he:B0X n args h=some p):A0A args h=some p:=K_view_Of.of he
def D13:List AOper:=[aO 2 (.box (.t 0)),aO 4 (.mv (.v (.c (.b false))))]
def K1K:ACode:=.ops D13
def D14:List AOper:=[aO 5 (.fAddr (.t 2) 3),aO 6 (.load1 (.t 5)),aO 7 (.eqN true true (.t 6)),aO 8 (.mv (.t 7)),{ dst:=some 9,op:=.mv (.t 1),guard:=some (8,true) },{ dst:=some 10,op:=.bin .geq (.t 9) (.v (.c (.i .i64 0))),guard:=some (8,true) },aO 11 (.pick (.t 8) (.t 10) (.v (.c (.b false)))),aO 12 (.mv (.t 11)),{ dst:=some 13,op:=.mv (.t 1),guard:=some (12,true) },{ dst:=some 14,op:=.fAddr (.t 2) 0,guard:=some (12,true) },{ dst:=some 15,op:=.fAddr (.t 14) 0,guard:=some (12,true) },{ dst:=some 16,op:=.load1 (.t 15),guard:=some (12,true) },{ dst:=some 17,op:=.bin .lss (.t 13) (.t 16),guard:=some (12,true) },aO 18 (.pick (.t 12) (.t 17) (.v (.c (.b false)))),aO 4 (.mv (.t 18))]
def K1M:ACode:=.ops D14
def K1O:ACode:=.seq [4] K1M .ret
def K1Q:ACode:=.seq [1,2] K1K K1O
def A_view_View_there:AFn:=⟨K1Q,[.tmp 4]⟩
def A59:B6:=C1
def K1L (n:Nat):SmV:=A2 A59 D13
def K1N (n:Nat):SmV:=A2 A59 D14
def K1P (n:Nat):SmV:=A1 [4] (K1N n) A8
def K1R (n:Nat):SmV:=A1 [1,2] (K1L n) (K1P n)
def A7m (n:Nat) (args:List Val) (h:A0):A6:=(K1R n) A_view_View_there.fin (params 0 args) h
theorem D3Q (n:Nat) (a0 a1:Val) (h:A0):A7m n [a0,a1] h=bnd (cells? a0) fun c1=>bnd (B9 ((.c (.p h.length 0))) 3) fun v2=>bnd (A9 ((h ++ [some (Row.mk (c1) true)])) v2) fun v3=>bnd (A1c true true v3) fun v4=>bnd (gd v4 true (some (a1,(h ++ [some (Row.mk (c1) true)]))) (some (.no,(h ++ [some (Row.mk (c1) true)])))) fun p5=>bnd (gd v4 true (bnd (A4 .geq p5.1 (.c (.i .i64 0))) fun v6=>some (v6,p5.2)) (some (.no,p5.2))) fun p7=>bnd (C5 v4 p7.1 (.c (.b false))) fun v8=>bnd (gd v8 true (some (a1,p7.2)) (some (.no,p7.2))) fun p9=>bnd (gd v8 true (bnd (B9 ((.c (.p h.length 0))) 0) fun v10=>some (v10,p9.2)) (some (.no,p9.2))) fun p11=>bnd (gd v8 true (bnd (B9 p11.1 0) fun v12=>some (v12,p11.2)) (some (.no,p11.2))) fun p13=>bnd (gd v8 true (bnd (A9 p13.2 p13.1) fun v14=>some (v14,p13.2)) (some (.no,p13.2))) fun p15=>bnd (gd v8 true (bnd (A4 .lss p9.1 p15.1) fun v16=>some (v16,p15.2)) (some (.no,p15.2))) fun p17=>bnd (C5 v8 p17.1 (.c (.b false))) fun v18=>some (v18,p17.2):=by kernel_rfl
theorem K_view_View_there:FnK Tryz.prog 69 A_view_View_there A59 A7m:=.mk' (C3) Tryz.func69 (by kernel_rfl) (by intro n args h;kernel_rfl)
def A47:Fun:=tidy (Lim A_view_View_there A59)
theorem D6x:SOk Tryz.prog 69 A47:=K_view_View_there.sok
theorem D6w {n:Nat} {args:List Val} {h h2:A0} {v:Val} (he:A7m n args (ro h)=some (v,h2)) (hf:v.flat=true):A47 args h=some (v,h):=K_view_View_there.flat he hf
def D1I:List AOper:=[aO 3 (.alloc (List.replicate 256 (.i .u8 0)))]
def J98:ACode:=.ops D1I
def D1J:List AOper:=[aO 4 (.load1 (.t 1)),aO 5 (.mv (.t 0)),aO 6 (.iAddrL 256 (.t 4) (.t 5)),aO 7 (.loadN 256 (.t 6)),{ dst:=none,op:=.storeN 256 (.t 3) (.t 7) }]
def K0a:ACode:=.ops D1J
def K0c:ACode:=.seq [3] K0a .ret
def K0e:ACode:=.seq [0,1,3] J98 K0c
def A_view_Of_1:AFn:=⟨K0e,[.cellN 3 256]⟩
def A58:B6:=C1
def J99 (n:Nat):SmV:=A2 A58 D1I
def K0b (n:Nat):SmV:=A2 A58 D1J
def K0d (n:Nat):SmV:=A1 [3] (K0b n) A8
def K0f (n:Nat):SmV:=A1 [0,1,3] (J99 n) (K0d n)
def A7j (n:Nat) (args:List Val) (h:A0):A6:=(K0f n) A_view_Of_1.fin (params 0 args) h
theorem D3O (n:Nat) (a0 a1:Val) (h:A0):A7j n [a0,a1] h=bnd (A9 ((h ++ [some (Row.mk (List.replicate 256 (.i .u8 0)) true)])) a1) fun v1=>bnd (D0 256 v1 a0) fun v2=>bnd (A5 ((h ++ [some (Row.mk (List.replicate 256 (.i .u8 0)) true)])) 256 v2) fun v3=>bnd (B7 ((h ++ [some (Row.mk (List.replicate 256 (.i .u8 0)) true)])) 256 ((.c (.p h.length 0))) v3) fun h4=>mp (A5 h4 256 ((.c (.p h.length 0)))) fun v=>(v,h4):=by kernel_rfl
theorem K_view_Of_1:FnK Tryz.prog 26 A_view_Of_1 A58 A7j:=.mk' (C3) Tryz.func26 (by kernel_rfl) (by intro n args h;kernel_rfl)
def A45:Fun:=tidy (Lim A_view_Of_1 A58)
theorem D6u:SOk Tryz.prog 26 A45:=K_view_Of_1.sok
theorem D6t {n:Nat} {args:List Val} {h h2:A0} {v:Val} (he:A7j n args (ro h)=some (v,h2)) (hf:v.flat=true):A45 args h=some (v,h):=K_view_Of_1.flat he hf
def D1T:List AOper:=[aO 2 (.box (.t 0)),aO 4 (.alloc (List.replicate 256 (.i .u8 0)))]
def K0Y:ACode:=.ops D1T
def D1U:List AOper:=[aO 5 (.loadN 4 (.t 2)),aO 6 (.mv (.t 1)),aO 7 (.call 69 [(.t 5),(.t 6)]),aO 8 (.un .not (.t 7))]
def K00:ACode:=.ops D1U
def D1V:List AOper:=[aO 9 (.build (List.replicate 256 (.i .u8 0)) []),{ dst:=none,op:=.storeN 256 (.t 4) (.t 9) }]
def K02:ACode:=.ops D1V
def K04:ACode:=.seq [4] K02 .ret
def K06:ACode:=.cond (.t 8) K04 .skip
def K08:ACode:=.seq [1,2,4,8] K00 K06
def D1W:List AOper:=[aO 10 (.fAddr (.t 2) 3),aO 11 (.load1 (.t 10)),aO 12 (.mv (.t 1)),aO 13 (.callV (.t 11) [(.t 12)]),{ dst:=none,op:=.storeN 256 (.t 4) (.t 13) }]
def K1a:ACode:=.ops D1W
def K1c:ACode:=.seq [4] K1a .ret
def K1e:ACode:=.seq [1,2,4] K08 K1c
def K1g:ACode:=.seq [1,2,4] K0Y K1e
def A_view_View_Block__Of_1:AFn:=⟨K1g,[.cellN 4 256]⟩
def A1y:B6:=B1 69 A47 (B1 26 A45 C1)
def K0Z (n:Nat):SmV:=A2 A1y D1T
def K01 (n:Nat):SmV:=A2 A1y D1U
def K03 (n:Nat):SmV:=A2 A1y D1V
def K05 (n:Nat):SmV:=A1 [4] (K03 n) A8
def K07 (n:Nat):SmV:=B8 (.t 8) (K05 n) C0
def K09 (n:Nat):SmV:=A1 [1,2,4,8] (K01 n) (K07 n)
def K1b (n:Nat):SmV:=A2 A1y D1W
def K1d (n:Nat):SmV:=A1 [4] (K1b n) A8
def K1f (n:Nat):SmV:=A1 [1,2,4] (K09 n) (K1d n)
def K1h (n:Nat):SmV:=A1 [1,2,4] (K0Z n) (K1f n)
def A7l (n:Nat) (args:List Val) (h:A0):A6:=(K1h n) A_view_View_Block__Of_1.fin (params 0 args) h
theorem D3P (n:Nat) (a0 a1:Val) (h:A0):A7l n [a0,a1] h=bnd (cells? a0) fun c1=>bnd (A5 (((h ++ [some (Row.mk (c1) true)]) ++ [some (Row.mk (List.replicate 256 (.i .u8 0)) true)])) 4 ((.c (.p h.length 0)))) fun v2=>bnd (A47 [v2,a1] (((h ++ [some (Row.mk (c1) true)]) ++ [some (Row.mk (List.replicate 256 (.i .u8 0)) true)]))) fun p3=>bnd (aun .not p3.1) fun v4=>cnd v4 (bnd (B0 (List.replicate 256 (.i .u8 0)) []) fun c5=>bnd (B7 p3.2 256 ((.c (.p ((h ++ [some (Row.mk (c1) true)])).length 0))) ((.a c5))) fun h6=>mp (A5 h6 256 ((.c (.p ((h ++ [some (Row.mk (c1) true)])).length 0)))) fun v=>(v,h6)) (bnd (B9 ((.c (.p h.length 0))) 3) fun v7=>bnd (A9 p3.2 v7) fun v8=>bnd (M7 A1y v8 [a1] p3.2) fun p9=>bnd (B7 p9.2 256 ((.c (.p ((h ++ [some (Row.mk (c1) true)])).length 0))) p9.1) fun h10=>mp (A5 h10 256 ((.c (.p ((h ++ [some (Row.mk (c1) true)])).length 0)))) fun v=>(v,h10)):=by kernel_rfl
theorem K_view_View_Block__Of_1:FnK Tryz.prog 30 A_view_View_Block__Of_1 A1y A7l:=.mk' (B3 D6x (B3 D6u C3)) Tryz.func30 (by kernel_rfl) (by intro n args h;kernel_rfl)
def U2:Fun:=tidy (Lim A_view_View_Block__Of_1 A1y)
theorem A46:SOk Tryz.prog 30 U2:=K_view_View_Block__Of_1.sok
theorem D6v {n:Nat} {args:List Val} {h h2:A0} {v:Val} (he:A7l n args (ro h)=some (v,h2)) (hf:v.flat=true):U2 args h=some (v,h):=K_view_View_Block__Of_1.flat he hf
def D1X:List AOper:=[aO 2 (.box (.t 0)),aO 4 (.alloc ([.i .i64 0,.i .i64 0,.i .i64 0,.i .i64 0,.i .i64 0,.i .i64 0,.i .i64 0,.i .i64 0,.i .i64 0,.i .i64 0,.i .i64 0]))]
def K1i:ACode:=.ops D1X
def D1Y:List AOper:=[aO 11 (.fAddr (.t 2) 0),aO 12 (.loadN 3 (.t 11)),aO 13 (.mv (.t 1)),aO 14 (.call 28 [(.t 12),(.t 13)]),aO 10 (.mv (.t 14)),aO 15 (.ext (.t 10) 0),aO 16 (.ext (.t 10) 1),aO 17 (.ext (.t 10) 2),aO 5 (.mv (.t 15)),aO 6 (.mv (.t 16)),aO 7 (.mv (.t 17))]
def K1k:ACode:=.ops D1Y
def D1Z:List AOper:=[aO 18 (.mv (.t 7)),aO 19 (.un .not (.t 18))]
def K1u:ACode:=.ops D1Z
def D10:List AOper:=[aO 20 (.build ([.i .i64 0,.i .i64 0,.i .i64 0,.i .i64 0,.i .i64 0,.i .i64 0,.i .i64 0,.i .i64 0,.i .i64 0,.i .i64 0,.i .i64 0]) []),{ dst:=none,op:=.storeN 11 (.t 4) (.t 20) }]
def K1w:ACode:=.ops D10
def K1y:ACode:=.seq [4] K1w .ret
def K1A:ACode:=.cond (.t 19) K1y .skip
def K1C:ACode:=.seq [2,4,5,6,19] K1u K1A
def D11:List AOper:=[aO 22 (.loadN 4 (.t 2)),aO 23 (.mv (.t 5)),aO 24 (.call 30 [(.t 22),(.t 23)]),aO 25 (.mv (.t 6)),aO 26 (.call 29 [(.t 24),(.t 25)]),aO 21 (.mv (.t 26)),aO 27 (.ext (.t 21) 0),aO 28 (.ext (.t 21) 1),aO 8 (.alloc ([.i .i64 0,.i .i64 0,.i .i64 0,.i .i64 0,.i .i64 0,.i .i64 0,.i .i64 0,.i .i64 0,.i .i64 0,.i .i64 0,.i .i64 0])),{ dst:=none,op:=.storeN 11 (.t 8) (.t 27) },aO 9 (.mv (.t 28))]
def K1E:ACode:=.ops D11
def D12:List AOper:=[aO 29 (.loadN 11 (.t 8)),{ dst:=none,op:=.storeN 11 (.t 4) (.t 29) }]
def K1G:ACode:=.ops D12
def K1I:ACode:=.seq [4] K1G .ret
def K1l:ACode:=.seq [4,8] K1E K1I
def K1n:ACode:=.seq [2,4,5,6] K1C K1l
def K1p:ACode:=.seq [2,4,5,6,7] K1k K1n
def K1r:ACode:=.seq [1,2,4] K1i K1p
def A_view_View_Inode:AFn:=⟨K1r,[.cellN 4 11]⟩
def A1z:B6:=B1 28 A4J (B1 30 U2 (B1 29 A42 C1))
def K1j (n:Nat):SmV:=A2 A1z D1X
def K1t (n:Nat):SmV:=A2 A1z D1Y
def K1v (n:Nat):SmV:=A2 A1z D1Z
def K1x (n:Nat):SmV:=A2 A1z D10
def K1z (n:Nat):SmV:=A1 [4] (K1x n) A8
def K1B (n:Nat):SmV:=B8 (.t 19) (K1z n) C0
def K1D (n:Nat):SmV:=A1 [2,4,5,6,19] (K1v n) (K1B n)
def K1F (n:Nat):SmV:=A2 A1z D11
def K1H (n:Nat):SmV:=A2 A1z D12
def K1J (n:Nat):SmV:=A1 [4] (K1H n) A8
def K1m (n:Nat):SmV:=A1 [4,8] (K1F n) (K1J n)
def K1o (n:Nat):SmV:=A1 [2,4,5,6] (K1D n) (K1m n)
def K1q (n:Nat):SmV:=A1 [2,4,5,6,7] (K1t n) (K1o n)
def K1s (n:Nat):SmV:=A1 [1,2,4] (K1j n) (K1q n)
def A4e (n:Nat) (args:List Val) (h:A0):A6:=(K1s n) A_view_View_Inode.fin (params 0 args) h
theorem B22 (n:Nat) (a0 a1:Val) (h:A0):A4e n [a0,a1] h=bnd (cells? a0) fun c1=>bnd (B9 ((.c (.p h.length 0))) 0) fun v2=>bnd (A5 (((h ++ [some (Row.mk (c1) true)]) ++ [some (Row.mk ([.i .i64 0,.i .i64 0,.i .i64 0,.i .i64 0,.i .i64 0,.i .i64 0,.i .i64 0,.i .i64 0,.i .i64 0,.i .i64 0,.i .i64 0]) true)])) 3 v2) fun v3=>bnd (A4J [v3,a1] (((h ++ [some (Row.mk (c1) true)]) ++ [some (Row.mk ([.i .i64 0,.i .i64 0,.i .i64 0,.i .i64 0,.i .i64 0,.i .i64 0,.i .i64 0,.i .i64 0,.i .i64 0,.i .i64 0,.i .i64 0]) true)]))) fun p4=>bnd (C2 p4.1 0) fun v5=>bnd (C2 p4.1 1) fun v6=>bnd (C2 p4.1 2) fun v7=>bnd (aun .not v7) fun v8=>cnd v8 (bnd (B0 ([.i .i64 0,.i .i64 0,.i .i64 0,.i .i64 0,.i .i64 0,.i .i64 0,.i .i64 0,.i .i64 0,.i .i64 0,.i .i64 0,.i .i64 0]) []) fun c9=>bnd (B7 p4.2 11 ((.c (.p ((h ++ [some (Row.mk (c1) true)])).length 0))) ((.a c9))) fun h10=>mp (A5 h10 11 ((.c (.p ((h ++ [some (Row.mk (c1) true)])).length 0)))) fun v=>(v,h10)) (bnd (A5 p4.2 4 ((.c (.p h.length 0)))) fun v11=>bnd (U2 [v11,v5] p4.2) fun p12=>bnd (A42 [p12.1,v6] p12.2) fun p13=>bnd (C2 p13.1 0) fun v14=>bnd (C2 p13.1 1) fun v15=>bnd (B7 ((p13.2 ++ [some (Row.mk ([.i .i64 0,.i .i64 0,.i .i64 0,.i .i64 0,.i .i64 0,.i .i64 0,.i .i64 0,.i .i64 0,.i .i64 0,.i .i64 0,.i .i64 0]) true)])) 11 ((.c (.p p13.2.length 0))) v14) fun h16=>bnd (A5 h16 11 ((.c (.p p13.2.length 0)))) fun v17=>bnd (B7 h16 11 ((.c (.p ((h ++ [some (Row.mk (c1) true)])).length 0))) v17) fun h18=>mp (A5 h18 11 ((.c (.p ((h ++ [some (Row.mk (c1) true)])).length 0)))) fun v=>(v,h18)):=by kernel_rfl
theorem K_view_View_Inode:FnK Tryz.prog 9 A_view_View_Inode A1z A4e:=.mk' (B3 D5p (B3 A46 (B3 D6m C3))) Tryz.func9 (by kernel_rfl) (by intro n args h;kernel_rfl)
def A1B:Fun:=tidy (Lim A_view_View_Inode A1z)
theorem B3D:SOk Tryz.prog 9 A1B:=K_view_View_Inode.sok
theorem B3C {n:Nat} {args:List Val} {h h2:A0} {v:Val} (he:A4e n args (ro h)=some (v,h2)) (hf:v.flat=true):A1B args h=some (v,h):=K_view_View_Inode.flat he hf
end Go.Proofs.YtdgggnlbdoiloaaGreat
end
