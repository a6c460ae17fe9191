/- What the proof of this claim leans on, part 3. -/
import Derived.Test.YteckncopbicmcaaGreatFDreadListsp2
set_option linter.all false
section
namespace Go.Proofs.YteckncopbicmcaaGreat
open Go Go.Esc
def W0 (at' width all:Int):Bool:=decide (0 ≤ at') && decide (1 ≤ width) && decide (width ≤ all) && decide (at' ≤ all - width)
theorem U7 {a w n:Int}:W0 a w n=true ↔ 0 ≤ a ∧ 1 ≤ w ∧ w ≤ n ∧ a ≤ n - w:=by
  unfold W0;simp [and_assoc]
theorem A1F {a w n:Int} {h:A0} (hn:n < 9223372036854775808) :
    Z5 [.c (.i .i64 a),.c (.i .i64 w),.c (.i .i64 n)] h=some (.c (.b (W0 a w n)),h):=by
  refine C6y (n:=0) (h2:=ro h) ?_ rfl
  rw [C3O]
  unfold W0
  by_cases h1:0 ≤ a
  · by_cases h2:1 ≤ w
    · by_cases h3:w ≤ n
      · have e:IntKind.wrap .i64 (n - w)=n - w:=wrap_i64 (by omega) (by omega)
        simp [h1,h2,h3,e]
      · simp [h1,h2,h3]
    · simp [h1,h2]
  · simp [h1]
def A0a (l:List UInt8) (a w:Int):Option Nat:=if w ≤ 8 ∧ W0 a w l.length=true then some (le ((l.drop a.toNat).take w.toNat)) else none
theorem B96 {l:List UInt8} {h:A0} {a w k:Nat} (hw:w ≤ 4) (haw:a + w ≤ 256) (hl:l.length=256):∀ d i m,i + d=w → d < m →
    A9a k m (.c (.i .i64 a)) (.c (.p h.length 0)) (.c (.i .i64 (le ((l.drop a).take i)))) (.c (.i .i64 w)) (.c (.i .i64 i)) (h ++ [some ⟨A1 l,true⟩])=some (.c (.i .i64 (le ((l.drop a).take w))),h ++ [some ⟨A1 l,true⟩])
  | d,i,0,_,hm=>by omega
  | 0,i,m + 1,hi,hm=>by
    have e:i=w:=by omega
    subst e
    rw [B95]
    simp
  | d + 1,i,m + 1,hi,hm=>by
    have ih:=B96 (h:=h) (k:=k) hw haw hl d (i + 1) m (by omega) (by omega)
    have hx:=H4 (h:=h ++ [some ⟨A1 l,true⟩]) (id:=h.length) (off:=a + i) (c:=.i .u8 l[a + i].toNat) N6 (by rw [W8,List.getElem?_eq_getElem (by omega)];rfl) rfl
    have hb:=l[a + i].toNat_lt
    have hlen:((l.drop a).take i).length=i:=by simp;omega
    have hle:=A2D ((l.drop a).take i)
    rw [hlen] at hle
    have hp:=A3D (show i ≤ 4 by omega)
    have hbp:=B57 (x:=l[a + i]) (show i < 4 by omega)
    have e2:IntKind.wrap .i64 (8 * (i:Int))=8 * i:=wrap_i64 (by omega) (by omega)
    have e3:IntKind.wrap .u64 (8 * (i:Int))=8 * i:=wrap_u64 (by omega) (by omega)
    have e5:IntKind.wrap .i64 (l[a + i].toNat:Int)=l[a + i].toNat:=wrap_i64 (by omega) (by omega)
    have e6:=C1y (k:=.i64) (x:=l[a + i]) (show i < 8 by omega) (wrap_i64 (by omega) (by omega)) rfl
    have e7:A2 .or (.c (.i .i64 (le ((l.drop a).take i):Nat))) (.c (.i .i64 ((l[a + i].toNat * 256 ^ i:Nat):Int)))=some (.c (.i .i64 (le ((l.drop a).take (i + 1)):Nat))):=by
      rw [D1S (by omega) (by omega),B4h (by omega),← C0t,hlen]
    have ea:D8 256 1 (.c (.p h.length 0)) (.c (.i .i64 ((a + i:Nat):Int)))=some (.c (.p h.length (a + i))):=by rw [T9 (by omega)];simp
    have h1':(i:Int) < w:=by omega
    rw [B95]
    simp only [esc,h1',A0y (show a + i < 9223372036854775808 by omega),e2,e3,ea,hx,e5,e6,e7,E6 (show i + 1 < 9223372036854775808 by omega)]
    exact ih
def atN (l:List UInt8) (a w:Int):Nat:=if w ≤ 4 ∧ W0 a w 256=true then le ((l.drop a.toNat).take w.toNat) else 0
theorem A1w {l:List UInt8} {h:A0} (hl:l.length=256) {a w:Int} :
    P6 [.a (A1 l),.c (.i .i64 a),.c (.i .i64 w)] h=some (.c (.i .i64 (atN l a w)),h):=by
  refine C6p (n:=w.toNat + 1) (h2:=ro h ++ [some ⟨A1 l,true⟩]) ?_ (by simp)
  rw [C3H]
  unfold atN
  by_cases c1:4 < w
  · have c1':¬ w ≤ 4:=by omega
    simp [c1,c1']
  · have c1':w ≤ 4:=by omega
    cases c2:W0 a w 256 with
    | false=>simp [c1,A1F (show (256:Int) < 9223372036854775808 by omega),c2]
    | true =>
      simp [c1,c1',A1F (show (256:Int) < 9223372036854775808 by omega),c2]
      rw [U7] at c2
      have:=B96 (h:=ro h) (a:=a.toNat) (w:=w.toNat) (k:=w.toNat + 1) (by omega) (by omega) hl w.toNat 0 (w.toNat + 1) (by omega) (by omega)
      simp only [show ((a.toNat:Nat):Int)=a by omega,show ((w.toNat:Nat):Int)=w by omega] at this
      simpa [le] using this
theorem C0o {l:List UInt8} {z:List Cell} {h:A0} {a w k:Nat} {v:Int} (hw:w ≤ 4) (haw:a + w ≤ 256) (hl:l.length=256) (hz:z.length=256):∀ d i m,i + d=w → d < m →
    A9h k m (.c (.i .i64 a)) (.c (.i .i64 v)) (.c (.p h.length 0)) (.c (.p (h.length + 1) 0)) (.c (.i .i64 w)) (.c (.i .i64 i)) (h ++ [some ⟨A1 (D3 l a (B5 i v)),true⟩,some ⟨z,true⟩]) =
      some (.a (A1 (D3 l a (B5 w v))),h ++ [some ⟨A1 (D3 l a (B5 w v)),true⟩,some ⟨A1 (D3 l a (B5 w v)),true⟩])
  | d,i,0,_,hm=>by omega
  | 0,i,m + 1,hi,hm=>by
    have e:i=w:=by omega
    subst e
    have hle:(A1 (D3 l a (B5 i v))).length=256:=by rw [B1,A0c (by simp;omega),hl]
    have s1:=G5 (h:=h ++ [some ⟨A1 (D3 l a (B5 i v)),true⟩,some ⟨z,true⟩]) (id:=h.length) (cs:=A1 (D3 l a (B5 i v))) (by simp) hle
    have s2:=storeAll (h:=h ++ [some ⟨A1 (D3 l a (B5 i v)),true⟩,some ⟨z,true⟩]) (id:=h.length + 1) (cs:=z) (xs:=A1 (D3 l a (B5 i v))) (by simp) hz hle
    have s3:=G5 (h:=h ++ [some ⟨A1 (D3 l a (B5 i v)),true⟩,some ⟨A1 (D3 l a (B5 i v)),true⟩]) (id:=h.length + 1) (cs:=A1 (D3 l a (B5 i v))) (by simp) hle
    have h1':¬ (i:Int) < i:=by omega
    rw [C0n]
    simp only [esc,h1',s1,s2,s3]
  | d + 1,i,m + 1,hi,hm=>by
    have ih:=C0o (h:=h) (k:=k) (v:=v) hw haw hl hz d (i + 1) m (by omega) (by omega)
    have e2:IntKind.wrap .i64 (8 * (i:Int))=8 * i:=wrap_i64 (by omega) (by omega)
    have e3:IntKind.wrap .u64 (8 * (i:Int))=8 * i:=wrap_u64 (by omega) (by omega)
    have e4:A2 .shr (.c (.i .i64 v)) (.c (.i .u64 (8 * (i:Int))))=some (.c (.i .i64 (v / 2 ^ (Nat.min (8 * (i:Int)).toNat 64)))):=B1F (by omega)
    have ea:D8 256 1 (.c (.p h.length 0)) (.c (.i .i64 ((a + i:Nat):Int)))=some (.c (.p h.length (a + i))):=by rw [T9 (by omega)];simp
    have hst:=Z0 (h:=h ++ [some ⟨A1 (D3 l a (B5 i v)),true⟩,some ⟨z,true⟩]) (id:=h.length) (off:=a + i) (cs:=A1 (D3 l a (B5 i v))) (x:=.i .u8 (byI v i).toNat) (by simp)
      (by rw [B1,A0c (by simp;omega)];omega)
    have e5:(D3 l a (B5 i v)).set (a + i) (byI v i)=D3 l a (B5 (i + 1) v):=by
      rw [B12]
      have:=A8S (l:=l) (xs:=B5 i v) (a:=a) (x:=byI v i) (by simp;omega)
      simpa using this
    rw [A0q,e5] at hst
    have h1':(i:Int) < w:=by omega
    rw [C0n]
    simp only [esc,h1',A0y (show a + i < 9223372036854775808 by omega),e2,e3,e4,B58 (v:=v) (show i < 8 by omega),ea,hst,E6 (show i + 1 < 9223372036854775808 by omega)]
    exact ih
def N3 (l:List UInt8) (a w v:Int):List UInt8:=if w ≤ 4 ∧ W0 a w 256=true then D3 l a.toNat (B5 w.toNat v) else l
theorem Z1 {l:List UInt8} {a w v:Int} (hl:l.length=256):(N3 l a w v).length=256:=by
  unfold N3
  split
  · rename_i h
    rw [U7] at h
    rw [A0c (by simp;omega),hl]
  · exact hl
theorem D1L {l:List UInt8} {g:A0} (hl:l.length=256) {a w v:Int} :
    ∃ g',A7e (w.toNat + 1) [.a (A1 l),.c (.i .i64 a),.c (.i .i64 w),.c (.i .i64 v)] g=some (.a (A1 (N3 l a w v)),g'):=by
  have hle:(A1 l).length=256:=by rw [B1,hl]
  have hz:(List.replicate 256 (Cell.i .u8 0)).length=256:=List.length_replicate
  rw [C3N]
  generalize List.replicate 256 (Cell.i .u8 0)=z at *
  have s1:=G5 (h:=g ++ [some ⟨A1 l,true⟩,some ⟨z,true⟩]) (id:=g.length) (cs:=A1 l) (n:=256) (by simp) hle
  have s2:=storeAll (h:=g ++ [some ⟨A1 l,true⟩,some ⟨z,true⟩]) (id:=g.length + 1) (cs:=z) (xs:=A1 l) (by simp) hz hle
  have s3:=G5 (h:=g ++ [some ⟨A1 l,true⟩,some ⟨A1 l,true⟩]) (id:=g.length + 1) (cs:=A1 l) (n:=256) (by simp) hle
  unfold N3
  by_cases c1:4 < w
  · rw [if_neg (by omega)]
    exact ⟨_,by simp only [esc,c1,s1,s2,s3];rfl⟩
  · have c1':w ≤ 4:=by omega
    cases c2:W0 a w 256 with
    | false =>
      rw [if_neg (by simp)]
      exact ⟨_,by simp only [esc,c1,A1F (show (256:Int) < 9223372036854775808 by omega),c2,s1,s2,s3];rfl⟩
    | true =>
      rw [if_pos ⟨c1',rfl⟩]
      have c3:=U7.1 c2
      have:=C0o (h:=g) (a:=a.toNat) (w:=w.toNat) (k:=w.toNat + 1) (v:=v) (z:=z) (by omega) (by omega) hl hz w.toNat 0 (w.toNat + 1) (by omega) (by omega)
      simp only [show ((a.toNat:Nat):Int)=a by omega,show ((w.toNat:Nat):Int)=w by omega,show B5 0 v=[] from rfl,A8R] at this
      exact ⟨_,by simp only [esc,c1,A1F (show (256:Int) < 9223372036854775808 by omega),c2];exact this⟩
theorem A0v {l:List UInt8} {h:A0} (hl:l.length=256) {a w v:Int} :
    R5 [.a (A1 l),.c (.i .i64 a),.c (.i .i64 w),.c (.i .i64 v)] h=some (.a (A1 (N3 l a w v)),h):=by
  obtain ⟨g,e⟩:=D1L (g:=ro h) hl (a:=a) (w:=w) (v:=v)
  exact C6x e (by simp)
theorem C0a {l:List UInt8} {h:A0} {b id a n k:Nat} (haw:a + n ≤ 256) (hl:l.length=256):∀ d i m,i + d=n → d < m →
    A9b k m (.c (.i .i64 a)) (.c (.p h.length 0)) (.c (.sl (h.length + 2) 0 n 1)) (.c (.i .i64 n)) (.c (.i .i64 i)) (h ++ [some ⟨A1 l,true⟩,some ⟨[],true⟩,some ⟨A1 ((l.drop a).take i ++ zeros (n - i)),true⟩]) =
      some (.c (.sl (h.length + 2) 0 n 1),h ++ [some ⟨A1 l,true⟩,some ⟨[],true⟩,some ⟨A1 ((l.drop a).take n),true⟩])
  | d,i,0,_,hm=>by omega
  | 0,i,m + 1,hi,hm=>by
    have e:i=n:=by omega
    subst e
    have h1':¬ (i:Int) < i:=by omega
    rw [B99]
    simp only [esc,h1']
    simp [zeros]
  | d + 1,i,m + 1,hi,hm=>by
    have ih:=C0a (h:=h) (b:=b) (id:=id) (k:=k) haw hl d (i + 1) m (by omega) (by omega)
    have ea:D8 256 1 (.c (.p h.length 0)) (.c (.i .i64 ((a + i:Nat):Int)))=some (.c (.p h.length (a + i))):=by rw [T9 (by omega)];simp
    have eb:B9 1 (.c (.sl (h.length + 2) 0 n 1)) (.c (.i .i64 (i:Int)))=some (.c (.p (h.length + 2) i)):=by rw [G6 (by omega)];simp
    have hx:=H4 (h:=h ++ [some ⟨A1 l,true⟩,some ⟨[],true⟩,some ⟨A1 ((l.drop a).take i ++ zeros (n - i)),true⟩]) (id:=h.length) (off:=a + i) (c:=.i .u8 l[a + i].toNat) (cs:=A1 l) (rw:=true) (by simp) (by rw [W8,List.getElem?_eq_getElem (by omega)];rfl) rfl
    have hst:=Z0 (h:=h ++ [some ⟨A1 l,true⟩,some ⟨[],true⟩,some ⟨A1 ((l.drop a).take i ++ zeros (n - i)),true⟩]) (id:=h.length + 2) (off:=i) (cs:=A1 ((l.drop a).take i ++ zeros (n - i))) (x:=.i .u8 l[a + i].toNat) (by simp)
      (by rw [B1];simp;omega)
    have e5:((l.drop a).take i ++ zeros (n - i)).set i l[a + i]=(l.drop a).take (i + 1) ++ zeros (n - (i + 1)):=by
      have hlen:((l.drop a).take i).length=i:=by simp;omega
      rw [List.set_append_right _ _ (by omega),hlen,Nat.sub_self,B4h (by omega),List.append_assoc]
      refine congrArg ((l.drop a).take i ++ ·) ?_
      have:n - i=n - (i + 1) + 1:=by omega
      rw [this]
      unfold zeros
      rw [List.replicate_succ,List.set_cons_zero];rfl
    rw [A0q,e5] at hst
    have h1':(i:Int) < n:=by omega
    rw [B99]
    simp only [esc,h1',A0y (show a + i < 9223372036854775808 by omega),ea,hx,eb,hst,E6 (show i + 1 < 9223372036854775808 by omega)]
    exact ih
def G1 (l:List UInt8) (a n:Int):List UInt8:=if 0 ≤ a then (l.drop a.toNat).take n.toNat else []
theorem A5W (n:Nat):rows [Cell.i .u8 0] n=A1 (zeros n):=by
  unfold rows zeros
  induction n with
  | zero=>rfl
  | succ n ih=>rw [List.replicate_succ,List.flatten_cons,ih,List.replicate_succ];rfl
theorem D1x {l:List UInt8} {g:A0} (hl:l.length=256) {a n:Int} :
    ∃ v g',A7a ((min n (256 - a)).toNat + 1) [.a (A1 l),.c (.i .i64 a),.c (.i .i64 n)] g=some (v,g') ∧ Out g.length g' v 1 (G1 l a n).length (A1 (G1 l a n)):=by
  have hle:(A1 l).length=256:=by rw [B1,hl]
  rw [C3I]
  unfold G1
  by_cases c1:a < 0
  · rw [if_neg (by omega)]
    exact ⟨_,_,by simp only [esc,c1];rfl,by simp [B1],_,rfl,by simp,by simp;rfl⟩
  · rw [if_pos (by omega)]
    by_cases c2:256 ≤ a
    · have e:l.drop a.toNat=[]:=List.drop_of_length_le (by omega)
      rw [e,List.take_nil]
      exact ⟨_,_,by simp only [esc,c1,c2];rfl,by simp [B1],_,rfl,by simp,by simp;rfl⟩
    · by_cases c3:n < 1
      · have e:n.toNat=0:=by omega
        rw [e]
        exact ⟨_,_,by simp only [esc,c1,c2,c3];rfl,by simp [B1],_,rfl,by simp,by simp;rfl⟩
      · have e1:IntKind.wrap .i64 (256 - a)=256 - a:=wrap_i64 (by omega) (by omega)
        have e2:A0Q (.c (.i .i64 n)) (.c (.i .i64 (256 - a)))=some (.c (.i .i64 ((min n (256 - a)).toNat:Nat))):=by
          simp only [A0Q]
          congr 3
          by_cases h:256 - a < n
          · rw [if_pos h];omega
          · rw [if_neg h];omega
        generalize hN:(min n (256 - a)).toNat=N at *
        have e3:U9 (.c (.i .i64 (N:Int))) (.c (.i .i64 (N:Int)))=some N:=by
          have:Y8 (.c (.i .i64 (N:Int)))=some N:=by simp only [Y8];rw [if_pos (by omega)];simp
          simp [U9,this]
        have e4:(l.drop a.toNat).take n.toNat=(l.drop a.toNat).take N:=by
          by_cases h:256 - a < n
          · rw [List.take_of_length_le (by simp;omega),List.take_of_length_le (by simp;omega)]
          · have:n.toNat=N:=by omega
            rw [this]
        have e5:((l.drop a.toNat).take N).length=N:=by simp;omega
        rw [e4,e5]
        have:=C0a (h:=g) (b:=0) (id:=0) (a:=a.toNat) (n:=N) (k:=N + 1) (by omega) hl N 0 (N + 1) (by omega) (by omega)
        simp only [show ((a.toNat:Nat):Int)=a by omega,List.take_zero,List.nil_append,Nat.sub_zero] at this
        exact ⟨_,_,by simp only [esc,c1,c2,c3,e1,e2,e3,A5W];exact this,by simp [B1,e5],_,rfl,by omega,by simp⟩
theorem B3D {l:List UInt8} {h:A0} (hl:l.length=256) {a n:Int} :
    A0M [.a (A1 l),.c (.i .i64 a),.c (.i .i64 n)] h=some (.c (.sl h.length 0 (G1 l a n).length 1),h ++ [some ⟨A1 (G1 l a n),true⟩]):=by
  obtain ⟨v,g,e,ho⟩:=D1x (g:=ro h) hl (a:=a) (n:=n)
  exact C6q e (by simpa [K4] using ho) (by simp)
theorem C0g {v:Val} {nv:Nat} {data l:List UInt8} {z:List Cell} {h:A0} (hv:Has h v 1 nv (A1 data)) {a k:Nat} (ha:a < 256) (hl:l.length=256) (hz:z.length=256) (hd:data.length < 9223372036854775808):∀ d i m,i + d=data.length → d < m → i ≤ 256 - a →
    A9e k m (.c (.i .i64 a)) (.c (.p h.length 0)) (.c (.p (h.length + 1) 0)) v (.c (.i .i64 data.length)) (.c (.i .i64 i)) (h ++ [some ⟨A1 (D3 l a (data.take i)),true⟩,some ⟨z,true⟩]) =
      some (.a (A1 (D3 l a (data.take (256 - a)))),h ++ [some ⟨A1 (D3 l a (data.take (256 - a))),true⟩,some ⟨A1 (D3 l a (data.take (256 - a))),true⟩])
  | d,i,0,_,hm,_=>by omega
  | d,i,m + 1,hi,hm,hia=>by
    have hll:∀ i,i ≤ 256 - a → (A1 (D3 l a (data.take i))).length=256:=fun i hi=>by rw [B1,A0c (by simp;omega),hl]
    have fin:data.take i=data.take (256 - a) → A9d k (.c (.p h.length 0)) (.c (.p (h.length + 1) 0)) (h ++ [some ⟨A1 (D3 l a (data.take i)),true⟩,some ⟨z,true⟩]) =
      some (.a (A1 (D3 l a (data.take (256 - a)))),h ++ [some ⟨A1 (D3 l a (data.take (256 - a))),true⟩,some ⟨A1 (D3 l a (data.take (256 - a))),true⟩]):=fun e=>by
      rw [e]
      have hle:=hll (256 - a) (Nat.le_refl _)
      have s1:=G5 (h:=h ++ [some ⟨A1 (D3 l a (data.take (256 - a))),true⟩,some ⟨z,true⟩]) (id:=h.length) (cs:=A1 (D3 l a (data.take (256 - a)))) (by simp) hle
      have s2:=storeAll (h:=h ++ [some ⟨A1 (D3 l a (data.take (256 - a))),true⟩,some ⟨z,true⟩]) (id:=h.length + 1) (cs:=z) (xs:=A1 (D3 l a (data.take (256 - a)))) (by simp) hz hle
      have s3:=G5 (h:=h ++ [some ⟨A1 (D3 l a (data.take (256 - a))),true⟩,some ⟨A1 (D3 l a (data.take (256 - a))),true⟩]) (id:=h.length + 1) (cs:=A1 (D3 l a (data.take (256 - a)))) (by simp) hle
      rw [D1B]
      simp only [esc,s1,s2,s3]
    rw [D1E]
    by_cases c1:i < data.length
    · obtain ⟨d,rfl⟩:∃ e,d=e + 1:=⟨d - 1,by omega⟩
      have hnv:data.length=nv:=by simpa [B1] using hv.length
      obtain ⟨id,off,rfl,hid,h1,h2⟩:=(hv.more [some ⟨A1 (D3 l a (data.take i)),true⟩,some ⟨z,true⟩]).sl (by omega)
      have hx:=h1 i (.i .u8 data[i].toNat) (by rw [W8,List.getElem?_eq_getElem (by omega)];rfl)
      have eb:B9 1 (.c (.sl id off nv 1)) (.c (.i .i64 (i:Int)))=some (.c (.p id (off + i))):=by rw [G6 (by omega)];simp
      have e1:IntKind.wrap .i64 (256 - (a:Int))=256 - a:=wrap_i64 (by omega) (by omega)
      have c1':(i:Int) < data.length:=by omega
      by_cases c2:256 - a ≤ i
      · have c2':(256:Int) - a ≤ i:=by omega
        simp only [esc,c1',eb,hx,e1,c2']
        exact fin (by rw [show i=256 - a by omega])
      · have c2':¬ (256:Int) - a ≤ i:=by omega
        have ih:=C0g hv (l:=l) (z:=z) (k:=k) ha hl hz hd d (i + 1) m (by omega) (by omega) (by omega)
        have ea:D8 256 1 (.c (.p h.length 0)) (.c (.i .i64 ((a + i:Nat):Int)))=some (.c (.p h.length (a + i))):=by rw [T9 (by omega)];simp
        have hst:=Z0 (h:=h ++ [some ⟨A1 (D3 l a (data.take i)),true⟩,some ⟨z,true⟩]) (id:=h.length) (off:=a + i) (cs:=A1 (D3 l a (data.take i))) (x:=.i .u8 data[i].toNat) (by simp)
          (by rw [hll i hia];omega)
        have e5:(D3 l a (data.take i)).set (a + i) data[i]=D3 l a (data.take (i + 1)):=by
          have:=A8S (l:=l) (xs:=data.take i) (a:=a) (x:=data[i]) (by simp;omega)
          rw [List.length_take,Nat.min_eq_left (by omega)] at this
          rw [this,List.take_succ_eq_append_getElem c1]
        rw [A0q,e5] at hst
        simp only [esc,c1',eb,hx,e1,c2',A0y (show a + i < 9223372036854775808 by omega),ea,hst,E6 (show i + 1 < 9223372036854775808 by omega)]
        exact ih
    · have c1':¬ (i:Int) < data.length:=by omega
      simp only [esc,c1']
      exact fin (by rw [List.take_of_length_le (by omega),List.take_of_length_le (by omega)])
def S4 (l:List UInt8) (a:Int) (data:List UInt8):List UInt8:=if 0 ≤ a ∧ a < 256 then D3 l a.toNat (data.take (256 - a.toNat)) else l
theorem D0O {l:List UInt8} {a:Int} {data:List UInt8} (hl:l.length=256):(S4 l a data).length=256:=by
  unfold S4
  split
  · rw [A0c (by simp;omega),hl]
  · exact hl
theorem D1F {v:Val} {nv:Nat} {data l:List UInt8} {g:A0} (hv:Has g v 1 nv (A1 data)) (hl:l.length=256) (hd:data.length < 9223372036854775808) {a:Int} :
    ∃ g',A7b (data.length + 1) [.a (A1 l),.c (.i .i64 a),v] g=some (.a (A1 (S4 l a data)),g'):=by
  have hle:(A1 l).length=256:=by rw [B1,hl]
  have hz:(List.replicate 256 (Cell.i .u8 0)).length=256:=List.length_replicate
  have hnv:data.length=nv:=by simpa [B1] using hv.length
  rw [C3K]
  generalize List.replicate 256 (Cell.i .u8 0)=z at *
  have s1:=G5 (h:=g ++ [some ⟨A1 l,true⟩,some ⟨z,true⟩]) (id:=g.length) (cs:=A1 l) (n:=256) (by simp) hle
  have s2:=storeAll (h:=g ++ [some ⟨A1 l,true⟩,some ⟨z,true⟩]) (id:=g.length + 1) (cs:=z) (xs:=A1 l) (by simp) hz hle
  have s3:=G5 (h:=g ++ [some ⟨A1 l,true⟩,some ⟨A1 l,true⟩]) (id:=g.length + 1) (cs:=A1 l) (n:=256) (by simp) hle
  unfold S4
  by_cases c1:a < 0
  · rw [if_neg (by omega)]
    exact ⟨_,by simp only [esc,c1,s1,s2,s3];rfl⟩
  · by_cases c2:256 ≤ a
    · rw [if_neg (by omega)]
      exact ⟨_,by simp only [esc,c1,c2,s1,s2,s3];rfl⟩
    · rw [if_pos (by omega)]
      have:=C0g hv (l:=l) (a:=a.toNat) (k:=data.length + 1) (z:=z) (by omega) hl hz hd data.length 0 (data.length + 1) (by omega) (by omega) (by omega)
      simp only [show ((a.toNat:Nat):Int)=a by omega,List.take_zero,A8R] at this
      exact ⟨_,by simp only [esc,c1,c2,hv.len,← hnv];exact this⟩
theorem B3F {v:Val} {nv:Nat} {data l:List UInt8} {h:A0} (hv:Has h v 1 nv (A1 data)) (hl:l.length=256) (hd:data.length < 9223372036854775808) {a:Int} :
    A0N [.a (A1 l),.c (.i .i64 a),v] h=some (.a (A1 (S4 l a data)),h):=by
  obtain ⟨g,e⟩:=D1F hv.ro hl hd (a:=a)
  exact C6t e (by simp)
theorem A9f {v:Val} {nv:Nat} {data:List UInt8} {h:A0} (hv:Has h v 1 nv (A1 data)) (hd:data.length < 9223372036854775808) :
    Z4 [v] h=some (.a (A1 (S4 (zeros 256) 0 data)),h):=by
  have key:∀ g,Has g v 1 nv (A1 data) → ∃ g',A7c 0 [v] g=some (.a (A1 (S4 (zeros 256) 0 data)),g'):=by
    intro g hv
    rw [C3L]
    have hz:(A1 (zeros 256)).length=256:=by rw [B1];exact zeros_length
    have hz0:(zeros 256).length=256:=zeros_length
    rw [N8]
    generalize zeros 256=Z at *
    have e:=B3F (hv.more [some ⟨A1 Z,true⟩]) hz0 hd (a:=0)
    have hl2:(A1 (S4 Z 0 data)).length=256:=by rw [B1,D0O hz0]
    have s2:=storeAll (h:=g ++ [some ⟨A1 Z,true⟩]) (id:=g.length) (cs:=A1 Z) (xs:=A1 (S4 Z 0 data)) (by simp) hz hl2
    have s3:=G5 (h:=g ++ [some ⟨A1 (S4 Z 0 data),true⟩]) (id:=g.length) (cs:=A1 (S4 Z 0 data)) (n:=256) (by simp) hl2
    exact ⟨_,by simp only [esc,A8,e,s2,s3];rfl⟩
  obtain ⟨g,e⟩:=key _ hv.ro
  exact C6u e (by simp)
end Go.Proofs.YteckncopbicmcaaGreat
end
noncomputable section
namespace Go.Proofs.YteckncopbicmcaaGreat
open Go Go.Esc
set_option maxRecDepth 100000
def B69:ACode:=.seq [0,1,8,9] (.seq [0,1,8,9,31] (.ops [aO 30 (.mv (.t 9)),aO 31 (.bin .geq (.t 30) (.v (.c (.i .i64 0))))]) (.cond (.t 31) .skip (.exit 0))) (.seq [0,1,8,9] (.block 1 (.ops [aO 34 (.mv (.t 8)),aO 35 (.bin .mul (.t 34) (.v (.c (.i .u64 256)))),aO 36 (.mv (.t 0)),aO 37 (.mv (.t 1)),aO 38 (.mv (.t 9)),aO 39 (.bin .add (.t 37) (.t 38)),aO 40 (.iAddrL 1 (.t 36) (.t 39)),aO 41 (.load1 (.t 40)),aO 42 (.conv .u64 (.t 41)),aO 43 (.bin .add (.t 35) (.t 42)),aO 8 (.mv (.t 43))])) (.ops [aO 32 (.mv (.t 9)),aO 33 (.bin .sub (.t 32) (.v (.c (.i .i64 1)))),aO 9 (.mv (.t 33))]))
def B7a:ACode:=.seq [6,7] (.ops [aO 44 (.mv (.t 8)),aO 6 (.mv (.t 44)),aO 7 (.mv (.v (.c (.b true))))]) .ret
def A_er01_Get:AFn:=⟨.seq [0,1,2] (.ops [aO 6 (.mv (.v (.c (.i .u64 0)))),aO 7 (.mv (.v (.c (.b false))))]) (.seq [0,1,2] (.seq [0,1,2,27] (.ops [aO 10 (.mv (.t 2)),aO 11 (.bin .lss (.t 10) (.v (.c (.i .i64 1)))),aO 12 (.mv (.t 11)),aG 13 12 false (.mv (.t 2)),aG 14 12 false (.bin .gtr (.t 13) (.v (.c (.i .i64 8)))),aO 15 (.pick (.t 12) (.v (.c (.b true))) (.t 14)),aO 16 (.mv (.t 15)),aG 17 16 false (.mv (.t 1)),aG 18 16 false (.bin .lss (.t 17) (.v (.c (.i .i64 0)))),aO 19 (.pick (.t 16) (.v (.c (.b true))) (.t 18)),aO 20 (.mv (.t 19)),aG 21 20 false (.mv (.t 1)),aG 22 20 false (.mv (.t 0)),aG 23 20 false (.len (.t 22)),aG 24 20 false (.mv (.t 2)),aG 25 20 false (.bin .sub (.t 23) (.t 24)),aG 26 20 false (.bin .gtr (.t 21) (.t 25)),aO 27 (.pick (.t 20) (.v (.c (.b true))) (.t 26))]) (.cond (.t 27) (.seq [6,7] (.ops [aO 6 (.mv (.v (.c (.i .u64 0)))),aO 7 (.mv (.v (.c (.b false))))]) .ret) .skip)) (.seq [0,1,2,8] (.ops [aO 8 (.mv (.v (.c (.i .u64 0))))]) (.seq [8] (.seq [0,1,8,9] (.ops [aO 28 (.mv (.t 2)),aO 29 (.bin .sub (.t 28) (.v (.c (.i .i64 1)))),aO 9 (.mv (.t 29))]) (.block 0 (.loop [0,1,8,9] B69))) B7a))),[.tmp 6,.tmp 7]⟩
def A3R:B3:=B8
def C8Z (n:Nat):B4 (Val × A0):=E5 [8] (ax A3R n B7a) A_er01_Get.fin
def C80 (n:Nat):B4 (Val × A0):=D6 0 (C8Z n)
def A8a (n m:Nat) (x0 x1 x8 x9:Val) (h:A0):A6:=C8 (ax A3R n B69) [0,1,8,9] (C80 n) m [(0,x0),(1,x1),(8,x8),(9,x9)] h
def B0W (n:Nat) (args:List Val) (h:A0):A6:=ax A3R n A_er01_Get.code A_er01_Get.fin (params 0 args) h
theorem C2D (n:Nat) (a0 a1 a2:Val) (h:A0):B0W n [a0,a1,a2] h=bnd (A2 .lss a2 (.c (.i .i64 1))) fun v1=>bnd (gd v1 false (some (a2,h)) (some (.no,h))) fun p2=>bnd (gd v1 false (bnd (A2 .gtr p2.1 (.c (.i .i64 8))) fun v3=>some (v3,p2.2)) (some (.no,p2.2))) fun p4=>bnd (C4 v1 (.c (.b true)) p4.1) fun v5=>bnd (gd v5 false (some (a1,p4.2)) (some (.no,p4.2))) fun p6=>bnd (gd v5 false (bnd (A2 .lss p6.1 (.c (.i .i64 0))) fun v7=>some (v7,p6.2)) (some (.no,p6.2))) fun p8=>bnd (C4 v5 (.c (.b true)) p8.1) fun v9=>bnd (gd v9 false (some (a1,p8.2)) (some (.no,p8.2))) fun p10=>bnd (gd v9 false (some (a0,p10.2)) (some (.no,p10.2))) fun p11=>bnd (gd v9 false (bnd (E3 p11.1) fun v12=>some (v12,p11.2)) (some (.no,p11.2))) fun p13=>bnd (gd v9 false (some (a2,p13.2)) (some (.no,p13.2))) fun p14=>bnd (gd v9 false (bnd (A2 .sub p13.1 p14.1) fun v15=>some (v15,p14.2)) (some (.no,p14.2))) fun p16=>bnd (gd v9 false (bnd (A2 .gtr p10.1 p16.1) fun v17=>some (v17,p16.2)) (some (.no,p16.2))) fun p18=>bnd (C4 v9 (.c (.b true)) p18.1) fun v19=>cnd v19 (C7 [some (.c (.i .u64 0)),some (.c (.b false))] p18.2) (bnd (A2 .sub a2 (.c (.i .i64 1))) fun v20=>A8a n n a0 a1 (.c (.i .u64 0)) v20 p18.2):=by kernel_rfl
theorem B7b (n m:Nat) (x0 x1 x8 x9:Val) (h:A0):A8a n (m + 1) x0 x1 x8 x9 h=bnd (A2 .geq x9 (.c (.i .i64 0))) fun v21=>cnd v21 (bnd (A2 .mul x8 (.c (.i .u64 256))) fun v22=>bnd (A2 .add x1 x9) fun v23=>bnd (B9 1 x0 v23) fun v24=>bnd (A5 h v24) fun v25=>bnd (I1 .u64 v25) fun v26=>bnd (A2 .add v22 v26) fun v27=>bnd (A2 .sub x9 (.c (.i .i64 1))) fun v28=>A8a n m x0 x1 v27 v28 h) (C7 [some x8,some (.c (.b true))] h):=by kernel_rfl
theorem K_er01_Get:FnK Tryz.prog 143 A_er01_Get A3R B0W:=.mk' (C1) Tryz.func143 (by kernel_rfl) (fun _ _ _=>C0)
def A1W:Fun:=tidy (Lim A_er01_Get A3R)
theorem B4C:SOk Tryz.prog 143 A1W:=K_er01_Get.sok
theorem C4I:D1 B0W A1W:=K_er01_Get.flat
def A_er01_At:AFn:=⟨.seq [0,1,2] (.ops [aO 6 (.mv (.v (.c (.i .i64 0))))]) (.seq [0,1,2] (.seq [0,1,2,10] (.ops [aO 9 (.mv (.t 2)),aO 10 (.bin .gtr (.t 9) (.v (.c (.i .i64 4))))]) (.cond (.t 10) (.seq [6] (.ops [aO 6 (.mv (.v (.c (.i .i64 0))))]) .ret) .skip)) (.seq [7] (.ops [aO 12 (.mv (.t 0)),aO 13 (.mv (.t 1)),aO 14 (.mv (.t 2)),aO 15 (.call 143 [(.t 12),(.t 13),(.t 14)]),aO 11 (.mv (.t 15)),aO 16 (.ext (.t 11) 0),aO 17 (.ext (.t 11) 1),aO 7 (.mv (.t 16)),aO 8 (.mv (.t 17))]) (.seq [6] (.ops [aO 18 (.mv (.t 7)),aO 19 (.conv .i64 (.t 18)),aO 6 (.mv (.t 19))]) .ret))),[.tmp 6]⟩
def A9X:B3:=A7 143 A1W B8
def A6r (n:Nat) (args:List Val) (h:A0):A6:=ax A9X n A_er01_At.code A_er01_At.fin (params 0 args) h
theorem C2B (n:Nat) (a0 a1 a2:Val) (h:A0):A6r n [a0,a1,a2] h=bnd (A2 .gtr a2 (.c (.i .i64 4))) fun v1=>cnd v1 (some ((.c (.i .i64 0)),h)) (bnd (A1W [a0,a1,a2] h) fun p2=>bnd (C5 p2.1 0) fun v3=>bnd (C5 p2.1 1) fun v4=>bnd (I1 .i64 v3) fun v5=>some (v5,p2.2)):=by kernel_rfl
theorem K_er01_At:FnK Tryz.prog 92 A_er01_At A9X A6r:=.mk' (A9 B4C C1) Tryz.func92 (by kernel_rfl) (fun _ _ _=>C0)
def X2:Fun:=tidy (Lim A_er01_At A9X)
theorem B1r:SOk Tryz.prog 92 X2:=K_er01_At.sok
theorem C4F:D1 A6r X2:=K_er01_At.flat
def B64:ACode:=.seq [0,1,5,6] (.seq [0,1,5,6,9] (.ops [aO 7 (.mv (.t 6)),aO 8 (.mv (.t 0)),aO 9 (.bin .lss (.t 7) (.t 8))]) (.cond (.t 9) .skip (.exit 0))) (.seq [0,1,5,6] (.block 1 (.seq [0,1,5,6] (.ops [aO 12 (.mv (.t 5)),aO 13 (.mv (.t 1)),aO 14 (.bin .rem (.t 13) (.v (.c (.i .u64 256)))),aO 15 (.conv .u8 (.t 14)),aO 16 (.buildSl 1 1 ([.i .u8 0]) [(0,1,(.t 15))]),aO 17 (.app 1 (.t 12) (.t 16)),aO 5 (.mv (.t 17))]) (.ops [aO 18 (.mv (.t 1)),aO 19 (.bin .quo (.t 18) (.v (.c (.i .u64 256)))),aO 1 (.mv (.t 19))]))) (.ops [aO 10 (.mv (.t 6)),aO 11 (.bin .add (.t 10) (.v (.c (.i .i64 1)))),aO 6 (.mv (.t 11))]))
def B65:ACode:=.seq [4] (.ops [aO 20 (.mv (.t 5)),aO 4 (.mv (.t 20))]) .ret
def A_er01_Bytes:AFn:=⟨.seq [0,1] (.ops [aO 4 (.nilrow 1)]) (.seq [0,1,5] (.ops [aO 5 (.nilrow 1)]) (.seq [5] (.seq [0,1,5,6] (.ops [aO 6 (.mv (.v (.c (.i .i64 0))))]) (.block 0 (.loop [0,1,5,6] B64))) B65)),[.tmp 4]⟩
def A3P:B3:=B8
def C8V (n:Nat):B4 (Val × A0):=E5 [5] (ax A3P n B65) A_er01_Bytes.fin
def C8W (n:Nat):B4 (Val × A0):=D6 0 (C8V n)
def A78 (n m:Nat) (x0 x1 x5 x6:Val) (h:A0):A6:=C8 (ax A3P n B64) [0,1,5,6] (C8W n) m [(0,x0),(1,x1),(5,x5),(6,x6)] h
def B0U (n:Nat) (args:List Val) (h:A0):A6:=ax A3P n A_er01_Bytes.code A_er01_Bytes.fin (params 0 args) h
theorem C2C (n:Nat) (a0 a1:Val) (h:A0):B0U n [a0,a1] h=A78 n n a0 a1 (.c (.sl (h ++ [some (Row.mk ([]) true)]).length 0 0 1)) (.c (.i .i64 0)) ((h ++ [some (Row.mk ([]) true)]) ++ [some (Row.mk ([]) true)]):=by kernel_rfl
theorem B66 (n m:Nat) (x0 x1 x5 x6:Val) (h:A0):A78 n (m + 1) x0 x1 x5 x6 h=bnd (A2 .lss x6 x0) fun v1=>cnd v1 (bnd (A2 .rem x1 (.c (.i .u64 256))) fun v2=>bnd (I1 .u8 v2) fun v3=>bnd (A8 ([.i .u8 0]) [(0,1,v3)]) fun c4=>bnd (E7 (h ++ [some (Row.mk (c4) true)]) 1 x5 (.c (.sl h.length 0 1 1))) fun p5=>bnd (A2 .quo x1 (.c (.i .u64 256))) fun v6=>bnd (A2 .add x6 (.c (.i .i64 1))) fun v7=>A78 n m x0 v6 p5.1 v7 p5.2) (some (x5,h)):=by kernel_rfl
theorem K_er01_Bytes:FnK Tryz.prog 168 A_er01_Bytes A3P B0U:=.mk' (C1) Tryz.func168 (by kernel_rfl) (fun _ _ _=>C0)
def W2:Fun:=tidy (Lim A_er01_Bytes A3P)
theorem B1s:SOk Tryz.prog 168 W2:=K_er01_Bytes.sok
theorem C4G:N9 B0U W2:=K_er01_Bytes.out
def B7e:ACode:=.ops [aO 41 (.mv (.t 7)),aO 42 (.mv (.t 9)),aO 43 (.buildSl 1 1 ([.i .u8 0]) [(0,1,(.t 42))]),aO 44 (.app 1 (.t 41) (.t 43)),aO 7 (.mv (.t 44))]
def B7d:ACode:=.ops [aO 14 (.mv (.t 8)),aO 15 (.bin .add (.t 14) (.v (.c (.i .i64 1)))),aO 8 (.mv (.t 15))]
def B2y:ACode:=.seq [0,1,2,7,8] (.seq [0,1,2,7,8,13] (.ops [aO 10 (.mv (.t 8)),aO 11 (.mv (.t 0)),aO 12 (.len (.t 11)),aO 13 (.bin .lss (.t 10) (.t 12))]) (.cond (.t 13) .skip (.exit 0))) (.seq [0,1,2,7,8] (.block 1 (.seq [0,1,2,7,8,9] (.ops [aO 16 (.mv (.t 0)),aO 17 (.mv (.t 8)),aO 18 (.iAddrL 1 (.t 16) (.t 17)),aO 19 (.load1 (.t 18)),aO 9 (.mv (.t 19))]) (.seq [0,1,2,7,8,9] (.seq [0,1,2,7,8,9,34] (.ops [aO 20 (.mv (.t 1)),aO 21 (.bin .geq (.t 20) (.v (.c (.i .i64 0)))),aO 22 (.mv (.t 21)),aG 23 22 true (.mv (.t 8)),aG 24 22 true (.mv (.t 1)),aG 25 22 true (.bin .geq (.t 23) (.t 24)),aO 26 (.pick (.t 22) (.t 25) (.v (.c (.b false)))),aO 27 (.mv (.t 26)),aG 28 27 true (.mv (.t 8)),aG 29 27 true (.mv (.t 1)),aG 30 27 true (.bin .sub (.t 28) (.t 29)),aG 31 27 true (.mv (.t 2)),aG 32 27 true (.len (.t 31)),aG 33 27 true (.bin .lss (.t 30) (.t 32)),aO 34 (.pick (.t 27) (.t 33) (.v (.c (.b false))))]) (.cond (.t 34) (.ops [aO 35 (.mv (.t 2)),aO 36 (.mv (.t 8)),aO 37 (.mv (.t 1)),aO 38 (.bin .sub (.t 36) (.t 37)),aO 39 (.iAddrL 1 (.t 35) (.t 38)),aO 40 (.load1 (.t 39)),aO 9 (.mv (.t 40))]) .skip)) B7e))) B7d)
def B7c:ACode:=.seq [6] (.ops [aO 45 (.mv (.t 7)),aO 6 (.mv (.t 45))]) .ret
def A_er01_Lay:AFn:=⟨.seq [0,1,2] (.ops [aO 6 (.nilrow 1)]) (.seq [0,1,2,7] (.ops [aO 7 (.nilrow 1)]) (.seq [7] (.seq [0,1,2,7,8] (.ops [aO 8 (.mv (.v (.c (.i .i64 0))))]) (.block 0 (.loop [0,1,2,7,8] B2y))) B7c)),[.tmp 6]⟩
def A04:B3:=B8
def C82 (n:Nat):B4 (Val × A0):=E5 [7] (ax A04 n B7c) A_er01_Lay.fin
def B2z (n:Nat):B4 (Val × A0):=D6 0 (C82 n)
def A8c (n m:Nat) (x0 x1 x2 x7 x8:Val) (h:A0):A6:=C8 (ax A04 n B2y) [0,1,2,7,8] (B2z n) m [(0,x0),(1,x1),(2,x2),(7,x7),(8,x8)] h
def B0X (n:Nat) (args:List Val) (h:A0):A6:=ax A04 n A_er01_Lay.code A_er01_Lay.fin (params 0 args) h
def C83 (n m:Nat):B4 (Val × A0):=R1 [0,1,2,7,8] (C8 (ax A04 n B2y) [0,1,2,7,8] (B2z n) m) (B2z n)
def C84 (n m:Nat):B4 (Val × A0):=E5 [0,1,2,7,8] (ax A04 n B7d) (C83 n m)
def C85 (n m:Nat):B4 (Val × A0):=D6 1 (C84 n m)
def A8b (n m:Nat) (x0 x1 x2 x7 x8 x9:Val) (h:A0):A6:=hold ((ax A04 n B7e) (C85 n m) [(0,x0),(1,x1),(2,x2),(7,x7),(8,x8),(9,x9)] h)
theorem C2E (n:Nat) (a0 a1 a2:Val) (h:A0):B0X n [a0,a1,a2] h=A8c n n a0 a1 a2 (.c (.sl (h ++ [some (Row.mk ([]) true)]).length 0 0 1)) (.c (.i .i64 0)) ((h ++ [some (Row.mk ([]) true)]) ++ [some (Row.mk ([]) true)]):=by kernel_rfl
theorem B7f (n m:Nat) (x0 x1 x2 x7 x8:Val) (h:A0):A8c n (m + 1) x0 x1 x2 x7 x8 h=bnd (E3 x0) fun v1=>bnd (A2 .lss x8 v1) fun v2=>cnd v2 (bnd (B9 1 x0 x8) fun v3=>bnd (A5 h v3) fun v4=>bnd (A2 .geq x1 (.c (.i .i64 0))) fun v5=>bnd (gd v5 true (some (x8,h)) (some (.no,h))) fun p6=>bnd (gd v5 true (some (x1,p6.2)) (some (.no,p6.2))) fun p7=>bnd (gd v5 true (bnd (A2 .geq p6.1 p7.1) fun v8=>some (v8,p7.2)) (some (.no,p7.2))) fun p9=>bnd (C4 v5 p9.1 (.c (.b false))) fun v10=>bnd (gd v10 true (some (x8,p9.2)) (some (.no,p9.2))) fun p11=>bnd (gd v10 true (some (x1,p11.2)) (some (.no,p11.2))) fun p12=>bnd (gd v10 true (bnd (A2 .sub p11.1 p12.1) fun v13=>some (v13,p12.2)) (some (.no,p12.2))) fun p14=>bnd (gd v10 true (some (x2,p14.2)) (some (.no,p14.2))) fun p15=>bnd (gd v10 true (bnd (E3 p15.1) fun v16=>some (v16,p15.2)) (some (.no,p15.2))) fun p17=>bnd (gd v10 true (bnd (A2 .lss p14.1 p17.1) fun v18=>some (v18,p17.2)) (some (.no,p17.2))) fun p19=>bnd (C4 v10 p19.1 (.c (.b false))) fun v20=>cnd v20 (bnd (A2 .sub x8 x1) fun v21=>bnd (B9 1 x2 v21) fun v22=>bnd (A5 p19.2 v22) fun v23=>A8b n m x0 x1 x2 x7 x8 v23 p19.2) (A8b n m x0 x1 x2 x7 x8 v4 p19.2)) (some (x7,h)):=by kernel_rfl
theorem C81 (n m:Nat) (x0 x1 x2 x7 x8 x9:Val) (h:A0):A8b n m x0 x1 x2 x7 x8 x9 h=bnd (A8 ([.i .u8 0]) [(0,1,x9)]) fun c24=>bnd (E7 (h ++ [some (Row.mk (c24) true)]) 1 x7 (.c (.sl h.length 0 1 1))) fun p25=>bnd (A2 .add x8 (.c (.i .i64 1))) fun v26=>A8c n m x0 x1 x2 p25.1 v26 p25.2:=by kernel_rfl
theorem K_er01_Lay:FnK Tryz.prog 118 A_er01_Lay A04 B0X:=.mk' (C1) Tryz.func118 (by kernel_rfl) (fun _ _ _=>C0)
def A1X:Fun:=tidy (Lim A_er01_Lay A04)
theorem B4D:SOk Tryz.prog 118 A1X:=K_er01_Lay.sok
theorem C4J:N9 B0X A1X:=K_er01_Lay.out
def B7g:ACode:=.seq [0,1,5] (.seq [0,1,5,14] (.ops [aO 11 (.mv (.t 5)),aO 12 (.mv (.t 0)),aO 13 (.len (.t 12)),aO 14 (.bin .lss (.t 11) (.t 13))]) (.cond (.t 14) .skip (.exit 0))) (.seq [0,1,5] (.block 1 (.seq [0,1,5,25] (.draw 0 [aO 17 (.mv (.t 0)),aO 18 (.mv (.t 5)),aO 19 (.iAddrL 1 (.t 17) (.t 18)),aO 20 (.load1 (.t 19)),aO 21 (.mv (.t 1)),aO 22 (.mv (.t 5)),aO 23 (.iAddrL 1 (.t 21) (.t 22)),aO 24 (.load1 (.t 23))] [aO 25 (.bin .neq (.t 20) (.t 24))]) (.cond (.t 25) (.seq [4] (.ops [aO 4 (.mv (.v (.c (.b false))))]) .ret) .skip))) (.ops [aO 15 (.mv (.t 5)),aO 16 (.bin .add (.t 15) (.v (.c (.i .i64 1)))),aO 5 (.mv (.t 16))]))
def B7h:ACode:=.seq [4] (.ops [aO 4 (.mv (.v (.c (.b true))))]) .ret
def A_er01_Same:AFn:=⟨.seq [0,1] (.ops [aO 4 (.mv (.v (.c (.b false))))]) (.seq [0,1] (.seq [0,1,10] (.ops [aO 6 (.mv (.t 0)),aO 7 (.len (.t 6)),aO 8 (.mv (.t 1)),aO 9 (.len (.t 8)),aO 10 (.bin .neq (.t 7) (.t 9))]) (.cond (.t 10) (.seq [4] (.ops [aO 4 (.mv (.v (.c (.b false))))]) .ret) .skip)) (.seq [] (.seq [0,1,5] (.ops [aO 5 (.mv (.v (.c (.i .i64 0))))]) (.block 0 (.loop [0,1,5] B7g))) B7h)),[.tmp 4]⟩
def A3S:B3:=B8
def C86 (n:Nat):B4 (Val × A0):=E5 [] (ax A3S n B7h) A_er01_Same.fin
def C87 (n:Nat):B4 (Val × A0):=D6 0 (C86 n)
def A8d (n m:Nat) (x0 x1 x5:Val) (h:A0):A6:=C8 (ax A3S n B7g) [0,1,5] (C87 n) m [(0,x0),(1,x1),(5,x5)] h
def B0Y (n:Nat) (args:List Val) (h:A0):A6:=ax A3S n A_er01_Same.code A_er01_Same.fin (params 0 args) h
theorem C2F (n:Nat) (a0 a1:Val) (h:A0):B0Y n [a0,a1] h=bnd (E3 a0) fun v1=>bnd (E3 a1) fun v2=>bnd (A2 .neq v1 v2) fun v3=>cnd v3 (some ((.c (.b false)),h)) (A8d n n a0 a1 (.c (.i .i64 0)) h):=by kernel_rfl
theorem B7i (n m:Nat) (x0 x1 x5:Val) (h:A0):A8d n (m + 1) x0 x1 x5 h=bnd (E3 x0) fun v4=>bnd (A2 .lss x5 v4) fun v5=>cnd v5 (bnd (B9 1 x0 x5) fun v6=>bnd (A5 h v6) fun v7=>bnd (B9 1 x1 x5) fun v8=>bnd (A5 h v8) fun v9=>bnd (A2 .neq v7 v9) fun v10=>cnd v10 (some ((.c (.b false)),(h ++ []))) (bnd (A2 .add x5 (.c (.i .i64 1))) fun v11=>A8d n m x0 x1 v11 (h ++ []))) (some ((.c (.b true)),h)):=by kernel_rfl
theorem K_er01_Same:FnK Tryz.prog 49 A_er01_Same A3S B0Y:=.mk' (C1) Tryz.func49 (by kernel_rfl) (fun _ _ _=>C0)
def Z3:Fun:=tidy (Lim A_er01_Same A3S)
theorem A7s:SOk Tryz.prog 49 Z3:=K_er01_Same.sok
theorem C4K:D1 B0Y Z3:=K_er01_Same.flat
def B67:ACode:=.seq [0,1,2,7,8] (.seq [0,1,2,7,8,24] (.ops [aO 10 (.mv (.t 1)),aO 11 (.bin .geq (.t 10) (.v (.c (.i .i64 0)))),aO 12 (.mv (.t 11)),aG 13 12 true (.mv (.t 8)),aG 14 12 true (.mv (.t 0)),aG 15 12 true (.len (.t 14)),aG 16 12 true (.bin .lss (.t 13) (.t 15)),aO 17 (.pick (.t 12) (.t 16) (.v (.c (.b false)))),aO 18 (.mv (.t 17)),aG 19 18 true (.mv (.t 8)),aG 20 18 true (.mv (.t 1)),aG 21 18 true (.bin .sub (.t 19) (.t 20)),aG 22 18 true (.mv (.t 2)),aG 23 18 true (.bin .lss (.t 21) (.t 22)),aO 24 (.pick (.t 18) (.t 23) (.v (.c (.b false))))]) (.cond (.t 24) .skip (.exit 0))) (.seq [0,1,2,7,8] (.block 1 (.ops [aO 27 (.mv (.t 7)),aO 28 (.mv (.t 0)),aO 29 (.mv (.t 8)),aO 30 (.iAddrL 1 (.t 28) (.t 29)),aO 31 (.load1 (.t 30)),aO 32 (.buildSl 1 1 ([.i .u8 0]) [(0,1,(.t 31))]),aO 33 (.app 1 (.t 27) (.t 32)),aO 7 (.mv (.t 33))])) (.ops [aO 25 (.mv (.t 8)),aO 26 (.bin .add (.t 25) (.v (.c (.i .i64 1)))),aO 8 (.mv (.t 26))]))
def B68:ACode:=.seq [6] (.ops [aO 34 (.mv (.t 7)),aO 6 (.mv (.t 34))]) .ret
def A_er01_Cut:AFn:=⟨.seq [0,1,2] (.ops [aO 6 (.nilrow 1)]) (.seq [0,1,2,7] (.ops [aO 7 (.nilrow 1)]) (.seq [7] (.seq [0,1,2,7,8] (.ops [aO 9 (.mv (.t 1)),aO 8 (.mv (.t 9))]) (.block 0 (.loop [0,1,2,7,8] B67))) B68)),[.tmp 6]⟩
def A3Q:B3:=B8
def C8X (n:Nat):B4 (Val × A0):=E5 [7] (ax A3Q n B68) A_er01_Cut.fin
def C8Y (n:Nat):B4 (Val × A0):=D6 0 (C8X n)
def A5u (n m:Nat) (x0 x1 x2 x7 x8:Val) (h:A0):A6:=C8 (ax A3Q n B67) [0,1,2,7,8] (C8Y n) m [(0,x0),(1,x1),(2,x2),(7,x7),(8,x8)] h
def B0V (n:Nat) (args:List Val) (h:A0):A6:=ax A3Q n A_er01_Cut.code A_er01_Cut.fin (params 0 args) h
theorem B4p (n:Nat) (a0 a1 a2:Val) (h:A0):B0V n [a0,a1,a2] h=A5u n n a0 a1 a2 (.c (.sl (h ++ [some (Row.mk ([]) true)]).length 0 0 1)) a1 ((h ++ [some (Row.mk ([]) true)]) ++ [some (Row.mk ([]) true)]):=by kernel_rfl
theorem A79 (n m:Nat) (x0 x1 x2 x7 x8:Val) (h:A0):A5u n (m + 1) x0 x1 x2 x7 x8 h=bnd (A2 .geq x1 (.c (.i .i64 0))) fun v1=>bnd (gd v1 true (some (x8,h)) (some (.no,h))) fun p2=>bnd (gd v1 true (some (x0,p2.2)) (some (.no,p2.2))) fun p3=>bnd (gd v1 true (bnd (E3 p3.1) fun v4=>some (v4,p3.2)) (some (.no,p3.2))) fun p5=>bnd (gd v1 true (bnd (A2 .lss p2.1 p5.1) fun v6=>some (v6,p5.2)) (some (.no,p5.2))) fun p7=>bnd (C4 v1 p7.1 (.c (.b false))) fun v8=>bnd (gd v8 true (some (x8,p7.2)) (some (.no,p7.2))) fun p9=>bnd (gd v8 true (some (x1,p9.2)) (some (.no,p9.2))) fun p10=>bnd (gd v8 true (bnd (A2 .sub p9.1 p10.1) fun v11=>some (v11,p10.2)) (some (.no,p10.2))) fun p12=>bnd (gd v8 true (some (x2,p12.2)) (some (.no,p12.2))) fun p13=>bnd (gd v8 true (bnd (A2 .lss p12.1 p13.1) fun v14=>some (v14,p13.2)) (some (.no,p13.2))) fun p15=>bnd (C4 v8 p15.1 (.c (.b false))) fun v16=>cnd v16 (bnd (B9 1 x0 x8) fun v17=>bnd (A5 p15.2 v17) fun v18=>bnd (A8 ([.i .u8 0]) [(0,1,v18)]) fun c19=>bnd (E7 (p15.2 ++ [some (Row.mk (c19) true)]) 1 x7 (.c (.sl p15.2.length 0 1 1))) fun p20=>bnd (A2 .add x8 (.c (.i .i64 1))) fun v21=>A5u n m x0 x1 x2 p20.1 v21 p20.2) (some (x7,p15.2)):=by kernel_rfl
theorem K_er01_Cut:FnK Tryz.prog 91 A_er01_Cut A3Q B0V:=.mk' (C1) Tryz.func91 (by kernel_rfl) (fun _ _ _=>C0)
def A22:Fun:=tidy (Lim A_er01_Cut A3Q)
theorem C4H:SOk Tryz.prog 91 A22:=K_er01_Cut.sok
theorem B4B:N9 B0V A22:=K_er01_Cut.out
end Go.Proofs.YteckncopbicmcaaGreat
end
section
namespace Go.Proofs.YteckncopbicmcaaGreat
open Go Go.Esc
theorem C0W {v u:Val} {nv nu:Nat} {l r:List UInt8} {h:A0} (hv:Has h v 1 nv (A1 l)) (hu:Has h u 1 nu (A1 r)) (hlr:l.length=r.length) (hl:l.length < 9223372036854775807) {k:Nat}:∀ d i m,i + d=l.length → d < m →
    A8d k m v u (.c (.i .i64 i)) h=some (.c (.b (decide (l.drop i=r.drop i))),h)
  | d,i,0,_,hm=>by omega
  | 0,i,m + 1,hi,hm=>by
    have hnv:l.length=nv:=by simpa [B1] using hv.length
    have e1:l.drop i=[]:=List.drop_of_length_le (by omega)
    have e2:r.drop i=[]:=List.drop_of_length_le (by omega)
    have h1':¬ (i:Int) < l.length:=by omega
    rw [B7i]
    simp only [esc,hv.len,← hnv,h1',e1,e2]
  | d + 1,i,m + 1,hi,hm=>by
    have ih:=C0W hv hu hlr hl (k:=k) d (i + 1) m (by omega) (by omega)
    have hnv:l.length=nv:=by simpa [B1] using hv.length
    have hnu:r.length=nu:=by simpa [B1] using hu.length
    have hlen:=hv.len
    obtain ⟨id,off,rfl,hid,h1,h2⟩:=hv.sl (by omega)
    obtain ⟨id',off',rfl,hid',h1',h2'⟩:=hu.sl (by omega)
    have hx:=h1 i (.i .u8 l[i].toNat) (by rw [W8,List.getElem?_eq_getElem (by omega)];rfl)
    have hy:=h1' i (.i .u8 r[i].toNat) (by rw [W8,List.getElem?_eq_getElem (by omega)];rfl)
    have ea:B9 1 (.c (.sl id off nv 1)) (.c (.i .i64 (i:Int)))=some (.c (.p id (off + i))):=by rw [G6 (by omega)];simp
    have eb:B9 1 (.c (.sl id' off' nu 1)) (.c (.i .i64 (i:Int)))=some (.c (.p id' (off' + i))):=by rw [G6 (by omega)];simp
    have c1:(i:Int) < nv:=by omega
    rw [B7i,List.drop_eq_getElem_cons (by omega:i < l.length),List.drop_eq_getElem_cons (by omega:i < r.length)]
    by_cases c:l[i]=r[i]
    · simp only [esc,c1,ea,eb,hx,hy,c,E6 (show i + 1 < 9223372036854775808 by omega),List.cons.injEq,true_and]
      exact ih
    · have c':¬ (l[i].toNat:Int)=r[i].toNat:=fun e=>c (UInt8.toNat_inj.1 (by omega))
      simp only [esc,c1,ea,eb,hx,hy,c',c,List.cons.injEq,false_and]
theorem A9u {v u:Val} {nv nu:Nat} {l r:List UInt8} {h:A0} (hv:Has h v 1 nv (A1 l)) (hu:Has h u 1 nu (A1 r)) (hl:l.length < 9223372036854775807) :
    Z3 [v,u] h=some (.c (.b (decide (l=r))),h):=by
  refine C4K (n:=l.length + 1) (h2:=ro h) ?_ (by simp)
  have hnv:l.length=nv:=by simpa [B1] using hv.length
  have hnu:r.length=nu:=by simpa [B1] using hu.length
  rw [C2F]
  by_cases c:l.length=r.length
  · have:=C0W hv.ro hu.ro c hl (k:=l.length + 1) l.length 0 (l.length + 1) (by omega) (by omega)
    simp only [List.drop_zero] at this
    have c':(nv:Int)=nu:=by omega
    simp only [esc,hv.len,hu.len,c']
    exact this
  · have c':¬ (nv:Int)=nu:=by omega
    have c2:¬ l=r:=fun e=>c (by rw [e])
    simp only [esc,hv.len,hu.len,c',c2]
theorem C0T {v:Val} {nv:Nat} {l:List UInt8} {h:A0} (hv:Has h v 1 nv (A1 l)) {a w k:Nat} (hw:w ≤ 8) (haw:a + w ≤ l.length) (hl:l.length < 9223372036854775808):∀ j m,j ≤ w → j < m →
    A8a k m v (.c (.i .i64 a)) (.c (.i .u64 (le ((l.drop (a + j)).take (w - j))))) (.c (.i .i64 ((j:Int) - 1))) h=some (.t [.c (.i .u64 (le ((l.drop a).take w))),.c (.b true)],h)
  | j,0,_,hm=>by omega
  | 0,m + 1,hj,hm=>by
    rw [B7b]
    have h1':¬ (0:Int) ≤ ((0:Nat):Int) - 1:=by omega
    simp only [esc,h1',Nat.sub_zero]
  | j + 1,m + 1,hj,hm=>by
    have ih:=C0T hv (k:=k) hw haw hl j m (by omega) (by omega)
    have hnv:l.length=nv:=by simpa [B1] using hv.length
    obtain ⟨id,off,rfl,hid,h1,h2⟩:=hv.sl (by omega)
    have hx:=h1 (a + j) (.i .u8 l[a + j].toNat) (by rw [W8,List.getElem?_eq_getElem (by omega)];rfl)
    have hb:=l[a + j].toNat_lt
    have ea:B9 1 (.c (.sl id off nv 1)) (.c (.i .i64 ((a + j:Nat):Int)))=some (.c (.p id (off + (a + j)))):=by rw [G6 (by omega)];simp
    have e0:((j + 1:Nat):Int) - 1=j:=by omega
    have e5:IntKind.wrap .u64 (l[a + j].toNat:Int)=l[a + j].toNat:=wrap_u64 (by omega) (by omega)
    have e6:IntKind.wrap .i64 ((j:Int) - 1)=(j:Int) - 1:=wrap_i64 (by omega) (by omega)
    have hlen:((l.drop (a + (j + 1))).take (w - (j + 1))).length=w - (j + 1):=by simp;omega
    have hle:=A2D ((l.drop (a + (j + 1))).take (w - (j + 1)))
    rw [hlen] at hle
    have hp:256 ^ (w - (j + 1)) ≤ 256 ^ 7:=A3D (by omega)
    have e7:(l.drop (a + j)).take (w - j)=l[a + j] :: (l.drop (a + (j + 1))).take (w - (j + 1)):=by
      rw [List.drop_eq_getElem_cons (by omega),show w - j=(w - (j + 1)) + 1 by omega,List.take_succ_cons]
      rfl
    rw [e7] at ih
    have e8:IntKind.wrap .u64 ((le ((l.drop (a + (j + 1))).take (w - (j + 1))):Nat) * 256)=((le ((l.drop (a + (j + 1))).take (w - (j + 1))) * 256:Nat):Int):=by
      rw [wrap_u64 (by omega) (by omega)];omega
    have e9:IntKind.wrap .u64 (((le ((l.drop (a + (j + 1))).take (w - (j + 1))) * 256:Nat):Int) + l[a + j].toNat)=((le (l[a + j] :: (l.drop (a + (j + 1))).take (w - (j + 1))):Nat):Int):=by
      simp only [le]
      rw [wrap_u64 (by omega) (by omega)];omega
    have h1':(0:Int) ≤ j:=by omega
    rw [B7b,e0]
    simp only [esc,h1',A0y (show a + j < 9223372036854775808 by omega),ea,hx,e5,e8,e9,e6]
    exact ih
theorem C0S {v:Val} {nv:Nat} {l:List UInt8} {h:A0} (hv:Has h v 1 nv (A1 l)) {a w:Int} (hl:l.length < 9223372036854775808) :
    A1W [v,.c (.i .i64 a),.c (.i .i64 w)] h=some (.t [.c (.i .u64 ((A0a l a w).getD 0:Nat)),.c (.b (A0a l a w).isSome)],h):=by
  refine C4I (n:=w.toNat + 1) (h2:=ro h) ?_ (by simp)
  rw [C2D]
  have hv':=hv.ro
  have hnv:l.length=nv:=by simpa [B1] using hv.length
  unfold A0a
  by_cases c1:w < 1
  · rw [if_neg (by rw [U7];omega)]
    simp only [esc,c1,Option.getD_none,Option.isSome_none] <;> rfl
  · by_cases c2:8 < w
    · rw [if_neg (by omega)]
      simp only [esc,c1,c2,Option.getD_none,Option.isSome_none] <;> rfl
    · by_cases c3:a < 0
      · rw [if_neg (by rw [U7];omega)]
        simp only [esc,c1,c2,c3,Option.getD_none,Option.isSome_none] <;> rfl
      · have e1:IntKind.wrap .i64 ((nv:Int) - w)=nv - w:=wrap_i64 (by omega) (by omega)
        by_cases c4:(nv:Int) - w < a
        · rw [if_neg (by rw [U7];omega)]
          simp only [esc,c1,c2,c3,c4,hv'.len,e1,Option.getD_none,Option.isSome_none] <;> rfl
        · rw [if_pos (by rw [U7];omega)]
          have:=C0T hv' (a:=a.toNat) (w:=w.toNat) (k:=w.toNat + 1) (by omega) (by omega) hl w.toNat (w.toNat + 1) (by omega) (by omega)
          simp only [show ((a.toNat:Nat):Int)=a by omega,show ((w.toNat:Nat):Int)=w by omega,Nat.sub_self,List.take_zero,le] at this
          have e2:IntKind.wrap .i64 (w - 1)=w - 1:=wrap_i64 (by omega) (by omega)
          simp only [esc,c1,c2,c3,c4,hv'.len,e1,e2,Option.getD_some,Option.isSome_some]
          exact this
theorem C0P {g:A0} {w k:Nat} {v:Int} (hw:w ≤ 8) (hv:0 ≤ v) (hv2:v < 18446744073709551616):∀ d i m h id,i + d=w → d < m → Low g.length g h → g.length ≤ id → rd h id=some ⟨A1 (B5 i v),true⟩ →
    ∃ v' h',A78 k m (.c (.i .i64 w)) (.c (.i .u64 (v / 256 ^ i))) (.c (.sl id 0 i 1)) (.c (.i .i64 i)) h=some (v',h') ∧ Out g.length h' v' 1 w (A1 (B5 w v))
  | d,i,0,h,id,_,hm,_,_,_=>by omega
  | 0,i,m + 1,h,id,hi,hm,hlow,hb,hr=>by
    have e:i=w:=by omega
    subst e
    have h1':¬ (i:Int) < i:=by omega
    rw [B66]
    exact ⟨_,_,by simp only [esc,h1'] <;> rfl,by simp [B1],id,rfl,hb,hr⟩
  | d + 1,i,m + 1,h,id,hi,hm,hlow,hb,hr=>by
    have hq:0 ≤ v / 256 ^ i:=Int.ediv_nonneg hv (Int.pow_nonneg (by omega))
    have e1:A2 .rem (.c (.i .u64 (v / 256 ^ i))) (.c (.i .u64 256))=some (.c (.i .u64 (v / 256 ^ i % 256))):=by
      rw [B47 (by omega),Int.tmod_eq_emod_of_nonneg hq]
    have e2:IntKind.wrap .u8 (v / 256 ^ i % 256)=((byI v i).toNat:Int):=by rw [A9G,A2u];omega
    have hle:v / 256 ^ i ≤ v:=Int.ediv_le_self _ hv
    have e3:A2 .quo (.c (.i .u64 (v / 256 ^ i))) (.c (.i .u64 256))=some (.c (.i .u64 (v / 256 ^ (i + 1)))):=by
      have h0:v / 256 ^ i / 256=v / 256 ^ (i + 1):=by rw [Int.ediv_ediv_of_nonneg (Int.pow_nonneg (by omega)),Int.pow_succ]
      rw [B46 (by omega),Int.tdiv_eq_ediv_of_nonneg hq,h0]
      have h1:0 ≤ v / 256 ^ (i + 1):=Int.ediv_nonneg hv (Int.pow_nonneg (by omega))
      have h2:v / 256 ^ (i + 1) ≤ v:=Int.ediv_le_self _ hv
      exact congrArg some (congrArg Val.c (congrArg (Cell.i .u64) (wrap_u64 h1 (by omega))))
    obtain ⟨h',a1,a2,a3,a4,a5⟩:=push (ys:=[.i .u8 (byI v i).toNat]) (sz:=1) (n:=i) hlow hr (by simp [B1]) hb rfl (by omega) (by omega)
    have e4:A1 (B5 i v) ++ [Cell.i .u8 (byI v i).toNat]=A1 (B5 (i + 1) v):=by rw [B12,W7];rfl
    rw [e4] at a2
    obtain ⟨v',h'',b1,b2⟩:=C0P (k:=k) hw hv hv2 d (i + 1) m h' (h.length + 1) (by omega) (by omega) a3 a4 a2
    have h1':(i:Int) < w:=by omega
    have e5:A8 [Cell.i .u8 0] [(0,1,.c (.i .u8 (byI v i).toNat))]=some [.i .u8 (byI v i).toNat]:=rfl
    rw [B66]
    exact ⟨v',h'',by simp only [esc,h1',e1,e2,e5,a1,e3,E6 (show i + 1 < 9223372036854775808 by omega)];exact b1,b2⟩
theorem B3T {w:Nat} {v:Int} {h:A0} (hw:w ≤ 8) (hv:0 ≤ v) (hv2:v < 18446744073709551616) :
    W2 [.c (.i .i64 w),.c (.i .u64 v)] h=some (.c (.sl h.length 0 w 1),h ++ [some ⟨A1 (B5 w v),true⟩]):=by
  obtain ⟨v',h',e,ho⟩:=C0P (g:=ro h) (k:=w + 1) hw hv hv2 w 0 (w + 1) (ro h ++ [some ⟨[],true⟩,some ⟨[],true⟩]) ((ro h).length + 1) (by omega) (by omega) ((Low.refl (Nat.le_refl _)).new _) (by simp) (by simp [B5];rfl)
  refine C4G (n:=w + 1) (v:=v') (h2:=h') ?_ (by simpa [K4] using ho) (by simp)
  rw [C2C]
  simp only [Int.pow_zero,Int.ediv_one] at e
  simp only [esc]
  exact e
def U2 (l:List UInt8) (a:Int) (data:List UInt8):List UInt8:=if 0 ≤ a then l.take a.toNat ++ ((data.take (l.length - a.toNat)) ++ l.drop (a.toNat + data.length)) else l
theorem B3q {l data:List UInt8} {a:Int}:(U2 l a data).length=l.length:=by
  unfold U2
  split
  · simp;omega
  · rfl
theorem D0Q {l data:List UInt8} {a:Int} {i:Nat} (hi:i < l.length):(U2 l a data)[i]? = if 0 ≤ a ∧ a ≤ i ∧ i - a < data.length then data[i - a.toNat]? else l[i]? := by
  unfold U2
  by_cases c1:0 ≤ a
  · rw [if_pos c1]
    by_cases c2:a ≤ i
    · rw [List.getElem?_append_right (by simp;omega)]
      have e1:(l.take a.toNat).length=a.toNat:=by simp;omega
      rw [e1]
      by_cases c3:i - a < data.length
      · rw [if_pos ⟨c1,c2,c3⟩,List.getElem?_append_left (by simp;omega),List.getElem?_take_of_lt (by omega)]
      · rw [if_neg (by omega),List.getElem?_append_right (by simp;omega),List.getElem?_drop]
        congr 1
        simp;omega
    · rw [if_neg (by omega),List.getElem?_append_left (by simp;omega),List.getElem?_take_of_lt (by omega)]
  · rw [if_neg c1,if_neg (by omega)]
theorem C0V {g:A0} {v u:Val} {nv nu:Nat} {l data:List UInt8} (hv:Has g v 1 nv (A1 l)) (hu:Has g u 1 nu (A1 data)) {a:Int} (ha:a < 9223372036854775808) {k:Nat} (hl:l.length ≤ 1073741824):∀ d i m h id,i + d=l.length → d < m → Low g.length g h → g.length ≤ id → rd h id=some ⟨A1 ((U2 l a data).take i),true⟩ →
    ∃ v' h',A8c k m v (.c (.i .i64 a)) u (.c (.sl id 0 i 1)) (.c (.i .i64 i)) h=some (v',h') ∧ Out g.length h' v' 1 l.length (A1 (U2 l a data))
  | d,i,0,h,id,_,hm,_,_,_=>by omega
  | 0,i,m + 1,h,id,hi,hm,hlow,hb,hr=>by
    have hnv:l.length=nv:=by simpa [B1] using hv.length
    have e:i=nv:=by omega
    subst e
    have h1':¬ (i:Int) < i:=by omega
    rw [List.take_of_length_le (by rw [B3q];omega)] at hr
    rw [B7f]
    exact ⟨_,_,by simp only [esc,(hv.since hlow).len,h1'] <;> rfl,by simp [B1,B3q],id,by rw [hnv],hb,hr⟩
  | d + 1,i,m + 1,h,id,hi,hm,hlow,hb,hr=>by
    have hnv:l.length=nv:=by simpa [B1] using hv.length
    have hnu:data.length=nu:=by simpa [B1] using hu.length
    have hvl:=(hv.since hlow).len
    have hul:=(hu.since hlow).len
    obtain ⟨idv,offv,rfl,-,hv1,-⟩:=(hv.since hlow).sl (by omega)
    have hx:=hv1 i (.i .u8 l[i].toNat) (by rw [W8,List.getElem?_eq_getElem (by omega)];rfl)
    have ea:B9 1 (.c (.sl idv offv nv 1)) (.c (.i .i64 (i:Int)))=some (.c (.p idv (offv + i))):=by rw [G6 (by omega)];simp
    have c1:(i:Int) < nv:=by omega
    have step:∀ x:UInt8,(U2 l a data)[i]? = some x → ∃ v' h',A8b k m (.c (.sl idv offv nv 1)) (.c (.i .i64 a)) u (.c (.sl id 0 i 1)) (.c (.i .i64 i)) (.c (.i .u8 x.toNat)) h=some (v',h') ∧ Out g.length h' v' 1 l.length (A1 (U2 l a data)):=by
      intro x hx
      obtain ⟨h',a1,a2,a3,a4,a5⟩:=push (ys:=[.i .u8 x.toNat]) (sz:=1) (n:=i) hlow hr (by rw [B1,List.length_take,B3q];omega) hb rfl (by omega) (by omega)
      have e4:A1 ((U2 l a data).take i) ++ [Cell.i .u8 x.toNat]=A1 ((U2 l a data).take (i + 1)):=by
        rw [List.take_add_one,hx,W7];rfl
      rw [e4] at a2
      obtain ⟨v',h'',b1,b2⟩:=C0V (k:=k) hv hu ha hl d (i + 1) m h' (h.length + 1) (by omega) (by omega) a3 a4 a2
      have e5:A8 [Cell.i .u8 0] [(0,1,.c (.i .u8 x.toNat))]=some [.i .u8 x.toNat]:=rfl
      rw [C81]
      exact ⟨v',h'',by simp only [esc,e5,a1,E6 (show i + 1 < 9223372036854775808 by omega)];exact b1,b2⟩
    have hg:=D0Q (l:=l) (data:=data) (a:=a) (i:=i) (by omega)
    have hli:l[i]? = some l[i]:=List.getElem?_eq_getElem (by omega)
    rw [B7f]
    by_cases c2:0 ≤ a
    · by_cases c3:a ≤ i
      · have e6:IntKind.wrap .i64 ((i:Int) - a)=((i - a.toNat:Nat):Int):=by rw [wrap_i64 (by omega) (by omega)];omega
        by_cases c4:i - a.toNat < data.length
        · rw [if_pos (by omega),List.getElem?_eq_getElem c4] at hg
          obtain ⟨idu,offu,rfl,-,hu1,-⟩:=(hu.since hlow).sl (by omega)
          have hy:=hu1 (i - a.toNat) (.i .u8 (data[i - a.toNat]'(by omega)).toNat) (by rw [W8,List.getElem?_eq_getElem c4];rfl)
          have eb:B9 1 (.c (.sl idu offu nu 1)) (.c (.i .i64 ((i - a.toNat:Nat):Int)))=some (.c (.p idu (offu + (i - a.toNat)))):=by rw [G6 (by omega)];simp
          have c4':((i - a.toNat:Nat):Int) < nu:=by omega
          simp only [esc,hvl,c1,ea,hx,c2,c3,e6,hul,c4',eb,hy]
          exact step _ hg
        · rw [if_neg (by omega),hli] at hg
          have c4':¬ ((i - a.toNat:Nat):Int) < nu:=by omega
          simp only [esc,hvl,c1,ea,hx,c2,c3,e6,hul,c4']
          exact step _ hg
      · rw [if_neg (by omega),hli] at hg
        simp only [esc,hvl,c1,ea,hx,c2,c3]
        exact step _ hg
    · rw [if_neg (by omega),hli] at hg
      simp only [esc,hvl,c1,ea,hx,c2]
      exact step _ hg
theorem C0U {v u:Val} {nv nu:Nat} {l data:List UInt8} {h:A0} (hv:Has h v 1 nv (A1 l)) (hu:Has h u 1 nu (A1 data)) {a:Int} (ha:a < 9223372036854775808) (hl:l.length ≤ 1073741824) :
    A1X [v,.c (.i .i64 a),u] h=some (.c (.sl h.length 0 l.length 1),h ++ [some ⟨A1 (U2 l a data),true⟩]):=by
  obtain ⟨v',h',e,ho⟩:=C0V (k:=l.length + 1) hv.ro hu.ro ha hl l.length 0 (l.length + 1) (ro h ++ [some ⟨[],true⟩,some ⟨[],true⟩]) ((ro h).length + 1) (by omega) (by omega) ((Low.refl (Nat.le_refl _)).new _) (by simp) (by simp;rfl)
  refine C4J (n:=l.length + 1) (v:=v') (h2:=h') ?_ (by simpa [K4] using ho) (by simp)
  rw [C2E]
  simp only [esc]
  exact e
theorem B9l {l xs:List UInt8} {a:Nat} (h:a + xs.length ≤ l.length):U2 l a xs=D3 l a xs:=by
  unfold U2 D3
  rw [if_pos (by omega)]
  simp only [Int.toNat_natCast]
  rw [List.take_of_length_le (l:=xs) (by omega)]
def atG (l:List UInt8) (a w:Int):Nat:=if w ≤ 4 ∧ W0 a w l.length=true then le ((l.drop a.toNat).take w.toNat) else 0
theorem C7A {l:List UInt8} {a w:Int} (hl:l.length=256):atG l a w=atN l a w:=by
  unfold atG atN;rw [hl];rfl
theorem D2i {v:Val} {nv:Nat} {l:List UInt8} {h:A0} (hv:Has h v 1 nv (A1 l)) {a w:Int} (hl:l.length < 9223372036854775808) :
    X2 [v,.c (.i .i64 a),.c (.i .i64 w)] h=some (.c (.i .i64 (atG l a w)),h):=by
  have key:∀ g,Has g v 1 nv (A1 l) → A6r 0 [v,.c (.i .i64 a),.c (.i .i64 w)] g=some (.c (.i .i64 (atG l a w)),g):=by
    intro g hv
    rw [C2B]
    unfold atG
    by_cases c1:4 < w
    · rw [if_neg (by omega)]
      simp only [esc,c1] <;> rfl
    · have e:=C0S hv (a:=a) (w:=w) hl
      unfold A0a at e
      by_cases c2:W0 a w l.length=true
      · have c3:=U7.1 c2
        rw [if_pos ⟨by omega,c2⟩] at e
        rw [if_pos ⟨by omega,c2⟩]
        have hle:=A2D ((l.drop a.toNat).take w.toNat)
        have hlen:((l.drop a.toNat).take w.toNat).length=w.toNat:=by simp;omega
        rw [hlen] at hle
        have hp:256 ^ w.toNat ≤ 256 ^ 4:=A3D (by omega)
        simp only [Option.getD_some,Option.isSome_some] at e
        have e2:IntKind.wrap .i64 ((le ((l.drop a.toNat).take w.toNat):Nat):Int)=le ((l.drop a.toNat).take w.toNat):=wrap_i64 (by omega) (by omega)
        simp only [esc,c1,e,e2]
      · rw [if_neg (fun h=>c2 h.2)] at e
        rw [if_neg (fun h=>c2 h.2)]
        simp only [Option.getD_none,Option.isSome_none] at e
        simp only [esc,c1,e] <;> rfl
  exact C4F (key _ hv.ro) (by simp)
theorem A5U {v:Val} {nv:Nat} {l:List UInt8} {h:A0} (hv:Has h v 1 nv (A1 l)) {a w:Int} (hl:l.length=256) :
    X2 [v,.c (.i .i64 a),.c (.i .i64 w)] h=some (.c (.i .i64 (atN l a w)),h):=by
  rw [D2i hv (by omega),C7A hl]
theorem C7Q {v:Int} {i:Nat} (hi:i < 8):byI (IntKind.wrap .u64 v) i=byI v i:=by
  have hw:IntKind.wrap .u64 v=v % 18446744073709551616:=by
    simp only [IntKind.wrap,IntKind.bits,IntKind.signed,Bool.false_and]
    rfl
  apply UInt8.toNat_inj.1
  have h1:((byI (IntKind.wrap .u64 v) i).toNat:Int)=(v % 18446744073709551616) / 256 ^ i % 256:=by rw [A2u,hw]
  have h2:=A2u v i
  have h3:(v % 18446744073709551616) / 256 ^ i % 256=v / 256 ^ i % 256:=by
    have:i=0 ∨ i=1 ∨ i=2 ∨ i=3 ∨ i=4 ∨ i=5 ∨ i=6 ∨ i=7:=by omega
    rcases this with rfl | rfl | rfl | rfl | rfl | rfl | rfl | rfl <;> simp only [Int.reducePow] <;> omega
  omega
theorem C7S {v:Int} {w:Nat} (hw:w ≤ 8):B5 w (IntKind.wrap .u64 v)=B5 w v:=by
  unfold B5
  refine List.map_congr_left fun i hi=>C7Q ?_
  have:=List.mem_range.1 hi
  omega
theorem C0R {g:A0} {v:Val} {nv:Nat} {l:List UInt8} (hv:Has g v 1 nv (A1 l)) {a n:Int} (h0:0 ≤ a) (h1:a < 9223372036854775808) {k:Nat} (hl:l.length ≤ 1073741824):∀ d i m h id,i + d=(G1 l a n).length → d < m → Low g.length g h → g.length ≤ id → rd h id=some ⟨A1 ((G1 l a n).take i),true⟩ →
    ∃ v' h',A5u k m v (.c (.i .i64 a)) (.c (.i .i64 n)) (.c (.sl id 0 i 1)) (.c (.i .i64 (a + i))) h=some (v',h') ∧ Out g.length h' v' 1 (G1 l a n).length (A1 (G1 l a n))
  | d,i,0,h,id,_,hm,_,_,_=>by omega
  | 0,i,m + 1,h,id,hi,hm,hlow,hb,hr=>by
    have hnv:l.length=nv:=by simpa [B1] using hv.length
    have e:i=(G1 l a n).length:=by omega
    rw [List.take_of_length_le (by omega)] at hr
    have hc:(G1 l a n).length=min n.toNat (l.length - a.toNat):=by unfold G1;rw [if_pos h0];simp
    rw [A79]
    subst e
    by_cases c1:a + ((G1 l a n).length:Int) < nv
    · have c2:¬ ((G1 l a n).length:Int) < n:=by omega
      have e1:IntKind.wrap .i64 (a + ((G1 l a n).length:Int) - a)=(G1 l a n).length:=by rw [wrap_i64 (by omega) (by omega)];omega
      exact ⟨_,_,by simp only [esc,(hv.since hlow).len,h0,c1,e1,c2] <;> rfl,by simp [B1],id,rfl,hb,hr⟩
    · exact ⟨_,_,by simp only [esc,(hv.since hlow).len,h0,c1] <;> rfl,by simp [B1],id,rfl,hb,hr⟩
  | d + 1,i,m + 1,h,id,hi,hm,hlow,hb,hr=>by
    have hnv:l.length=nv:=by simpa [B1] using hv.length
    have hc:(G1 l a n).length=min n.toNat (l.length - a.toNat):=by unfold G1;rw [if_pos h0];simp
    have hvl:=(hv.since hlow).len
    obtain ⟨idv,offv,rfl,-,hv1,-⟩:=(hv.since hlow).sl (by omega)
    have hx:=hv1 (a.toNat + i) (.i .u8 (l[a.toNat + i]'(by omega)).toNat) (by rw [W8,List.getElem?_eq_getElem (by omega)];rfl)
    have e0:(a + (i:Int))=((a.toNat + i:Nat):Int):=by omega
    have ea:B9 1 (.c (.sl idv offv nv 1)) (.c (.i .i64 ((a.toNat + i:Nat):Int)))=some (.c (.p idv (offv + (a.toNat + i)))):=by rw [G6 (by omega)];simp
    have c1:((a.toNat + i:Nat):Int) < nv:=by omega
    have e1:IntKind.wrap .i64 (((a.toNat + i:Nat):Int) - a)=i:=by rw [wrap_i64 (by omega) (by omega)];omega
    have c2:(i:Int) < n:=by omega
    obtain ⟨h',a1,a2,a3,a4,a5⟩:=push (ys:=[.i .u8 (l[a.toNat + i]'(by omega)).toNat]) (sz:=1) (n:=i) hlow hr (by rw [B1,List.length_take];omega) hb rfl (by omega) (by omega)
    have e4:A1 ((G1 l a n).take i) ++ [Cell.i .u8 (l[a.toNat + i]'(by omega)).toNat]=A1 ((G1 l a n).take (i + 1)):=by
      have:(G1 l a n)[i]? = some (l[a.toNat + i]'(by omega)):=by
        unfold G1
        rw [if_pos h0,List.getElem?_take_of_lt (by omega),List.getElem?_drop,List.getElem?_eq_getElem (by omega)]
      rw [List.take_add_one,this,W7];rfl
    rw [e4] at a2
    obtain ⟨v',h'',b1,b2⟩:=C0R (k:=k) hv h0 h1 hl d (i + 1) m h' (h.length + 1) (by omega) (by omega) a3 a4 a2
    have e6:a + ((i + 1:Nat):Int)=((a.toNat + i + 1:Nat):Int):=by omega
    rw [e6] at b1
    have e5:A8 [Cell.i .u8 0] [(0,1,.c (.i .u8 (l[a.toNat + i]'(by omega)).toNat))]=some [.i .u8 (l[a.toNat + i]'(by omega)).toNat]:=rfl
    rw [A79,e0]
    exact ⟨v',h'',by simp only [esc,hvl,h0,c1,e1,c2,ea,hx,e5,a1,E6 (show a.toNat + i + 1 < 9223372036854775808 by omega)];exact b1,b2⟩
theorem C0Q {v:Val} {nv:Nat} {l:List UInt8} {h:A0} (hv:Has h v 1 nv (A1 l)) {a n:Int} (h1:a < 9223372036854775808) (hl:l.length ≤ 1073741824) :
    A22 [v,.c (.i .i64 a),.c (.i .i64 n)] h=some (.c (.sl h.length 0 (G1 l a n).length 1),h ++ [some ⟨A1 (G1 l a n),true⟩]):=by
  by_cases h0:0 ≤ a
  · obtain ⟨v',h',e,ho⟩:=C0R (k:=(G1 l a n).length + 1) (n:=n) hv.ro h0 h1 hl (G1 l a n).length 0 ((G1 l a n).length + 1) (ro h ++ [some ⟨[],true⟩,some ⟨[],true⟩]) ((ro h).length + 1) (by omega) (by omega) ((Low.refl (Nat.le_refl _)).new _) (by simp) (by simp;rfl)
    refine B4B (n:=(G1 l a n).length + 1) (v:=v') (h2:=h') ?_ (by simpa [K4] using ho) (by simp)
    rw [B4p]
    simp only [esc]
    simpa using e
  · have e:G1 l a n=[]:=by unfold G1;rw [if_neg h0]
    rw [e]
    refine B4B (n:=1) (v:=.c (.sl ((ro h).length + 1) 0 0 1)) (h2:=ro h ++ [some ⟨[],true⟩,some ⟨[],true⟩]) ?_ ⟨by simp [B1],_,rfl,by rw [K4];omega,by simp;rfl⟩ (by simp)
    rw [B4p]
    have:∀ n:Nat,∀ x h,A5u n 1 v (.c (.i .i64 a)) x (.c (.sl ((ro h).length + 1) 0 0 1)) (.c (.i .i64 a)) h=some (.c (.sl ((ro h).length + 1) 0 0 1),h):=by
      intro n x h
      rw [A79 n 0]
      simp only [esc,h0]
    simp only [esc]
    have e2:=A79 1 0 v (.c (.i .i64 a)) (.c (.i .i64 n)) (.c (.sl ((ro h).length + 1) 0 0 1)) (.c (.i .i64 a)) (ro h ++ [some ⟨[],true⟩,some ⟨[],true⟩])
    rw [e2]
    simp only [esc,h0]
end Go.Proofs.YteckncopbicmcaaGreat
end
section
namespace Go.Proofs.YteckncopbicmcaaGreat
open Go Go.Esc
theorem C0e {v:Val} {nv:Nat} {l:List UInt8} {h:A0} (hv:Has h v 1 nv (A1 l)) {a w k:Nat} (hw:w ≤ 8) (haw:a + w ≤ l.length) (hl:l.length < 9223372036854775808):∀ d i m,i + d=w → d < m →
    A9c k m v (.c (.i .i64 a)) (.c (.i .u64 (le ((l.drop a).take i)))) (.c (.i .i64 w)) (.c (.i .i64 i)) h=some (.t [.c (.i .u64 (le ((l.drop a).take w))),.c (.b true)],h)
  | d,i,0,_,hm=>by omega
  | 0,i,m + 1,hi,hm=>by
    have e:i=w:=by omega
    subst e
    rw [C0d]
    simp
  | d + 1,i,m + 1,hi,hm=>by
    have ih:=C0e hv (k:=k) hw haw hl d (i + 1) m (by omega) (by omega)
    have hnv:l.length=nv:=by simpa [B1] using hv.length
    obtain ⟨id,off,rfl,hid,h1,h2⟩:=hv.sl (by omega)
    have hx:=h1 (a + i) (.i .u8 l[a + i].toNat) (by rw [W8,List.getElem?_eq_getElem (by omega)];rfl)
    have hb:=l[a + i].toNat_lt
    have hlen:((l.drop a).take i).length=i:=by simp;omega
    have hle:=A2D ((l.drop a).take i)
    rw [hlen] at hle
    have hp:=A3D (show i ≤ 8 by omega)
    have hbp:=B57 (x:=l[a + i]) (show i < 8 by omega)
    have e2:IntKind.wrap .i64 (8 * (i:Int))=8 * i:=wrap_i64 (by omega) (by omega)
    have e3:IntKind.wrap .u64 (8 * (i:Int))=8 * i:=wrap_u64 (by omega) (by omega)
    have e5:IntKind.wrap .u64 (l[a + i].toNat:Int)=l[a + i].toNat:=wrap_u64 (by omega) (by omega)
    have e6:=C1y (k:=.u64) (x:=l[a + i]) (show i < 8 by omega) (wrap_u64 (by omega) (by omega)) rfl
    have e7:A2 .or (.c (.i .u64 (le ((l.drop a).take i):Nat))) (.c (.i .u64 ((l[a + i].toNat * 256 ^ i:Nat):Int)))=some (.c (.i .u64 (le ((l.drop a).take (i + 1)):Nat))):=by
      rw [D1T (by omega) (by omega),B4h (by omega),← C0t,hlen]
    have ea:B9 1 (.c (.sl id off nv 1)) (.c (.i .i64 ((a + i:Nat):Int)))=some (.c (.p id (off + (a + i)))):=by rw [G6 (by omega)];simp
    have h1':(i:Int) < w:=by omega
    rw [C0d]
    simp only [esc,h1',A0y (show a + i < 9223372036854775808 by omega),e2,e3,ea,hx,e5,e6,e7,E6 (show i + 1 < 9223372036854775808 by omega)]
    exact ih
theorem D1y {v:Val} {nv:Nat} {l:List UInt8} {h:A0} (hv:Has h v 1 nv (A1 l)) {a w:Int} (hl:l.length < 9223372036854775808) :
    A48 [v,.c (.i .i64 a),.c (.i .i64 w)] h=some (.t [.c (.i .u64 ((A0a l a w).getD 0:Nat)),.c (.b (A0a l a w).isSome)],h):=by
  refine C6r (n:=w.toNat + 1) (h2:=ro h) ?_ (by simp)
  rw [C3J]
  have hv':=hv.ro
  have hnv:l.length=nv:=by simpa [B1] using hv.length
  unfold A0a
  by_cases c1:8 < w
  · have c1':¬ w ≤ 8:=by omega
    simp [c1,c1']
  · have c1':w ≤ 8:=by omega
    cases c2:W0 a w l.length with
    | false=>simp [c1,hv'.len,← hnv,A1F (show (l.length:Int) < 9223372036854775808 by omega),c2]
    | true =>
      simp [c1,c1',hv'.len,← hnv,A1F (show (l.length:Int) < 9223372036854775808 by omega),c2]
      rw [U7] at c2
      have:=C0e hv' (a:=a.toNat) (w:=w.toNat) (k:=w.toNat + 1) (by omega) (by omega) hl w.toNat 0 (w.toNat + 1) (by omega) (by omega)
      simp only [show ((a.toNat:Nat):Int)=a by omega,show ((w.toNat:Nat):Int)=w by omega] at this
      simpa [le] using this
theorem C0k {l:List UInt8} {b id a w k:Nat} {v:Int} (hw:w ≤ 8) (haw:a + w ≤ l.length) (hl:l.length < 9223372036854775808):∀ d i m (h:A0),i + d=w → d < m → b ≤ id → b ≤ h.length → rd h id=some ⟨A1 (D3 l a (B5 i v)),true⟩ →
    ∃ h',A9g k m (.c (.i .i64 a)) (.c (.i .u64 v)) (.c (.sl id 0 l.length 1)) (.c (.i .i64 w)) (.c (.i .i64 i)) h=some (.t [.c (.sl id 0 l.length 1),.c (.b true)],h') ∧ rd h' id=some ⟨A1 (D3 l a (B5 w v)),true⟩
  | d,i,0,h,_,hm,_,_,_=>by omega
  | 0,i,m + 1,h,hi,hm,_,_,hr=>by
    have e:i=w:=by omega
    subst e
    have h1':¬ (i:Int) < i:=by omega
    rw [C0j]
    exact ⟨h,by simp only [esc,h1'],hr⟩
  | d + 1,i,m + 1,h,hi,hm,hb,hbl,hr=>by
    have e2:IntKind.wrap .i64 (8 * (i:Int))=8 * i:=wrap_i64 (by omega) (by omega)
    have e3:IntKind.wrap .u64 (8 * (i:Int))=8 * i:=wrap_u64 (by omega) (by omega)
    have e4:A2 .shr (.c (.i .u64 v)) (.c (.i .u64 (8 * (i:Int))))=some (.c (.i .u64 (v / 2 ^ (Nat.min (8 * (i:Int)).toNat 64)))):=B1F (by omega)
    have ea:B9 1 (.c (.sl id 0 l.length 1)) (.c (.i .i64 ((a + i:Nat):Int)))=some (.c (.p id (a + i))):=by rw [G6 (by omega)];simp
    have hst:=Z0 (off:=a + i) (x:=.i .u8 (byI v i).toNat) hr (by rw [B1,A0c (by simp;omega)];omega)
    have e5:(D3 l a (B5 i v)).set (a + i) (byI v i)=D3 l a (B5 (i + 1) v):=by
      rw [B12]
      have:=A8S (l:=l) (xs:=B5 i v) (a:=a) (x:=byI v i) (by simp;omega)
      simpa using this
    rw [A0q,e5] at hst
    obtain ⟨h',ih,hr'⟩:=C0k (b:=b) (k:=k) (v:=v) hw haw hl d (i + 1) m (h.set id (some ⟨A1 (D3 l a (B5 (i + 1) v)),true⟩)) (by omega) (by omega) hb (by simpa using hbl) (K3 (D0 hr))
    have h1':(i:Int) < w:=by omega
    rw [C0j]
    exact ⟨h',by simp only [esc,h1',A0y (show a + i < 9223372036854775808 by omega),e2,e3,e4,B58 (v:=v) (show i < 8 by omega),ea,hst,E6 (show i + 1 < 9223372036854775808 by omega)];exact ih,hr'⟩
def V8 (l:List UInt8) (a w v:Int):Option (List UInt8):=if w ≤ 8 ∧ W0 a w l.length=true then some (D3 l a.toNat (B5 w.toNat v)) else none
theorem D1G {x:Val} {nv:Nat} {l:List UInt8} {h:A0} (hv:Has h x 1 nv (A1 l)) {a w v:Int} (hl:l.length ≤ 1073741824) :
    A49 [x,.c (.i .i64 a),.c (.i .i64 w),.c (.i .u64 v)] h=some (.t [.c (.sl h.length 0 ((V8 l a w v).getD []).length 1),.c (.b (V8 l a w v).isSome)],h ++ [some ⟨A1 ((V8 l a w v).getD []),true⟩]):=by
  have hnv:l.length=nv:=by simpa [B1] using hv.length
  have key:∀ g,Has g x 1 nv (A1 l) → ∃ id g',A7d (w.toNat + 1) [x,.c (.i .i64 a),.c (.i .i64 w),.c (.i .u64 v)] g=some (.t [.c (.sl id 0 ((V8 l a w v).getD []).length 1),.c (.b (V8 l a w v).isSome)],g') ∧ g.length ≤ id ∧ rd g' id=some ⟨A1 ((V8 l a w v).getD []),true⟩:=by
    intro g hv
    rw [C3M]
    have hvm:=hv.more [some ⟨[],true⟩]
    unfold V8
    by_cases c1:8 < w
    · rw [if_neg (by omega)]
      exact ⟨_,_,by simp only [esc,c1];rfl,by simp,by simp;rfl⟩
    · cases c2:W0 a w l.length with
      | false =>
        rw [if_neg (by simp)]
        exact ⟨_,_,by simp only [esc,c1,hvm.len,← hnv,A1F (show (l.length:Int) < 9223372036854775808 by omega),c2];rfl,by simp,by simp;rfl⟩
      | true =>
        rw [if_pos ⟨by omega,rfl⟩]
        have c3:=U7.1 c2
        have hvm2:=hv.more [some ⟨[],true⟩,some ⟨[],true⟩]
        have e1:E7 (g ++ [some ⟨[],true⟩,some ⟨[],true⟩]) 1 (.c (.sl (g.length + 1) 0 0 1)) x=some (.c (.sl (g.length + 2) 0 l.length 1),g ++ [some ⟨[],true⟩,none,some ⟨A1 l,true⟩]):=by
          simp [E7,hvm2.add,B1]
          exact hl
        obtain ⟨g',e2,hr⟩:=C0k (l:=l) (b:=g.length) (id:=g.length + 2) (a:=a.toNat) (w:=w.toNat) (k:=w.toNat + 1) (v:=v) (by omega) (by omega) (by omega) w.toNat 0 (w.toNat + 1) (g ++ [some ⟨[],true⟩,none,some ⟨A1 l,true⟩]) (by omega) (by omega) (by omega) (by simp) (by simp [B5,A8R])
        simp only [show ((a.toNat:Nat):Int)=a by omega,show ((w.toNat:Nat):Int)=w by omega] at e2
        have hlen:((some (D3 l a.toNat (B5 w.toNat v))).getD []).length=l.length:=by
          simp only [Option.getD_some];rw [A0c (by simp;omega)]
        rw [hlen]
        exact ⟨g.length + 2,g',by simp only [esc,c1,hvm.len,← hnv,A1F (show (l.length:Int) < 9223372036854775808 by omega),c2,A8,e1];exact e2,by omega,hr⟩
  obtain ⟨id,g',e,hb,hr⟩:=key _ hv.ro
  have hb':h.length ≤ id:=by simpa [K4] using hb
  have:=C6w e (v2:=.t [.c (.sl h.length 0 ((V8 l a w v).getD []).length 1),.c (.b (V8 l a w v).isSome)]) (ids:=[id]) (by
    have e2:J5 g' h.length [id] [.b (V8 l a w v).isSome]=some ([.b (V8 l a w v).isSome],[id]):=A1b (by simp)
    simp [L8,Q0,J5,hb',show ¬ id < h.length by omega,A89 hr (by simp:F4 (A1 ((V8 l a w v).getD []))=true)])
  rw [this]
  simp [hr]
end Go.Proofs.YteckncopbicmcaaGreat
end
section
namespace Go.Proofs.YteckncopbicmcaaGreat
open Go Go.Esc
def D7 (n:Nat) (l:List UInt8):List UInt8:=l ++ zeros (n - l.length)
theorem L5 {n:Nat} {l:List UInt8} (h:l.length ≤ n):(D7 n l).length=n:=by
  unfold D7;rw [List.length_append,zeros_length];omega
theorem B3I {n:Nat}:D7 n []=zeros n:=by simp [D7]
theorem A9m {l xs:List UInt8} {a:Nat} (h1:l.length ≤ a) (h2:a + xs.length ≤ 256):D3 (D7 256 l) a xs=D7 256 (l ++ zeros (a - l.length) ++ xs):=by
  unfold D3 D7
  have e1:(l ++ zeros (256 - l.length)).take a=l ++ zeros (a - l.length):=by
    rw [List.take_append,List.take_of_length_le h1]
    unfold zeros
    rw [List.take_replicate,Nat.min_eq_left (by omega)]
  have e2:(l ++ zeros (256 - l.length)).drop (a + xs.length)=zeros (256 - (l ++ zeros (a - l.length) ++ xs).length):=by
    rw [List.drop_append,List.drop_of_length_le (by omega),List.nil_append]
    unfold zeros
    rw [List.drop_replicate]
    congr 1
    simp
    omega
  rw [e1,e2]
  simp only [List.append_assoc]
theorem A0z {l:List UInt8} {a w:Nat} {v:Int} (h1:l.length ≤ a) (h2:a + w ≤ 256) (hw:1 ≤ w) (hw4:w ≤ 4):N3 (D7 256 l) a w v=D7 256 (l ++ zeros (a - l.length) ++ B5 w v):=by
  unfold N3
  rw [if_pos ⟨by omega,U7.2 (by omega)⟩]
  simp only [Int.toNat_natCast]
  exact A9m h1 (by simp;exact h2)
def fieldN (b:List UInt8) (a w:Nat):Int:=((le ((b.drop a).take w):Nat):Int)
theorem A9j {b:List UInt8} (hb:b.length ≤ 256):S4 (zeros 256) 0 b=D7 256 b:=by
  unfold S4 D3 D7
  rw [if_pos (by omega)]
  simp only [Int.toNat_zero,List.take_zero,List.nil_append,Nat.sub_zero,Nat.zero_add]
  rw [List.take_of_length_le hb]
  unfold zeros
  rw [List.drop_replicate]
theorem B1U {b:List UInt8} {a w:Nat} (h1:a + w ≤ b.length) (h2:b.length ≤ 256) (hw:1 ≤ w) (hw4:w ≤ 4):((atN (D7 256 b) a w:Nat):Int)=fieldN b a w:=by
  unfold atN fieldN D7
  rw [if_pos ⟨by omega,U7.2 (by omega)⟩]
  simp only [Int.toNat_natCast]
  rw [List.drop_append_of_le_length (by omega),List.take_append_of_le_length (by simp;omega)]
end Go.Proofs.YteckncopbicmcaaGreat
end
noncomputable section
namespace Go.Proofs.YteckncopbicmcaaGreat
open Go Go.Esc
set_option maxRecDepth 100000
def B9C:ACode:=.seq [0,1,7,8,9] (.ops [aO 9 (.bin .lss (.t 8) (.t 7))]) (.seq [0,1,7,8] (.cond (.t 9) .skip (.exit 0)) (.seq [0,1,7,8] (.block 1 (.seq [0,1,5,7,8] (.ops [aO 10 (.mv (.t 8)),aO 5 (.mv (.t 10))]) (.ops [aO 11 (.mv (.t 0)),aO 12 (.mv (.t 1)),aO 13 (.mv (.t 5)),aO 14 (.idxS (.t 12) (.t 13)),aO 15 (.conv .u32 (.t 14)),aO 16 (.bin .xor (.t 11) (.t 15)),aO 17 (.bin .mul (.t 16) (.v (.c (.i .u32 16777619)))),aO 0 (.mv (.t 17))]))) (.ops [aO 18 (.bin .add (.t 8) (.v (.c (.i .i64 1)))),aO 8 (.mv (.t 18))])))
def B9D:ACode:=.seq [4] (.ops [aO 19 (.mv (.t 0)),aO 4 (.mv (.t 19))]) .ret
def A_mix_More:AFn:=⟨.seq [0,1] (.ops [aO 4 (.mv (.v (.c (.i .u32 0))))]) (.seq [0] (.seq [0,1,7,8] (.ops [aO 6 (.mv (.t 1)),aO 7 (.lenS (.t 6)),aO 8 (.mv (.v (.c (.i .i64 0))))]) (.block 0 (.loop [0,1,7,8] B9C))) B9D),[.tmp 4]⟩
def A37:B3:=B8
def D1c (n:Nat):B4 (Val × A0):=E5 [0] (ax A37 n B9D) A_mix_More.fin
def D1d (n:Nat):B4 (Val × A0):=D6 0 (D1c n)
def A83 (n m:Nat) (x0 x1 x7 x8:Val) (h:A0):A6:=C8 (ax A37 n B9C) [0,1,7,8] (D1d n) m [(0,x0),(1,x1),(7,x7),(8,x8)] h
def B1e (n:Nat) (args:List Val) (h:A0):A6:=ax A37 n A_mix_More.code A_mix_More.fin (params 0 args) h
theorem C3z (n:Nat) (a0 a1:Val) (h:A0):B1e n [a0,a1] h=bnd (O5 a1) fun v1=>A83 n n a0 a1 v1 (.c (.i .i64 0)) h:=by kernel_rfl
theorem B9E (n m:Nat) (x0 x1 x7 x8:Val) (h:A0):A83 n (m + 1) x0 x1 x7 x8 h=bnd (A2 .lss x8 x7) fun v2=>cnd v2 (bnd (Q5 x1 x8) fun v3=>bnd (I1 .u32 v3) fun v4=>bnd (A2 .xor x0 v4) fun v5=>bnd (A2 .mul v5 (.c (.i .u32 16777619))) fun v6=>bnd (A2 .add x8 (.c (.i .i64 1))) fun v7=>A83 n m v6 x1 x7 v7 h) (some (x0,h)):=by kernel_rfl
theorem K_mix_More:FnK Tryz.prog 157 A_mix_More A37 B1e:=.mk' (C1) Tryz.func157 (by kernel_rfl) (fun _ _ _=>C0)
def A44:Fun:=tidy (Lim A_mix_More A37)
theorem C6d:SOk Tryz.prog 157 A44:=K_mix_More.sok
theorem C6c:D1 B1e A44:=K_mix_More.flat
def A_mix_Of:AFn:=⟨.seq [0] (.ops [aO 2 (.mv (.v (.c (.i .u32 0))))]) (.seq [2] (.ops [aO 3 (.mv (.t 0)),aO 4 (.call 157 [(.v (.c (.i .u32 2166136261))),(.t 3)]),aO 2 (.mv (.t 4))]) .ret),[.tmp 2]⟩
def B0s:B3:=A7 157 A44 B8
def B1f (n:Nat) (args:List Val) (h:A0):A6:=ax B0s n A_mix_Of.code A_mix_Of.fin (params 0 args) h
theorem C3A (n:Nat) (a0:Val) (h:A0):B1f n [a0] h=bnd (A44 [.c (.i .u32 2166136261),a0] h) fun p1=>some (p1.1,p1.2):=by kernel_rfl
theorem K_mix_Of:FnK Tryz.prog 78 A_mix_Of B0s B1f:=.mk' (A9 C6d C1) Tryz.func78 (by kernel_rfl) (fun _ _ _=>C0)
def A2d:Fun:=tidy (Lim A_mix_Of B0s)
theorem B4T:SOk Tryz.prog 78 A2d:=K_mix_Of.sok
theorem C6e:D1 B1f A2d:=K_mix_Of.flat
def A_mix_Low:AFn:=⟨.seq [0,1] (.ops [aO 4 (.mv (.v (.c (.i .i64 0))))]) (.seq [0,1] (.block 0 (.seq [0,1,5] (.ops [aO 6 (.mv (.t 1)),aO 7 (.bin .lss (.t 6) (.v (.c (.i .i64 1)))),aO 5 (.mv (.t 7))]) (.cond (.t 5) (.seq [4] (.ops [aO 4 (.mv (.v (.c (.i .i64 0))))]) .ret) (.seq [0,1,8] (.ops [aO 9 (.mv (.t 1)),aO 10 (.bin .geq (.t 9) (.v (.c (.i .i64 32)))),aO 8 (.mv (.t 10))]) (.cond (.t 8) (.seq [4] (.ops [aO 11 (.mv (.t 0)),aO 12 (.conv .i64 (.t 11)),aO 4 (.mv (.t 12))]) .ret) .skip))))) (.seq [4] (.ops [aO 13 (.mv (.t 0)),aO 14 (.mv (.t 1)),aO 15 (.conv .u64 (.t 14)),aO 16 (.bin .shl (.v (.c (.i .u32 1))) (.t 15)),aO 17 (.bin .sub (.t 16) (.v (.c (.i .u32 1)))),aO 18 (.bin .and (.t 13) (.t 17)),aO 19 (.conv .i64 (.t 18)),aO 4 (.mv (.t 19))]) .ret)),[.tmp 4]⟩
def B0r:B3:=B8
def A65 (n:Nat) (args:List Val) (h:A0):A6:=ax B0r n A_mix_Low.code A_mix_Low.fin (params 0 args) h
theorem C3y (n:Nat) (a0 a1:Val) (h:A0):A65 n [a0,a1] h=bnd (A2 .lss a1 (.c (.i .i64 1))) fun v1=>cnd v1 (some ((.c (.i .i64 0)),h)) (bnd (A2 .geq a1 (.c (.i .i64 32))) fun v2=>cnd v2 (bnd (I1 .i64 a0) fun v3=>some (v3,h)) (bnd (I1 .u64 a1) fun v4=>bnd (A2 .shl (.c (.i .u32 1)) v4) fun v5=>bnd (A2 .sub v5 (.c (.i .u32 1))) fun v6=>bnd (A2 .and a0 v6) fun v7=>bnd (I1 .i64 v7) fun v8=>some (v8,h))):=by kernel_rfl
theorem K_mix_Low:FnK Tryz.prog 155 A_mix_Low B0r A65:=.mk' (C1) Tryz.func155 (by kernel_rfl) (fun _ _ _=>C0)
def A43:Fun:=tidy (Lim A_mix_Low B0r)
theorem C6b:SOk Tryz.prog 155 A43:=K_mix_Low.sok
theorem C6a:D1 A65 A43:=K_mix_Low.flat
end Go.Proofs.YteckncopbicmcaaGreat
end
noncomputable section
namespace Go.Proofs.YteckncopbicmcaaGreat
open Go Go.Esc
set_option maxRecDepth 100000
def B7m:ACode:=.seq [0,1,5] (.seq [0,1,5,10] (.ops [aO 7 (.mv (.t 5)),aO 8 (.mv (.t 1)),aO 9 (.lenS (.t 8)),aO 10 (.bin .lss (.t 7) (.t 9))]) (.cond (.t 10) .skip (.exit 0))) (.seq [0,1,5] (.block 1 (.seq [0,1,5,6] (.ops [aO 13 (.mv (.t 0)),aO 14 (.bin .rem (.t 13) (.v (.c (.i .u64 256)))),aO 15 (.mv (.t 1)),aO 16 (.mv (.t 5)),aO 17 (.idxS (.t 15) (.t 16)),aO 18 (.conv .u64 (.t 17)),aO 19 (.bin .xor (.t 14) (.t 18)),aO 6 (.mv (.t 19))]) (.ops [aO 20 (.mv (.t 0)),aO 21 (.mv (.t 0)),aO 22 (.bin .rem (.t 21) (.v (.c (.i .u64 256)))),aO 23 (.bin .sub (.t 20) (.t 22)),aO 24 (.mv (.t 6)),aO 25 (.bin .add (.t 23) (.t 24)),aO 26 (.bin .mul (.t 25) (.v (.c (.i .u64 16777619)))),aO 27 (.bin .rem (.t 26) (.v (.c (.i .u64 4294967296)))),aO 0 (.mv (.t 27))]))) (.ops [aO 11 (.mv (.t 5)),aO 12 (.bin .add (.t 11) (.v (.c (.i .i64 1)))),aO 5 (.mv (.t 12))]))
def B7n:ACode:=.seq [4] (.ops [aO 28 (.mv (.t 0)),aO 4 (.mv (.t 28))]) .ret
def A_er02_More:AFn:=⟨.seq [0,1] (.ops [aO 4 (.mv (.v (.c (.i .u64 0))))]) (.seq [0] (.seq [0,1,5] (.ops [aO 5 (.mv (.v (.c (.i .i64 0))))]) (.block 0 (.loop [0,1,5] B7m))) B7n),[.tmp 4]⟩
def A3U:B3:=B8
def C9a (n:Nat):B4 (Val × A0):=E5 [0] (ax A3U n B7n) A_er02_More.fin
def C9b (n:Nat):B4 (Val × A0):=D6 0 (C9a n)
def A8f (n m:Nat) (x0 x1 x5:Val) (h:A0):A6:=C8 (ax A3U n B7m) [0,1,5] (C9b n) m [(0,x0),(1,x1),(5,x5)] h
def B00 (n:Nat) (args:List Val) (h:A0):A6:=ax A3U n A_er02_More.code A_er02_More.fin (params 0 args) h
theorem C2H (n:Nat) (a0 a1:Val) (h:A0):B00 n [a0,a1] h=A8f n n a0 a1 (.c (.i .i64 0)) h:=by kernel_rfl
theorem B7o (n m:Nat) (x0 x1 x5:Val) (h:A0):A8f n (m + 1) x0 x1 x5 h=bnd (O5 x1) fun v1=>bnd (A2 .lss x5 v1) fun v2=>cnd v2 (bnd (A2 .rem x0 (.c (.i .u64 256))) fun v3=>bnd (Q5 x1 x5) fun v4=>bnd (I1 .u64 v4) fun v5=>bnd (A2 .xor v3 v5) fun v6=>bnd (A2 .rem x0 (.c (.i .u64 256))) fun v7=>bnd (A2 .sub x0 v7) fun v8=>bnd (A2 .add v8 v6) fun v9=>bnd (A2 .mul v9 (.c (.i .u64 16777619))) fun v10=>bnd (A2 .rem v10 (.c (.i .u64 4294967296))) fun v11=>bnd (A2 .add x5 (.c (.i .i64 1))) fun v12=>A8f n m v11 x1 v12 h) (some (x0,h)):=by kernel_rfl
theorem K_er02_More:FnK Tryz.prog 159 A_er02_More A3U B00:=.mk' (C1) Tryz.func159 (by kernel_rfl) (fun _ _ _=>C0)
def A4z:Fun:=tidy (Lim A_er02_More A3U)
theorem C4O:SOk Tryz.prog 159 A4z:=K_er02_More.sok
theorem C4N:D1 B00 A4z:=K_er02_More.flat
def A_er02_Of:AFn:=⟨.seq [0] (.ops [aO 2 (.mv (.v (.c (.i .u64 0))))]) (.seq [2] (.ops [aO 3 (.mv (.t 0)),aO 4 (.call 159 [(.v (.c (.i .u64 2166136261))),(.t 3)]),aO 2 (.mv (.t 4))]) .ret),[.tmp 2]⟩
def A9Y:B3:=A7 159 A4z B8
def B01 (n:Nat) (args:List Val) (h:A0):A6:=ax A9Y n A_er02_Of.code A_er02_Of.fin (params 0 args) h
theorem C2I (n:Nat) (a0:Val) (h:A0):B01 n [a0] h=bnd (A4z [.c (.i .u64 2166136261),a0] h) fun p1=>some (p1.1,p1.2):=by kernel_rfl
theorem K_er02_Of:FnK Tryz.prog 81 A_er02_Of A9Y B01:=.mk' (A9 C4O C1) Tryz.func81 (by kernel_rfl) (fun _ _ _=>C0)
def A1Y:Fun:=tidy (Lim A_er02_Of A9Y)
theorem B4E:SOk Tryz.prog 81 A1Y:=K_er02_Of.sok
theorem C4P:D1 B01 A1Y:=K_er02_Of.flat
def B7j:ACode:=.seq [0,1,5,6] (.seq [0,1,5,6,13] (.ops [aO 7 (.mv (.t 6)),aO 8 (.mv (.t 1)),aO 9 (.bin .lss (.t 7) (.t 8)),aO 10 (.mv (.t 9)),aG 11 10 true (.mv (.t 6)),aG 12 10 true (.bin .lss (.t 11) (.v (.c (.i .i64 32)))),aO 13 (.pick (.t 10) (.t 12) (.v (.c (.b false))))]) (.cond (.t 13) .skip (.exit 0))) (.seq [0,1,5,6] (.block 1 (.ops [aO 16 (.mv (.t 5)),aO 17 (.bin .mul (.t 16) (.v (.c (.i .u64 2)))),aO 5 (.mv (.t 17))])) (.ops [aO 14 (.mv (.t 6)),aO 15 (.bin .add (.t 14) (.v (.c (.i .i64 1)))),aO 6 (.mv (.t 15))]))
def B7k:ACode:=.seq [4] (.ops [aO 18 (.mv (.t 0)),aO 19 (.mv (.t 5)),aO 20 (.bin .rem (.t 18) (.t 19)),aO 21 (.conv .i64 (.t 20)),aO 4 (.mv (.t 21))]) .ret
def A_er02_Low:AFn:=⟨.seq [0,1] (.ops [aO 4 (.mv (.v (.c (.i .i64 0))))]) (.seq [0,1,5] (.ops [aO 5 (.mv (.v (.c (.i .u64 1))))]) (.seq [0,5] (.seq [0,1,5,6] (.ops [aO 6 (.mv (.v (.c (.i .i64 0))))]) (.block 0 (.loop [0,1,5,6] B7j))) B7k)),[.tmp 4]⟩
def A3T:B3:=B8
def C88 (n:Nat):B4 (Val × A0):=E5 [0,5] (ax A3T n B7k) A_er02_Low.fin
def C89 (n:Nat):B4 (Val × A0):=D6 0 (C88 n)
def A8e (n m:Nat) (x0 x1 x5 x6:Val) (h:A0):A6:=C8 (ax A3T n B7j) [0,1,5,6] (C89 n) m [(0,x0),(1,x1),(5,x5),(6,x6)] h
def B0Z (n:Nat) (args:List Val) (h:A0):A6:=ax A3T n A_er02_Low.code A_er02_Low.fin (params 0 args) h
theorem C2G (n:Nat) (a0 a1:Val) (h:A0):B0Z n [a0,a1] h=A8e n n a0 a1 (.c (.i .u64 1)) (.c (.i .i64 0)) h:=by kernel_rfl
theorem B7l (n m:Nat) (x0 x1 x5 x6:Val) (h:A0):A8e n (m + 1) x0 x1 x5 x6 h=bnd (A2 .lss x6 x1) fun v1=>bnd (gd v1 true (some (x6,h)) (some (.no,h))) fun p2=>bnd (gd v1 true (bnd (A2 .lss p2.1 (.c (.i .i64 32))) fun v3=>some (v3,p2.2)) (some (.no,p2.2))) fun p4=>bnd (C4 v1 p4.1 (.c (.b false))) fun v5=>cnd v5 (bnd (A2 .mul x5 (.c (.i .u64 2))) fun v6=>bnd (A2 .add x6 (.c (.i .i64 1))) fun v7=>A8e n m x0 x1 v6 v7 p4.2) (bnd (A2 .rem x0 x5) fun v8=>bnd (I1 .i64 v8) fun v9=>some (v9,p4.2)):=by kernel_rfl
theorem K_er02_Low:FnK Tryz.prog 80 A_er02_Low A3T B0Z:=.mk' (C1) Tryz.func80 (by kernel_rfl) (fun _ _ _=>C0)
def A4y:Fun:=tidy (Lim A_er02_Low A3T)
theorem C4M:SOk Tryz.prog 80 A4y:=K_er02_Low.sok
theorem C4L:D1 B0Z A4y:=K_er02_Low.flat
end Go.Proofs.YteckncopbicmcaaGreat
end
section
namespace Go.Proofs.YteckncopbicmcaaGreat
open Go Go.Esc
def A1t (h:Nat) (c:UInt8):Nat:=((h ^^^ c.toNat) * 16777619) % 4294967296
def A3w (h:Nat) (s:List UInt8):Nat:=s.foldl A1t h
def M5 (s:List UInt8):Nat:=A3w 2166136261 s
theorem B3v {h:Nat} {c:UInt8}:A1t h c < 4294967296:=Nat.mod_lt _ (by omega)
theorem D1a {s:List UInt8}:∀ {h:Nat},h < 4294967296 → A3w h s < 4294967296:=by
  induction s with
  | nil=>intro h hh;exact hh
  | cons c s ih=>intro h _;exact ih B3v
theorem A82 {s:List UInt8}:M5 s < 4294967296:=D1a (by omega)
theorem D4f {a:Int}:IntKind.wrap .u32 a=a % 4294967296:=by
  simp only [IntKind.wrap,IntKind.bits,IntKind.signed,Bool.false_and]
  rfl
theorem B9F {s:List UInt8} (hs:s.length < 9223372036854775807) {q:Nat} {h:A0}:∀ (d i m H:Nat),i + d=s.length → d < m → H < 4294967296 →
    A83 q m (.c (.i .u32 H)) (.c (.s s)) (.c (.i .i64 s.length)) (.c (.i .i64 i)) h=some (.c (.i .u32 ((A3w H (s.drop i):Nat):Int)),h)
  | d,i,0,H,_,hm,_=>by omega
  | 0,i,m + 1,H,hi,hm,hH=>by
    have c0:¬ (i:Int) < s.length:=by omega
    rw [B9E,List.drop_of_length_le (by omega)]
    simp only [esc,c0,A3w,List.foldl_nil]
  | d + 1,i,m + 1,H,hi,hm,hH=>by
    have h2:i < s.length:=by omega
    have hb:=s[i].toNat_lt
    have ih:=B9F hs (q:=q) (h:=h) d (i + 1) m (A1t H s[i]) (by omega) (by omega) B3v
    have c0:(i:Int) < s.length:=by omega
    have e1:IntKind.wrap .u32 (s[i].toNat:Int)=s[i].toNat:=wrap_u32 (by omega) (by omega)
    have e2:=D4h (a:=H) (b:=s[i].toNat) hH (by omega)
    have e3:IntKind.wrap .u32 (((H ^^^ s[i].toNat:Nat):Int) * 16777619)=((A1t H s[i]:Nat):Int):=by
      rw [D4f];unfold A1t;omega
    rw [B9E,List.drop_eq_getElem_cons h2]
    simp only [esc,c0,V5 h2,e1,e2,e3,E6 (show i + 1 < 9223372036854775808 by omega)]
    exact ih
theorem B9G {s:List UInt8} (hs:s.length < 9223372036854775807) {h:A0}:A2d [.c (.s s)] h=some (.c (.i .u32 ((M5 s:Nat):Int)),h):=by
  have hm:∀ h,A44 [.c (.i .u32 2166136261),.c (.s s)] h=some (.c (.i .u32 ((M5 s:Nat):Int)),h):=fun h=>by
    refine C6c (n:=s.length + 1) (h2:=ro h) ?_ rfl
    rw [C3z]
    have:=B9F hs (q:=s.length + 1) (h:=ro h) s.length 0 (s.length + 1) 2166136261 (by omega) (by omega) (by omega)
    simp only [esc]
    exact this
  refine C6e (n:=0) (h2:=ro h) ?_ rfl
  rw [C3A]
  simp only [esc,hm]
theorem D4g {h c:Nat} (hc:c < 256):h - h % 256 + (h % 256 ^^^ c)=h ^^^ c:=by
  have e1:(h ^^^ c) / 256=h / 256:=by
    have:=Nat.xor_div_two_pow (a:=h) (b:=c) (n:=8)
    rw [show (2:Nat) ^ 8=256 from rfl,Nat.div_eq_of_lt hc,Nat.xor_zero] at this
    exact this
  have e2:(h ^^^ c) % 256=h % 256 ^^^ c:=by
    have:=Nat.xor_mod_two_pow (a:=h) (b:=c) (n:=8)
    rw [show (2:Nat) ^ 8=256 from rfl,Nat.mod_eq_of_lt hc] at this
    exact this
  have h1:=Nat.div_add_mod (h ^^^ c) 256
  have h2:=Nat.div_add_mod h 256
  rw [e1,e2] at h1
  omega
theorem C0X {s:List UInt8} (hs:s.length < 9223372036854775807) {q:Nat} {h:A0}:∀ (d i m H:Nat),i + d=s.length → d < m → H < 4294967296 →
    A8f q m (.c (.i .u64 H)) (.c (.s s)) (.c (.i .i64 i)) h=some (.c (.i .u64 ((A3w H (s.drop i):Nat):Int)),h)
  | d,i,0,H,_,hm,_=>by omega
  | 0,i,m + 1,H,hi,hm,hH=>by
    have c0:¬ (i:Int) < s.length:=by omega
    rw [B7o,List.drop_of_length_le (by omega)]
    simp only [esc,c0,A3w,List.foldl_nil]
  | d + 1,i,m + 1,H,hi,hm,hH=>by
    have h2:i < s.length:=by omega
    have hb:=s[i].toNat_lt
    have ih:=C0X hs (q:=q) (h:=h) d (i + 1) m (A1t H s[i]) (by omega) (by omega) B3v
    have c0:(i:Int) < s.length:=by omega
    have hx:(H ^^^ s[i].toNat) < 2 ^ 32:=Nat.xor_lt_two_pow (by simpa using hH) (by omega)
    have e0:A2 .rem (.c (.i .u64 (H:Int))) (.c (.i .u64 256))=some (.c (.i .u64 ((H % 256:Nat):Int))):=by
      rw [A3I (by omega) (by omega)];simp
    have e1:IntKind.wrap .u64 (s[i].toNat:Int)=s[i].toNat:=wrap_u64 (by omega) (by omega)
    have e2:A2 .xor (.c (.i .u64 ((H % 256:Nat):Int))) (.c (.i .u64 (s[i].toNat:Int)))=some (.c (.i .u64 ((H % 256 ^^^ s[i].toNat:Nat):Int))):=by
      rw [B48]
      have h1:(IntKind.u64).bits=64:=rfl
      have h3:(H % 256 ^^^ s[i].toNat) < 2 ^ 64:=Nat.xor_lt_two_pow (by omega) (by omega)
      rw [h1]
      simp only [BitVec.ofInt_natCast,BitVec.toNat_xor,BitVec.toNat_ofNat]
      rw [Nat.mod_eq_of_lt (show H % 256 < 2 ^ 64 by omega),Nat.mod_eq_of_lt (show s[i].toNat < 2 ^ 64 by omega)]
      exact congrArg some (congrArg Val.c (congrArg (Cell.i .u64) (wrap_u64 (by omega) (by omega))))
    have hl:=D4g (h:=H) (c:=s[i].toNat) (by omega)
    have e3:IntKind.wrap .u64 ((H:Int) - ((H % 256:Nat):Int))=((H - H % 256:Nat):Int):=by rw [wrap_u64 (by omega) (by omega)];omega
    have e4:IntKind.wrap .u64 (((H - H % 256:Nat):Int) + ((H % 256 ^^^ s[i].toNat:Nat):Int))=((H ^^^ s[i].toNat:Nat):Int):=by
      have e:((H - H % 256:Nat):Int) + ((H % 256 ^^^ s[i].toNat:Nat):Int)=((H ^^^ s[i].toNat:Nat):Int):=by rw [← hl];omega
      rw [e];exact wrap_u64 (by omega) (by omega)
    have e5:IntKind.wrap .u64 (((H ^^^ s[i].toNat:Nat):Int) * 16777619)=(((H ^^^ s[i].toNat) * 16777619:Nat):Int):=by
      have e:((H ^^^ s[i].toNat:Nat):Int) * 16777619=(((H ^^^ s[i].toNat) * 16777619:Nat):Int):=by omega
      rw [e];exact wrap_u64 (by omega) (by omega)
    have e6:A2 .rem (.c (.i .u64 (((H ^^^ s[i].toNat) * 16777619:Nat):Int))) (.c (.i .u64 4294967296))=some (.c (.i .u64 ((A1t H s[i]:Nat):Int))):=by
      rw [A3I (a:=(((H ^^^ s[i].toNat) * 16777619:Nat):Int)) (b:=4294967296) (by omega) (by omega)]
      unfold A1t
      exact congrArg some (congrArg Val.c (congrArg (Cell.i .u64) (by omega)))
    rw [B7o,List.drop_eq_getElem_cons h2]
    simp only [esc,c0,e0,V5 h2,e1,e2,e3,e4,e5,e6,E6 (show i + 1 < 9223372036854775808 by omega)]
    exact ih
theorem C0Y {s:List UInt8} (hs:s.length < 9223372036854775807) {h:A0}:A1Y [.c (.s s)] h=some (.c (.i .u64 ((M5 s:Nat):Int)),h):=by
  have hm:∀ h,A4z [.c (.i .u64 2166136261),.c (.s s)] h=some (.c (.i .u64 ((M5 s:Nat):Int)),h):=fun h=>by
    refine C4N (n:=s.length + 1) (h2:=ro h) ?_ rfl
    rw [C2H]
    exact C0X hs (q:=s.length + 1) (h:=ro h) s.length 0 (s.length + 1) 2166136261 (by omega) (by omega) (by omega)
  refine C4P (n:=0) (h2:=ro h) ?_ rfl
  rw [C2I]
  simp only [esc,hm]
end Go.Proofs.YteckncopbicmcaaGreat
end
noncomputable section
namespace Go.Proofs.YteckncopbicmcaaGreat
open Go Go.Esc
set_option maxRecDepth 100000
def C1V:ACode:=.cond (.t 10) (.seq [2] (.ops [aO 2 (.mv (.v (.c (.i .i64 1))))]) .ret) (.seq [21] (.ops [aO 22 (.fAddr (.t 1) 1),aO 23 (.load1 (.t 22)),aO 24 (.bin .quo (.t 23) (.v (.c (.i .i64 8)))),aO 25 (.bin .add (.v (.c (.i .i64 2))) (.t 24)),aO 26 (.fAddr (.t 1) 0),aO 27 (.load1 (.t 26)),aO 28 (.bin .geq (.t 25) (.t 27)),aO 21 (.mv (.t 28))]) (.cond (.t 21) (.seq [2] (.ops [aO 2 (.mv (.v (.c (.i .i64 1))))]) .ret) .skip))
def C1U:ACode:=.cond (.t 3) (.seq [2] (.ops [aO 2 (.mv (.v (.c (.i .i64 1))))]) .ret) (.seq [1,10] (.seq [1,10] (.ops [aO 11 (.fAddr (.t 1) 1),aO 12 (.load1 (.t 11)),aO 13 (.bin .lss (.t 12) (.v (.c (.i .i64 8)))),aO 10 (.mv (.t 13))]) (.cond (.t 10) .skip (.seq [1,10] (.ops [aO 14 (.fAddr (.t 1) 1),aO 15 (.load1 (.t 14)),aO 16 (.bin .gtr (.t 15) (.v (.c (.i .i64 128)))),aO 10 (.mv (.t 16))]) (.cond (.t 10) .skip (.ops [aO 17 (.fAddr (.t 1) 1),aO 18 (.load1 (.t 17)),aO 19 (.bin .rem (.t 18) (.v (.c (.i .i64 8)))),aO 20 (.bin .neq (.t 19) (.v (.c (.i .i64 0)))),aO 10 (.mv (.t 20))]))))) C1V)
def C1T:ACode:=.seq [2] (.ops [aO 2 (.mv (.v (.c (.i .i64 0))))]) .ret
def A_super_Check:AFn:=⟨.seq [1] (.ops [aO 1 (.box (.t 0)),aO 2 (.mv (.v (.c (.i .i64 0))))]) (.seq [] (.block 0 (.seq [1,3] (.seq [1,3] (.ops [aO 4 (.fAddr (.t 1) 0),aO 5 (.load1 (.t 4)),aO 6 (.bin .lss (.t 5) (.v (.c (.i .i64 16)))),aO 3 (.mv (.t 6))]) (.cond (.t 3) .skip (.ops [aO 7 (.fAddr (.t 1) 0),aO 8 (.load1 (.t 7)),aO 9 (.bin .gtr (.t 8) (.v (.c (.i .i64 512)))),aO 3 (.mv (.t 9))]))) C1U)) C1T),[.tmp 2]⟩
def A2Y:B3:=B8
def D3P (n:Nat):B4 (Val × A0):=E5 [] (ax A2Y n C1T) A_super_Check.fin
def C1W (n:Nat):B4 (Val × A0):=D6 0 (D3P n)
def B4g (n:Nat) (x1 x3:Val) (h:A0):A6:=hold ((ax A2Y n C1U) (C1W n) [(1,x1),(3,x3)] h)
def A7h (n:Nat) (args:List Val) (h:A0):A6:=ax A2Y n A_super_Check.code A_super_Check.fin (params 0 args) h
def A9C (n:Nat) (x1 x10:Val) (h:A0):A6:=hold ((ax A2Y n C1V) (C1W n) [(1,x1),(10,x10)] h)
theorem C3R (n:Nat) (a0:Val) (h:A0):A7h n [a0] h=bnd (cells? a0) fun c1=>bnd (B7 (.c (.p h.length 0)) 0) fun v2=>bnd (A5 (h ++ [some (Row.mk (c1) true)]) v2) fun v3=>bnd (A2 .lss v3 (.c (.i .i64 16))) fun v4=>cnd v4 (B4g n (.c (.p h.length 0)) v4 (h ++ [some (Row.mk (c1) true)])) (bnd (B7 (.c (.p h.length 0)) 0) fun v5=>bnd (A5 (h ++ [some (Row.mk (c1) true)]) v5) fun v6=>bnd (A2 .gtr v6 (.c (.i .i64 512))) fun v7=>B4g n (.c (.p h.length 0)) v7 (h ++ [some (Row.mk (c1) true)])):=by kernel_rfl
theorem A2Q (n:Nat) (x1 x3:Val) (h:A0):B4g n x1 x3 h=cnd x3 (some ((.c (.i .i64 1)),h)) (bnd (B7 x1 1) fun v8=>bnd (A5 h v8) fun v9=>bnd (A2 .lss v9 (.c (.i .i64 8))) fun v10=>cnd v10 (A9C n x1 v10 h) (bnd (B7 x1 1) fun v11=>bnd (A5 h v11) fun v12=>bnd (A2 .gtr v12 (.c (.i .i64 128))) fun v13=>cnd v13 (A9C n x1 v13 h) (bnd (B7 x1 1) fun v14=>bnd (A5 h v14) fun v15=>bnd (A2 .rem v15 (.c (.i .i64 8))) fun v16=>bnd (A2 .neq v16 (.c (.i .i64 0))) fun v17=>A9C n x1 v17 h))):=by kernel_rfl
theorem A55 (n:Nat) (x1 x10:Val) (h:A0):A9C n x1 x10 h=cnd x10 (some ((.c (.i .i64 1)),h)) (bnd (B7 x1 1) fun v18=>bnd (A5 h v18) fun v19=>bnd (A2 .quo v19 (.c (.i .i64 8))) fun v20=>bnd (A2 .add (.c (.i .i64 2)) v20) fun v21=>bnd (B7 x1 0) fun v22=>bnd (A5 h v22) fun v23=>bnd (A2 .geq v21 v23) fun v24=>cnd v24 (some ((.c (.i .i64 1)),h)) (some ((.c (.i .i64 0)),h))):=by kernel_rfl
theorem K_super_Check:FnK Tryz.prog 104 A_super_Check A2Y A7h:=.mk' (C1) Tryz.func104 (by kernel_rfl) (fun _ _ _=>C0)
def A2g:Fun:=tidy (Lim A_super_Check A2Y)
theorem B4W:SOk Tryz.prog 104 A2g:=K_super_Check.sok
theorem C6D:D1 A7h A2g:=K_super_Check.flat
def A_super_Put:AFn:=⟨.seq [1,2] (.ops [aO 1 (.box (.t 0)),aO 2 (.alloc (List.replicate 256 (.i .u8 0))),aO 3 (.mv (.v (.c (.i .i64 0))))]) (.seq [1,2] (.seq [1,2,4] (.ops [aO 9 (.loadN 3 (.t 1)),aO 10 (.call 104 [(.t 9)]),aO 4 (.mv (.t 10))]) (.seq [1,2,4,12] (.ops [aO 11 (.mv (.t 4)),aO 12 (.bin .neq (.t 11) (.v (.c (.i .i64 0))))]) (.cond (.t 12) (.seq [2,3] (.ops [aO 13 (.build (List.replicate 256 (.i .u8 0)) []),aO 14 (.mv (.t 4)),aN (.storeN 256 (.t 2) (.t 13)),aO 3 (.mv (.t 14))]) .ret) .skip))) (.seq [1,2,5] (.ops [aO 15 (.buildSl 1 8 ([.i .u8 0,.i .u8 0,.i .u8 0,.i .u8 0,.i .u8 0,.i .u8 0,.i .u8 0,.i .u8 0]) [(0,1,(.v (.c (.i .u8 101)))),(1,1,(.v (.c (.i .u8 115)))),(2,1,(.v (.c (.i .u8 99)))),(3,1,(.v (.c (.i .u8 104)))),(4,1,(.v (.c (.i .u8 101)))),(5,1,(.v (.c (.i .u8 97)))),(6,1,(.v (.c (.i .u8 116)))),(7,1,(.v (.c (.i .u8 49))))]),aO 16 (.mark (.t 15)),aO 17 (.call 212 [(.t 16)]),aO 5 (.alloc (List.replicate 256 (.i .u8 0))),aN (.storeN 256 (.t 5) (.t 17))]) (.seq [1,2,5] (.ops [aO 18 (.loadN 256 (.t 5)),aO 19 (.fAddr (.t 1) 0),aO 20 (.load1 (.t 19)),aO 21 (.call 213 [(.t 18),(.v (.c (.i .i64 8))),(.v (.c (.i .i64 2))),(.t 20)]),aN (.storeN 256 (.t 5) (.t 21))]) (.seq [1,2,5] (.ops [aO 22 (.loadN 256 (.t 5)),aO 23 (.fAddr (.t 1) 1),aO 24 (.load1 (.t 23)),aO 25 (.call 213 [(.t 22),(.v (.c (.i .i64 10))),(.v (.c (.i .i64 2))),(.t 24)]),aN (.storeN 256 (.t 5) (.t 25))]) (.seq [2,5,6] (.draw 1 [aS 27 0 (.mkSl 1 ([.i .u8 0]) (.v (.c (.i .i64 8))) (.v (.c (.i .i64 8)))),aO 28 (.fAddr (.t 1) 2),aO 29 (.load1 (.t 28)),aO 30 (.call 214 [(.t 27),(.v (.c (.i .i64 0))),(.v (.c (.i .i64 8))),(.t 29)]),aO 26 (.mv (.t 30)),aO 31 (.ext (.t 26) 0),aO 32 (.ext (.t 26) 1),aO 6 (.mv (.t 31))] [aO 7 (.mv (.t 32))]) (.seq [2,5] (.ops [aO 33 (.loadN 256 (.t 5)),aO 34 (.mv (.t 6)),aO 35 (.call 215 [(.t 33),(.v (.c (.i .i64 12))),(.t 34)]),aN (.storeN 256 (.t 5) (.t 35))]) (.seq [2,5,8] (.ops [aO 36 (.loadN 256 (.t 5)),aO 37 (.call 141 [(.t 36),(.v (.c (.i .i64 0))),(.v (.c (.i .i64 20)))]),aO 38 (.b2s (.t 37)),aO 39 (.call 78 [(.t 38)]),aO 8 (.mv (.t 39))]) (.seq [2,3] (.ops [aO 40 (.loadN 256 (.t 5)),aO 41 (.mv (.t 8)),aO 42 (.conv .i64 (.t 41)),aO 43 (.call 213 [(.t 40),(.v (.c (.i .i64 20))),(.v (.c (.i .i64 4))),(.t 42)]),aN (.storeN 256 (.t 2) (.t 43)),aO 3 (.mv (.v (.c (.i .i64 0))))]) .ret)))))))),[.cellN 2 256,.tmp 3]⟩
def B0z:B3:=A7 104 A2g (A7 212 Z4 (A7 213 R5 (A7 214 A49 (A7 215 A0N (A7 141 A0M (A7 78 A2d B8))))))
def A7j (n:Nat) (args:List Val) (h:A0):A6:=ax B0z n A_super_Put.code A_super_Put.fin (params 0 args) h
theorem C3T (n:Nat) (a0:Val) (h:A0):A7j n [a0] h=bnd (cells? a0) fun c1=>bnd (A3 ((h ++ [some (Row.mk (c1) true)]) ++ [some (Row.mk (List.replicate 256 (.i .u8 0)) true)]) 3 (.c (.p h.length 0))) fun v2=>bnd (A2g [v2] ((h ++ [some (Row.mk (c1) true)]) ++ [some (Row.mk (List.replicate 256 (.i .u8 0)) true)])) fun p3=>bnd (A2 .neq p3.1 (.c (.i .i64 0))) fun v4=>cnd v4 (bnd (A8 (List.replicate 256 (.i .u8 0)) []) fun c5=>bnd (B6 p3.2 256 (.c (.p (h ++ [some (Row.mk (c1) true)]).length 0)) (.a c5)) fun h6=>C7 [A3 h6 256 (.c (.p (h ++ [some (Row.mk (c1) true)]).length 0)),some p3.1] h6) (bnd (A8 ([.i .u8 0,.i .u8 0,.i .u8 0,.i .u8 0,.i .u8 0,.i .u8 0,.i .u8 0,.i .u8 0]) [(0,1,.c (.i .u8 101)),(1,1,.c (.i .u8 115)),(2,1,.c (.i .u8 99)),(3,1,.c (.i .u8 104)),(4,1,.c (.i .u8 101)),(5,1,.c (.i .u8 97)),(6,1,.c (.i .u8 116)),(7,1,.c (.i .u8 49))]) fun c7=>bnd (Q6 (p3.2 ++ [some (Row.mk (c7) true)]) (.c (.sl p3.2.length 0 8 1))) fun v8=>bnd (Z4 [v8] (p3.2 ++ [some (Row.mk (c7) true)])) fun p9=>bnd (B6 (p9.2 ++ [some (Row.mk (List.replicate 256 (.i .u8 0)) true)]) 256 (.c (.p p9.2.length 0)) p9.1) fun h10=>bnd (A3 h10 256 (.c (.p p9.2.length 0))) fun v11=>bnd (B7 (.c (.p h.length 0)) 0) fun v12=>bnd (A5 h10 v12) fun v13=>bnd (R5 [v11,.c (.i .i64 8),.c (.i .i64 2),v13] h10) fun p14=>bnd (B6 p14.2 256 (.c (.p p9.2.length 0)) p14.1) fun h15=>bnd (A3 h15 256 (.c (.p p9.2.length 0))) fun v16=>bnd (B7 (.c (.p h.length 0)) 1) fun v17=>bnd (A5 h15 v17) fun v18=>bnd (R5 [v16,.c (.i .i64 10),.c (.i .i64 2),v18] h15) fun p19=>bnd (B6 p19.2 256 (.c (.p p9.2.length 0)) p19.1) fun h20=>bnd (U9 (.c (.i .i64 8)) (.c (.i .i64 8))) fun n21=>bnd (B7 (.c (.p h.length 0)) 2) fun v22=>bnd (A5 h20 v22) fun v23=>bnd (quiet ((h20 ++ [none]).set (h20.length + 0) (some (Row.mk (rows ([.i .u8 0]) n21) true))) (A49 [(.c (.sl (h20.length + 0) 0 n21 1)),.c (.i .i64 0),.c (.i .i64 8),v23] ((h20 ++ [none]).set (h20.length + 0) (some (Row.mk (rows ([.i .u8 0]) n21) true))))) fun p24=>bnd (C5 p24.1 0) fun v25=>bnd (C5 p24.1 1) fun v26=>bnd (A3 p24.2 256 (.c (.p p9.2.length 0))) fun v27=>bnd (A0N [v27,.c (.i .i64 12),v25] p24.2) fun p28=>bnd (B6 p28.2 256 (.c (.p p9.2.length 0)) p28.1) fun h29=>bnd (A3 h29 256 (.c (.p p9.2.length 0))) fun v30=>bnd (A0M [v30,.c (.i .i64 0),.c (.i .i64 20)] h29) fun p31=>bnd (P8 p31.2 p31.1) fun v32=>bnd (A2d [v32] p31.2) fun p33=>bnd (A3 p33.2 256 (.c (.p p9.2.length 0))) fun v34=>bnd (I1 .i64 p33.1) fun v35=>bnd (R5 [v34,.c (.i .i64 20),.c (.i .i64 4),v35] p33.2) fun p36=>bnd (B6 p36.2 256 (.c (.p (h ++ [some (Row.mk (c1) true)]).length 0)) p36.1) fun h37=>C7 [A3 h37 256 (.c (.p (h ++ [some (Row.mk (c1) true)]).length 0)),some (.c (.i .i64 0))] h37):=by kernel_rfl
theorem K_super_Put:FnK Tryz.prog 137 A_super_Put B0z A7j:=.mk' (A9 B4W (A9 A7u (A9 B1B (A9 C6v (A9 B1A (A9 B1z (A9 B4T C1))))))) Tryz.func137 (by kernel_rfl) (fun _ _ _=>C0)
def A2h:Fun:=tidy (Lim A_super_Put B0z)
theorem B4X:SOk Tryz.prog 137 A2h:=K_super_Put.sok
theorem C6G:D1 A7j A2h:=K_super_Put.flat
def A_super_Get:AFn:=⟨.seq [1,2] (.ops [aO 1 (.box (.t 0)),aO 2 (.alloc ([.i .i64 0,.i .i64 0,.i .u64 0])),aO 3 (.mv (.v (.c (.i .i64 0))))]) (.seq [1,2,4] (.ops [aO 10 (.loadN 256 (.t 1)),aO 11 (.call 141 [(.t 10),(.v (.c (.i .i64 12))),(.v (.c (.i .i64 8)))]),aO 12 (.call 140 [(.t 11),(.v (.c (.i .i64 0))),(.v (.c (.i .i64 8)))]),aO 9 (.mv (.t 12)),aO 13 (.ext (.t 9) 0),aO 14 (.ext (.t 9) 1),aO 4 (.mv (.t 13)),aO 5 (.mv (.t 14))]) (.seq [1,2,6] (.draw 1 [aO 15 (.loadN 256 (.t 1)),aO 16 (.call 142 [(.t 15),(.v (.c (.i .i64 8))),(.v (.c (.i .i64 2)))]),aO 17 (.loadN 256 (.t 1)),aO 18 (.call 142 [(.t 17),(.v (.c (.i .i64 10))),(.v (.c (.i .i64 2)))]),aO 19 (.mv (.t 4)),aO 20 (.build ([.i .i64 0,.i .i64 0,.i .u64 0]) [(0,1,(.t 16)),(1,1,(.t 18)),(2,1,(.t 19))]),aS 6 0 (.alloc ([.i .i64 0,.i .i64 0,.i .u64 0]))] [aN (.storeN 3 (.t 6) (.t 20))]) (.seq [2,6] (.seq [1,2,6,7,8] (.ops [aO 22 (.loadN 3 (.t 6)),aO 23 (.call 137 [(.t 22)]),aO 21 (.mv (.t 23)),aO 24 (.ext (.t 21) 0),aO 25 (.ext (.t 21) 1),aO 7 (.alloc (List.replicate 256 (.i .u8 0))),aN (.storeN 256 (.t 7) (.t 24)),aO 8 (.mv (.t 25))]) (.seq [2,6,32] (.ops [aO 26 (.mv (.t 8)),aO 27 (.bin .neq (.t 26) (.v (.c (.i .i64 0)))),aO 28 (.mv (.t 27)),aG 29 28 false (.loadN 256 (.t 7)),aG 30 28 false (.loadN 256 (.t 1)),aG 31 28 false (.eqA true (List.replicate 256 (.i .u8)) (.t 29) (.t 30)),aO 32 (.pick (.t 28) (.v (.c (.b true))) (.t 31))]) (.cond (.t 32) (.seq [2,3] (.ops [aO 33 (.build ([.i .i64 0,.i .i64 0,.i .u64 0]) []),aN (.storeN 3 (.t 2) (.t 33)),aO 3 (.mv (.v (.c (.i .i64 13))))]) .ret) .skip))) (.seq [2,3] (.ops [aO 34 (.loadN 3 (.t 6)),aN (.storeN 3 (.t 2) (.t 34)),aO 3 (.mv (.v (.c (.i .i64 0))))]) .ret)))),[.cellN 2 3,.tmp 3]⟩
def B0y:B3:=A7 141 A0M (A7 140 A48 (A7 142 P6 (A7 137 A2h B8)))
def A7i (n:Nat) (args:List Val) (h:A0):A6:=ax B0y n A_super_Get.code A_super_Get.fin (params 0 args) h
theorem C3S (n:Nat) (a0:Val) (h:A0):A7i n [a0] h=bnd (cells? a0) fun c1=>bnd (A3 ((h ++ [some (Row.mk (c1) true)]) ++ [some (Row.mk ([.i .i64 0,.i .i64 0,.i .u64 0]) true)]) 256 (.c (.p h.length 0))) fun v2=>bnd (A0M [v2,.c (.i .i64 12),.c (.i .i64 8)] ((h ++ [some (Row.mk (c1) true)]) ++ [some (Row.mk ([.i .i64 0,.i .i64 0,.i .u64 0]) true)])) fun p3=>bnd (A48 [p3.1,.c (.i .i64 0),.c (.i .i64 8)] p3.2) fun p4=>bnd (C5 p4.1 0) fun v5=>bnd (C5 p4.1 1) fun v6=>bnd (A3 p4.2 256 (.c (.p h.length 0))) fun v7=>bnd (quiet (p4.2 ++ [none]) (P6 [v7,.c (.i .i64 8),.c (.i .i64 2)] (p4.2 ++ [none]))) fun p8=>bnd (A3 p4.2 256 (.c (.p h.length 0))) fun v9=>bnd (quiet p8.2 (P6 [v9,.c (.i .i64 10),.c (.i .i64 2)] p8.2)) fun p10=>bnd (A8 ([.i .i64 0,.i .i64 0,.i .u64 0]) [(0,1,p8.1),(1,1,p10.1),(2,1,v5)]) fun c11=>bnd (B6 (p10.2.set (p4.2.length + 0) (some (Row.mk ([.i .i64 0,.i .i64 0,.i .u64 0]) true))) 3 (.c (.p (p4.2.length + 0) 0)) (.a c11)) fun h12=>bnd (A3 h12 3 (.c (.p (p4.2.length + 0) 0))) fun v13=>bnd (A2h [v13] h12) fun p14=>bnd (C5 p14.1 0) fun v15=>bnd (C5 p14.1 1) fun v16=>bnd (B6 (p14.2 ++ [some (Row.mk (List.replicate 256 (.i .u8 0)) true)]) 256 (.c (.p p14.2.length 0)) v15) fun h17=>bnd (A2 .neq v16 (.c (.i .i64 0))) fun v18=>bnd (gd v18 false (bnd (A3 h17 256 (.c (.p p14.2.length 0))) fun v19=>some (v19,h17)) (some (.no,h17))) fun p20=>bnd (gd v18 false (bnd (A3 p20.2 256 (.c (.p h.length 0))) fun v21=>some (v21,p20.2)) (some (.no,p20.2))) fun p22=>bnd (gd v18 false (bnd (aeq true (List.replicate 256 (.i .u8)) p20.1 p22.1) fun v23=>some (v23,p22.2)) (some (.no,p22.2))) fun p24=>bnd (C4 v18 (.c (.b true)) p24.1) fun v25=>cnd v25 (bnd (A8 ([.i .i64 0,.i .i64 0,.i .u64 0]) []) fun c26=>bnd (B6 p24.2 3 (.c (.p (h ++ [some (Row.mk (c1) true)]).length 0)) (.a c26)) fun h27=>C7 [A3 h27 3 (.c (.p (h ++ [some (Row.mk (c1) true)]).length 0)),some (.c (.i .i64 13))] h27) (bnd (A3 p24.2 3 (.c (.p (p4.2.length + 0) 0))) fun v28=>bnd (B6 p24.2 3 (.c (.p (h ++ [some (Row.mk (c1) true)]).length 0)) v28) fun h29=>C7 [A3 h29 3 (.c (.p (h ++ [some (Row.mk (c1) true)]).length 0)),some (.c (.i .i64 0))] h29):=by kernel_rfl
theorem K_super_Get:FnK Tryz.prog 66 A_super_Get B0y A7i:=.mk' (A9 B1z (A9 C6s (A9 A7t (A9 B4X C1)))) Tryz.func66 (by kernel_rfl) (fun _ _ _=>C0)
def A5c:Fun:=tidy (Lim A_super_Get B0y)
theorem C6F:SOk Tryz.prog 66 A5c:=K_super_Get.sok
theorem C6E:D1 A7i A5c:=K_super_Get.flat
end Go.Proofs.YteckncopbicmcaaGreat
end
noncomputable section
namespace Go.Proofs.YteckncopbicmcaaGreat
open Go Go.Esc
set_option maxRecDepth 100000
def A_geom_ok:AFn:=⟨.seq [1] (.ops [aO 1 (.box (.t 0)),aO 2 (.mv (.v (.c (.b false))))]) (.seq [2] (.ops [aO 3 (.loadN 3 (.t 1)),aO 4 (.call 104 [(.t 3)]),aO 5 (.bin .eql (.t 4) (.v (.c (.i .i64 0)))),aO 2 (.mv (.t 5))]) .ret),[.tmp 2]⟩
def B0k:B3:=A7 104 A2g B8
def A6S (n:Nat) (args:List Val) (h:A0):A6:=ax B0k n A_geom_ok.code A_geom_ok.fin (params 0 args) h
theorem C3j (n:Nat) (a0:Val) (h:A0):A6S n [a0] h=bnd (cells? a0) fun c1=>bnd (A3 (h ++ [some (Row.mk (c1) true)]) 3 (.c (.p h.length 0))) fun v2=>bnd (A2g [v2] (h ++ [some (Row.mk (c1) true)])) fun p3=>bnd (A2 .eql p3.1 (.c (.i .i64 0))) fun v4=>some (v4,p3.2):=by kernel_rfl
theorem K_geom_ok:FnK Tryz.prog 150 A_geom_ok B0k A6S:=.mk' (A9 B4W C1) Tryz.func150 (by kernel_rfl) (fun _ _ _=>C0)
def A0K:Fun:=tidy (Lim A_geom_ok B0k)
theorem B1x:SOk Tryz.prog 150 A0K:=K_geom_ok.sok
theorem C5M:D1 A6S A0K:=K_geom_ok.flat
def A_geom_IsInode:AFn:=⟨.seq [1,2] (.ops [aO 2 (.box (.t 0)),aO 4 (.mv (.v (.c (.b false))))]) (.seq [4] (.ops [aO 5 (.loadN 3 (.t 2)),aO 6 (.call 150 [(.t 5)]),aO 7 (.mv (.t 6)),aG 8 7 true (.mv (.t 1)),aG 9 7 true (.bin .geq (.t 8) (.v (.c (.i .i64 1)))),aO 10 (.pick (.t 7) (.t 9) (.v (.c (.b false)))),aO 11 (.mv (.t 10)),aG 12 11 true (.mv (.t 1)),aG 13 11 true (.fAddr (.t 2) 1),aG 14 11 true (.load1 (.t 13)),aG 15 11 true (.bin .leq (.t 12) (.t 14)),aO 16 (.pick (.t 11) (.t 15) (.v (.c (.b false)))),aO 4 (.mv (.t 16))]) .ret),[.tmp 4]⟩
def B0g:B3:=A7 150 A0K B8
def A6P (n:Nat) (args:List Val) (h:A0):A6:=ax B0g n A_geom_IsInode.code A_geom_IsInode.fin (params 0 args) h
theorem C3f (n:Nat) (a0 a1:Val) (h:A0):A6P n [a0,a1] h=bnd (cells? a0) fun c1=>bnd (A3 (h ++ [some (Row.mk (c1) true)]) 3 (.c (.p h.length 0))) fun v2=>bnd (A0K [v2] (h ++ [some (Row.mk (c1) true)])) fun p3=>bnd (gd p3.1 true (some (a1,p3.2)) (some (.no,p3.2))) fun p4=>bnd (gd p3.1 true (bnd (A2 .geq p4.1 (.c (.i .i64 1))) fun v5=>some (v5,p4.2)) (some (.no,p4.2))) fun p6=>bnd (C4 p3.1 p6.1 (.c (.b false))) fun v7=>bnd (gd v7 true (some (a1,p6.2)) (some (.no,p6.2))) fun p8=>bnd (gd v7 true (bnd (B7 (.c (.p h.length 0)) 1) fun v9=>some (v9,p8.2)) (some (.no,p8.2))) fun p10=>bnd (gd v7 true (bnd (A5 p10.2 p10.1) fun v11=>some (v11,p10.2)) (some (.no,p10.2))) fun p12=>bnd (gd v7 true (bnd (A2 .leq p8.1 p12.1) fun v13=>some (v13,p12.2)) (some (.no,p12.2))) fun p14=>bnd (C4 v7 p14.1 (.c (.b false))) fun v15=>some (v15,p14.2):=by kernel_rfl
theorem K_geom_IsInode:FnK Tryz.prog 146 A_geom_IsInode B0g A6P:=.mk' (A9 B1x C1) Tryz.func146 (by kernel_rfl) (fun _ _ _=>C0)
def A4S:Fun:=tidy (Lim A_geom_IsInode B0g)
theorem C5G:SOk Tryz.prog 146 A4S:=K_geom_IsInode.sok
theorem C5F:D1 A6P A4S:=K_geom_IsInode.flat
def A_geom_Map:AFn:=⟨.seq [] (.ops [aO 0 (.mv (.v (.c (.i .i64 0))))]) (.seq [0] (.ops [aO 0 (.mv (.v (.c (.i .i64 1))))]) .ret),[.tmp 0]⟩
def B0h:B3:=B8
def B1b (n:Nat) (args:List Val) (h:A0):A6:=ax B0h n A_geom_Map.code A_geom_Map.fin (params 0 args) h
theorem C3g (n:Nat) (h:A0):B1b n [] h=some ((.c (.i .i64 1)),h):=by kernel_rfl
theorem K_geom_Map:FnK Tryz.prog 116 A_geom_Map B0h B1b:=.mk' (C1) Tryz.func116 (by kernel_rfl) (fun _ _ _=>C0)
def A4T:Fun:=tidy (Lim A_geom_Map B0h)
theorem C5I:SOk Tryz.prog 116 A4T:=K_geom_Map.sok
theorem C5H:D1 B1b A4T:=K_geom_Map.flat
def A_geom_Table:AFn:=⟨.seq [1] (.ops [aO 1 (.box (.t 0)),aO 2 (.mv (.v (.c (.i .i64 0)))),aO 3 (.mv (.v (.c (.i .i64 0))))]) (.seq [1] (.seq [1,6] (.ops [aO 4 (.loadN 3 (.t 1)),aO 5 (.call 150 [(.t 4)]),aO 6 (.un .not (.t 5))]) (.cond (.t 6) (.seq [2,3] (.ops [aO 2 (.mv (.v (.c (.i .i64 0)))),aO 3 (.mv (.v (.c (.i .i64 0))))]) .ret) .skip)) (.seq [2,3] (.draw 0 [aO 7 (.call 116 []),aO 8 (.bin .add (.t 7) (.v (.c (.i .i64 1)))),aO 9 (.fAddr (.t 1) 1),aO 10 (.load1 (.t 9)),aO 11 (.bin .quo (.t 10) (.v (.c (.i .i64 8)))),aO 2 (.mv (.t 8))] [aO 3 (.mv (.t 11))]) .ret)),[.tmp 2,.tmp 3]⟩
def B0i:B3:=A7 150 A0K (A7 116 A4T B8)
def A6Q (n:Nat) (args:List Val) (h:A0):A6:=ax B0i n A_geom_Table.code A_geom_Table.fin (params 0 args) h
theorem C3h (n:Nat) (a0:Val) (h:A0):A6Q n [a0] h=bnd (cells? a0) fun c1=>bnd (A3 (h ++ [some (Row.mk (c1) true)]) 3 (.c (.p h.length 0))) fun v2=>bnd (A0K [v2] (h ++ [some (Row.mk (c1) true)])) fun p3=>bnd (aun .not p3.1) fun v4=>cnd v4 (C7 [some (.c (.i .i64 0)),some (.c (.i .i64 0))] p3.2) (bnd (quiet (p3.2 ++ []) (A4T [] (p3.2 ++ []))) fun p5=>bnd (A2 .add p5.1 (.c (.i .i64 1))) fun v6=>bnd (B7 (.c (.p h.length 0)) 1) fun v7=>bnd (A5 p3.2 v7) fun v8=>bnd (A2 .quo v8 (.c (.i .i64 8))) fun v9=>C7 [some v6,some v9] p5.2):=by kernel_rfl
theorem K_geom_Table:FnK Tryz.prog 114 A_geom_Table B0i A6Q:=.mk' (A9 B1x (A9 C5I C1)) Tryz.func114 (by kernel_rfl) (fun _ _ _=>C0)
def A17:Fun:=tidy (Lim A_geom_Table B0i)
theorem B4O:SOk Tryz.prog 114 A17:=K_geom_Table.sok
theorem C5J:D1 A6Q A17:=K_geom_Table.flat
def A_geom_Where:AFn:=⟨.seq [1,2] (.ops [aO 2 (.box (.t 0)),aO 4 (.mv (.v (.c (.i .i64 0)))),aO 5 (.mv (.v (.c (.i .i64 0)))),aO 6 (.mv (.v (.c (.b false))))]) (.seq [1,2] (.seq [1,2,12] (.ops [aO 9 (.loadN 3 (.t 2)),aO 10 (.mv (.t 1)),aO 11 (.call 146 [(.t 9),(.t 10)]),aO 12 (.un .not (.t 11))]) (.cond (.t 12) (.seq [4,5,6] (.ops [aO 4 (.mv (.v (.c (.i .i64 0)))),aO 5 (.mv (.v (.c (.i .i64 0)))),aO 6 (.mv (.v (.c (.b false))))]) .ret) .skip)) (.seq [1,7] (.ops [aO 14 (.loadN 3 (.t 2)),aO 15 (.call 114 [(.t 14)]),aO 13 (.mv (.t 15)),aO 16 (.ext (.t 13) 0),aO 17 (.ext (.t 13) 1),aO 7 (.mv (.t 16)),aO 8 (.mv (.t 17))]) (.seq [4,5,6] (.ops [aO 18 (.mv (.t 7)),aO 19 (.mv (.t 1)),aO 20 (.bin .sub (.t 19) (.v (.c (.i .i64 1)))),aO 21 (.bin .quo (.t 20) (.v (.c (.i .i64 8)))),aO 22 (.bin .add (.t 18) (.t 21)),aO 23 (.mv (.t 1)),aO 24 (.bin .sub (.t 23) (.v (.c (.i .i64 1)))),aO 25 (.bin .rem (.t 24) (.v (.c (.i .i64 8)))),aO 4 (.mv (.t 22)),aO 5 (.mv (.t 25)),aO 6 (.mv (.v (.c (.b true))))]) .ret))),[.tmp 4,.tmp 5,.tmp 6]⟩
def B0j:B3:=A7 146 A4S (A7 114 A17 B8)
def A6R (n:Nat) (args:List Val) (h:A0):A6:=ax B0j n A_geom_Where.code A_geom_Where.fin (params 0 args) h
theorem C3i (n:Nat) (a0 a1:Val) (h:A0):A6R n [a0,a1] h=bnd (cells? a0) fun c1=>bnd (A3 (h ++ [some (Row.mk (c1) true)]) 3 (.c (.p h.length 0))) fun v2=>bnd (A4S [v2,a1] (h ++ [some (Row.mk (c1) true)])) fun p3=>bnd (aun .not p3.1) fun v4=>cnd v4 (C7 [some (.c (.i .i64 0)),some (.c (.i .i64 0)),some (.c (.b false))] p3.2) (bnd (A3 p3.2 3 (.c (.p h.length 0))) fun v5=>bnd (A17 [v5] p3.2) fun p6=>bnd (C5 p6.1 0) fun v7=>bnd (C5 p6.1 1) fun v8=>bnd (A2 .sub a1 (.c (.i .i64 1))) fun v9=>bnd (A2 .quo v9 (.c (.i .i64 8))) fun v10=>bnd (A2 .add v7 v10) fun v11=>bnd (A2 .sub a1 (.c (.i .i64 1))) fun v12=>bnd (A2 .rem v12 (.c (.i .i64 8))) fun v13=>C7 [some v11,some v13,some (.c (.b true))] p6.2):=by kernel_rfl
theorem K_geom_Where:FnK Tryz.prog 69 A_geom_Where B0j A6R:=.mk' (A9 C5G (A9 B4O C1)) Tryz.func69 (by kernel_rfl) (fun _ _ _=>C0)
def A4U:Fun:=tidy (Lim A_geom_Where B0j)
theorem C5L:SOk Tryz.prog 69 A4U:=K_geom_Where.sok
theorem C5K:D1 A6R A4U:=K_geom_Where.flat
def A_geom_Data:AFn:=⟨.seq [1] (.ops [aO 1 (.box (.t 0)),aO 2 (.mv (.v (.c (.i .i64 0))))]) (.seq [3,4] (.ops [aO 6 (.loadN 3 (.t 1)),aO 7 (.call 114 [(.t 6)]),aO 5 (.mv (.t 7)),aO 8 (.ext (.t 5) 0),aO 9 (.ext (.t 5) 1),aO 3 (.mv (.t 8)),aO 4 (.mv (.t 9))]) (.seq [2] (.ops [aO 10 (.mv (.t 3)),aO 11 (.mv (.t 4)),aO 12 (.bin .add (.t 10) (.t 11)),aO 2 (.mv (.t 12))]) .ret)),[.tmp 2]⟩
def B0e:B3:=A7 114 A17 B8
def A6N (n:Nat) (args:List Val) (h:A0):A6:=ax B0e n A_geom_Data.code A_geom_Data.fin (params 0 args) h
theorem C3d (n:Nat) (a0:Val) (h:A0):A6N n [a0] h=bnd (cells? a0) fun c1=>bnd (A3 (h ++ [some (Row.mk (c1) true)]) 3 (.c (.p h.length 0))) fun v2=>bnd (A17 [v2] (h ++ [some (Row.mk (c1) true)])) fun p3=>bnd (C5 p3.1 0) fun v4=>bnd (C5 p3.1 1) fun v5=>bnd (A2 .add v4 v5) fun v6=>some (v6,p3.2):=by kernel_rfl
theorem K_geom_Data:FnK Tryz.prog 151 A_geom_Data B0e A6N:=.mk' (A9 B4O C1) Tryz.func151 (by kernel_rfl) (fun _ _ _=>C0)
def A4R:Fun:=tidy (Lim A_geom_Data B0e)
theorem C5D:SOk Tryz.prog 151 A4R:=K_geom_Data.sok
theorem C5C:D1 A6N A4R:=K_geom_Data.flat
def A_geom_IsData:AFn:=⟨.seq [1,2] (.ops [aO 2 (.box (.t 0)),aO 4 (.mv (.v (.c (.b false))))]) (.seq [4] (.ops [aO 5 (.loadN 3 (.t 2)),aO 6 (.call 150 [(.t 5)]),aO 7 (.mv (.t 6)),aG 8 7 true (.mv (.t 1)),aG 9 7 true (.loadN 3 (.t 2)),aG 10 7 true (.call 151 [(.t 9)]),aG 11 7 true (.bin .geq (.t 8) (.t 10)),aO 12 (.pick (.t 7) (.t 11) (.v (.c (.b false)))),aO 13 (.mv (.t 12)),aG 14 13 true (.mv (.t 1)),aG 15 13 true (.fAddr (.t 2) 0),aG 16 13 true (.load1 (.t 15)),aG 17 13 true (.bin .lss (.t 14) (.t 16)),aO 18 (.pick (.t 13) (.t 17) (.v (.c (.b false)))),aO 4 (.mv (.t 18))]) .ret),[.tmp 4]⟩
def B0f:B3:=A7 150 A0K (A7 151 A4R B8)
def A6O (n:Nat) (args:List Val) (h:A0):A6:=ax B0f n A_geom_IsData.code A_geom_IsData.fin (params 0 args) h
theorem C3e (n:Nat) (a0 a1:Val) (h:A0):A6O n [a0,a1] h=bnd (cells? a0) fun c1=>bnd (A3 (h ++ [some (Row.mk (c1) true)]) 3 (.c (.p h.length 0))) fun v2=>bnd (A0K [v2] (h ++ [some (Row.mk (c1) true)])) fun p3=>bnd (gd p3.1 true (some (a1,p3.2)) (some (.no,p3.2))) fun p4=>bnd (gd p3.1 true (bnd (A3 p4.2 3 (.c (.p h.length 0))) fun v5=>some (v5,p4.2)) (some (.no,p4.2))) fun p6=>bnd (gd p3.1 true (bnd (A4R [p6.1] p6.2) fun p7=>some (p7.1,p7.2)) (some (.no,p6.2))) fun p8=>bnd (gd p3.1 true (bnd (A2 .geq p4.1 p8.1) fun v9=>some (v9,p8.2)) (some (.no,p8.2))) fun p10=>bnd (C4 p3.1 p10.1 (.c (.b false))) fun v11=>bnd (gd v11 true (some (a1,p10.2)) (some (.no,p10.2))) fun p12=>bnd (gd v11 true (bnd (B7 (.c (.p h.length 0)) 0) fun v13=>some (v13,p12.2)) (some (.no,p12.2))) fun p14=>bnd (gd v11 true (bnd (A5 p14.2 p14.1) fun v15=>some (v15,p14.2)) (some (.no,p14.2))) fun p16=>bnd (gd v11 true (bnd (A2 .lss p12.1 p16.1) fun v17=>some (v17,p16.2)) (some (.no,p16.2))) fun p18=>bnd (C4 v11 p18.1 (.c (.b false))) fun v19=>some (v19,p18.2):=by kernel_rfl
theorem K_geom_IsData:FnK Tryz.prog 72 A_geom_IsData B0f A6O:=.mk' (A9 B1x (A9 C5D C1)) Tryz.func72 (by kernel_rfl) (fun _ _ _=>C0)
def A0J:Fun:=tidy (Lim A_geom_IsData B0f)
theorem B1w:SOk Tryz.prog 72 A0J:=K_geom_IsData.sok
theorem C5E:D1 A6O A0J:=K_geom_IsData.flat
end Go.Proofs.YteckncopbicmcaaGreat
end
noncomputable section
namespace Go.Proofs.YteckncopbicmcaaGreat
open Go Go.Esc
set_option maxRecDepth 100000
def A_er14_May:AFn:=⟨.seq [1] (.ops [aO 1 (.box (.t 0)),aO 2 (.mv (.v (.c (.b false))))]) (.seq [2] (.ops [aO 3 (.fAddr (.t 1) 0),aO 4 (.load1 (.t 3)),aO 5 (.bin .geq (.t 4) (.v (.c (.i .i64 16)))),aO 6 (.mv (.t 5)),aG 7 6 true (.fAddr (.t 1) 0),aG 8 6 true (.load1 (.t 7)),aG 9 6 true (.bin .leq (.t 8) (.v (.c (.i .i64 512)))),aO 10 (.pick (.t 6) (.t 9) (.v (.c (.b false)))),aO 11 (.mv (.t 10)),aG 12 11 true (.fAddr (.t 1) 1),aG 13 11 true (.load1 (.t 12)),aG 14 11 true (.bin .geq (.t 13) (.v (.c (.i .i64 8)))),aO 15 (.pick (.t 11) (.t 14) (.v (.c (.b false)))),aO 16 (.mv (.t 15)),aG 17 16 true (.fAddr (.t 1) 1),aG 18 16 true (.load1 (.t 17)),aG 19 16 true (.bin .leq (.t 18) (.v (.c (.i .i64 128)))),aO 20 (.pick (.t 16) (.t 19) (.v (.c (.b false)))),aO 21 (.mv (.t 20)),aG 22 21 true (.fAddr (.t 1) 1),aG 23 21 true (.load1 (.t 22)),aG 24 21 true (.bin .rem (.t 23) (.v (.c (.i .i64 8)))),aG 25 21 true (.bin .eql (.t 24) (.v (.c (.i .i64 0)))),aO 26 (.pick (.t 21) (.t 25) (.v (.c (.b false)))),aO 27 (.mv (.t 26)),aG 28 27 true (.fAddr (.t 1) 1),aG 29 27 true (.load1 (.t 28)),aG 30 27 true (.bin .quo (.t 29) (.v (.c (.i .i64 8)))),aG 31 27 true (.bin .add (.v (.c (.i .i64 2))) (.t 30)),aG 32 27 true (.fAddr (.t 1) 0),aG 33 27 true (.load1 (.t 32)),aG 34 27 true (.bin .lss (.t 31) (.t 33)),aO 35 (.pick (.t 27) (.t 34) (.v (.c (.b false)))),aO 2 (.mv (.t 35))]) .ret),[.tmp 2]⟩
def A91:B3:=B8
def A6v (n:Nat) (args:List Val) (h:A0):A6:=ax A91 n A_er14_May.code A_er14_May.fin (params 0 args) h
theorem C2Q (n:Nat) (a0:Val) (h:A0):A6v n [a0] h=bnd (cells? a0) fun c1=>bnd (B7 (.c (.p h.length 0)) 0) fun v2=>bnd (A5 (h ++ [some (Row.mk (c1) true)]) v2) fun v3=>bnd (A2 .geq v3 (.c (.i .i64 16))) fun v4=>bnd (gd v4 true (bnd (B7 (.c (.p h.length 0)) 0) fun v5=>some (v5,(h ++ [some (Row.mk (c1) true)]))) (some (.no,(h ++ [some (Row.mk (c1) true)])))) fun p6=>bnd (gd v4 true (bnd (A5 p6.2 p6.1) fun v7=>some (v7,p6.2)) (some (.no,p6.2))) fun p8=>bnd (gd v4 true (bnd (A2 .leq p8.1 (.c (.i .i64 512))) fun v9=>some (v9,p8.2)) (some (.no,p8.2))) fun p10=>bnd (C4 v4 p10.1 (.c (.b false))) fun v11=>bnd (gd v11 true (bnd (B7 (.c (.p h.length 0)) 1) fun v12=>some (v12,p10.2)) (some (.no,p10.2))) fun p13=>bnd (gd v11 true (bnd (A5 p13.2 p13.1) fun v14=>some (v14,p13.2)) (some (.no,p13.2))) fun p15=>bnd (gd v11 true (bnd (A2 .geq p15.1 (.c (.i .i64 8))) fun v16=>some (v16,p15.2)) (some (.no,p15.2))) fun p17=>bnd (C4 v11 p17.1 (.c (.b false))) fun v18=>bnd (gd v18 true (bnd (B7 (.c (.p h.length 0)) 1) fun v19=>some (v19,p17.2)) (some (.no,p17.2))) fun p20=>bnd (gd v18 true (bnd (A5 p20.2 p20.1) fun v21=>some (v21,p20.2)) (some (.no,p20.2))) fun p22=>bnd (gd v18 true (bnd (A2 .leq p22.1 (.c (.i .i64 128))) fun v23=>some (v23,p22.2)) (some (.no,p22.2))) fun p24=>bnd (C4 v18 p24.1 (.c (.b false))) fun v25=>bnd (gd v25 true (bnd (B7 (.c (.p h.length 0)) 1) fun v26=>some (v26,p24.2)) (some (.no,p24.2))) fun p27=>bnd (gd v25 true (bnd (A5 p27.2 p27.1) fun v28=>some (v28,p27.2)) (some (.no,p27.2))) fun p29=>bnd (gd v25 true (bnd (A2 .rem p29.1 (.c (.i .i64 8))) fun v30=>some (v30,p29.2)) (some (.no,p29.2))) fun p31=>bnd (gd v25 true (bnd (A2 .eql p31.1 (.c (.i .i64 0))) fun v32=>some (v32,p31.2)) (some (.no,p31.2))) fun p33=>bnd (C4 v25 p33.1 (.c (.b false))) fun v34=>bnd (gd v34 true (bnd (B7 (.c (.p h.length 0)) 1) fun v35=>some (v35,p33.2)) (some (.no,p33.2))) fun p36=>bnd (gd v34 true (bnd (A5 p36.2 p36.1) fun v37=>some (v37,p36.2)) (some (.no,p36.2))) fun p38=>bnd (gd v34 true (bnd (A2 .quo p38.1 (.c (.i .i64 8))) fun v39=>some (v39,p38.2)) (some (.no,p38.2))) fun p40=>bnd (gd v34 true (bnd (A2 .add (.c (.i .i64 2)) p40.1) fun v41=>some (v41,p40.2)) (some (.no,p40.2))) fun p42=>bnd (gd v34 true (bnd (B7 (.c (.p h.length 0)) 0) fun v43=>some (v43,p42.2)) (some (.no,p42.2))) fun p44=>bnd (gd v34 true (bnd (A5 p44.2 p44.1) fun v45=>some (v45,p44.2)) (some (.no,p44.2))) fun p46=>bnd (gd v34 true (bnd (A2 .lss p42.1 p46.1) fun v47=>some (v47,p46.2)) (some (.no,p46.2))) fun p48=>bnd (C4 v34 p48.1 (.c (.b false))) fun v49=>some (v49,p48.2):=by kernel_rfl
theorem K_er14_May:FnK Tryz.prog 144 A_er14_May A91 A6v:=.mk' (C1) Tryz.func144 (by kernel_rfl) (fun _ _ _=>C0)
def A11:Fun:=tidy (Lim A_er14_May A91)
theorem B4H:SOk Tryz.prog 144 A11:=K_er14_May.sok
theorem C42:D1 A6v A11:=K_er14_May.flat
def A_er14_Put:AFn:=⟨.seq [1] (.ops [aO 1 (.box (.t 0)),aO 2 (.nilrow 1)]) (.seq [1,3] (.ops [aO 4 (.buildSl 1 8 ([.i .u8 0,.i .u8 0,.i .u8 0,.i .u8 0,.i .u8 0,.i .u8 0,.i .u8 0,.i .u8 0]) [(0,1,(.v (.c (.i .u8 101)))),(1,1,(.v (.c (.i .u8 115)))),(2,1,(.v (.c (.i .u8 99)))),(3,1,(.v (.c (.i .u8 104)))),(4,1,(.v (.c (.i .u8 101)))),(5,1,(.v (.c (.i .u8 97)))),(6,1,(.v (.c (.i .u8 116)))),(7,1,(.v (.c (.i .u8 49))))]),aO 5 (.mark (.t 4)),aO 6 (.fAddr (.t 1) 0),aO 7 (.load1 (.t 6)),aO 8 (.conv .u64 (.t 7)),aO 9 (.call 168 [(.v (.c (.i .i64 2))),(.t 8)]),aO 10 (.app 1 (.t 5) (.t 9)),aO 3 (.mv (.t 10))]) (.seq [1,3] (.ops [aO 11 (.mv (.t 3)),aO 12 (.fAddr (.t 1) 1),aO 13 (.load1 (.t 12)),aO 14 (.conv .u64 (.t 13)),aO 15 (.call 168 [(.v (.c (.i .i64 2))),(.t 14)]),aO 16 (.app 1 (.t 11) (.t 15)),aO 3 (.mv (.t 16))]) (.seq [3] (.ops [aO 17 (.mv (.t 3)),aO 18 (.fAddr (.t 1) 2),aO 19 (.load1 (.t 18)),aO 20 (.call 168 [(.v (.c (.i .i64 8))),(.t 19)]),aO 21 (.app 1 (.t 17) (.t 20)),aO 3 (.mv (.t 21))]) (.seq [3] (.ops [aO 22 (.mv (.t 3)),aO 23 (.mv (.t 3)),aO 24 (.b2s (.t 23)),aO 25 (.call 81 [(.t 24)]),aO 26 (.call 168 [(.v (.c (.i .i64 4))),(.t 25)]),aO 27 (.app 1 (.t 22) (.t 26)),aO 3 (.mv (.t 27))]) (.seq [2] (.ops [aO 28 (.mkSl 1 ([.i .u8 0]) (.v (.c (.i .i64 256))) (.v (.c (.i .i64 256)))),aO 29 (.mv (.t 3)),aO 30 (.call 118 [(.t 28),(.v (.c (.i .i64 0))),(.t 29)]),aO 2 (.mv (.t 30))]) .ret))))),[.tmp 2]⟩
def A92:B3:=A7 168 W2 (A7 81 A1Y (A7 118 A1X B8))
def A6w (n:Nat) (args:List Val) (h:A0):A6:=ax A92 n A_er14_Put.code A_er14_Put.fin (params 0 args) h
theorem C2R (n:Nat) (a0:Val) (h:A0):A6w n [a0] h=bnd (cells? a0) fun c1=>bnd (A8 ([.i .u8 0,.i .u8 0,.i .u8 0,.i .u8 0,.i .u8 0,.i .u8 0,.i .u8 0,.i .u8 0]) [(0,1,.c (.i .u8 101)),(1,1,.c (.i .u8 115)),(2,1,.c (.i .u8 99)),(3,1,.c (.i .u8 104)),(4,1,.c (.i .u8 101)),(5,1,.c (.i .u8 97)),(6,1,.c (.i .u8 116)),(7,1,.c (.i .u8 49))]) fun c2=>bnd (Q6 (((h ++ [some (Row.mk (c1) true)]) ++ [some (Row.mk ([]) true)]) ++ [some (Row.mk (c2) true)]) (.c (.sl ((h ++ [some (Row.mk (c1) true)]) ++ [some (Row.mk ([]) true)]).length 0 8 1))) fun v3=>bnd (B7 (.c (.p h.length 0)) 0) fun v4=>bnd (A5 (((h ++ [some (Row.mk (c1) true)]) ++ [some (Row.mk ([]) true)]) ++ [some (Row.mk (c2) true)]) v4) fun v5=>bnd (I1 .u64 v5) fun v6=>bnd (W2 [.c (.i .i64 2),v6] (((h ++ [some (Row.mk (c1) true)]) ++ [some (Row.mk ([]) true)]) ++ [some (Row.mk (c2) true)])) fun p7=>bnd (E7 p7.2 1 v3 p7.1) fun p8=>bnd (B7 (.c (.p h.length 0)) 1) fun v9=>bnd (A5 p8.2 v9) fun v10=>bnd (I1 .u64 v10) fun v11=>bnd (W2 [.c (.i .i64 2),v11] p8.2) fun p12=>bnd (E7 p12.2 1 p8.1 p12.1) fun p13=>bnd (B7 (.c (.p h.length 0)) 2) fun v14=>bnd (A5 p13.2 v14) fun v15=>bnd (W2 [.c (.i .i64 8),v15] p13.2) fun p16=>bnd (E7 p16.2 1 p13.1 p16.1) fun p17=>bnd (P8 p17.2 p17.1) fun v18=>bnd (A1Y [v18] p17.2) fun p19=>bnd (W2 [.c (.i .i64 4),p19.1] p19.2) fun p20=>bnd (E7 p20.2 1 p17.1 p20.1) fun p21=>bnd (U9 (.c (.i .i64 256)) (.c (.i .i64 256))) fun n22=>bnd (A1X [(.c (.sl p21.2.length 0 n22 1)),.c (.i .i64 0),p21.1] (p21.2 ++ [some (Row.mk (rows ([.i .u8 0]) n22) true)])) fun p23=>some (p23.1,p23.2):=by kernel_rfl
theorem K_er14_Put:FnK Tryz.prog 145 A_er14_Put A92 A6w:=.mk' (A9 B1s (A9 B4E (A9 B4D C1))) Tryz.func145 (by kernel_rfl) (fun _ _ _=>C0)
def A4E:Fun:=tidy (Lim A_er14_Put A92)
theorem C43:SOk Tryz.prog 145 A4E:=K_er14_Put.sok
theorem C44:N9 A6w A4E:=K_er14_Put.out
def A_er14_Get:AFn:=⟨.seq [0,2] (.ops [aO 2 (.alloc ([.i .i64 0,.i .i64 0,.i .u64 0])),aO 3 (.mv (.v (.c (.b false))))]) (.seq [0,2,4] (.ops [aO 8 (.mv (.t 0)),aO 9 (.call 143 [(.t 8),(.v (.c (.i .i64 12))),(.v (.c (.i .i64 8)))]),aO 7 (.mv (.t 9)),aO 10 (.ext (.t 7) 0),aO 11 (.ext (.t 7) 1),aO 4 (.mv (.t 10)),aO 5 (.mv (.t 11))]) (.seq [0,2,6] (.ops [aO 12 (.mv (.t 0)),aO 13 (.call 92 [(.t 12),(.v (.c (.i .i64 8))),(.v (.c (.i .i64 2)))]),aO 14 (.mv (.t 0)),aO 15 (.call 92 [(.t 14),(.v (.c (.i .i64 10))),(.v (.c (.i .i64 2)))]),aO 16 (.mv (.t 4)),aO 17 (.build ([.i .i64 0,.i .i64 0,.i .u64 0]) [(0,1,(.t 13)),(1,1,(.t 15)),(2,1,(.t 16))]),aO 6 (.alloc ([.i .i64 0,.i .i64 0,.i .u64 0])),aN (.storeN 3 (.t 6) (.t 17))]) (.seq [2,6] (.seq [2,6,27] (.ops [aO 18 (.loadN 3 (.t 6)),aO 19 (.call 144 [(.t 18)]),aO 20 (.un .not (.t 19)),aO 21 (.mv (.t 20)),aG 22 21 false (.loadN 3 (.t 6)),aG 23 21 false (.call 145 [(.t 22)]),aG 24 21 false (.mv (.t 0)),aG 25 21 false (.call 49 [(.t 23),(.t 24)]),aG 26 21 false (.un .not (.t 25)),aO 27 (.pick (.t 21) (.v (.c (.b true))) (.t 26))]) (.cond (.t 27) (.seq [2,3] (.ops [aO 28 (.build ([.i .i64 0,.i .i64 0,.i .u64 0]) []),aN (.storeN 3 (.t 2) (.t 28)),aO 3 (.mv (.v (.c (.b false))))]) .ret) .skip)) (.seq [2,3] (.ops [aO 29 (.loadN 3 (.t 6)),aN (.storeN 3 (.t 2) (.t 29)),aO 3 (.mv (.v (.c (.b true))))]) .ret)))),[.cellN 2 3,.tmp 3]⟩
def A90:B3:=A7 143 A1W (A7 92 X2 (A7 144 A11 (A7 145 A4E (A7 49 Z3 B8))))
def A6u (n:Nat) (args:List Val) (h:A0):A6:=ax A90 n A_er14_Get.code A_er14_Get.fin (params 0 args) h
theorem C2P (n:Nat) (a0:Val) (h:A0):A6u n [a0] h=bnd (A1W [a0,.c (.i .i64 12),.c (.i .i64 8)] (h ++ [some (Row.mk ([.i .i64 0,.i .i64 0,.i .u64 0]) true)])) fun p1=>bnd (C5 p1.1 0) fun v2=>bnd (C5 p1.1 1) fun v3=>bnd (X2 [a0,.c (.i .i64 8),.c (.i .i64 2)] p1.2) fun p4=>bnd (X2 [a0,.c (.i .i64 10),.c (.i .i64 2)] p4.2) fun p5=>bnd (A8 ([.i .i64 0,.i .i64 0,.i .u64 0]) [(0,1,p4.1),(1,1,p5.1),(2,1,v2)]) fun c6=>bnd (B6 (p5.2 ++ [some (Row.mk ([.i .i64 0,.i .i64 0,.i .u64 0]) true)]) 3 (.c (.p p5.2.length 0)) (.a c6)) fun h7=>bnd (A3 h7 3 (.c (.p p5.2.length 0))) fun v8=>bnd (A11 [v8] h7) fun p9=>bnd (aun .not p9.1) fun v10=>bnd (gd v10 false (bnd (A3 p9.2 3 (.c (.p p5.2.length 0))) fun v11=>some (v11,p9.2)) (some (.no,p9.2))) fun p12=>bnd (gd v10 false (bnd (A4E [p12.1] p12.2) fun p13=>some (p13.1,p13.2)) (some (.no,p12.2))) fun p14=>bnd (gd v10 false (some (a0,p14.2)) (some (.no,p14.2))) fun p15=>bnd (gd v10 false (bnd (Z3 [p14.1,p15.1] p15.2) fun p16=>some (p16.1,p16.2)) (some (.no,p15.2))) fun p17=>bnd (gd v10 false (bnd (aun .not p17.1) fun v18=>some (v18,p17.2)) (some (.no,p17.2))) fun p19=>bnd (C4 v10 (.c (.b true)) p19.1) fun v20=>cnd v20 (bnd (A8 ([.i .i64 0,.i .i64 0,.i .u64 0]) []) fun c21=>bnd (B6 p19.2 3 (.c (.p h.length 0)) (.a c21)) fun h22=>C7 [A3 h22 3 (.c (.p h.length 0)),some (.c (.b false))] h22) (bnd (A3 p19.2 3 (.c (.p p5.2.length 0))) fun v23=>bnd (B6 p19.2 3 (.c (.p h.length 0)) v23) fun h24=>C7 [A3 h24 3 (.c (.p h.length 0)),some (.c (.b true))] h24):=by kernel_rfl
theorem K_er14_Get:FnK Tryz.prog 68 A_er14_Get A90 A6u:=.mk' (A9 B4C (A9 B1r (A9 B4H (A9 C43 (A9 A7s C1))))) Tryz.func68 (by kernel_rfl) (fun _ _ _=>C0)
def A4D:Fun:=tidy (Lim A_er14_Get A90)
theorem C41:SOk Tryz.prog 68 A4D:=K_er14_Get.sok
theorem C40:D1 A6u A4D:=K_er14_Get.flat
end Go.Proofs.YteckncopbicmcaaGreat
end
noncomputable section
namespace Go.Proofs.YteckncopbicmcaaGreat
open Go Go.Esc
set_option maxRecDepth 100000
def A_er15_Area:AFn:=⟨.seq [1,2] (.ops [aO 2 (.box (.t 0)),aO 4 (.mv (.v (.c (.i .i64 0))))]) (.seq [1,2] (.seq [1,2,17] (.ops [aO 5 (.loadN 3 (.t 2)),aO 6 (.call 144 [(.t 5)]),aO 7 (.un .not (.t 6)),aO 8 (.mv (.t 7)),aG 9 8 false (.mv (.t 1)),aG 10 8 false (.bin .lss (.t 9) (.v (.c (.i .i64 0)))),aO 11 (.pick (.t 8) (.v (.c (.b true))) (.t 10)),aO 12 (.mv (.t 11)),aG 13 12 false (.mv (.t 1)),aG 14 12 false (.fAddr (.t 2) 0),aG 15 12 false (.load1 (.t 14)),aG 16 12 false (.bin .geq (.t 13) (.t 15)),aO 17 (.pick (.t 12) (.v (.c (.b true))) (.t 16))]) (.cond (.t 17) (.seq [4] (.ops [aO 4 (.mv (.v (.c (.i .i64 0))))]) .ret) .skip)) (.seq [1,2] (.seq [1,2,19] (.ops [aO 18 (.mv (.t 1)),aO 19 (.bin .lss (.t 18) (.v (.c (.i .i64 2))))]) (.cond (.t 19) (.seq [4] (.ops [aO 20 (.mv (.t 1)),aO 21 (.bin .add (.t 20) (.v (.c (.i .i64 1)))),aO 4 (.mv (.t 21))]) .ret) .skip)) (.seq [] (.seq [27] (.ops [aO 22 (.mv (.t 1)),aO 23 (.bin .sub (.t 22) (.v (.c (.i .i64 2)))),aO 24 (.bin .mul (.t 23) (.v (.c (.i .i64 8)))),aO 25 (.fAddr (.t 2) 1),aO 26 (.load1 (.t 25)),aO 27 (.bin .lss (.t 24) (.t 26))]) (.cond (.t 27) (.seq [4] (.ops [aO 4 (.mv (.v (.c (.i .i64 3))))]) .ret) .skip)) (.seq [4] (.ops [aO 4 (.mv (.v (.c (.i .i64 4))))]) .ret)))),[.tmp 4]⟩
def A93:B3:=A7 144 A11 B8
def A6x (n:Nat) (args:List Val) (h:A0):A6:=ax A93 n A_er15_Area.code A_er15_Area.fin (params 0 args) h
theorem C2S (n:Nat) (a0 a1:Val) (h:A0):A6x n [a0,a1] h=bnd (cells? a0) fun c1=>bnd (A3 (h ++ [some (Row.mk (c1) true)]) 3 (.c (.p h.length 0))) fun v2=>bnd (A11 [v2] (h ++ [some (Row.mk (c1) true)])) fun p3=>bnd (aun .not p3.1) fun v4=>bnd (gd v4 false (some (a1,p3.2)) (some (.no,p3.2))) fun p5=>bnd (gd v4 false (bnd (A2 .lss p5.1 (.c (.i .i64 0))) fun v6=>some (v6,p5.2)) (some (.no,p5.2))) fun p7=>bnd (C4 v4 (.c (.b true)) p7.1) fun v8=>bnd (gd v8 false (some (a1,p7.2)) (some (.no,p7.2))) fun p9=>bnd (gd v8 false (bnd (B7 (.c (.p h.length 0)) 0) fun v10=>some (v10,p9.2)) (some (.no,p9.2))) fun p11=>bnd (gd v8 false (bnd (A5 p11.2 p11.1) fun v12=>some (v12,p11.2)) (some (.no,p11.2))) fun p13=>bnd (gd v8 false (bnd (A2 .geq p9.1 p13.1) fun v14=>some (v14,p13.2)) (some (.no,p13.2))) fun p15=>bnd (C4 v8 (.c (.b true)) p15.1) fun v16=>cnd v16 (some ((.c (.i .i64 0)),p15.2)) (bnd (A2 .lss a1 (.c (.i .i64 2))) fun v17=>cnd v17 (bnd (A2 .add a1 (.c (.i .i64 1))) fun v18=>some (v18,p15.2)) (bnd (A2 .sub a1 (.c (.i .i64 2))) fun v19=>bnd (A2 .mul v19 (.c (.i .i64 8))) fun v20=>bnd (B7 (.c (.p h.length 0)) 1) fun v21=>bnd (A5 p15.2 v21) fun v22=>bnd (A2 .lss v20 v22) fun v23=>cnd v23 (some ((.c (.i .i64 3)),p15.2)) (some ((.c (.i .i64 4)),p15.2)))):=by kernel_rfl
theorem K_er15_Area:FnK Tryz.prog 108 A_er15_Area A93 A6x:=.mk' (A9 B4H C1) Tryz.func108 (by kernel_rfl) (fun _ _ _=>C0)
def A4F:Fun:=tidy (Lim A_er15_Area A93)
theorem C46:SOk Tryz.prog 108 A4F:=K_er15_Area.sok
theorem C45:D1 A6x A4F:=K_er15_Area.flat
end Go.Proofs.YteckncopbicmcaaGreat
end
section
namespace Go.Proofs.YteckncopbicmcaaGreat
open Go Go.Esc
def I0 (b n:Int):Bool:=decide (16 ≤ b) && decide (b ≤ 512) && decide (8 ≤ n) && decide (n ≤ 128) && decide (n % 8=0) && decide (2 + n / 8 < b)
theorem A2F {b n:Int}:I0 b n=true ↔ 16 ≤ b ∧ b ≤ 512 ∧ 8 ≤ n ∧ n ≤ 128 ∧ n % 8=0 ∧ 2 + n / 8 < b:=by
  unfold I0;simp [and_assoc]
theorem Y6 {b n:Int}:I0 b n=false ↔ ¬ (16 ≤ b ∧ b ≤ 512 ∧ 8 ≤ n ∧ n ≤ 128 ∧ n % 8=0 ∧ 2 + n / 8 < b):=by
  rw [← A2F];simp
abbrev C2 (b n m:Int):List Cell:=[.i .i64 b,.i .i64 n,.i .u64 m]
theorem A9B {b n m:Int} {h:A0}:A2g [.a (C2 b n m)] h=some (.c (.i .i64 (bif I0 b n then 0 else 1)),h):=by
  have key:∀ g,∃ g',A7h 0 [.a (C2 b n m)] g=some (.c (.i .i64 (bif I0 b n then 0 else 1)),g'):=by
    intro g
    rw [C3R]
    have bad:I0 b n=false → (some (Val.c (.i .i64 1),g ++ [some ⟨C2 b n m,true⟩]))=some (.c (.i .i64 (bif I0 b n then 0 else 1)),g ++ [some ⟨C2 b n m,true⟩]):=fun h=>by rw [h];rfl
    by_cases c1:b < 16
    · rw [Y6.2 (by omega)]
      exact ⟨_,by simp only [esc,esh,Nat.reduceAdd,Nat.reduceMul,Nat.reduceLT,c1,A2Q] <;> rfl⟩
    · by_cases c2:512 < b
      · rw [Y6.2 (by omega)]
        exact ⟨_,by simp only [esc,esh,Nat.reduceAdd,Nat.reduceMul,Nat.reduceLT,c1,c2,A2Q] <;> rfl⟩
      · by_cases c3:n < 8
        · rw [Y6.2 (by omega)]
          exact ⟨_,by simp only [esc,esh,Nat.reduceAdd,Nat.reduceMul,Nat.reduceLT,c1,c2,c3,A2Q,A55] <;> rfl⟩
        · by_cases c4:128 < n
          · rw [Y6.2 (by omega)]
            exact ⟨_,by simp only [esc,esh,Nat.reduceAdd,Nat.reduceMul,Nat.reduceLT,c1,c2,c3,c4,A2Q,A55] <;> rfl⟩
          · have e1:=A3I (a:=n) (b:=8) (k:=.i64) (by omega) (by omega)
            by_cases c5:n % 8=0
            · have e2:=A5T (a:=n) (b:=8) (by omega) (by omega) (by omega)
              have e3:IntKind.wrap .i64 (2 + n / 8)=2 + n / 8:=wrap_i64 (by omega) (by omega)
              by_cases c6:b ≤ 2 + n / 8
              · rw [Y6.2 (by omega)]
                exact ⟨_,by simp only [esc,esh,Nat.reduceAdd,Nat.reduceMul,Nat.reduceLT,c1,c2,c3,c4,e1,c5,e2,e3,c6,A2Q,A55] <;> rfl⟩
              · rw [A2F.2 (by omega)]
                exact ⟨_,by simp only [esc,esh,Nat.reduceAdd,Nat.reduceMul,Nat.reduceLT,c1,c2,c3,c4,e1,c5,e2,e3,c6,A2Q,A55] <;> rfl⟩
            · rw [Y6.2 (by omega)]
              exact ⟨_,by simp only [esc,esh,Nat.reduceAdd,Nat.reduceMul,Nat.reduceLT,c1,c2,c3,c4,e1,c5,A2Q,A55] <;> rfl⟩
  obtain ⟨g',e⟩:=key (ro h)
  exact C6D e (by simp)
theorem A2O {b n m:Int} {h:A0}:A11 [.a (C2 b n m)] h=some (.c (.b (I0 b n)),h):=by
  have key:∀ g,∃ g',A6v 0 [.a (C2 b n m)] g=some (.c (.b (I0 b n)),g'):=by
    intro g
    rw [C2Q]
    by_cases c1:16 ≤ b
    · by_cases c2:b ≤ 512
      · by_cases c3:8 ≤ n
        · by_cases c4:n ≤ 128
          · have e1:=A3I (a:=n) (b:=8) (k:=.i64) (by omega) (by omega)
            by_cases c5:n % 8=0
            · have e2:=A5T (a:=n) (b:=8) (by omega) (by omega) (by omega)
              have e3:IntKind.wrap .i64 (2 + n / 8)=2 + n / 8:=wrap_i64 (by omega) (by omega)
              by_cases c6:2 + n / 8 < b
              · rw [A2F.2 (by omega)]
                exact ⟨_,by simp only [esc,esh,Nat.reduceAdd,Nat.reduceMul,Nat.reduceLT,c1,c2,c3,c4,e1,c5,e2,e3,c6] <;> rfl⟩
              · rw [Y6.2 (by omega)]
                exact ⟨_,by simp only [esc,esh,Nat.reduceAdd,Nat.reduceMul,Nat.reduceLT,c1,c2,c3,c4,e1,c5,e2,e3,c6] <;> rfl⟩
            · rw [Y6.2 (by omega)]
              exact ⟨_,by simp only [esc,esh,Nat.reduceAdd,Nat.reduceMul,Nat.reduceLT,c1,c2,c3,c4,e1,c5] <;> rfl⟩
          · rw [Y6.2 (by omega)]
            exact ⟨_,by simp only [esc,esh,Nat.reduceAdd,Nat.reduceMul,Nat.reduceLT,c1,c2,c3,c4] <;> rfl⟩
        · rw [Y6.2 (by omega)]
          exact ⟨_,by simp only [esc,esh,Nat.reduceAdd,Nat.reduceMul,Nat.reduceLT,c1,c2,c3] <;> rfl⟩
      · rw [Y6.2 (by omega)]
        exact ⟨_,by simp only [esc,esh,Nat.reduceAdd,Nat.reduceMul,Nat.reduceLT,c1,c2] <;> rfl⟩
    · rw [Y6.2 (by omega)]
      exact ⟨_,by simp only [esc,esh,Nat.reduceAdd,Nat.reduceMul,Nat.reduceLT,c1] <;> rfl⟩
  obtain ⟨g',e⟩:=key (ro h)
  exact C42 e (by simp)
theorem A1l {b n m:Int} {h:A0}:A0K [.a (C2 b n m)] h=some (.c (.b (I0 b n)),h):=by
  have key:∀ g,∃ g',A6S 0 [.a (C2 b n m)] g=some (.c (.b (I0 b n)),g'):=by
    intro g
    rw [C3j]
    cases c:I0 b n with
    | true=>exact ⟨_,by simp only [esc,esh,Nat.reduceAdd,Nat.reduceMul,Nat.reduceLT,A9B,c] <;> rfl⟩
    | false=>exact ⟨_,by simp only [esc,esh,Nat.reduceAdd,Nat.reduceMul,Nat.reduceLT,A9B,c,Int.reduceEq] <;> rfl⟩
  obtain ⟨g',e⟩:=key (ro h)
  exact C5M e (by simp)
theorem C94 {h:A0}:A4T [] h=some (.c (.i .i64 1),h) :=
  C5H (n:=0) (h2:=ro h) (by rw [C3g]) rfl
def A0x (b n:Int):Int:=bif I0 b n then 2 else 0
def A1E (b n:Int):Int:=bif I0 b n then n / 8 else 0
def X8 (b n:Int):Int:=A0x b n + A1E b n
theorem B8r {b n m:Int} {h:A0}:A17 [.a (C2 b n m)] h=some (.t [.c (.i .i64 (A0x b n)),.c (.i .i64 (A1E b n))],h):=by
  have key:∀ g,∃ g',A6Q 0 [.a (C2 b n m)] g=some (.t [.c (.i .i64 (A0x b n)),.c (.i .i64 (A1E b n))],g'):=by
    intro g
    rw [C3h]
    unfold A0x A1E
    cases c:I0 b n with
    | true =>
      have c':=A2F.1 c
      have e2:=A5T (a:=n) (b:=8) (by omega) (by omega) (by omega)
      have e3:IntKind.wrap .i64 (1 + 1)=2:=wrap_i64 (by omega) (by omega)
      exact ⟨_,by simp only [esc,esh,Nat.reduceAdd,Nat.reduceMul,Nat.reduceLT,A1l,c,C94,e2,e3] <;> rfl⟩
    | false=>exact ⟨_,by simp only [esc,esh,Nat.reduceAdd,Nat.reduceMul,Nat.reduceLT,A1l,c] <;> rfl⟩
  obtain ⟨g',e⟩:=key (ro h)
  exact C5J e (by simp)
theorem C8b {b n:Int}:0 ≤ X8 b n ∧ X8 b n ≤ 18:=by
  unfold X8 A0x A1E
  cases c:I0 b n with
  | true=>have:=A2F.1 c;simp only [cond_true];omega
  | false=>simp only [cond_false];omega
theorem B8p {b n m:Int} {h:A0}:A4R [.a (C2 b n m)] h=some (.c (.i .i64 (X8 b n)),h):=by
  have key:∀ g,∃ g',A6N 0 [.a (C2 b n m)] g=some (.c (.i .i64 (X8 b n)),g'):=by
    intro g
    rw [C3d]
    have hr:=C8b (b:=b) (n:=n)
    have e3:IntKind.wrap .i64 (A0x b n + A1E b n)=X8 b n:=wrap_i64 (by unfold X8 at hr;omega) (by unfold X8 at hr;omega)
    exact ⟨_,by simp only [esc,esh,Nat.reduceAdd,Nat.reduceMul,Nat.reduceLT,B8r,e3] <;> rfl⟩
  obtain ⟨g',e⟩:=key (ro h)
  exact C5C e (by simp)
def U1 (b n i:Int):Bool:=I0 b n && decide (1 ≤ i) && decide (i ≤ n)
def K0 (b n i:Int):Bool:=I0 b n && decide (X8 b n ≤ i) && decide (i < b)
theorem B8q {b n m i:Int} {h:A0}:A4S [.a (C2 b n m),.c (.i .i64 i)] h=some (.c (.b (U1 b n i)),h):=by
  have key:∀ g,∃ g',A6P 0 [.a (C2 b n m),.c (.i .i64 i)] g=some (.c (.b (U1 b n i)),g'):=by
    intro g
    rw [C3f]
    unfold U1
    cases c:I0 b n with
    | true =>
      by_cases c1:1 ≤ i
      · exact ⟨_,by simp only [esc,esh,Nat.reduceAdd,Nat.reduceMul,Nat.reduceLT,A1l,c,c1] <;> rfl⟩
      · exact ⟨_,by simp only [esc,esh,Nat.reduceAdd,Nat.reduceMul,Nat.reduceLT,A1l,c,c1] <;> rfl⟩
    | false=>exact ⟨_,by simp only [esc,esh,Nat.reduceAdd,Nat.reduceMul,Nat.reduceLT,A1l,c] <;> rfl⟩
  obtain ⟨g',e⟩:=key (ro h)
  exact C5F e (by simp)
theorem B3a {b n m i:Int} {h:A0}:A0J [.a (C2 b n m),.c (.i .i64 i)] h=some (.c (.b (K0 b n i)),h):=by
  have key:∀ g,∃ g',A6O 0 [.a (C2 b n m),.c (.i .i64 i)] g=some (.c (.b (K0 b n i)),g'):=by
    intro g
    rw [C3e]
    unfold K0
    cases c:I0 b n with
    | true =>
      by_cases c1:X8 b n ≤ i
      · exact ⟨_,by simp only [esc,esh,Nat.reduceAdd,Nat.reduceMul,Nat.reduceLT,A1l,B8p,c,c1] <;> rfl⟩
      · exact ⟨_,by simp only [esc,esh,Nat.reduceAdd,Nat.reduceMul,Nat.reduceLT,A1l,B8p,c,c1] <;> rfl⟩
    | false=>exact ⟨_,by simp only [esc,esh,Nat.reduceAdd,Nat.reduceMul,Nat.reduceLT,A1l,c] <;> rfl⟩
  obtain ⟨g',e⟩:=key (ro h)
  exact C5E e (by simp)
def A2T (b n i:Int):Int:=bif U1 b n i then 2 + (i - 1) / 8 else 0
def A2U (b n i:Int):Int:=bif U1 b n i then (i - 1) % 8 else 0
theorem D0H {b n i:Int}:U1 b n i=true ↔ I0 b n=true ∧ 1 ≤ i ∧ i ≤ n:=by
  unfold U1;simp [and_assoc]
theorem B8s {b n m i:Int} {h:A0}:A4U [.a (C2 b n m),.c (.i .i64 i)] h=some (.t [.c (.i .i64 (A2T b n i)),.c (.i .i64 (A2U b n i)),.c (.b (U1 b n i))],h):=by
  have key:∀ g,∃ g',A6R 0 [.a (C2 b n m),.c (.i .i64 i)] g=some (.t [.c (.i .i64 (A2T b n i)),.c (.i .i64 (A2U b n i)),.c (.b (U1 b n i))],g'):=by
    intro g
    rw [C3i]
    unfold A2T A2U
    cases c:U1 b n i with
    | true =>
      obtain ⟨c1,c2,c3⟩:=D0H.1 c
      have c':=A2F.1 c1
      have e0:A0x b n=2:=by unfold A0x;rw [c1];rfl
      have e1:IntKind.wrap .i64 (i - 1)=i - 1:=wrap_i64 (by omega) (by omega)
      have e2:=A5T (a:=i - 1) (b:=8) (by omega) (by omega) (by omega)
      have e3:IntKind.wrap .i64 (2 + (i - 1) / 8)=2 + (i - 1) / 8:=wrap_i64 (by omega) (by omega)
      have e4:=A3I (a:=i - 1) (b:=8) (k:=.i64) (by omega) (by omega)
      exact ⟨_,by simp only [esc,esh,Nat.reduceAdd,Nat.reduceMul,Nat.reduceLT,B8q,c,B8r,e0,e1,e2,e3,e4] <;> rfl⟩
    | false=>exact ⟨_,by simp only [esc,esh,Nat.reduceAdd,Nat.reduceMul,Nat.reduceLT,B8q,c] <;> rfl⟩
  obtain ⟨g',e⟩:=key (ro h)
  exact C5K e (by simp)
def A5k (b n no:Int):Int:=if I0 b n=true ∧ 0 ≤ no ∧ no < b then (if no < 2 then no + 1 else if (no - 2) * 8 < n then 3 else 4) else 0
theorem D2o {b n m no:Int} {h:A0}:A4F [.a (C2 b n m),.c (.i .i64 no)] h=some (.c (.i .i64 (A5k b n no)),h):=by
  have key:∀ g,∃ g',A6x 0 [.a (C2 b n m),.c (.i .i64 no)] g=some (.c (.i .i64 (A5k b n no)),g'):=by
    intro g
    rw [C2S]
    unfold A5k
    cases c:I0 b n with
    | true =>
      have c':=A2F.1 c
      by_cases c1:no < 0
      · rw [if_neg (by omega)]
        exact ⟨_,by simp only [esc,esh,Nat.reduceAdd,Nat.reduceMul,Nat.reduceLT,A2O,c,c1] <;> rfl⟩
      · by_cases c2:b ≤ no
        · rw [if_neg (by omega)]
          exact ⟨_,by simp only [esc,esh,Nat.reduceAdd,Nat.reduceMul,Nat.reduceLT,A2O,c,c1,c2] <;> rfl⟩
        · rw [if_pos ⟨rfl,by omega,by omega⟩]
          by_cases c3:no < 2
          · rw [if_pos c3]
            have e1:IntKind.wrap .i64 (no + 1)=no + 1:=wrap_i64 (by omega) (by omega)
            exact ⟨_,by simp only [esc,esh,Nat.reduceAdd,Nat.reduceMul,Nat.reduceLT,A2O,c,c1,c2,c3,e1] <;> rfl⟩
          · rw [if_neg c3]
            have e1:IntKind.wrap .i64 (no - 2)=no - 2:=wrap_i64 (by omega) (by omega)
            have e2:IntKind.wrap .i64 ((no - 2) * 8)=(no - 2) * 8:=wrap_i64 (by omega) (by omega)
            by_cases c4:(no - 2) * 8 < n
            · rw [if_pos c4]
              exact ⟨_,by simp only [esc,esh,Nat.reduceAdd,Nat.reduceMul,Nat.reduceLT,A2O,c,c1,c2,c3,e1,e2,c4] <;> rfl⟩
            · rw [if_neg c4]
              exact ⟨_,by simp only [esc,esh,Nat.reduceAdd,Nat.reduceMul,Nat.reduceLT,A2O,c,c1,c2,c3,e1,e2,c4] <;> rfl⟩
    | false =>
      rw [if_neg (by simp)]
      exact ⟨_,by simp only [esc,esh,Nat.reduceAdd,Nat.reduceMul,Nat.reduceLT,A2O,c] <;> rfl⟩
  obtain ⟨g',e⟩:=key (ro h)
  exact C45 e (by simp)
end Go.Proofs.YteckncopbicmcaaGreat
end
section
namespace Go.Proofs.YteckncopbicmcaaGreat
open Go Go.Esc
theorem C17 (v:Int):0 ≤ IntKind.wrap .u64 v ∧ IntKind.wrap .u64 v < 18446744073709551616:=by
  have hw:IntKind.wrap .u64 v=v % 18446744073709551616:=by
    simp only [IntKind.wrap,IntKind.bits,IntKind.signed,Bool.false_and]
    rfl
  rw [hw]
  exact ⟨Int.emod_nonneg _ (by omega),Int.emod_lt_of_pos _ (by omega)⟩
theorem A7P {w:Nat} {v:Int} {h:A0} (hw:w ≤ 8):W2 [.c (.i .i64 w),.c (.i .u64 (IntKind.wrap .u64 v))] h=some (.c (.sl h.length 0 w 1),h ++ [some ⟨A1 (B5 w v),true⟩]):=by
  rw [B3T hw (C17 v).1 (C17 v).2,C7S hw]
end Go.Proofs.YteckncopbicmcaaGreat
end
section
namespace Go.Proofs.YteckncopbicmcaaGreat
open Go Go.Esc
theorem B5k {h:A0} {id off len sz:Nat} {cs:List Cell} (hr:rd h id=some ⟨cs,true⟩) (hn:0 < len):Q6 h (.c (.sl id off len sz))=some (.c (.sl id off len sz)):=by
  simp [Q6,hr,hn]
def magicB:List UInt8:=[101,115,99,104,101,97,116,49]
def F8 (b n m:Int):List UInt8:=magicB ++ B5 2 b ++ B5 2 n ++ B5 8 m
def R4 (b n m:Int):List UInt8:=D7 256 (F8 b n m ++ B5 4 (M5 (F8 b n m):Nat))
theorem V9 {b n m:Int}:(F8 b n m).length=20:=by simp [F8,magicB]
theorem A1D {b n m:Int}:(R4 b n m).length=256:=L5 (by rw [List.length_append,V9,A0T];omega)
theorem D0P {l xs:List UInt8} {a:Nat} (h1:l.length ≤ a) (h2:a + xs.length ≤ 256) (h3:a < 256):S4 (D7 256 l) a xs=D7 256 (l ++ zeros (a - l.length) ++ xs):=by
  unfold S4
  rw [if_pos (by omega)]
  simp only [Int.toNat_natCast]
  rw [List.take_of_length_le (by omega),A9m h1 h2]
theorem C1Y {b n m:Int} {h:A0} (hm0:0 ≤ m) (hm1:m < 18446744073709551616) :
    A2h [.a (C2 b n m)] h=some (.t [.a (A1 (bif I0 b n then R4 b n m else zeros 256)),.c (.i .i64 (bif I0 b n then 0 else 1))],h):=by
  have key:∀ g,∃ g',A7j 0 [.a (C2 b n m)] g=some (.t [.a (A1 (bif I0 b n then R4 b n m else zeros 256)),.c (.i .i64 (bif I0 b n then 0 else 1))],g'):=by
    intro g
    have hz:(A1 (zeros 256)).length=256:=by rw [B1];exact zeros_length
    have haf:A8 (List.replicate 256 (Cell.i .u8 0)) []=some (List.replicate 256 (Cell.i .u8 0)):=rfl
    rw [N8] at haf
    rw [C3T,N8]
    cases c:I0 b n with
    | false =>
      simp only [cond_false]
      generalize zeros 256=z at *
      exact ⟨_,by simp only [esc,esh,Nat.reduceAdd,Nat.reduceMul,Nat.reduceLT,A9B,c,haf,hz,Int.reduceEq] <;> rfl⟩
    | true =>
      simp only [cond_true]
      have e7:A8 [Cell.i .u8 0,.i .u8 0,.i .u8 0,.i .u8 0,.i .u8 0,.i .u8 0,.i .u8 0,.i .u8 0] [(0,1,.c (.i .u8 101)),(1,1,.c (.i .u8 115)),(2,1,.c (.i .u8 99)),(3,1,.c (.i .u8 104)),(4,1,.c (.i .u8 101)),(5,1,.c (.i .u8 97)),(6,1,.c (.i .u8 116)),(7,1,.c (.i .u8 49))]=some (A1 magicB):=rfl
      have hmk:=B5k (h:=g ++ [some ⟨C2 b n m,true⟩,some ⟨A1 (zeros 256),true⟩,some ⟨A1 magicB,true⟩]) (id:=g.length + 2) (off:=0) (len:=8) (sz:=1) (cs:=A1 magicB) (by simp) (by omega)
      have ho:=A9f (h:=g ++ [some ⟨C2 b n m,true⟩,some ⟨A1 (zeros 256),true⟩,some ⟨A1 magicB,true⟩]) (v:=.c (.sl (g.length + 2) 0 8 1)) (nv:=8) (data:=magicB) (Has.tr (by simp) (by simp [B1,magicB]) (K1 _)) (by decide)
      rw [A9j (by decide)] at ho
      have lm:magicB.length=8:=rfl
      have w1:=fun h=>A0v (h:=h) (l:=D7 256 magicB) (L5 (by decide)) (a:=8) (w:=2) (v:=b)
      have e1:=A0z (l:=magicB) (a:=8) (w:=2) (v:=b) (by decide) (by omega) (by omega) (by omega)
      simp only [lm,Nat.sub_self,show zeros 0=[] from rfl,List.append_nil,Int.cast_ofNat_Int] at e1
      simp only [e1] at w1
      have l1:(magicB ++ B5 2 b).length=10:=by simp [lm]
      have w2:=fun h=>A0v (h:=h) (l:=D7 256 (magicB ++ B5 2 b)) (L5 (by omega)) (a:=10) (w:=2) (v:=n)
      have e2:=A0z (l:=magicB ++ B5 2 b) (a:=10) (w:=2) (v:=n) (by omega) (by omega) (by omega) (by omega)
      simp only [l1,Nat.sub_self,show zeros 0=[] from rfl,List.append_nil,Int.cast_ofNat_Int] at e2
      simp only [e2] at w2
      have l2:(magicB ++ B5 2 b ++ B5 2 n).length=12:=by simp [lm]
      have L0:(A1 (D7 256 magicB)).length=256:=by rw [B1,L5 (by decide)]
      have L1:(A1 (D7 256 (magicB ++ B5 2 b))).length=256:=by rw [B1,L5 (by omega)]
      have L2:(A1 (D7 256 (magicB ++ B5 2 b ++ B5 2 n))).length=256:=by rw [B1,L5 (by omega)]
      have L3:(A1 (D7 256 (F8 b n m))).length=256:=by rw [B1,L5 (by rw [V9];omega)]
      have L4:(A1 (R4 b n m)).length=256:=by rw [B1,A1D]
      have mk8:U9 (.c (.i .i64 8)) (.c (.i .i64 8))=some 8:=rfl
      have hp:=D1G (h:=g ++ [some ⟨C2 b n m,true⟩,some ⟨A1 (zeros 256),true⟩,some ⟨A1 magicB,true⟩,some ⟨A1 (D7 256 (magicB ++ B5 2 b ++ B5 2 n)),true⟩,some ⟨A1 (zeros 8),true⟩]) (x:=.c (.sl (g.length + 4) 0 8 1)) (nv:=8) (l:=zeros 8) (a:=0) (w:=8) (v:=m) (Has.tr (by simp) (by simp [B1]) (K1 _)) (by simp)
      have ep:V8 (zeros 8) 0 8 m=some (B5 8 m):=by
        unfold V8
        rw [if_pos ⟨by omega,by decide⟩]
        unfold D3
        simp [zeros]
      rw [ep] at hp
      simp only [Option.getD_some,Option.isSome_some,A0T] at hp
      have hl:=B3F (h:=g ++ [some ⟨C2 b n m,true⟩,some ⟨A1 (zeros 256),true⟩,some ⟨A1 magicB,true⟩,some ⟨A1 (D7 256 (magicB ++ B5 2 b ++ B5 2 n)),true⟩,some ⟨A1 (zeros 8),true⟩,some ⟨A1 (B5 8 m),true⟩]) (v:=.c (.sl (g.length + 5) 0 8 1)) (nv:=8) (data:=B5 8 m) (l:=D7 256 (magicB ++ B5 2 b ++ B5 2 n)) (a:=12) (Has.tr (by simp) (by simp [B1]) (K1 _)) (L5 (by omega)) (by simp)
      have e3:=D0P (l:=magicB ++ B5 2 b ++ B5 2 n) (xs:=B5 8 m) (a:=12) (by omega) (by simp) (by omega)
      simp only [l2,Nat.sub_self,show zeros 0=[] from rfl,List.append_nil,Int.cast_ofNat_Int] at e3
      rw [e3] at hl
      have hc:=fun h=>B3D (h:=h) (l:=D7 256 (F8 b n m)) (L5 (by rw [V9];omega)) (a:=0) (n:=20)
      have e4:G1 (D7 256 (F8 b n m)) 0 20=F8 b n m:=by
        unfold G1 D7
        rw [if_pos (by omega)]
        simp only [Int.toNat_zero,List.drop_zero]
        exact List.take_left' V9
      simp only [e4,V9] at hc
      have hstr:=(Has.tr (h:=g ++ [some ⟨C2 b n m,true⟩,some ⟨A1 (zeros 256),true⟩,some ⟨A1 magicB,true⟩,some ⟨A1 (D7 256 (F8 b n m)),true⟩,some ⟨A1 (zeros 8),true⟩,some ⟨A1 (B5 8 m),true⟩,some ⟨A1 (F8 b n m),true⟩]) (id:=g.length + 6) (sz:=1) (n:=20) (cs:=A1 (F8 b n m)) (by simp) (by rw [B1,V9]) (K1 _)).str
      have hmx:=fun h=>B9G (s:=F8 b n m) (h:=h) (by rw [V9];omega)
      have hmlt:=A82 (s:=F8 b n m)
      have e5:IntKind.wrap .i64 ((M5 (F8 b n m):Nat):Int)=(M5 (F8 b n m):Nat):=wrap_i64 (by omega) (by omega)
      have w3:=fun h=>A0v (h:=h) (l:=D7 256 (F8 b n m)) (L5 (by rw [V9];omega)) (a:=20) (w:=4) (v:=(M5 (F8 b n m):Nat))
      have e6:=A0z (l:=F8 b n m) (a:=20) (w:=4) (v:=(M5 (F8 b n m):Nat)) (by rw [V9];omega) (by omega) (by omega) (by omega)
      simp only [V9,Nat.sub_self,show zeros 0=[] from rfl,List.append_nil,Int.cast_ofNat_Int] at e6
      simp only [e6] at w3
      have eS:magicB ++ B5 2 b ++ B5 2 n ++ B5 8 m=F8 b n m:=rfl
      rw [eS] at hl
      have rz:=A5W 8
      change ∀ h,R5 [_,_,_,_] h=some (.a (A1 (R4 b n m)),h) at w3
      generalize R4 b n m=SB at *
      generalize D7 256 magicB=P0 at *
      generalize D7 256 (magicB ++ B5 2 b)=P1 at *
      generalize D7 256 (magicB ++ B5 2 b ++ B5 2 n)=P2 at *
      generalize D7 256 (F8 b n m)=P3 at *
      simp only [esc] at hp
      generalize zeros 256=z at *
      generalize zeros 8=z8 at *
      exact ⟨_,by simp only [esc,esh,Nat.reduceAdd,Nat.reduceMul,Nat.reduceLT,A9B,c,e7,hmk,ho,hz,L0,w1,L1,w2,L2,mk8,rz,hp,hl,L3,hc,hstr,hmx,e5,w3,L4] <;> rfl⟩
  obtain ⟨g',e⟩:=key (ro h)
  exact C6G e (by simp)
theorem A7F {b:List UInt8} {a w:Nat} (hb:b.length=256) (h1:a + w ≤ 256) (hw:1 ≤ w) (hw4:w ≤ 4):((atN b a w:Nat):Int)=fieldN b a w:=by
  unfold atN fieldN
  rw [if_pos ⟨by omega,U7.2 (by omega)⟩]
  simp only [Int.toNat_natCast]
theorem C95 {b:List UInt8} (hb:b.length=256):A0a (G1 b 12 8) 0 8=some (le ((b.drop 12).take 8)):=by
  have hc:G1 b 12 8=(b.drop 12).take 8:=by
    unfold G1
    rw [if_pos (by omega)];rfl
  have hl:((b.drop 12).take 8).length=8:=by simp;omega
  unfold A0a
  rw [hc,hl,if_pos ⟨by omega,by decide⟩]
  simp only [Int.toNat_zero,List.drop_zero]
  rw [List.take_of_length_le (by rw [hl];decide)]
def okS (b:List UInt8):Bool:=I0 (fieldN b 8 2) (fieldN b 10 2) && decide (R4 (fieldN b 8 2) (fieldN b 10 2) (fieldN b 12 8)=b)
def Y2 (b:List UInt8):List Cell:=bif okS b then C2 (fieldN b 8 2) (fieldN b 10 2) (fieldN b 12 8) else C2 0 0 0
theorem A8w (b:List UInt8):0 ≤ fieldN b 12 8 ∧ fieldN b 12 8 < 18446744073709551616:=by
  unfold fieldN
  have h1:=A2D ((b.drop 12).take 8)
  have h2:((b.drop 12).take 8).length ≤ 8:=by simp;omega
  have h3:=A3D h2
  have h4:(256:Nat) ^ 8=18446744073709551616:=by decide
  omega
end Go.Proofs.YteckncopbicmcaaGreat
end
section
namespace Go.Proofs.YteckncopbicmcaaGreat
open Go Go.Esc
theorem C1X {b:List UInt8} {h:A0} (hb:b.length=256):A5c [.a (A1 b)] h=some (.t [.a (Y2 b),.c (.i .i64 (bif okS b then 0 else 13))],h):=by
  have key:∀ g,∃ g',A7i 0 [.a (A1 b)] g=some (.t [.a (Y2 b),.c (.i .i64 (bif okS b then 0 else 13))],g'):=by
    intro g
    have hl:(A1 b).length=256:=by rw [B1,hb]
    have hc:=B3D (h:=g ++ [some ⟨A1 b,true⟩,some ⟨C2 0 0 0,true⟩]) hb (a:=12) (n:=8)
    have hcl:(G1 b 12 8).length=8:=by unfold G1;rw [if_pos (by omega)];simp;omega
    rw [hcl] at hc
    have hg:=D1y (h:=g ++ [some ⟨A1 b,true⟩,some ⟨C2 0 0 0,true⟩,some ⟨A1 (G1 b 12 8),true⟩]) (v:=.c (.sl (g.length + 2) 0 8 1)) (nv:=8) (l:=G1 b 12 8) (Has.tr (by simp) (by rw [B1,hcl]) (K1 _)) (a:=0) (w:=8) (by rw [hcl];omega)
    rw [C95 hb] at hg
    simp only [Option.getD_some,Option.isSome_some] at hg
    have a1:=fun h=>A1w (h:=h) hb (a:=8) (w:=2)
    have a2:=fun h=>A1w (h:=h) hb (a:=10) (w:=2)
    have f1:=A7F (a:=8) (w:=2) hb (by omega) (by omega) (by omega)
    have f2:=A7F (a:=10) (w:=2) hb (by omega) (by omega) (by omega)
    simp only [Int.cast_ofNat_Int] at f1 f2
    simp only [f1] at a1
    simp only [f2] at a2
    have e12:((le ((b.drop 12).take 8):Nat):Int)=fieldN b 12 8:=rfl
    rw [e12] at hg
    have ef:∀ x y z:Int,A8 (C2 0 0 0) [(0,1,.c (.i .i64 x)),(1,1,.c (.i .i64 y)),(2,1,.c (.i .u64 z))]=some (C2 x y z):=fun _ _ _=>rfl
    have ef0:A8 (C2 0 0 0) []=some (C2 0 0 0):=rfl
    have hp:=fun h=>C1Y (b:=fieldN b 8 2) (n:=fieldN b 10 2) (m:=fieldN b 12 8) (h:=h) (A8w b).1 (A8w b).2
    have hz:(List.replicate 256 (Cell.i .u8 0)).length=256:=List.length_replicate
    have hS:(A1 (R4 (fieldN b 8 2) (fieldN b 10 2) (fieldN b 12 8))).length=256:=by rw [B1,A1D]
    have hZ:(A1 (zeros 256)).length=256:=by rw [B1];exact zeros_length
    have hq:=A7y (l:=R4 (fieldN b 8 2) (fieldN b 10 2) (fieldN b 12 8)) (m:=b) (n:=256) A1D hb
    simp only [esc] at hc
    rw [C3S]
    unfold Y2 okS
    generalize List.replicate 256 (Cell.i .u8 0)=z at *
    cases c:I0 (fieldN b 8 2) (fieldN b 10 2) with
    | false =>
      simp only [c,cond_false] at hp
      generalize zeros 256=zz at *
      exact ⟨_,by simp only [esc,esh,Nat.reduceAdd,Nat.reduceMul,Nat.reduceLT,hl,hc,hg,a1,a2,ef,ef0,hp,hz,hZ,Bool.false_and,Int.reduceEq] <;> rfl⟩
    | true =>
      simp only [c,cond_true] at hp
      cases c2:decide (R4 (fieldN b 8 2) (fieldN b 10 2) (fieldN b 12 8)=b) with
      | false =>
        rw [c2] at hq
        exact ⟨_,by simp only [esc,esh,Nat.reduceAdd,Nat.reduceMul,Nat.reduceLT,hl,hc,hg,a1,a2,ef,ef0,hp,hz,hS,hq,Bool.and_false] <;> rfl⟩
      | true =>
        rw [c2] at hq
        exact ⟨_,by simp only [esc,esh,Nat.reduceAdd,Nat.reduceMul,Nat.reduceLT,hl,hc,hg,a1,a2,ef,ef0,hp,hz,hS,hq,Bool.and_true] <;> rfl⟩
  obtain ⟨g',e⟩:=key (ro h)
  refine C6E e ?_
  unfold Y2
  cases okS b <;> simp
end Go.Proofs.YteckncopbicmcaaGreat
end
noncomputable section
namespace Go.Proofs.YteckncopbicmcaaGreat
open Go Go.Esc
set_option maxRecDepth 100000
def A_inode_small:AFn:=⟨.seq [0] (.ops [aO 2 (.mv (.v (.c (.b false))))]) (.seq [2] (.ops [aO 3 (.mv (.t 0)),aO 4 (.bin .geq (.t 3) (.v (.c (.i .i64 0)))),aO 5 (.mv (.t 4)),aG 6 5 true (.mv (.t 0)),aG 7 5 true (.bin .leq (.t 6) (.v (.c (.i .i64 65535)))),aO 8 (.pick (.t 5) (.t 7) (.v (.c (.b false)))),aO 2 (.mv (.t 8))]) .ret),[.tmp 2]⟩
def B0q:B3:=B8
def B1d (n:Nat) (args:List Val) (h:A0):A6:=ax B0q n A_inode_small.code A_inode_small.fin (params 0 args) h
theorem C3x (n:Nat) (a0:Val) (h:A0):B1d n [a0] h=bnd (A2 .geq a0 (.c (.i .i64 0))) fun v1=>bnd (gd v1 true (some (a0,h)) (some (.no,h))) fun p2=>bnd (gd v1 true (bnd (A2 .leq p2.1 (.c (.i .i64 65535))) fun v3=>some (v3,p2.2)) (some (.no,p2.2))) fun p4=>bnd (C4 v1 p4.1 (.c (.b false))) fun v5=>some (v5,p4.2):=by kernel_rfl
theorem K_inode_small:FnK Tryz.prog 270 A_inode_small B0q B1d:=.mk' (C1) Tryz.func270 (by kernel_rfl) (fun _ _ _=>C0)
def A2c:Fun:=tidy (Lim A_inode_small B0q)
theorem C59:SOk Tryz.prog 270 A2c:=K_inode_small.sok
theorem C58:D1 B1d A2c:=K_inode_small.flat
def B86:ACode:=.seq [1,2,3,7,8,9] (.ops [aO 9 (.bin .lss (.t 8) (.v (.c (.i .i64 6))))]) (.seq [1,2,3,7,8] (.cond (.t 9) .skip (.exit 0)) (.seq [1,2,3,7,8] (.block 1 (.seq [1,2,3,4,5,7,8] (.ops [aO 10 (.mv (.t 8)),aO 11 (.idxA1 6 (.t 7) (.t 8)),aO 4 (.mv (.t 10)),aO 5 (.mv (.t 11))]) (.ops [aO 12 (.mv (.t 4)),aO 13 (.mv (.t 5)),aO 14 (.iAddrA 7 1 (.t 3) (.t 12)),aN (.store1 (.t 14) (.t 13))]))) (.ops [aO 15 (.bin .add (.t 8) (.v (.c (.i .i64 1)))),aO 8 (.mv (.t 15))])))
def B87:ACode:=.seq [2,3] (.ops [aO 16 (.fAddr (.t 1) 10),aO 17 (.load1 (.t 16)),aO 18 (.iAddrA 7 1 (.t 3) (.v (.c (.i .i64 6)))),aN (.store1 (.t 18) (.t 17))]) (.seq [2] (.ops [aO 19 (.loadN 7 (.t 3)),aN (.storeN 7 (.t 2) (.t 19))]) .ret)
def A_inode_Numbers:AFn:=⟨.seq [1,2] (.ops [aO 1 (.box (.t 0)),aO 2 (.alloc ([.i .i64 0,.i .i64 0,.i .i64 0,.i .i64 0,.i .i64 0,.i .i64 0,.i .i64 0]))]) (.seq [1,2,3] (.ops [aO 3 (.alloc ([.i .i64 0,.i .i64 0,.i .i64 0,.i .i64 0,.i .i64 0,.i .i64 0,.i .i64 0]))]) (.seq [1,2,3] (.seq [1,2,3,7,8] (.ops [aO 6 (.fAddr (.t 1) 4),aO 7 (.loadN 6 (.t 6)),aO 8 (.mv (.v (.c (.i .i64 0))))]) (.block 0 (.loop [1,2,3,7,8] B86))) B87)),[.cellN 2 7]⟩
def A36:B3:=B8
def D0A (n:Nat):B4 (Val × A0):=E5 [1,2,3] (ax A36 n B87) A_inode_Numbers.fin
def D0B (n:Nat):B4 (Val × A0):=D6 0 (D0A n)
def A8L (n m:Nat) (x1 x2 x3 x7 x8:Val) (h:A0):A6:=C8 (ax A36 n B86) [1,2,3,7,8] (D0B n) m [(1,x1),(2,x2),(3,x3),(7,x7),(8,x8)] h
def A63 (n:Nat) (args:List Val) (h:A0):A6:=ax A36 n A_inode_Numbers.code A_inode_Numbers.fin (params 0 args) h
theorem C3v (n:Nat) (a0:Val) (h:A0):A63 n [a0] h=bnd (cells? a0) fun c1=>bnd (B7 (.c (.p h.length 0)) 4) fun v2=>bnd (A3 (((h ++ [some (Row.mk (c1) true)]) ++ [some (Row.mk ([.i .i64 0,.i .i64 0,.i .i64 0,.i .i64 0,.i .i64 0,.i .i64 0,.i .i64 0]) true)]) ++ [some (Row.mk ([.i .i64 0,.i .i64 0,.i .i64 0,.i .i64 0,.i .i64 0,.i .i64 0,.i .i64 0]) true)]) 6 v2) fun v3=>A8L n n (.c (.p h.length 0)) (.c (.p (h ++ [some (Row.mk (c1) true)]).length 0)) (.c (.p ((h ++ [some (Row.mk (c1) true)]) ++ [some (Row.mk ([.i .i64 0,.i .i64 0,.i .i64 0,.i .i64 0,.i .i64 0,.i .i64 0,.i .i64 0]) true)]).length 0)) v3 (.c (.i .i64 0)) (((h ++ [some (Row.mk (c1) true)]) ++ [some (Row.mk ([.i .i64 0,.i .i64 0,.i .i64 0,.i .i64 0,.i .i64 0,.i .i64 0,.i .i64 0]) true)]) ++ [some (Row.mk ([.i .i64 0,.i .i64 0,.i .i64 0,.i .i64 0,.i .i64 0,.i .i64 0,.i .i64 0]) true)]):=by kernel_rfl
theorem B88 (n m:Nat) (x1 x2 x3 x7 x8:Val) (h:A0):A8L n (m + 1) x1 x2 x3 x7 x8 h=bnd (A2 .lss x8 (.c (.i .i64 6))) fun v4=>cnd v4 (bnd (W4 6 x7 x8) fun v5=>bnd (D8 7 1 x3 x8) fun v6=>bnd (F9 h v6 v5) fun h7=>bnd (A2 .add x8 (.c (.i .i64 1))) fun v8=>A8L n m x1 x2 x3 x7 v8 h7) (bnd (B7 x1 10) fun v9=>bnd (A5 h v9) fun v10=>bnd (D8 7 1 x3 (.c (.i .i64 6))) fun v11=>bnd (F9 h v11 v10) fun h12=>bnd (A3 h12 7 x3) fun v13=>bnd (B6 h12 7 x2 v13) fun h14=>mp (A3 h14 7 x2) fun v=>(v,h14)):=by kernel_rfl
theorem K_inode_Numbers:FnK Tryz.prog 194 A_inode_Numbers A36 A63:=.mk' (C1) Tryz.func194 (by kernel_rfl) (fun _ _ _=>C0)
def A2a:Fun:=tidy (Lim A_inode_Numbers A36)
theorem B4R:SOk Tryz.prog 194 A2a:=K_inode_Numbers.sok
theorem C56:D1 A63 A2a:=K_inode_Numbers.flat
def B8Z:ACode:=.seq [44,45,46] (.ops [aO 46 (.bin .lss (.t 45) (.v (.c (.i .i64 7))))]) (.seq [44,45] (.cond (.t 46) .skip (.exit 0)) (.seq [44,45] (.block 1 (.seq [4,44,45] (.ops [aO 47 (.idxA1 7 (.t 44) (.t 45)),aO 4 (.mv (.t 47))]) (.seq [44,45,50] (.ops [aO 48 (.mv (.t 4)),aO 49 (.call 270 [(.t 48)]),aO 50 (.un .not (.t 49))]) (.cond (.t 50) (.seq [2] (.ops [aO 2 (.mv (.v (.c (.i .i64 1))))]) .ret) .skip)))) (.ops [aO 51 (.bin .add (.t 45) (.v (.c (.i .i64 1)))),aO 45 (.mv (.t 51))])))
def B80:ACode:=.seq [2] (.ops [aO 2 (.mv (.v (.c (.i .i64 0))))]) .ret
def A_inode_Check:AFn:=⟨.seq [1] (.ops [aO 1 (.box (.t 0)),aO 2 (.mv (.v (.c (.i .i64 0))))]) (.seq [1] (.seq [1,22] (.ops [aO 5 (.fAddr (.t 1) 0),aO 6 (.load1 (.t 5)),aO 7 (.bin .lss (.t 6) (.v (.c (.i .i64 0)))),aO 8 (.mv (.t 7)),aG 9 8 false (.fAddr (.t 1) 0),aG 10 8 false (.load1 (.t 9)),aG 11 8 false (.bin .gtr (.t 10) (.v (.c (.i .i64 2)))),aO 12 (.pick (.t 8) (.v (.c (.b true))) (.t 11)),aO 13 (.mv (.t 12)),aG 14 13 false (.fAddr (.t 1) 0),aG 15 13 false (.load1 (.t 14)),aG 16 13 false (.bin .eql (.t 15) (.v (.c (.i .i64 0)))),aG 17 13 false (.mv (.t 16)),aG 18 17 true (.loadN 11 (.t 1)),aG 19 17 true (.build ([.i .i64 0,.i .i64 0,.i .i64 0,.i .i64 0,.i .i64 0,.i .i64 0,.i .i64 0,.i .i64 0,.i .i64 0,.i .i64 0,.i .i64 0]) []),aG 20 17 true (.eqA true ([.i .i64,.i .i64,.i .i64,.i .i64,.i .i64,.i .i64,.i .i64,.i .i64,.i .i64,.i .i64,.i .i64]) (.t 18) (.t 19)),aG 21 13 false (.pick (.t 17) (.t 20) (.v (.c (.b false)))),aO 22 (.pick (.t 13) (.v (.c (.b true))) (.t 21))]) (.cond (.t 22) (.seq [2] (.ops [aO 2 (.mv (.v (.c (.i .i64 1))))]) .ret) .skip)) (.seq [1] (.seq [1,42] (.ops [aO 23 (.fAddr (.t 1) 1),aO 24 (.load1 (.t 23)),aO 25 (.call 270 [(.t 24)]),aO 26 (.un .not (.t 25)),aO 27 (.mv (.t 26)),aG 28 27 false (.fAddr (.t 1) 3),aG 29 27 false (.load1 (.t 28)),aG 30 27 false (.call 270 [(.t 29)]),aG 31 27 false (.un .not (.t 30)),aO 32 (.pick (.t 27) (.v (.c (.b true))) (.t 31)),aO 33 (.mv (.t 32)),aG 34 33 false (.fAddr (.t 1) 2),aG 35 33 false (.load1 (.t 34)),aG 36 33 false (.bin .lss (.t 35) (.v (.c (.i .i64 0)))),aO 37 (.pick (.t 33) (.v (.c (.b true))) (.t 36)),aO 38 (.mv (.t 37)),aG 39 38 false (.fAddr (.t 1) 2),aG 40 38 false (.load1 (.t 39)),aG 41 38 false (.bin .gtr (.t 40) (.v (.c (.i .i64 34304)))),aO 42 (.pick (.t 38) (.v (.c (.b true))) (.t 41))]) (.cond (.t 42) (.seq [2] (.ops [aO 2 (.mv (.v (.c (.i .i64 1))))]) .ret) .skip)) (.seq [] (.seq [44,45] (.ops [aO 43 (.loadN 11 (.t 1)),aO 44 (.call 194 [(.t 43)]),aO 45 (.mv (.v (.c (.i .i64 0))))]) (.block 0 (.loop [44,45] B8Z))) B80))),[.tmp 2]⟩
def A34:B3:=A7 270 A2c (A7 194 A2a B8)
def D0v (n:Nat):B4 (Val × A0):=E5 [] (ax A34 n B80) A_inode_Check.fin
def D0w (n:Nat):B4 (Val × A0):=D6 0 (D0v n)
def A8J (n m:Nat) (x44 x45:Val) (h:A0):A6:=C8 (ax A34 n B8Z) [44,45] (D0w n) m [(44,x44),(45,x45)] h
def A60 (n:Nat) (args:List Val) (h:A0):A6:=ax A34 n A_inode_Check.code A_inode_Check.fin (params 0 args) h
theorem C3s (n:Nat) (a0:Val) (h:A0):A60 n [a0] h=bnd (cells? a0) fun c1=>bnd (B7 (.c (.p h.length 0)) 0) fun v2=>bnd (A5 (h ++ [some (Row.mk (c1) true)]) v2) fun v3=>bnd (A2 .lss v3 (.c (.i .i64 0))) fun v4=>bnd (gd v4 false (bnd (B7 (.c (.p h.length 0)) 0) fun v5=>some (v5,(h ++ [some (Row.mk (c1) true)]))) (some (.no,(h ++ [some (Row.mk (c1) true)])))) fun p6=>bnd (gd v4 false (bnd (A5 p6.2 p6.1) fun v7=>some (v7,p6.2)) (some (.no,p6.2))) fun p8=>bnd (gd v4 false (bnd (A2 .gtr p8.1 (.c (.i .i64 2))) fun v9=>some (v9,p8.2)) (some (.no,p8.2))) fun p10=>bnd (C4 v4 (.c (.b true)) p10.1) fun v11=>bnd (gd v11 false (bnd (B7 (.c (.p h.length 0)) 0) fun v12=>some (v12,p10.2)) (some (.no,p10.2))) fun p13=>bnd (gd v11 false (bnd (A5 p13.2 p13.1) fun v14=>some (v14,p13.2)) (some (.no,p13.2))) fun p15=>bnd (gd v11 false (bnd (A2 .eql p15.1 (.c (.i .i64 0))) fun v16=>some (v16,p15.2)) (some (.no,p15.2))) fun p17=>bnd (gd v11 false (some (p17.1,p17.2)) (some (.no,p17.2))) fun p18=>bnd (gd p18.1 true (bnd (A3 p18.2 11 (.c (.p h.length 0))) fun v19=>some (v19,p18.2)) (some (.no,p18.2))) fun p20=>bnd (gd p18.1 true (bnd (A8 ([.i .i64 0,.i .i64 0,.i .i64 0,.i .i64 0,.i .i64 0,.i .i64 0,.i .i64 0,.i .i64 0,.i .i64 0,.i .i64 0,.i .i64 0]) []) fun c21=>some ((.a c21),p20.2)) (some (.no,p20.2))) fun p22=>bnd (gd p18.1 true (bnd (aeq true ([.i .i64,.i .i64,.i .i64,.i .i64,.i .i64,.i .i64,.i .i64,.i .i64,.i .i64,.i .i64,.i .i64]) p20.1 p22.1) fun v23=>some (v23,p22.2)) (some (.no,p22.2))) fun p24=>bnd (gd v11 false (bnd (C4 p18.1 p24.1 (.c (.b false))) fun v25=>some (v25,p24.2)) (some (.no,p24.2))) fun p26=>bnd (C4 v11 (.c (.b true)) p26.1) fun v27=>cnd v27 (some ((.c (.i .i64 1)),p26.2)) (bnd (B7 (.c (.p h.length 0)) 1) fun v28=>bnd (A5 p26.2 v28) fun v29=>bnd (A2c [v29] p26.2) fun p30=>bnd (aun .not p30.1) fun v31=>bnd (gd v31 false (bnd (B7 (.c (.p h.length 0)) 3) fun v32=>some (v32,p30.2)) (some (.no,p30.2))) fun p33=>bnd (gd v31 false (bnd (A5 p33.2 p33.1) fun v34=>some (v34,p33.2)) (some (.no,p33.2))) fun p35=>bnd (gd v31 false (bnd (A2c [p35.1] p35.2) fun p36=>some (p36.1,p36.2)) (some (.no,p35.2))) fun p37=>bnd (gd v31 false (bnd (aun .not p37.1) fun v38=>some (v38,p37.2)) (some (.no,p37.2))) fun p39=>bnd (C4 v31 (.c (.b true)) p39.1) fun v40=>bnd (gd v40 false (bnd (B7 (.c (.p h.length 0)) 2) fun v41=>some (v41,p39.2)) (some (.no,p39.2))) fun p42=>bnd (gd v40 false (bnd (A5 p42.2 p42.1) fun v43=>some (v43,p42.2)) (some (.no,p42.2))) fun p44=>bnd (gd v40 false (bnd (A2 .lss p44.1 (.c (.i .i64 0))) fun v45=>some (v45,p44.2)) (some (.no,p44.2))) fun p46=>bnd (C4 v40 (.c (.b true)) p46.1) fun v47=>bnd (gd v47 false (bnd (B7 (.c (.p h.length 0)) 2) fun v48=>some (v48,p46.2)) (some (.no,p46.2))) fun p49=>bnd (gd v47 false (bnd (A5 p49.2 p49.1) fun v50=>some (v50,p49.2)) (some (.no,p49.2))) fun p51=>bnd (gd v47 false (bnd (A2 .gtr p51.1 (.c (.i .i64 34304))) fun v52=>some (v52,p51.2)) (some (.no,p51.2))) fun p53=>bnd (C4 v47 (.c (.b true)) p53.1) fun v54=>cnd v54 (some ((.c (.i .i64 1)),p53.2)) (bnd (A3 p53.2 11 (.c (.p h.length 0))) fun v55=>bnd (A2a [v55] p53.2) fun p56=>A8J n n p56.1 (.c (.i .i64 0)) p56.2)):=by kernel_rfl
theorem B82 (n m:Nat) (x44 x45:Val) (h:A0):A8J n (m + 1) x44 x45 h=bnd (A2 .lss x45 (.c (.i .i64 7))) fun v57=>cnd v57 (bnd (W4 7 x44 x45) fun v58=>bnd (A2c [v58] h) fun p59=>bnd (aun .not p59.1) fun v60=>cnd v60 (some ((.c (.i .i64 1)),p59.2)) (bnd (A2 .add x45 (.c (.i .i64 1))) fun v61=>A8J n m x44 v61 p59.2)) (some ((.c (.i .i64 0)),h)):=by kernel_rfl
theorem K_inode_Check:FnK Tryz.prog 252 A_inode_Check A34 A60:=.mk' (A9 C59 (A9 B4R C1)) Tryz.func252 (by kernel_rfl) (fun _ _ _=>C0)
def A40:Fun:=tidy (Lim A_inode_Check A34)
theorem C51:SOk Tryz.prog 252 A40:=K_inode_Check.sok
theorem C50:D1 A60 A40:=K_inode_Check.flat
def B89:ACode:=.seq [2,4,6,33,34,35] (.ops [aO 35 (.bin .lss (.t 34) (.v (.c (.i .i64 7))))]) (.seq [2,4,6,33,34] (.cond (.t 35) .skip (.exit 0)) (.seq [2,4,6,33,34] (.block 1 (.seq [2,4,6,7,8,33,34] (.ops [aO 36 (.mv (.t 34)),aO 37 (.idxA1 7 (.t 33) (.t 34)),aO 7 (.mv (.t 36)),aO 8 (.mv (.t 37))]) (.ops [aO 38 (.loadN 256 (.t 6)),aO 39 (.mv (.t 7)),aO 40 (.bin .mul (.v (.c (.i .i64 2))) (.t 39)),aO 41 (.bin .add (.v (.c (.i .i64 10))) (.t 40)),aO 42 (.mv (.t 8)),aO 43 (.call 213 [(.t 38),(.t 41),(.v (.c (.i .i64 2))),(.t 42)]),aN (.storeN 256 (.t 6) (.t 43))]))) (.ops [aO 44 (.bin .add (.t 34) (.v (.c (.i .i64 1)))),aO 34 (.mv (.t 44))])))
def B9b:ACode:=.seq [2,4,6,45,46] (.ops [aO 46 (.bin .lss (.t 45) (.v (.c (.i .i64 32))))]) (.seq [2,4,6,45] (.cond (.t 46) .skip (.exit 2)) (.seq [2,4,6,45] (.block 3 (.seq [2,4,6,9,45] (.ops [aO 47 (.mv (.t 45)),aO 9 (.mv (.t 47))]) (.ops [aO 48 (.mv (.t 9)),aO 49 (.mv (.t 9)),aO 50 (.iAddrA 256 1 (.t 6) (.t 49)),aO 51 (.load1 (.t 50)),aO 52 (.iAddrA 32 1 (.t 4) (.t 48)),aN (.store1 (.t 52) (.t 51))]))) (.ops [aO 53 (.bin .add (.t 45) (.v (.c (.i .i64 1)))),aO 45 (.mv (.t 53))])))
def B9c:ACode:=.seq [2,3] (.ops [aO 54 (.loadN 32 (.t 4)),aN (.storeN 32 (.t 2) (.t 54)),aO 3 (.mv (.v (.c (.i .i64 0))))]) .ret
def B9a:ACode:=.seq [2,4] (.seq [2,4,6,45] (.ops [aO 45 (.mv (.v (.c (.i .i64 0))))]) (.block 2 (.loop [2,4,6,45] B9b))) B9c
def A_inode_Put:AFn:=⟨.seq [1,2] (.ops [aO 1 (.box (.t 0)),aO 2 (.alloc (List.replicate 32 (.i .u8 0))),aO 3 (.mv (.v (.c (.i .i64 0))))]) (.seq [1,2,4] (.ops [aO 4 (.alloc (List.replicate 32 (.i .u8 0)))]) (.seq [1,2,4] (.seq [1,2,4,5] (.ops [aO 10 (.loadN 11 (.t 1)),aO 11 (.call 252 [(.t 10)]),aO 5 (.mv (.t 11))]) (.seq [1,2,4,5,13] (.ops [aO 12 (.mv (.t 5)),aO 13 (.bin .neq (.t 12) (.v (.c (.i .i64 0))))]) (.cond (.t 13) (.seq [2,3] (.ops [aO 14 (.loadN 32 (.t 4)),aO 15 (.mv (.t 5)),aN (.storeN 32 (.t 2) (.t 14)),aO 3 (.mv (.t 15))]) .ret) .skip))) (.seq [1,2,4,6] (.ops [aO 6 (.alloc (List.replicate 256 (.i .u8 0)))]) (.seq [1,2,4,6] (.ops [aO 16 (.loadN 256 (.t 6)),aO 17 (.fAddr (.t 1) 0),aO 18 (.load1 (.t 17)),aO 19 (.call 213 [(.t 16),(.v (.c (.i .i64 0))),(.v (.c (.i .i64 1))),(.t 18)]),aN (.storeN 256 (.t 6) (.t 19))]) (.seq [1,2,4,6] (.ops [aO 20 (.loadN 256 (.t 6)),aO 21 (.fAddr (.t 1) 1),aO 22 (.load1 (.t 21)),aO 23 (.call 213 [(.t 20),(.v (.c (.i .i64 2))),(.v (.c (.i .i64 2))),(.t 22)]),aN (.storeN 256 (.t 6) (.t 23))]) (.seq [1,2,4,6] (.ops [aO 24 (.loadN 256 (.t 6)),aO 25 (.fAddr (.t 1) 2),aO 26 (.load1 (.t 25)),aO 27 (.call 213 [(.t 24),(.v (.c (.i .i64 4))),(.v (.c (.i .i64 4))),(.t 26)]),aN (.storeN 256 (.t 6) (.t 27))]) (.seq [1,2,4,6] (.ops [aO 28 (.loadN 256 (.t 6)),aO 29 (.fAddr (.t 1) 3),aO 30 (.load1 (.t 29)),aO 31 (.call 213 [(.t 28),(.v (.c (.i .i64 8))),(.v (.c (.i .i64 2))),(.t 30)]),aN (.storeN 256 (.t 6) (.t 31))]) (.seq [2,4,6] (.seq [2,4,6,33,34] (.ops [aO 32 (.loadN 11 (.t 1)),aO 33 (.call 194 [(.t 32)]),aO 34 (.mv (.v (.c (.i .i64 0))))]) (.block 0 (.loop [2,4,6,33,34] B89))) B9a)))))))),[.cellN 2 32,.tmp 3]⟩
def A1O:B3:=A7 252 A40 (A7 213 R5 (A7 194 A2a B8))
def D0C (n:Nat):B4 (Val × A0):=E5 [2,4,6] (ax A1O n B9a) A_inode_Put.fin
def D0D (n:Nat):B4 (Val × A0):=D6 0 (D0C n)
def A8M (n m:Nat) (x2 x4 x6 x33 x34:Val) (h:A0):A6:=C8 (ax A1O n B89) [2,4,6,33,34] (D0D n) m [(2,x2),(4,x4),(6,x6),(33,x33),(34,x34)] h
def A64 (n:Nat) (args:List Val) (h:A0):A6:=ax A1O n A_inode_Put.code A_inode_Put.fin (params 0 args) h
def D0E (n:Nat):B4 (Val × A0):=E5 [2,4] (ax A1O n B9c) A_inode_Put.fin
def D0F (n:Nat):B4 (Val × A0):=D6 2 (D0E n)
def A8N (n m:Nat) (x2 x4 x6 x45:Val) (h:A0):A6:=C8 (ax A1O n B9b) [2,4,6,45] (D0F n) m [(2,x2),(4,x4),(6,x6),(45,x45)] h
theorem C3w (n:Nat) (a0:Val) (h:A0):A64 n [a0] h=bnd (cells? a0) fun c1=>bnd (A3 (((h ++ [some (Row.mk (c1) true)]) ++ [some (Row.mk (List.replicate 32 (.i .u8 0)) true)]) ++ [some (Row.mk (List.replicate 32 (.i .u8 0)) true)]) 11 (.c (.p h.length 0))) fun v2=>bnd (A40 [v2] (((h ++ [some (Row.mk (c1) true)]) ++ [some (Row.mk (List.replicate 32 (.i .u8 0)) true)]) ++ [some (Row.mk (List.replicate 32 (.i .u8 0)) true)])) fun p3=>bnd (A2 .neq p3.1 (.c (.i .i64 0))) fun v4=>cnd v4 (bnd (A3 p3.2 32 (.c (.p ((h ++ [some (Row.mk (c1) true)]) ++ [some (Row.mk (List.replicate 32 (.i .u8 0)) true)]).length 0))) fun v5=>bnd (B6 p3.2 32 (.c (.p (h ++ [some (Row.mk (c1) true)]).length 0)) v5) fun h6=>C7 [A3 h6 32 (.c (.p (h ++ [some (Row.mk (c1) true)]).length 0)),some p3.1] h6) (bnd (A3 (p3.2 ++ [some (Row.mk (List.replicate 256 (.i .u8 0)) true)]) 256 (.c (.p p3.2.length 0))) fun v7=>bnd (B7 (.c (.p h.length 0)) 0) fun v8=>bnd (A5 (p3.2 ++ [some (Row.mk (List.replicate 256 (.i .u8 0)) true)]) v8) fun v9=>bnd (R5 [v7,.c (.i .i64 0),.c (.i .i64 1),v9] (p3.2 ++ [some (Row.mk (List.replicate 256 (.i .u8 0)) true)])) fun p10=>bnd (B6 p10.2 256 (.c (.p p3.2.length 0)) p10.1) fun h11=>bnd (A3 h11 256 (.c (.p p3.2.length 0))) fun v12=>bnd (B7 (.c (.p h.length 0)) 1) fun v13=>bnd (A5 h11 v13) fun v14=>bnd (R5 [v12,.c (.i .i64 2),.c (.i .i64 2),v14] h11) fun p15=>bnd (B6 p15.2 256 (.c (.p p3.2.length 0)) p15.1) fun h16=>bnd (A3 h16 256 (.c (.p p3.2.length 0))) fun v17=>bnd (B7 (.c (.p h.length 0)) 2) fun v18=>bnd (A5 h16 v18) fun v19=>bnd (R5 [v17,.c (.i .i64 4),.c (.i .i64 4),v19] h16) fun p20=>bnd (B6 p20.2 256 (.c (.p p3.2.length 0)) p20.1) fun h21=>bnd (A3 h21 256 (.c (.p p3.2.length 0))) fun v22=>bnd (B7 (.c (.p h.length 0)) 3) fun v23=>bnd (A5 h21 v23) fun v24=>bnd (R5 [v22,.c (.i .i64 8),.c (.i .i64 2),v24] h21) fun p25=>bnd (B6 p25.2 256 (.c (.p p3.2.length 0)) p25.1) fun h26=>bnd (A3 h26 11 (.c (.p h.length 0))) fun v27=>bnd (A2a [v27] h26) fun p28=>A8M n n (.c (.p (h ++ [some (Row.mk (c1) true)]).length 0)) (.c (.p ((h ++ [some (Row.mk (c1) true)]) ++ [some (Row.mk (List.replicate 32 (.i .u8 0)) true)]).length 0)) (.c (.p p3.2.length 0)) p28.1 (.c (.i .i64 0)) p28.2):=by kernel_rfl
theorem B9e (n m:Nat) (x2 x4 x6 x33 x34:Val) (h:A0):A8M n (m + 1) x2 x4 x6 x33 x34 h=bnd (A2 .lss x34 (.c (.i .i64 7))) fun v29=>cnd v29 (bnd (W4 7 x33 x34) fun v30=>bnd (A3 h 256 x6) fun v31=>bnd (A2 .mul (.c (.i .i64 2)) x34) fun v32=>bnd (A2 .add (.c (.i .i64 10)) v32) fun v33=>bnd (R5 [v31,v33,.c (.i .i64 2),v30] h) fun p34=>bnd (B6 p34.2 256 x6 p34.1) fun h35=>bnd (A2 .add x34 (.c (.i .i64 1))) fun v36=>A8M n m x2 x4 x6 x33 v36 h35) (A8N n n x2 x4 x6 (.c (.i .i64 0)) h):=by kernel_rfl
theorem B9f (n m:Nat) (x2 x4 x6 x45:Val) (h:A0):A8N n (m + 1) x2 x4 x6 x45 h=bnd (A2 .lss x45 (.c (.i .i64 32))) fun v37=>cnd v37 (bnd (D8 256 1 x6 x45) fun v38=>bnd (A5 h v38) fun v39=>bnd (D8 32 1 x4 x45) fun v40=>bnd (F9 h v40 v39) fun h41=>bnd (A2 .add x45 (.c (.i .i64 1))) fun v42=>A8N n m x2 x4 x6 v42 h41) (bnd (A3 h 32 x4) fun v43=>bnd (B6 h 32 x2 v43) fun h44=>C7 [A3 h44 32 x2,some (.c (.i .i64 0))] h44):=by kernel_rfl
theorem K_inode_Put:FnK Tryz.prog 223 A_inode_Put A1O A64:=.mk' (A9 C51 (A9 B1B (A9 B4R C1))) Tryz.func223 (by kernel_rfl) (fun _ _ _=>C0)
def A2b:Fun:=tidy (Lim A_inode_Put A1O)
theorem B4S:SOk Tryz.prog 223 A2b:=K_inode_Put.sok
theorem C57:D1 A64 A2b:=K_inode_Put.flat
def B83:ACode:=.seq [2,3,4,17,18] (.ops [aO 18 (.bin .lss (.t 17) (.v (.c (.i .i64 6))))]) (.seq [2,3,4,17] (.cond (.t 18) .skip (.exit 0)) (.seq [2,3,4,17] (.block 1 (.seq [2,3,4,5,17] (.ops [aO 19 (.mv (.t 17)),aO 5 (.mv (.t 19))]) (.ops [aO 20 (.mv (.t 5)),aO 21 (.loadN 256 (.t 3)),aO 22 (.mv (.t 5)),aO 23 (.bin .mul (.v (.c (.i .i64 2))) (.t 22)),aO 24 (.bin .add (.v (.c (.i .i64 10))) (.t 23)),aO 25 (.call 142 [(.t 21),(.t 24),(.v (.c (.i .i64 2)))]),aO 26 (.fAddr (.t 4) 4),aO 27 (.iAddrA 6 1 (.t 26) (.t 20)),aN (.store1 (.t 27) (.t 25))]))) (.ops [aO 28 (.bin .add (.t 17) (.v (.c (.i .i64 1)))),aO 17 (.mv (.t 28))])))
def B84:ACode:=.seq [2,4] (.ops [aO 29 (.loadN 256 (.t 3)),aO 30 (.call 142 [(.t 29),(.v (.c (.i .i64 22))),(.v (.c (.i .i64 2)))]),aO 31 (.fAddr (.t 4) 10),aN (.store1 (.t 31) (.t 30))]) (.seq [2] (.ops [aO 32 (.loadN 11 (.t 4)),aN (.storeN 11 (.t 2) (.t 32))]) .ret)
def A_inode_Get:AFn:=⟨.seq [1,2] (.ops [aO 1 (.box (.t 0)),aO 2 (.alloc ([.i .i64 0,.i .i64 0,.i .i64 0,.i .i64 0,.i .i64 0,.i .i64 0,.i .i64 0,.i .i64 0,.i .i64 0,.i .i64 0,.i .i64 0]))]) (.seq [2,3] (.ops [aO 6 (.slA 32 1 (.t 1) none none),aO 7 (.call 212 [(.t 6)]),aO 3 (.alloc (List.replicate 256 (.i .u8 0))),aN (.storeN 256 (.t 3) (.t 7))]) (.seq [2,3,4] (.draw 1 [aO 8 (.loadN 256 (.t 3)),aO 9 (.call 142 [(.t 8),(.v (.c (.i .i64 0))),(.v (.c (.i .i64 1)))]),aO 10 (.loadN 256 (.t 3)),aO 11 (.call 142 [(.t 10),(.v (.c (.i .i64 2))),(.v (.c (.i .i64 2)))]),aO 12 (.loadN 256 (.t 3)),aO 13 (.call 142 [(.t 12),(.v (.c (.i .i64 4))),(.v (.c (.i .i64 4)))]),aO 14 (.loadN 256 (.t 3)),aO 15 (.call 142 [(.t 14),(.v (.c (.i .i64 8))),(.v (.c (.i .i64 2)))]),aO 16 (.build ([.i .i64 0,.i .i64 0,.i .i64 0,.i .i64 0,.i .i64 0,.i .i64 0,.i .i64 0,.i .i64 0,.i .i64 0,.i .i64 0,.i .i64 0]) [(0,1,(.t 9)),(1,1,(.t 11)),(2,1,(.t 13)),(3,1,(.t 15))]),aS 4 0 (.alloc ([.i .i64 0,.i .i64 0,.i .i64 0,.i .i64 0,.i .i64 0,.i .i64 0,.i .i64 0,.i .i64 0,.i .i64 0,.i .i64 0,.i .i64 0]))] [aN (.storeN 11 (.t 4) (.t 16))]) (.seq [2,3,4] (.seq [2,3,4,17] (.ops [aO 17 (.mv (.v (.c (.i .i64 0))))]) (.block 0 (.loop [2,3,4,17] B83))) B84))),[.cellN 2 11]⟩
def A35:B3:=A7 212 Z4 (A7 142 P6 B8)
def D0y (n:Nat):B4 (Val × A0):=E5 [2,3,4] (ax A35 n B84) A_inode_Get.fin
def D0z (n:Nat):B4 (Val × A0):=D6 0 (D0y n)
def A8K (n m:Nat) (x2 x3 x4 x17:Val) (h:A0):A6:=C8 (ax A35 n B83) [2,3,4,17] (D0z n) m [(2,x2),(3,x3),(4,x4),(17,x17)] h
def A62 (n:Nat) (args:List Val) (h:A0):A6:=ax A35 n A_inode_Get.code A_inode_Get.fin (params 0 args) h
theorem C3u (n:Nat) (a0:Val) (h:A0):A62 n [a0] h=bnd (cells? a0) fun c1=>bnd (Q7 ((h ++ [some (Row.mk (c1) true)]) ++ [some (Row.mk ([.i .i64 0,.i .i64 0,.i .i64 0,.i .i64 0,.i .i64 0,.i .i64 0,.i .i64 0,.i .i64 0,.i .i64 0,.i .i64 0,.i .i64 0]) true)]) 32 1 (.c (.p h.length 0)) none none) fun v2=>bnd (Z4 [v2] ((h ++ [some (Row.mk (c1) true)]) ++ [some (Row.mk ([.i .i64 0,.i .i64 0,.i .i64 0,.i .i64 0,.i .i64 0,.i .i64 0,.i .i64 0,.i .i64 0,.i .i64 0,.i .i64 0,.i .i64 0]) true)])) fun p3=>bnd (B6 (p3.2 ++ [some (Row.mk (List.replicate 256 (.i .u8 0)) true)]) 256 (.c (.p p3.2.length 0)) p3.1) fun h4=>bnd (A3 h4 256 (.c (.p p3.2.length 0))) fun v5=>bnd (quiet (h4 ++ [none]) (P6 [v5,.c (.i .i64 0),.c (.i .i64 1)] (h4 ++ [none]))) fun p6=>bnd (A3 h4 256 (.c (.p p3.2.length 0))) fun v7=>bnd (quiet p6.2 (P6 [v7,.c (.i .i64 2),.c (.i .i64 2)] p6.2)) fun p8=>bnd (A3 h4 256 (.c (.p p3.2.length 0))) fun v9=>bnd (quiet p8.2 (P6 [v9,.c (.i .i64 4),.c (.i .i64 4)] p8.2)) fun p10=>bnd (A3 h4 256 (.c (.p p3.2.length 0))) fun v11=>bnd (quiet p10.2 (P6 [v11,.c (.i .i64 8),.c (.i .i64 2)] p10.2)) fun p12=>bnd (A8 ([.i .i64 0,.i .i64 0,.i .i64 0,.i .i64 0,.i .i64 0,.i .i64 0,.i .i64 0,.i .i64 0,.i .i64 0,.i .i64 0,.i .i64 0]) [(0,1,p6.1),(1,1,p8.1),(2,1,p10.1),(3,1,p12.1)]) fun c13=>bnd (B6 (p12.2.set (h4.length + 0) (some (Row.mk ([.i .i64 0,.i .i64 0,.i .i64 0,.i .i64 0,.i .i64 0,.i .i64 0,.i .i64 0,.i .i64 0,.i .i64 0,.i .i64 0,.i .i64 0]) true))) 11 (.c (.p (h4.length + 0) 0)) (.a c13)) fun h14=>A8K n n (.c (.p (h ++ [some (Row.mk (c1) true)]).length 0)) (.c (.p p3.2.length 0)) (.c (.p (h4.length + 0) 0)) (.c (.i .i64 0)) h14:=by kernel_rfl
theorem B85 (n m:Nat) (x2 x3 x4 x17:Val) (h:A0):A8K n (m + 1) x2 x3 x4 x17 h=bnd (A2 .lss x17 (.c (.i .i64 6))) fun v15=>cnd v15 (bnd (A3 h 256 x3) fun v16=>bnd (A2 .mul (.c (.i .i64 2)) x17) fun v17=>bnd (A2 .add (.c (.i .i64 10)) v17) fun v18=>bnd (P6 [v16,v18,.c (.i .i64 2)] h) fun p19=>bnd (B7 x4 4) fun v20=>bnd (D8 6 1 v20 x17) fun v21=>bnd (F9 p19.2 v21 p19.1) fun h22=>bnd (A2 .add x17 (.c (.i .i64 1))) fun v23=>A8K n m x2 x3 x4 v23 h22) (bnd (A3 h 256 x3) fun v24=>bnd (P6 [v24,.c (.i .i64 22),.c (.i .i64 2)] h) fun p25=>bnd (B7 x4 10) fun v26=>bnd (F9 p25.2 v26 p25.1) fun h27=>bnd (A3 h27 11 x4) fun v28=>bnd (B6 h27 11 x2 v28) fun h29=>mp (A3 h29 11 x2) fun v=>(v,h29)):=by kernel_rfl
theorem K_inode_Get:FnK Tryz.prog 222 A_inode_Get A35 A62:=.mk' (A9 A7u (A9 A7t C1)) Tryz.func222 (by kernel_rfl) (fun _ _ _=>C0)
def A42:Fun:=tidy (Lim A_inode_Get A35)
theorem C55:SOk Tryz.prog 222 A42:=K_inode_Get.sok
theorem C54:D1 A62 A42:=K_inode_Get.flat
def A_inode_Clean:AFn:=⟨.seq [1,2] (.ops [aO 1 (.box (.t 0)),aO 2 (.alloc ([.i .i64 0,.i .i64 0,.i .i64 0,.i .i64 0,.i .i64 0,.i .i64 0,.i .i64 0,.i .i64 0,.i .i64 0,.i .i64 0,.i .i64 0])),aO 3 (.mv (.v (.c (.b false))))]) (.seq [1,2,4] (.ops [aO 7 (.loadN 32 (.t 1)),aO 8 (.call 222 [(.t 7)]),aO 4 (.alloc ([.i .i64 0,.i .i64 0,.i .i64 0,.i .i64 0,.i .i64 0,.i .i64 0,.i .i64 0,.i .i64 0,.i .i64 0,.i .i64 0,.i .i64 0])),aN (.storeN 11 (.t 4) (.t 8))]) (.seq [2,4] (.seq [1,2,4,5,6] (.ops [aO 10 (.loadN 11 (.t 4)),aO 11 (.call 223 [(.t 10)]),aO 9 (.mv (.t 11)),aO 12 (.ext (.t 9) 0),aO 13 (.ext (.t 9) 1),aO 5 (.alloc (List.replicate 32 (.i .u8 0))),aN (.storeN 32 (.t 5) (.t 12)),aO 6 (.mv (.t 13))]) (.seq [2,4,20] (.ops [aO 14 (.mv (.t 6)),aO 15 (.bin .neq (.t 14) (.v (.c (.i .i64 0)))),aO 16 (.mv (.t 15)),aG 17 16 false (.loadN 32 (.t 5)),aG 18 16 false (.loadN 32 (.t 1)),aG 19 16 false (.eqA true (List.replicate 32 (.i .u8)) (.t 17) (.t 18)),aO 20 (.pick (.t 16) (.v (.c (.b true))) (.t 19))]) (.cond (.t 20) (.seq [2,3] (.ops [aO 21 (.build ([.i .i64 0,.i .i64 0,.i .i64 0,.i .i64 0,.i .i64 0,.i .i64 0,.i .i64 0,.i .i64 0,.i .i64 0,.i .i64 0,.i .i64 0]) []),aN (.storeN 11 (.t 2) (.t 21)),aO 3 (.mv (.v (.c (.b false))))]) .ret) .skip))) (.seq [2,3] (.ops [aO 22 (.loadN 11 (.t 4)),aN (.storeN 11 (.t 2) (.t 22)),aO 3 (.mv (.v (.c (.b true))))]) .ret))),[.cellN 2 11,.tmp 3]⟩
def B0p:B3:=A7 222 A42 (A7 223 A2b B8)
def A61 (n:Nat) (args:List Val) (h:A0):A6:=ax B0p n A_inode_Clean.code A_inode_Clean.fin (params 0 args) h
theorem C3t (n:Nat) (a0:Val) (h:A0):A61 n [a0] h=bnd (cells? a0) fun c1=>bnd (A3 ((h ++ [some (Row.mk (c1) true)]) ++ [some (Row.mk ([.i .i64 0,.i .i64 0,.i .i64 0,.i .i64 0,.i .i64 0,.i .i64 0,.i .i64 0,.i .i64 0,.i .i64 0,.i .i64 0,.i .i64 0]) true)]) 32 (.c (.p h.length 0))) fun v2=>bnd (A42 [v2] ((h ++ [some (Row.mk (c1) true)]) ++ [some (Row.mk ([.i .i64 0,.i .i64 0,.i .i64 0,.i .i64 0,.i .i64 0,.i .i64 0,.i .i64 0,.i .i64 0,.i .i64 0,.i .i64 0,.i .i64 0]) true)])) fun p3=>bnd (B6 (p3.2 ++ [some (Row.mk ([.i .i64 0,.i .i64 0,.i .i64 0,.i .i64 0,.i .i64 0,.i .i64 0,.i .i64 0,.i .i64 0,.i .i64 0,.i .i64 0,.i .i64 0]) true)]) 11 (.c (.p p3.2.length 0)) p3.1) fun h4=>bnd (A3 h4 11 (.c (.p p3.2.length 0))) fun v5=>bnd (A2b [v5] h4) fun p6=>bnd (C5 p6.1 0) fun v7=>bnd (C5 p6.1 1) fun v8=>bnd (B6 (p6.2 ++ [some (Row.mk (List.replicate 32 (.i .u8 0)) true)]) 32 (.c (.p p6.2.length 0)) v7) fun h9=>bnd (A2 .neq v8 (.c (.i .i64 0))) fun v10=>bnd (gd v10 false (bnd (A3 h9 32 (.c (.p p6.2.length 0))) fun v11=>some (v11,h9)) (some (.no,h9))) fun p12=>bnd (gd v10 false (bnd (A3 p12.2 32 (.c (.p h.length 0))) fun v13=>some (v13,p12.2)) (some (.no,p12.2))) fun p14=>bnd (gd v10 false (bnd (aeq true (List.replicate 32 (.i .u8)) p12.1 p14.1) fun v15=>some (v15,p14.2)) (some (.no,p14.2))) fun p16=>bnd (C4 v10 (.c (.b true)) p16.1) fun v17=>cnd v17 (bnd (A8 ([.i .i64 0,.i .i64 0,.i .i64 0,.i .i64 0,.i .i64 0,.i .i64 0,.i .i64 0,.i .i64 0,.i .i64 0,.i .i64 0,.i .i64 0]) []) fun c18=>bnd (B6 p16.2 11 (.c (.p (h ++ [some (Row.mk (c1) true)]).length 0)) (.a c18)) fun h19=>C7 [A3 h19 11 (.c (.p (h ++ [some (Row.mk (c1) true)]).length 0)),some (.c (.b false))] h19) (bnd (A3 p16.2 11 (.c (.p p3.2.length 0))) fun v20=>bnd (B6 p16.2 11 (.c (.p (h ++ [some (Row.mk (c1) true)]).length 0)) v20) fun h21=>C7 [A3 h21 11 (.c (.p (h ++ [some (Row.mk (c1) true)]).length 0)),some (.c (.b true))] h21):=by kernel_rfl
theorem K_inode_Clean:FnK Tryz.prog 147 A_inode_Clean B0p A61:=.mk' (A9 C55 (A9 B4S C1)) Tryz.func147 (by kernel_rfl) (fun _ _ _=>C0)
def A41:Fun:=tidy (Lim A_inode_Clean B0p)
theorem C53:SOk Tryz.prog 147 A41:=K_inode_Clean.sok
theorem C52:D1 A61 A41:=K_inode_Clean.flat
end Go.Proofs.YteckncopbicmcaaGreat
end
noncomputable section
namespace Go.Proofs.YteckncopbicmcaaGreat
open Go Go.Esc
set_option maxRecDepth 100000
def A_patch_Check:AFn:=⟨.seq [1] (.ops [aO 1 (.box (.t 0)),aO 2 (.mv (.v (.c (.i .i64 0))))]) (.seq [1,3] (.ops [aO 4 (.fAddr (.t 1) 1),aO 5 (.load1 (.t 4)),aO 6 (.len (.t 5)),aO 3 (.mv (.t 6))]) (.seq [] (.seq [24] (.ops [aO 7 (.mv (.t 3)),aO 8 (.bin .lss (.t 7) (.v (.c (.i .i64 1)))),aO 9 (.mv (.t 8)),aG 10 9 false (.mv (.t 3)),aG 11 9 false (.bin .gtr (.t 10) (.v (.c (.i .i64 256)))),aO 12 (.pick (.t 9) (.v (.c (.b true))) (.t 11)),aO 13 (.mv (.t 12)),aG 14 13 false (.fAddr (.t 1) 0),aG 15 13 false (.load1 (.t 14)),aG 16 13 false (.bin .lss (.t 15) (.v (.c (.i .i64 0)))),aO 17 (.pick (.t 13) (.v (.c (.b true))) (.t 16)),aO 18 (.mv (.t 17)),aG 19 18 false (.fAddr (.t 1) 0),aG 20 18 false (.load1 (.t 19)),aG 21 18 false (.mv (.t 3)),aG 22 18 false (.bin .sub (.v (.c (.i .i64 256))) (.t 21)),aG 23 18 false (.bin .gtr (.t 20) (.t 22)),aO 24 (.pick (.t 18) (.v (.c (.b true))) (.t 23))]) (.cond (.t 24) (.seq [2] (.ops [aO 2 (.mv (.v (.c (.i .i64 2))))]) .ret) .skip)) (.seq [2] (.ops [aO 2 (.mv (.v (.c (.i .i64 0))))]) .ret))),[.tmp 2]⟩
def B0x:B3:=B8
def A7f (n:Nat) (args:List Val) (h:A0):A6:=ax B0x n A_patch_Check.code A_patch_Check.fin (params 0 args) h
theorem C3P (n:Nat) (a0:Val) (h:A0):A7f n [a0] h=bnd (cells? a0) fun c1=>bnd (B7 (.c (.p h.length 0)) 1) fun v2=>bnd (A5 (h ++ [some (Row.mk (c1) true)]) v2) fun v3=>bnd (E3 v3) fun v4=>bnd (A2 .lss v4 (.c (.i .i64 1))) fun v5=>bnd (gd v5 false (some (v4,(h ++ [some (Row.mk (c1) true)]))) (some (.no,(h ++ [some (Row.mk (c1) true)])))) fun p6=>bnd (gd v5 false (bnd (A2 .gtr p6.1 (.c (.i .i64 256))) fun v7=>some (v7,p6.2)) (some (.no,p6.2))) fun p8=>bnd (C4 v5 (.c (.b true)) p8.1) fun v9=>bnd (gd v9 false (bnd (B7 (.c (.p h.length 0)) 0) fun v10=>some (v10,p8.2)) (some (.no,p8.2))) fun p11=>bnd (gd v9 false (bnd (A5 p11.2 p11.1) fun v12=>some (v12,p11.2)) (some (.no,p11.2))) fun p13=>bnd (gd v9 false (bnd (A2 .lss p13.1 (.c (.i .i64 0))) fun v14=>some (v14,p13.2)) (some (.no,p13.2))) fun p15=>bnd (C4 v9 (.c (.b true)) p15.1) fun v16=>bnd (gd v16 false (bnd (B7 (.c (.p h.length 0)) 0) fun v17=>some (v17,p15.2)) (some (.no,p15.2))) fun p18=>bnd (gd v16 false (bnd (A5 p18.2 p18.1) fun v19=>some (v19,p18.2)) (some (.no,p18.2))) fun p20=>bnd (gd v16 false (some (v4,p20.2)) (some (.no,p20.2))) fun p21=>bnd (gd v16 false (bnd (A2 .sub (.c (.i .i64 256)) p21.1) fun v22=>some (v22,p21.2)) (some (.no,p21.2))) fun p23=>bnd (gd v16 false (bnd (A2 .gtr p20.1 p23.1) fun v24=>some (v24,p23.2)) (some (.no,p23.2))) fun p25=>bnd (C4 v16 (.c (.b true)) p25.1) fun v26=>cnd v26 (some ((.c (.i .i64 2)),p25.2)) (some ((.c (.i .i64 0)),p25.2)):=by kernel_rfl
theorem K_patch_Check:FnK Tryz.prog 244 A_patch_Check B0x A7f:=.mk' (C1) Tryz.func244 (by kernel_rfl) (fun _ _ _=>C0)
def A5a:Fun:=tidy (Lim A_patch_Check B0x)
theorem C6A:SOk Tryz.prog 244 A5a:=K_patch_Check.sok
theorem C6z:D1 A7f A5a:=K_patch_Check.flat
def C0y:ACode:=.seq [2,3,4,12,13,14,15] (.ops [aO 15 (.bin .lss (.t 14) (.t 13))]) (.seq [2,3,4,12,13,14] (.cond (.t 15) .skip (.exit 0)) (.seq [2,3,4,12,13,14] (.block 1 (.seq [2,3,4,5,6,12,13,14] (.ops [aO 16 (.mv (.t 14)),aO 17 (.iAddrL 1 (.t 12) (.t 14)),aO 18 (.load1 (.t 17)),aO 5 (.mv (.t 16)),aO 6 (.mv (.t 18))]) (.ops [aO 19 (.fAddr (.t 3) 0),aO 20 (.load1 (.t 19)),aO 21 (.mv (.t 5)),aO 22 (.bin .add (.t 20) (.t 21)),aO 23 (.mv (.t 6)),aO 24 (.iAddrA 256 1 (.t 2) (.t 22)),aN (.store1 (.t 24) (.t 23))]))) (.ops [aO 25 (.bin .add (.t 14) (.v (.c (.i .i64 1)))),aO 14 (.mv (.t 25))])))
def C0z:ACode:=.seq [4] (.ops [aO 26 (.loadN 256 (.t 2)),aN (.storeN 256 (.t 4) (.t 26))]) .ret
def A_patch_Lay:AFn:=⟨.seq [2,3,4] (.ops [aO 2 (.box (.t 0)),aO 3 (.box (.t 1)),aO 4 (.alloc (List.replicate 256 (.i .u8 0)))]) (.seq [2,3,4] (.seq [2,3,4,9] (.ops [aO 7 (.loadN 2 (.t 3)),aO 8 (.call 244 [(.t 7)]),aO 9 (.bin .neq (.t 8) (.v (.c (.i .i64 0))))]) (.cond (.t 9) (.seq [4] (.ops [aO 10 (.loadN 256 (.t 2)),aN (.storeN 256 (.t 4) (.t 10))]) .ret) .skip)) (.seq [2,4] (.seq [2,3,4,12,13,14] (.ops [aO 11 (.fAddr (.t 3) 1),aO 12 (.load1 (.t 11)),aO 13 (.len (.t 12)),aO 14 (.mv (.v (.c (.i .i64 0))))]) (.block 0 (.loop [2,3,4,12,13,14] C0y))) C0z)),[.cellN 4 256]⟩
def A4g:B3:=A7 244 A5a B8
def D15 (n:Nat):B4 (Val × A0):=E5 [2,4] (ax A4g n C0z) A_patch_Lay.fin
def D16 (n:Nat):B4 (Val × A0):=D6 0 (D15 n)
def A9o (n m:Nat) (x2 x3 x4 x12 x13 x14:Val) (h:A0):A6:=C8 (ax A4g n C0y) [2,3,4,12,13,14] (D16 n) m [(2,x2),(3,x3),(4,x4),(12,x12),(13,x13),(14,x14)] h
def A7g (n:Nat) (args:List Val) (h:A0):A6:=ax A4g n A_patch_Lay.code A_patch_Lay.fin (params 0 args) h
theorem C3Q (n:Nat) (a0 a1:Val) (h:A0):A7g n [a0,a1] h=bnd (cells? a0) fun c1=>bnd (cells? a1) fun c2=>bnd (A3 (((h ++ [some (Row.mk (c1) true)]) ++ [some (Row.mk (c2) true)]) ++ [some (Row.mk (List.replicate 256 (.i .u8 0)) true)]) 2 (.c (.p (h ++ [some (Row.mk (c1) true)]).length 0))) fun v3=>bnd (A5a [v3] (((h ++ [some (Row.mk (c1) true)]) ++ [some (Row.mk (c2) true)]) ++ [some (Row.mk (List.replicate 256 (.i .u8 0)) true)])) fun p4=>bnd (A2 .neq p4.1 (.c (.i .i64 0))) fun v5=>cnd v5 (bnd (A3 p4.2 256 (.c (.p h.length 0))) fun v6=>bnd (B6 p4.2 256 (.c (.p ((h ++ [some (Row.mk (c1) true)]) ++ [some (Row.mk (c2) true)]).length 0)) v6) fun h7=>mp (A3 h7 256 (.c (.p ((h ++ [some (Row.mk (c1) true)]) ++ [some (Row.mk (c2) true)]).length 0))) fun v=>(v,h7)) (bnd (B7 (.c (.p (h ++ [some (Row.mk (c1) true)]).length 0)) 1) fun v8=>bnd (A5 p4.2 v8) fun v9=>bnd (E3 v9) fun v10=>A9o n n (.c (.p h.length 0)) (.c (.p (h ++ [some (Row.mk (c1) true)]).length 0)) (.c (.p ((h ++ [some (Row.mk (c1) true)]) ++ [some (Row.mk (c2) true)]).length 0)) v9 v10 (.c (.i .i64 0)) p4.2):=by kernel_rfl
theorem C0A (n m:Nat) (x2 x3 x4 x12 x13 x14:Val) (h:A0):A9o n (m + 1) x2 x3 x4 x12 x13 x14 h=bnd (A2 .lss x14 x13) fun v11=>cnd v11 (bnd (B9 1 x12 x14) fun v12=>bnd (A5 h v12) fun v13=>bnd (B7 x3 0) fun v14=>bnd (A5 h v14) fun v15=>bnd (A2 .add v15 x14) fun v16=>bnd (D8 256 1 x2 v16) fun v17=>bnd (F9 h v17 v13) fun h18=>bnd (A2 .add x14 (.c (.i .i64 1))) fun v19=>A9o n m x2 x3 x4 x12 x13 v19 h18) (bnd (A3 h 256 x2) fun v20=>bnd (B6 h 256 x4 v20) fun h21=>mp (A3 h21 256 x4) fun v=>(v,h21)):=by kernel_rfl
theorem K_patch_Lay:FnK Tryz.prog 191 A_patch_Lay A4g A7g:=.mk' (A9 C6A C1) Tryz.func191 (by kernel_rfl) (fun _ _ _=>C0)
def A5b:Fun:=tidy (Lim A_patch_Lay A4g)
theorem C6C:SOk Tryz.prog 191 A5b:=K_patch_Lay.sok
theorem C6B:D1 A7g A5b:=K_patch_Lay.flat
end Go.Proofs.YteckncopbicmcaaGreat
end
noncomputable section
namespace Go.Proofs.YteckncopbicmcaaGreat
open Go Go.Esc
set_option maxRecDepth 100000
def A_table_Patch:AFn:=⟨.seq [0,3,4] (.ops [aO 3 (.box (.t 1)),aO 4 (.alloc ([.i .i64 0,.ns])),aO 5 (.mv (.v (.c (.i .i64 0))))]) (.seq [0,3,4] (.seq [0,3,4,13] (.ops [aO 8 (.mv (.t 0)),aO 9 (.bin .lss (.t 8) (.v (.c (.i .i64 0)))),aO 10 (.mv (.t 9)),aG 11 10 false (.mv (.t 0)),aG 12 10 false (.bin .geq (.t 11) (.v (.c (.i .i64 8)))),aO 13 (.pick (.t 10) (.v (.c (.b true))) (.t 12))]) (.cond (.t 13) (.seq [4,5] (.ops [aO 14 (.build ([.i .i64 0,.ns]) []),aN (.storeN 2 (.t 4) (.t 14)),aO 5 (.mv (.v (.c (.i .i64 2))))]) .ret) .skip)) (.seq [0,4,6,7] (.ops [aO 16 (.loadN 11 (.t 3)),aO 17 (.call 223 [(.t 16)]),aO 15 (.mv (.t 17)),aO 18 (.ext (.t 15) 0),aO 19 (.ext (.t 15) 1),aO 6 (.alloc (List.replicate 32 (.i .u8 0))),aN (.storeN 32 (.t 6) (.t 18)),aO 7 (.mv (.t 19))]) (.seq [0,4,6] (.seq [0,4,6,7,21] (.ops [aO 20 (.mv (.t 7)),aO 21 (.bin .neq (.t 20) (.v (.c (.i .i64 0))))]) (.cond (.t 21) (.seq [4,5] (.ops [aO 22 (.build ([.i .i64 0,.ns]) []),aO 23 (.mv (.t 7)),aN (.storeN 2 (.t 4) (.t 22)),aO 5 (.mv (.t 23))]) .ret) .skip)) (.seq [4,5] (.ops [aO 24 (.mv (.t 0)),aO 25 (.bin .mul (.t 24) (.v (.c (.i .i64 32)))),aO 26 (.buildSl 1 0 ([]) []),aO 27 (.slA 32 1 (.t 6) none none),aO 28 (.app 1 (.t 26) (.t 27)),aO 29 (.build ([.i .i64 0,.ns]) [(0,1,(.t 25)),(1,1,(.t 28))]),aN (.storeN 2 (.t 4) (.t 29)),aO 5 (.mv (.v (.c (.i .i64 0))))]) .ret)))),[.cellN 4 2,.tmp 5]⟩
def B0B:B3:=A7 223 A2b B8
def A7l (n:Nat) (args:List Val) (h:A0):A6:=ax B0B n A_table_Patch.code A_table_Patch.fin (params 0 args) h
theorem C3V (n:Nat) (a0 a1:Val) (h:A0):A7l n [a0,a1] h=bnd (cells? a1) fun c1=>bnd (A2 .lss a0 (.c (.i .i64 0))) fun v2=>bnd (gd v2 false (some (a0,((h ++ [some (Row.mk (c1) true)]) ++ [some (Row.mk ([.i .i64 0,.ns]) true)]))) (some (.no,((h ++ [some (Row.mk (c1) true)]) ++ [some (Row.mk ([.i .i64 0,.ns]) true)])))) fun p3=>bnd (gd v2 false (bnd (A2 .geq p3.1 (.c (.i .i64 8))) fun v4=>some (v4,p3.2)) (some (.no,p3.2))) fun p5=>bnd (C4 v2 (.c (.b true)) p5.1) fun v6=>cnd v6 (bnd (A8 ([.i .i64 0,.ns]) []) fun c7=>bnd (B6 p5.2 2 (.c (.p (h ++ [some (Row.mk (c1) true)]).length 0)) (.a c7)) fun h8=>C7 [A3 h8 2 (.c (.p (h ++ [some (Row.mk (c1) true)]).length 0)),some (.c (.i .i64 2))] h8) (bnd (A3 p5.2 11 (.c (.p h.length 0))) fun v9=>bnd (A2b [v9] p5.2) fun p10=>bnd (C5 p10.1 0) fun v11=>bnd (C5 p10.1 1) fun v12=>bnd (B6 (p10.2 ++ [some (Row.mk (List.replicate 32 (.i .u8 0)) true)]) 32 (.c (.p p10.2.length 0)) v11) fun h13=>bnd (A2 .neq v12 (.c (.i .i64 0))) fun v14=>cnd v14 (bnd (A8 ([.i .i64 0,.ns]) []) fun c15=>bnd (B6 h13 2 (.c (.p (h ++ [some (Row.mk (c1) true)]).length 0)) (.a c15)) fun h16=>C7 [A3 h16 2 (.c (.p (h ++ [some (Row.mk (c1) true)]).length 0)),some v12] h16) (bnd (A2 .mul a0 (.c (.i .i64 32))) fun v17=>bnd (A8 ([]) []) fun c18=>bnd (Q7 (h13 ++ [some (Row.mk (c18) true)]) 32 1 (.c (.p p10.2.length 0)) none none) fun v19=>bnd (E7 (h13 ++ [some (Row.mk (c18) true)]) 1 (.c (.sl h13.length 0 0 1)) v19) fun p20=>bnd (A8 ([.i .i64 0,.ns]) [(0,1,v17),(1,1,p20.1)]) fun c21=>bnd (B6 p20.2 2 (.c (.p (h ++ [some (Row.mk (c1) true)]).length 0)) (.a c21)) fun h22=>C7 [A3 h22 2 (.c (.p (h ++ [some (Row.mk (c1) true)]).length 0)),some (.c (.i .i64 0))] h22)):=by kernel_rfl
theorem K_table_Patch:FnK Tryz.prog 190 A_table_Patch B0B A7l:=.mk' (A9 B4S C1) Tryz.func190 (by kernel_rfl) (fun _ _ _=>C0)
def A5e:Fun:=tidy (Lim A_table_Patch B0B)
theorem C6J:SOk Tryz.prog 190 A5e:=K_table_Patch.sok
theorem C6K:B1C A7l A5e:=K_table_Patch.tidy
def A_table_With:AFn:=⟨.seq [1,3,5,6] (.ops [aO 3 (.box (.t 0)),aO 5 (.box (.t 2)),aO 6 (.alloc (List.replicate 256 (.i .u8 0))),aO 7 (.mv (.v (.c (.i .i64 0))))]) (.seq [3,6,8,9] (.ops [aO 11 (.mv (.t 1)),aO 12 (.loadN 11 (.t 5)),aO 13 (.call 190 [(.t 11),(.t 12)]),aO 10 (.mv (.t 13)),aO 14 (.ext (.t 10) 0),aO 15 (.ext (.t 10) 1),aO 8 (.alloc ([.i .i64 0,.ns])),aN (.storeN 2 (.t 8) (.t 14)),aO 9 (.mv (.t 15))]) (.seq [3,6,8] (.seq [3,6,8,9,17] (.ops [aO 16 (.mv (.t 9)),aO 17 (.bin .neq (.t 16) (.v (.c (.i .i64 0))))]) (.cond (.t 17) (.seq [6,7] (.ops [aO 18 (.loadN 256 (.t 3)),aO 19 (.mv (.t 9)),aN (.storeN 256 (.t 6) (.t 18)),aO 7 (.mv (.t 19))]) .ret) .skip)) (.seq [6,7] (.ops [aO 20 (.loadN 256 (.t 3)),aO 21 (.loadN 2 (.t 8)),aO 22 (.call 191 [(.t 20),(.t 21)]),aN (.storeN 256 (.t 6) (.t 22)),aO 7 (.mv (.v (.c (.i .i64 0))))]) .ret))),[.cellN 6 256,.tmp 7]⟩
def B0C:B3:=A7 190 A5e (A7 191 A5b B8)
def A7n (n:Nat) (args:List Val) (h:A0):A6:=ax B0C n A_table_With.code A_table_With.fin (params 0 args) h
theorem C3X (n:Nat) (a0 a1 a2:Val) (h:A0):A7n n [a0,a1,a2] h=bnd (cells? a0) fun c1=>bnd (cells? a2) fun c2=>bnd (A3 (((h ++ [some (Row.mk (c1) true)]) ++ [some (Row.mk (c2) true)]) ++ [some (Row.mk (List.replicate 256 (.i .u8 0)) true)]) 11 (.c (.p (h ++ [some (Row.mk (c1) true)]).length 0))) fun v3=>bnd (A5e [a1,v3] (((h ++ [some (Row.mk (c1) true)]) ++ [some (Row.mk (c2) true)]) ++ [some (Row.mk (List.replicate 256 (.i .u8 0)) true)])) fun p4=>bnd (C5 p4.1 0) fun v5=>bnd (C5 p4.1 1) fun v6=>bnd (B6 (p4.2 ++ [some (Row.mk ([.i .i64 0,.ns]) true)]) 2 (.c (.p p4.2.length 0)) v5) fun h7=>bnd (A2 .neq v6 (.c (.i .i64 0))) fun v8=>cnd v8 (bnd (A3 h7 256 (.c (.p h.length 0))) fun v9=>bnd (B6 h7 256 (.c (.p ((h ++ [some (Row.mk (c1) true)]) ++ [some (Row.mk (c2) true)]).length 0)) v9) fun h10=>C7 [A3 h10 256 (.c (.p ((h ++ [some (Row.mk (c1) true)]) ++ [some (Row.mk (c2) true)]).length 0)),some v6] h10) (bnd (A3 h7 256 (.c (.p h.length 0))) fun v11=>bnd (A3 h7 2 (.c (.p p4.2.length 0))) fun v12=>bnd (A5b [v11,v12] h7) fun p13=>bnd (B6 p13.2 256 (.c (.p ((h ++ [some (Row.mk (c1) true)]) ++ [some (Row.mk (c2) true)]).length 0)) p13.1) fun h14=>C7 [A3 h14 256 (.c (.p ((h ++ [some (Row.mk (c1) true)]) ++ [some (Row.mk (c2) true)]).length 0)),some (.c (.i .i64 0))] h14):=by kernel_rfl
theorem K_table_With:FnK Tryz.prog 115 A_table_With B0C A7n:=.mk' (A9 C6J (A9 C6C C1)) Tryz.func115 (by kernel_rfl) (fun _ _ _=>C0)
def A25:Fun:=tidy (Lim A_table_With B0C)
theorem C6O:SOk Tryz.prog 115 A25:=K_table_With.sok
theorem C6N:D1 A7n A25:=K_table_With.flat
def C1Z:ACode:=.seq [1,2,4,5,14,15] (.ops [aO 15 (.bin .lss (.t 14) (.v (.c (.i .i64 32))))]) (.seq [1,2,4,5,14] (.cond (.t 15) .skip (.exit 0)) (.seq [1,2,4,5,14] (.block 1 (.seq [1,2,4,5,6,14] (.ops [aO 16 (.mv (.t 14)),aO 6 (.mv (.t 16))]) (.ops [aO 17 (.mv (.t 6)),aO 18 (.mv (.t 1)),aO 19 (.bin .mul (.t 18) (.v (.c (.i .i64 32)))),aO 20 (.mv (.t 6)),aO 21 (.bin .add (.t 19) (.t 20)),aO 22 (.iAddrA 256 1 (.t 2) (.t 21)),aO 23 (.load1 (.t 22)),aO 24 (.iAddrA 32 1 (.t 5) (.t 17)),aN (.store1 (.t 24) (.t 23))]))) (.ops [aO 25 (.bin .add (.t 14) (.v (.c (.i .i64 1)))),aO 14 (.mv (.t 25))])))
def C10:ACode:=.seq [4] (.ops [aO 26 (.loadN 32 (.t 5)),aN (.storeN 32 (.t 4) (.t 26))]) .ret
def A_table_Raw:AFn:=⟨.seq [1,2,4] (.ops [aO 2 (.box (.t 0)),aO 4 (.alloc (List.replicate 32 (.i .u8 0)))]) (.seq [1,2,4,5] (.ops [aO 5 (.alloc (List.replicate 32 (.i .u8 0)))]) (.seq [1,2,4,5] (.seq [1,2,4,5,12] (.ops [aO 7 (.mv (.t 1)),aO 8 (.bin .lss (.t 7) (.v (.c (.i .i64 0)))),aO 9 (.mv (.t 8)),aG 10 9 false (.mv (.t 1)),aG 11 9 false (.bin .geq (.t 10) (.v (.c (.i .i64 8)))),aO 12 (.pick (.t 9) (.v (.c (.b true))) (.t 11))]) (.cond (.t 12) (.seq [4] (.ops [aO 13 (.loadN 32 (.t 5)),aN (.storeN 32 (.t 4) (.t 13))]) .ret) .skip)) (.seq [4,5] (.seq [1,2,4,5,14] (.ops [aO 14 (.mv (.v (.c (.i .i64 0))))]) (.block 0 (.loop [1,2,4,5,14] C1Z))) C10))),[.cellN 4 32]⟩
def A4h:B3:=B8
def D3T (n:Nat):B4 (Val × A0):=E5 [4,5] (ax A4h n C10) A_table_Raw.fin
def D3U (n:Nat):B4 (Val × A0):=D6 0 (D3T n)
def A9D (n m:Nat) (x1 x2 x4 x5 x14:Val) (h:A0):A6:=C8 (ax A4h n C1Z) [1,2,4,5,14] (D3U n) m [(1,x1),(2,x2),(4,x4),(5,x5),(14,x14)] h
def A7m (n:Nat) (args:List Val) (h:A0):A6:=ax A4h n A_table_Raw.code A_table_Raw.fin (params 0 args) h
theorem C3W (n:Nat) (a0 a1:Val) (h:A0):A7m n [a0,a1] h=bnd (cells? a0) fun c1=>bnd (A2 .lss a1 (.c (.i .i64 0))) fun v2=>bnd (gd v2 false (some (a1,(((h ++ [some (Row.mk (c1) true)]) ++ [some (Row.mk (List.replicate 32 (.i .u8 0)) true)]) ++ [some (Row.mk (List.replicate 32 (.i .u8 0)) true)]))) (some (.no,(((h ++ [some (Row.mk (c1) true)]) ++ [some (Row.mk (List.replicate 32 (.i .u8 0)) true)]) ++ [some (Row.mk (List.replicate 32 (.i .u8 0)) true)])))) fun p3=>bnd (gd v2 false (bnd (A2 .geq p3.1 (.c (.i .i64 8))) fun v4=>some (v4,p3.2)) (some (.no,p3.2))) fun p5=>bnd (C4 v2 (.c (.b true)) p5.1) fun v6=>cnd v6 (bnd (A3 p5.2 32 (.c (.p ((h ++ [some (Row.mk (c1) true)]) ++ [some (Row.mk (List.replicate 32 (.i .u8 0)) true)]).length 0))) fun v7=>bnd (B6 p5.2 32 (.c (.p (h ++ [some (Row.mk (c1) true)]).length 0)) v7) fun h8=>mp (A3 h8 32 (.c (.p (h ++ [some (Row.mk (c1) true)]).length 0))) fun v=>(v,h8)) (A9D n n a1 (.c (.p h.length 0)) (.c (.p (h ++ [some (Row.mk (c1) true)]).length 0)) (.c (.p ((h ++ [some (Row.mk (c1) true)]) ++ [some (Row.mk (List.replicate 32 (.i .u8 0)) true)]).length 0)) (.c (.i .i64 0)) p5.2):=by kernel_rfl
theorem C11 (n m:Nat) (x1 x2 x4 x5 x14:Val) (h:A0):A9D n (m + 1) x1 x2 x4 x5 x14 h=bnd (A2 .lss x14 (.c (.i .i64 32))) fun v9=>cnd v9 (bnd (A2 .mul x1 (.c (.i .i64 32))) fun v10=>bnd (A2 .add v10 x14) fun v11=>bnd (D8 256 1 x2 v11) fun v12=>bnd (A5 h v12) fun v13=>bnd (D8 32 1 x5 x14) fun v14=>bnd (F9 h v14 v13) fun h15=>bnd (A2 .add x14 (.c (.i .i64 1))) fun v16=>A9D n m x1 x2 x4 x5 v16 h15) (bnd (A3 h 32 x5) fun v17=>bnd (B6 h 32 x4 v17) fun h18=>mp (A3 h18 32 x4) fun v=>(v,h18)):=by kernel_rfl
theorem K_table_Raw:FnK Tryz.prog 148 A_table_Raw A4h A7m:=.mk' (C1) Tryz.func148 (by kernel_rfl) (fun _ _ _=>C0)
def A5f:Fun:=tidy (Lim A_table_Raw A4h)
theorem C6M:SOk Tryz.prog 148 A5f:=K_table_Raw.sok
theorem C6L:D1 A7m A5f:=K_table_Raw.flat
def A_table_Get:AFn:=⟨.seq [1,2,4] (.ops [aO 2 (.box (.t 0)),aO 4 (.alloc ([.i .i64 0,.i .i64 0,.i .i64 0,.i .i64 0,.i .i64 0,.i .i64 0,.i .i64 0,.i .i64 0,.i .i64 0,.i .i64 0,.i .i64 0])),aO 5 (.mv (.v (.c (.b false))))]) (.seq [1,2,4] (.seq [1,2,4,11] (.ops [aO 6 (.mv (.t 1)),aO 7 (.bin .lss (.t 6) (.v (.c (.i .i64 0)))),aO 8 (.mv (.t 7)),aG 9 8 false (.mv (.t 1)),aG 10 8 false (.bin .geq (.t 9) (.v (.c (.i .i64 8)))),aO 11 (.pick (.t 8) (.v (.c (.b true))) (.t 10))]) (.cond (.t 11) (.seq [4,5] (.ops [aO 12 (.build ([.i .i64 0,.i .i64 0,.i .i64 0,.i .i64 0,.i .i64 0,.i .i64 0,.i .i64 0,.i .i64 0,.i .i64 0,.i .i64 0,.i .i64 0]) []),aN (.storeN 11 (.t 4) (.t 12)),aO 5 (.mv (.v (.c (.b false))))]) .ret) .skip)) (.seq [4,5] (.ops [aO 13 (.loadN 256 (.t 2)),aO 14 (.mv (.t 1)),aO 15 (.call 148 [(.t 13),(.t 14)]),aO 16 (.call 147 [(.t 15)]),aO 17 (.ext (.t 16) 0),aO 18 (.ext (.t 16) 1),aN (.storeN 11 (.t 4) (.t 17)),aO 5 (.mv (.t 18))]) .ret)),[.cellN 4 11,.tmp 5]⟩
def B0A:B3:=A7 148 A5f (A7 147 A41 B8)
def A7k (n:Nat) (args:List Val) (h:A0):A6:=ax B0A n A_table_Get.code A_table_Get.fin (params 0 args) h
theorem C3U (n:Nat) (a0 a1:Val) (h:A0):A7k n [a0,a1] h=bnd (cells? a0) fun c1=>bnd (A2 .lss a1 (.c (.i .i64 0))) fun v2=>bnd (gd v2 false (some (a1,((h ++ [some (Row.mk (c1) true)]) ++ [some (Row.mk ([.i .i64 0,.i .i64 0,.i .i64 0,.i .i64 0,.i .i64 0,.i .i64 0,.i .i64 0,.i .i64 0,.i .i64 0,.i .i64 0,.i .i64 0]) true)]))) (some (.no,((h ++ [some (Row.mk (c1) true)]) ++ [some (Row.mk ([.i .i64 0,.i .i64 0,.i .i64 0,.i .i64 0,.i .i64 0,.i .i64 0,.i .i64 0,.i .i64 0,.i .i64 0,.i .i64 0,.i .i64 0]) true)])))) fun p3=>bnd (gd v2 false (bnd (A2 .geq p3.1 (.c (.i .i64 8))) fun v4=>some (v4,p3.2)) (some (.no,p3.2))) fun p5=>bnd (C4 v2 (.c (.b true)) p5.1) fun v6=>cnd v6 (bnd (A8 ([.i .i64 0,.i .i64 0,.i .i64 0,.i .i64 0,.i .i64 0,.i .i64 0,.i .i64 0,.i .i64 0,.i .i64 0,.i .i64 0,.i .i64 0]) []) fun c7=>bnd (B6 p5.2 11 (.c (.p (h ++ [some (Row.mk (c1) true)]).length 0)) (.a c7)) fun h8=>C7 [A3 h8 11 (.c (.p (h ++ [some (Row.mk (c1) true)]).length 0)),some (.c (.b false))] h8) (bnd (A3 p5.2 256 (.c (.p h.length 0))) fun v9=>bnd (A5f [v9,a1] p5.2) fun p10=>bnd (A41 [p10.1] p10.2) fun p11=>bnd (C5 p11.1 0) fun v12=>bnd (C5 p11.1 1) fun v13=>bnd (B6 p11.2 11 (.c (.p (h ++ [some (Row.mk (c1) true)]).length 0)) v12) fun h14=>C7 [A3 h14 11 (.c (.p (h ++ [some (Row.mk (c1) true)]).length 0)),some v13] h14):=by kernel_rfl
theorem K_table_Get:FnK Tryz.prog 70 A_table_Get B0A A7k:=.mk' (A9 C6M (A9 C53 C1)) Tryz.func70 (by kernel_rfl) (fun _ _ _=>C0)
def A5d:Fun:=tidy (Lim A_table_Get B0A)
theorem C6I:SOk Tryz.prog 70 A5d:=K_table_Get.sok
theorem C6H:D1 A7k A5d:=K_table_Get.flat
end Go.Proofs.YteckncopbicmcaaGreat
end
noncomputable section
namespace Go.Proofs.YteckncopbicmcaaGreat
open Go Go.Esc
set_option maxRecDepth 100000
def A_view_Of:AFn:=⟨.seq [0,2] (.ops [aO 2 (.alloc ([.i .i64 0,.i .i64 0,.i .u64 0,.nf])),aO 3 (.mv (.v (.c (.i .i64 0))))]) (.seq [0,2] (.seq [0,2,9] (.ops [aO 7 (.mv (.t 0)),aO 8 (.len (.t 7)),aO 9 (.bin .eql (.t 8) (.v (.c (.i .i64 0))))]) (.cond (.t 9) (.seq [2,3] (.ops [aO 10 (.build ([.i .i64 0,.i .i64 0,.i .u64 0,.nf]) []),aN (.storeN 4 (.t 2) (.t 10)),aO 3 (.mv (.v (.c (.i .i64 13))))]) .ret) .skip)) (.seq [0,2,4,5] (.ops [aO 12 (.mv (.t 0)),aO 13 (.iAddrL 256 (.t 12) (.v (.c (.i .i64 0)))),aO 14 (.loadN 256 (.t 13)),aO 15 (.call 66 [(.t 14)]),aO 11 (.mv (.t 15)),aO 16 (.ext (.t 11) 0),aO 17 (.ext (.t 11) 1),aO 4 (.alloc ([.i .i64 0,.i .i64 0,.i .u64 0])),aN (.storeN 3 (.t 4) (.t 16)),aO 5 (.mv (.t 17))]) (.seq [0,2,4] (.seq [0,2,4,26] (.ops [aO 18 (.mv (.t 5)),aO 19 (.bin .neq (.t 18) (.v (.c (.i .i64 0)))),aO 20 (.mv (.t 19)),aG 21 20 false (.fAddr (.t 4) 0),aG 22 20 false (.load1 (.t 21)),aG 23 20 false (.mv (.t 0)),aG 24 20 false (.len (.t 23)),aG 25 20 false (.bin .neq (.t 22) (.t 24)),aO 26 (.pick (.t 20) (.v (.c (.b true))) (.t 25))]) (.cond (.t 26) (.seq [2,3] (.ops [aO 27 (.build ([.i .i64 0,.i .i64 0,.i .u64 0,.nf]) []),aN (.storeN 4 (.t 2) (.t 27)),aO 3 (.mv (.v (.c (.i .i64 13))))]) .ret) .skip)) (.seq [2,4,6] (.ops [aO 28 (.buildSl 256 0 ([]) []),aO 29 (.mv (.t 0)),aO 30 (.app 256 (.t 28) (.t 29)),aO 6 (.alloc ([.ns])),aN (.store1 (.t 6) (.t 30))]) (.seq [2,3] (.ops [aO 31 (.loadN 3 (.t 4)),aO 32 (.mkf 67 [(.t 6)]),aO 33 (.build ([.i .i64 0,.i .i64 0,.i .u64 0,.nf]) [(0,3,(.t 31)),(3,1,(.t 32))]),aN (.storeN 4 (.t 2) (.t 33)),aO 3 (.mv (.v (.c (.i .i64 0))))]) .ret))))),[.cellN 2 4,.tmp 3]⟩
def B0D:B3:=A7 66 A5c B8
def B1l (n:Nat) (args:List Val) (h:A0):A6:=ax B0D n A_view_Of.code A_view_Of.fin (params 0 args) h
theorem A7p (n:Nat) (a0:Val) (h:A0):B1l n [a0] h=bnd (E3 a0) fun v1=>bnd (A2 .eql v1 (.c (.i .i64 0))) fun v2=>cnd v2 (bnd (A8 ([.i .i64 0,.i .i64 0,.i .u64 0,.nf]) []) fun c3=>bnd (B6 (h ++ [some (Row.mk ([.i .i64 0,.i .i64 0,.i .u64 0,.nf]) true)]) 4 (.c (.p h.length 0)) (.a c3)) fun h4=>C7 [A3 h4 4 (.c (.p h.length 0)),some (.c (.i .i64 13))] h4) (bnd (B9 256 a0 (.c (.i .i64 0))) fun v5=>bnd (A3 (h ++ [some (Row.mk ([.i .i64 0,.i .i64 0,.i .u64 0,.nf]) true)]) 256 v5) fun v6=>bnd (A5c [v6] (h ++ [some (Row.mk ([.i .i64 0,.i .i64 0,.i .u64 0,.nf]) true)])) fun p7=>bnd (C5 p7.1 0) fun v8=>bnd (C5 p7.1 1) fun v9=>bnd (B6 (p7.2 ++ [some (Row.mk ([.i .i64 0,.i .i64 0,.i .u64 0]) true)]) 3 (.c (.p p7.2.length 0)) v8) fun h10=>bnd (A2 .neq v9 (.c (.i .i64 0))) fun v11=>bnd (gd v11 false (bnd (B7 (.c (.p p7.2.length 0)) 0) fun v12=>some (v12,h10)) (some (.no,h10))) fun p13=>bnd (gd v11 false (bnd (A5 p13.2 p13.1) fun v14=>some (v14,p13.2)) (some (.no,p13.2))) fun p15=>bnd (gd v11 false (some (a0,p15.2)) (some (.no,p15.2))) fun p16=>bnd (gd v11 false (bnd (E3 p16.1) fun v17=>some (v17,p16.2)) (some (.no,p16.2))) fun p18=>bnd (gd v11 false (bnd (A2 .neq p15.1 p18.1) fun v19=>some (v19,p18.2)) (some (.no,p18.2))) fun p20=>bnd (C4 v11 (.c (.b true)) p20.1) fun v21=>cnd v21 (bnd (A8 ([.i .i64 0,.i .i64 0,.i .u64 0,.nf]) []) fun c22=>bnd (B6 p20.2 4 (.c (.p h.length 0)) (.a c22)) fun h23=>C7 [A3 h23 4 (.c (.p h.length 0)),some (.c (.i .i64 13))] h23) (bnd (A8 ([]) []) fun c24=>bnd (E7 (p20.2 ++ [some (Row.mk (c24) true)]) 256 (.c (.sl p20.2.length 0 0 256)) a0) fun p25=>bnd (F9 (p25.2 ++ [some (Row.mk ([.ns]) true)]) (.c (.p p25.2.length 0)) p25.1) fun h26=>bnd (A3 h26 3 (.c (.p p7.2.length 0))) fun v27=>bnd (X5 67 [(.c (.p p25.2.length 0))]) fun v28=>bnd (A8 ([.i .i64 0,.i .i64 0,.i .u64 0,.nf]) [(0,3,v27),(3,1,v28)]) fun c29=>bnd (B6 h26 4 (.c (.p h.length 0)) (.a c29)) fun h30=>C7 [A3 h30 4 (.c (.p h.length 0)),some (.c (.i .i64 0))] h30)):=by kernel_rfl
theorem K_view_Of:FnK Tryz.prog 16 A_view_Of B0D B1l:=.mk' (A9 C6F C1) Tryz.func16 (by kernel_rfl) (fun _ _ _=>C0)
def A0k:Fun:=Lim A_view_Of B0D
theorem B4Y:SOk Tryz.prog 16 A0k:=K_view_Of.ok
theorem A7w:OfT B1l A0k:=K_view_Of.of
def A_view_View_there:AFn:=⟨.seq [1,2] (.ops [aO 2 (.box (.t 0)),aO 4 (.mv (.v (.c (.b false))))]) (.seq [4] (.ops [aO 5 (.fAddr (.t 2) 3),aO 6 (.load1 (.t 5)),aO 7 (.eqN true true (.t 6)),aO 8 (.mv (.t 7)),aG 9 8 true (.mv (.t 1)),aG 10 8 true (.bin .geq (.t 9) (.v (.c (.i .i64 0)))),aO 11 (.pick (.t 8) (.t 10) (.v (.c (.b false)))),aO 12 (.mv (.t 11)),aG 13 12 true (.mv (.t 1)),aG 14 12 true (.fAddr (.t 2) 0),aG 15 12 true (.fAddr (.t 14) 0),aG 16 12 true (.load1 (.t 15)),aG 17 12 true (.bin .lss (.t 13) (.t 16)),aO 18 (.pick (.t 12) (.t 17) (.v (.c (.b false)))),aO 4 (.mv (.t 18))]) .ret),[.tmp 4]⟩
def B0G:B3:=B8
def A7r (n:Nat) (args:List Val) (h:A0):A6:=ax B0G n A_view_View_there.code A_view_View_there.fin (params 0 args) h
theorem C30 (n:Nat) (a0 a1:Val) (h:A0):A7r n [a0,a1] h=bnd (cells? a0) fun c1=>bnd (B7 (.c (.p h.length 0)) 3) fun v2=>bnd (A5 (h ++ [some (Row.mk (c1) true)]) v2) fun v3=>bnd (A0P true true v3) fun v4=>bnd (gd v4 true (some (a1,(h ++ [some (Row.mk (c1) true)]))) (some (.no,(h ++ [some (Row.mk (c1) true)])))) fun p5=>bnd (gd v4 true (bnd (A2 .geq p5.1 (.c (.i .i64 0))) fun v6=>some (v6,p5.2)) (some (.no,p5.2))) fun p7=>bnd (C4 v4 p7.1 (.c (.b false))) fun v8=>bnd (gd v8 true (some (a1,p7.2)) (some (.no,p7.2))) fun p9=>bnd (gd v8 true (bnd (B7 (.c (.p h.length 0)) 0) fun v10=>some (v10,p9.2)) (some (.no,p9.2))) fun p11=>bnd (gd v8 true (bnd (B7 p11.1 0) fun v12=>some (v12,p11.2)) (some (.no,p11.2))) fun p13=>bnd (gd v8 true (bnd (A5 p13.2 p13.1) fun v14=>some (v14,p13.2)) (some (.no,p13.2))) fun p15=>bnd (gd v8 true (bnd (A2 .lss p9.1 p15.1) fun v16=>some (v16,p15.2)) (some (.no,p15.2))) fun p17=>bnd (C4 v8 p17.1 (.c (.b false))) fun v18=>some (v18,p17.2):=by kernel_rfl
theorem K_view_View_there:FnK Tryz.prog 149 A_view_View_there B0G A7r:=.mk' (C1) Tryz.func149 (by kernel_rfl) (fun _ _ _=>C0)
def A5h:Fun:=tidy (Lim A_view_View_there B0G)
theorem C6T:SOk Tryz.prog 149 A5h:=K_view_View_there.sok
theorem C6S:D1 A7r A5h:=K_view_View_there.flat
def A_view_Of_1:AFn:=⟨.seq [0,1,3] (.ops [aO 3 (.alloc (List.replicate 256 (.i .u8 0)))]) (.seq [3] (.ops [aO 4 (.load1 (.t 1)),aO 5 (.mv (.t 0)),aO 6 (.iAddrL 256 (.t 4) (.t 5)),aO 7 (.loadN 256 (.t 6)),aN (.storeN 256 (.t 3) (.t 7))]) .ret),[.cellN 3 256]⟩
def B0E:B3:=B8
def A7o (n:Nat) (args:List Val) (h:A0):A6:=ax B0E n A_view_Of_1.code A_view_Of_1.fin (params 0 args) h
theorem C3Y (n:Nat) (a0 a1:Val) (h:A0):A7o n [a0,a1] h=bnd (A5 (h ++ [some (Row.mk (List.replicate 256 (.i .u8 0)) true)]) a1) fun v1=>bnd (B9 256 v1 a0) fun v2=>bnd (A3 (h ++ [some (Row.mk (List.replicate 256 (.i .u8 0)) true)]) 256 v2) fun v3=>bnd (B6 (h ++ [some (Row.mk (List.replicate 256 (.i .u8 0)) true)]) 256 (.c (.p h.length 0)) v3) fun h4=>mp (A3 h4 256 (.c (.p h.length 0))) fun v=>(v,h4):=by kernel_rfl
theorem K_view_Of_1:FnK Tryz.prog 67 A_view_Of_1 B0E A7o:=.mk' (C1) Tryz.func67 (by kernel_rfl) (fun _ _ _=>C0)
def A5g:Fun:=tidy (Lim A_view_Of_1 B0E)
theorem C6Q:SOk Tryz.prog 67 A5g:=K_view_Of_1.sok
theorem C6P:D1 A7o A5g:=K_view_Of_1.flat
def A_view_View_Block__Of_1:AFn:=⟨.seq [1,2,4] (.ops [aO 2 (.box (.t 0)),aO 4 (.alloc (List.replicate 256 (.i .u8 0)))]) (.seq [1,2,4] (.seq [1,2,4,8] (.ops [aO 5 (.loadN 4 (.t 2)),aO 6 (.mv (.t 1)),aO 7 (.call 149 [(.t 5),(.t 6)]),aO 8 (.un .not (.t 7))]) (.cond (.t 8) (.seq [4] (.ops [aO 9 (.build (List.replicate 256 (.i .u8 0)) []),aN (.storeN 256 (.t 4) (.t 9))]) .ret) .skip)) (.seq [4] (.ops [aO 10 (.fAddr (.t 2) 3),aO 11 (.load1 (.t 10)),aO 12 (.mv (.t 1)),aO 13 (.callV (.t 11) [(.t 12)]),aN (.storeN 256 (.t 4) (.t 13))]) .ret)),[.cellN 4 256]⟩
def A4i:B3:=A7 149 A5h (A7 67 A5g B8)
def A7q (n:Nat) (args:List Val) (h:A0):A6:=ax A4i n A_view_View_Block__Of_1.code A_view_View_Block__Of_1.fin (params 0 args) h
theorem C3Z (n:Nat) (a0 a1:Val) (h:A0):A7q n [a0,a1] h=bnd (cells? a0) fun c1=>bnd (A3 ((h ++ [some (Row.mk (c1) true)]) ++ [some (Row.mk (List.replicate 256 (.i .u8 0)) true)]) 4 (.c (.p h.length 0))) fun v2=>bnd (A5h [v2,a1] ((h ++ [some (Row.mk (c1) true)]) ++ [some (Row.mk (List.replicate 256 (.i .u8 0)) true)])) fun p3=>bnd (aun .not p3.1) fun v4=>cnd v4 (bnd (A8 (List.replicate 256 (.i .u8 0)) []) fun c5=>bnd (B6 p3.2 256 (.c (.p (h ++ [some (Row.mk (c1) true)]).length 0)) (.a c5)) fun h6=>mp (A3 h6 256 (.c (.p (h ++ [some (Row.mk (c1) true)]).length 0))) fun v=>(v,h6)) (bnd (B7 (.c (.p h.length 0)) 3) fun v7=>bnd (A5 p3.2 v7) fun v8=>bnd (O7 A4i v8 [a1] p3.2) fun p9=>bnd (B6 p9.2 256 (.c (.p (h ++ [some (Row.mk (c1) true)]).length 0)) p9.1) fun h10=>mp (A3 h10 256 (.c (.p (h ++ [some (Row.mk (c1) true)]).length 0))) fun v=>(v,h10)):=by kernel_rfl
theorem K_view_View_Block__Of_1:FnK Tryz.prog 71 A_view_View_Block__Of_1 A4i A7q:=.mk' (A9 C6T (A9 C6Q C1)) Tryz.func71 (by kernel_rfl) (fun _ _ _=>C0)
def S7:Fun:=tidy (Lim A_view_View_Block__Of_1 A4i)
theorem A26:SOk Tryz.prog 71 S7:=K_view_View_Block__Of_1.sok
theorem C6R:D1 A7q S7:=K_view_View_Block__Of_1.flat
def A_view_View_Inode:AFn:=⟨.seq [1,2,4] (.ops [aO 2 (.box (.t 0)),aO 4 (.alloc ([.i .i64 0,.i .i64 0,.i .i64 0,.i .i64 0,.i .i64 0,.i .i64 0,.i .i64 0,.i .i64 0,.i .i64 0,.i .i64 0,.i .i64 0]))]) (.seq [2,4,5,6,7] (.ops [aO 11 (.fAddr (.t 2) 0),aO 12 (.loadN 3 (.t 11)),aO 13 (.mv (.t 1)),aO 14 (.call 69 [(.t 12),(.t 13)]),aO 10 (.mv (.t 14)),aO 15 (.ext (.t 10) 0),aO 16 (.ext (.t 10) 1),aO 17 (.ext (.t 10) 2),aO 5 (.mv (.t 15)),aO 6 (.mv (.t 16)),aO 7 (.mv (.t 17))]) (.seq [2,4,5,6] (.seq [2,4,5,6,19] (.ops [aO 18 (.mv (.t 7)),aO 19 (.un .not (.t 18))]) (.cond (.t 19) (.seq [4] (.ops [aO 20 (.build ([.i .i64 0,.i .i64 0,.i .i64 0,.i .i64 0,.i .i64 0,.i .i64 0,.i .i64 0,.i .i64 0,.i .i64 0,.i .i64 0,.i .i64 0]) []),aN (.storeN 11 (.t 4) (.t 20))]) .ret) .skip)) (.seq [4,8] (.ops [aO 22 (.loadN 4 (.t 2)),aO 23 (.mv (.t 5)),aO 24 (.call 71 [(.t 22),(.t 23)]),aO 25 (.mv (.t 6)),aO 26 (.call 70 [(.t 24),(.t 25)]),aO 21 (.mv (.t 26)),aO 27 (.ext (.t 21) 0),aO 28 (.ext (.t 21) 1),aO 8 (.alloc ([.i .i64 0,.i .i64 0,.i .i64 0,.i .i64 0,.i .i64 0,.i .i64 0,.i .i64 0,.i .i64 0,.i .i64 0,.i .i64 0,.i .i64 0])),aN (.storeN 11 (.t 8) (.t 27)),aO 9 (.mv (.t 28))]) (.seq [4] (.ops [aO 29 (.loadN 11 (.t 8)),aN (.storeN 11 (.t 4) (.t 29))]) .ret)))),[.cellN 4 11]⟩
def B0F:B3:=A7 69 A4U (A7 71 S7 (A7 70 A5d B8))
def A4l (n:Nat) (args:List Val) (h:A0):A6:=ax B0F n A_view_View_Inode.code A_view_View_Inode.fin (params 0 args) h
theorem B4q (n:Nat) (a0 a1:Val) (h:A0):A4l n [a0,a1] h=bnd (cells? a0) fun c1=>bnd (B7 (.c (.p h.length 0)) 0) fun v2=>bnd (A3 ((h ++ [some (Row.mk (c1) true)]) ++ [some (Row.mk ([.i .i64 0,.i .i64 0,.i .i64 0,.i .i64 0,.i .i64 0,.i .i64 0,.i .i64 0,.i .i64 0,.i .i64 0,.i .i64 0,.i .i64 0]) true)]) 3 v2) fun v3=>bnd (A4U [v3,a1] ((h ++ [some (Row.mk (c1) true)]) ++ [some (Row.mk ([.i .i64 0,.i .i64 0,.i .i64 0,.i .i64 0,.i .i64 0,.i .i64 0,.i .i64 0,.i .i64 0,.i .i64 0,.i .i64 0,.i .i64 0]) true)])) fun p4=>bnd (C5 p4.1 0) fun v5=>bnd (C5 p4.1 1) fun v6=>bnd (C5 p4.1 2) fun v7=>bnd (aun .not v7) fun v8=>cnd v8 (bnd (A8 ([.i .i64 0,.i .i64 0,.i .i64 0,.i .i64 0,.i .i64 0,.i .i64 0,.i .i64 0,.i .i64 0,.i .i64 0,.i .i64 0,.i .i64 0]) []) fun c9=>bnd (B6 p4.2 11 (.c (.p (h ++ [some (Row.mk (c1) true)]).length 0)) (.a c9)) fun h10=>mp (A3 h10 11 (.c (.p (h ++ [some (Row.mk (c1) true)]).length 0))) fun v=>(v,h10)) (bnd (A3 p4.2 4 (.c (.p h.length 0))) fun v11=>bnd (S7 [v11,v5] p4.2) fun p12=>bnd (A5d [p12.1,v6] p12.2) fun p13=>bnd (C5 p13.1 0) fun v14=>bnd (C5 p13.1 1) fun v15=>bnd (B6 (p13.2 ++ [some (Row.mk ([.i .i64 0,.i .i64 0,.i .i64 0,.i .i64 0,.i .i64 0,.i .i64 0,.i .i64 0,.i .i64 0,.i .i64 0,.i .i64 0,.i .i64 0]) true)]) 11 (.c (.p p13.2.length 0)) v14) fun h16=>bnd (A3 h16 11 (.c (.p p13.2.length 0))) fun v17=>bnd (B6 h16 11 (.c (.p (h ++ [some (Row.mk (c1) true)]).length 0)) v17) fun h18=>mp (A3 h18 11 (.c (.p (h ++ [some (Row.mk (c1) true)]).length 0))) fun v=>(v,h18)):=by kernel_rfl
theorem K_view_View_Inode:FnK Tryz.prog 19 A_view_View_Inode B0F A4l:=.mk' (A9 C5L (A9 A26 (A9 C6I C1))) Tryz.func19 (by kernel_rfl) (fun _ _ _=>C0)
def A06:Fun:=tidy (Lim A_view_View_Inode B0F)
theorem B40:SOk Tryz.prog 19 A06:=K_view_View_Inode.sok
theorem B4Z:D1 A4l A06:=K_view_View_Inode.flat
end Go.Proofs.YteckncopbicmcaaGreat
end
section
namespace Go.Proofs.YteckncopbicmcaaGreat
open Go Go.Esc
def IsView (h:A0) (f:Cell) (D:Dev):Prop:=∃ r q rw rw',f=.f 67 [(r,0)] ∧ rd h r=some ⟨[.sl q 0 D.length 256],rw⟩ ∧ rd h q=some ⟨C6 D,rw'⟩
theorem IsView.ro {h:A0} {f:Cell} {D:Dev} (hv:IsView h f D):IsView (ro h) f D:=by
  obtain ⟨r,q,rw,rw',e,h1,h2⟩:=hv
  exact ⟨r,q,false,false,e,A3G h1 rfl,A3G h2 (A5O D)⟩
theorem IsView.more {h:A0} {f:Cell} {D:Dev} (hv:IsView h f D) (l:A0):IsView (h ++ l) f D:=by
  obtain ⟨r,q,rw,rw',e,h1,h2⟩:=hv
  exact ⟨r,q,rw,rw',e,C3 h1,C3 h2⟩
theorem IsView.since {g h:A0} {f:Cell} {D:Dev} (hv:IsView g f D) (h1:Low g.length g h):IsView h f D:=by
  obtain ⟨r,q,rw,rw',e,h2,h3⟩:=hv
  exact ⟨r,q,rw,rw',e,h1.rd h2,h1.rd h3⟩
theorem IsView.get {h:A0} {f:Cell} {D:Dev} (hv:IsView h f D):∃ id cs,f=.f id cs:=by
  obtain ⟨r,q,rw,rw',e,_⟩:=hv
  exact ⟨_,_,e⟩
def vwC (b n m:Int) (f:Cell):List Cell:=[.i .i64 b,.i .i64 n,.i .u64 m,f]
section
variable {D:Dev} {n m:Int} {f:Cell}
theorem A9F {b:Int}:ldN (some (Row.mk (vwC b n m f) true)) 0 3=some (.a (C2 b n m)):=rfl
theorem A2S {b:Int}:ldN (some (Row.mk (vwC b n m f) true)) 0 4=some (.a (vwC b n m f)):=rfl
end
theorem D4a {h:A0} {r q:Nat} {rw rw':Bool} {D:Dev} {no:Nat} (hD:okD D) (hno:no < D.length) (h1:rd h r=some ⟨[.sl q 0 D.length 256],rw⟩) (h2:rd h q=some ⟨C6 D,rw'⟩) :
    A5g [.c (.i .i64 (no:Int)),.c (.p r 0)] h=some (.a (A1 D[no]),h):=by
  have key:∀ g rw rw',rd g r=some ⟨[.sl q 0 D.length 256],rw⟩ → rd g q=some ⟨C6 D,rw'⟩ → ∃ g',A7o 0 [.c (.i .i64 (no:Int)),.c (.p r 0)] g=some (.a (A1 D[no]),g'):=by
    intro g rw rw' h1 h2
    have hz:(List.replicate 256 (Cell.i .u8 0)).length=256:=List.length_replicate
    have hB:(A1 D[no]).length=256:=by rw [B1,hD.at hno]
    have l1:A5 (g ++ [some (Row.mk (List.replicate 256 (.i .u8 0)) true)]) (.c (.p r 0))=some (.c (.sl q 0 D.length 256)):=H4 (cs:=[.sl q 0 D.length 256]) (C3 h1) rfl (by cases rw <;> rfl)
    have a1:B9 256 (.c (.sl q 0 D.length 256)) (.c (.i .i64 (no:Int)))=some (.c (.p q (0 + no * 256))):=G6 hno
    have l2:A3 (g ++ [some (Row.mk (List.replicate 256 (.i .u8 0)) true)]) 256 (.c (.p q (0 + no * 256)))=some (.a (A1 D[no])):=by
      rw [A1r (cs:=C6 D) (rw:=rw') (C3 h2) (by rw [X7 hD];omega) (by
        rw [Nat.zero_add,A0U hD hno,K1];simp),Nat.zero_add,A0U hD hno]
    rw [Nat.zero_add] at a1 l2
    rw [C3Y]
    generalize List.replicate 256 (Cell.i .u8 0)=z at *
    generalize A1 D[no]=y at *
    exact ⟨_,by simp only [esc,esh,Nat.reduceAdd,Nat.reduceMul,Nat.reduceLT,l1,a1,l2,hz,hB] <;> rfl⟩
  obtain ⟨g',e⟩:=key (ro h) false false (A3G h1 rfl) (A3G h2 (A5O D))
  exact C6P e (by simp [Val.flat])
theorem D4e {b n m no:Int} {f:Nat} {cs:List (Nat × Nat)} {h:A0}:A5h [.a (vwC b n m (.f f cs)),.c (.i .i64 no)] h=some (.c (.b (decide (0 ≤ no) && decide (no < b))),h):=by
  have key:∀ g,∃ g',A7r 0 [.a (vwC b n m (.f f cs)),.c (.i .i64 no)] g=some (.c (.b (decide (0 ≤ no) && decide (no < b))),g'):=by
    intro g
    rw [C30]
    unfold vwC
    by_cases c1:0 ≤ no
    · exact ⟨_,by simp only [esc,esh,Nat.reduceAdd,Nat.reduceMul,Nat.reduceLT,c1] <;> rfl⟩
    · exact ⟨_,by simp only [esc,esh,Nat.reduceAdd,Nat.reduceMul,Nat.reduceLT,c1,Bool.false_and] <;> rfl⟩
  obtain ⟨g',e⟩:=key (ro h)
  exact C6S e rfl
theorem A58 {n m no:Int} {f:Cell} {D:Dev} {h:A0} (hD:okD D) (hv:IsView h f D):S7 [.a (vwC D.length n m f),.c (.i .i64 no)] h=some (.a (A1 (blk D no)),h):=by
  have key:∀ g,IsView g f D → ∃ g',A7q 0 [.a (vwC D.length n m f),.c (.i .i64 no)] g=some (.a (A1 (blk D no)),g'):=by
    intro g hv
    have hz:(A1 (zeros 256)).length=256:=by rw [B1];exact zeros_length
    have hB:(A1 (blk D no)).length=256:=by rw [B1,A1a hD]
    obtain ⟨r,q,rw',rw'',rfl,h1,h2⟩:=hv
    have hT:=fun h=>D4e (b:=D.length) (n:=n) (m:=m) (no:=no) (f:=67) (cs:=[(r,0)]) (h:=h)
    have hcv:∀ (x:Val) (h:A0),O7 A4i (.c (.f 67 [(r,0)])) [x] h=A5g [x,.c (.p r 0)] h:=fun _ _=>Eq.trans rfl rfl
    rw [C3Z,N8]
    by_cases c1:0 ≤ no ∧ no < D.length
    · have c2:=c1.1
      have c3:=c1.2
      obtain ⟨k,rfl⟩:∃ k:Nat,no=k:=⟨no.toNat,by omega⟩
      have e1:=A7J (D:=D) (i:=k) (by omega)
      have hO:=D4a (h:=g ++ [some (Row.mk (vwC D.length n m (.f 67 [(r,0)])) true),some (Row.mk (A1 (zeros 256)) true)]) hD (show k < D.length by omega) (C3 h1) (C3 h2)
      rw [← e1] at hO
      simp only [c2,c3,decide_true,Bool.and_self] at hT
      generalize A1 (zeros 256)=z at *
      generalize A1 (blk D k)=y at *
      unfold vwC at *
      exact ⟨_,by simp only [esc,esh,Nat.reduceAdd,Nat.reduceMul,Nat.reduceLT,hT,hcv,hO,hz,hB] <;> rfl⟩
    · have e1:=C7F (D:=D) (i:=no) (by omega)
      have ht:(decide (0 ≤ no) && decide (no < (D.length:Int)))=false:=by
        rw [Bool.and_eq_false_iff,decide_eq_false_iff_not,decide_eq_false_iff_not];omega
      simp only [ht] at hT
      rw [e1] at hB ⊢
      have ef:A8 (A1 (zeros 256)) []=some (A1 (zeros 256)):=rfl
      generalize A1 (zeros 256)=z at *
      unfold vwC at *
      exact ⟨_,by simp only [esc,esh,Nat.reduceAdd,Nat.reduceMul,Nat.reduceLT,hT,ef,hz] <;> rfl⟩
  obtain ⟨g',e⟩:=key (ro h) hv.ro
  exact C6R e (by simp [Val.flat])
theorem C7r {h:A0} {id m sz:Nat} {ys:List Cell} {y:Val} (hr:rd h id=some ⟨[],true⟩) (hy:Has h y sz m ys) (hsz:0 < sz) (hn:m ≤ 1073741824) :
    E7 h sz (.c (.sl id 0 0 sz)) y=some (.c (.sl h.length 0 m sz),h.set id none ++ [some ⟨ys,true⟩]):=by
  have h1:=hy.add
  have h2:ys.length / sz=m:=by rw [hy.length];exact Nat.mul_div_cancel m hsz
  simp only [E7,h1,hr,Option.bind_some,h2,List.nil_append,Nat.zero_add]
  rw [if_pos ⟨trivial,trivial,by simp,trivial,hn⟩]
def T5 (D:Dev):Bool:=okS (D.headD []) && decide (fieldN (D.headD []) 8 2=D.length)
def A1g (D:Dev):Int:=fieldN (D.headD []) 10 2
def A1f (D:Dev):Int:=fieldN (D.headD []) 12 8
theorem D4c {v:Val} {h:A0} (hv:Has h v 256 0 []):∃ t,A0k [v] h=some (.t [.a (vwC 0 0 0 .nf),.c (.i .i64 13)],h ++ t):=by
  have ef:A8 [Cell.i .i64 0,.i .i64 0,.i .u64 0,.nf] []=some [Cell.i .i64 0,.i .i64 0,.i .u64 0,.nf]:=rfl
  have hl:=hv.len
  rw [show ((0:Nat):Int)=0 from rfl] at hl
  exact ⟨_,A7w (n:=0) (by rw [A7p];simp only [esc,esh,Nat.reduceAdd,Nat.reduceMul,Nat.reduceLT,hl,ef,vwC] <;> rfl)⟩
theorem B9m {b:List UInt8} (h:okS b=false):Y2 b=C2 0 0 0:=by unfold Y2;rw [h];rfl
theorem B3r {b:List UInt8} (h:okS b=true):Y2 b=C2 (fieldN b 8 2) (fieldN b 10 2) (fieldN b 12 8):=by unfold Y2;rw [h];rfl
theorem D4d {v:Val} {D:Dev} {h:A0} (hv:Has h v 256 D.length (C6 D)) (hD:okD D) (h0:0 < D.length) (hn:T5 D=false):∃ t,A0k [v] h=some (.t [.a (vwC 0 0 0 .nf),.c (.i .i64 13)],h ++ t):=by
  have ef:A8 [Cell.i .i64 0,.i .i64 0,.i .u64 0,.nf] []=some [Cell.i .i64 0,.i .i64 0,.i .u64 0,.nf]:=rfl
  have hl:=hv.len
  have hv2:=hv.more [some (Row.mk [.i .i64 0,.i .i64 0,.i .u64 0,.nf] true)]
  obtain ⟨b,E,rfl⟩:∃ b E,D=b :: E:=by cases D with | nil=>simp at h0 | cons b E=>exact ⟨b,E,rfl⟩
  obtain ⟨id,off,rfl,hid,_,hB⟩:=hv2.sl h0
  have hBl:(A1 b).length=256:=by rw [B1,hD.cons.1]
  have l2:=hB 0 256 (by rw [X7 hD];omega)
  have ec:((C6 (b :: E)).drop 0).take 256=A1 b:=by
    have:=A0U (i:=0) hD h0
    rwa [Nat.zero_mul] at this
  rw [ec,Nat.add_zero] at l2
  have a1:B9 256 (.c (.sl id off (b :: E).length 256)) (.c (.i .i64 0))=some (.c (.p id off)):=by
    have:=G6 (k:=.i64) (id:=id) (off:=off) (sz:=256) (j:=0) (len:=(b :: E).length) h0
    rwa [Nat.zero_mul,Nat.add_zero] at this
  have hG:=fun h=>C1X (h:=h) hD.cons.1
  have c0:¬ (((b :: E).length:Nat):Int)=0:=by omega
  have n13:¬ (13:Int)=0:=by decide
  unfold T5 at hn
  simp only [List.headD_cons] at hn
  cases ho:okS b with
  | false =>
    simp only [ho,B9m ho,cond_false] at hG
    refine ⟨[some (Row.mk [.i .i64 0,.i .i64 0,.i .u64 0,.nf] true),some (Row.mk [.i .i64 0,.i .i64 0,.i .u64 0] true)],A7w (n:=0) ?_⟩
    rw [A7p]
    generalize (b :: E).length=N at *
    generalize A1 b=y at *
    unfold C2 at *
    simp only [esc,esh,Nat.reduceAdd,Nat.reduceMul,Nat.reduceLT,ef,vwC,l2,a1,hG,n13,eq_self,c0] <;> rfl
  | true =>
    rw [ho,Bool.true_and] at hn
    replace hn:=of_decide_eq_false hn
    simp only [ho,B3r ho,cond_true] at hG
    refine ⟨[some (Row.mk [.i .i64 0,.i .i64 0,.i .u64 0,.nf] true),some (Row.mk [.i .i64 (fieldN b 8 2),.i .i64 (fieldN b 10 2),.i .u64 (fieldN b 12 8)] true)],A7w (n:=0) ?_⟩
    rw [A7p]
    generalize (b :: E).length=N at *
    generalize A1 b=y at *
    generalize fieldN b 8 2=n1 at *
    unfold C2 at *
    simp only [esc,esh,Nat.reduceAdd,Nat.reduceMul,Nat.reduceLT,ef,vwC,l2,a1,hG,n13,eq_self,c0,hn] <;> rfl
theorem D4b {v:Val} {D:Dev} {h:A0} (hv:Has h v 256 D.length (C6 D)) (hD:okD D) (hn:T5 D=false):∃ t,A0k [v] h=some (.t [.a (vwC 0 0 0 .nf),.c (.i .i64 13)],h ++ t):=by
  by_cases h0:D=[]
  · subst h0;exact D4c hv
  · exact D4d hv hD (List.length_pos_iff.2 h0) hn
theorem C16 {v:Val} {D:Dev} {h:A0} (hv:Has h v 256 D.length (C6 D)) (hD:okD D) (hn:T5 D=true) (h60:D.length ≤ 1073741824) :
    ∃ f t,A0k [v] h=some (.t [.a (vwC D.length (A1g D) (A1f D) f),.c (.i .i64 0)],h ++ t) ∧ IsView (h ++ t) f D:=by
  obtain ⟨b,E,rfl⟩:∃ b E,D=b :: E:=by
    cases D with
    | nil=>simp only [T5,List.headD_nil,List.length_nil,Bool.and_eq_true,decide_eq_true_eq] at hn;exact absurd hn.1 (by decide)
    | cons b E=>exact ⟨b,E,rfl⟩
  have h0:0 < (b :: E).length:=by simp
  have hv2:=hv.more [some (Row.mk [.i .i64 0,.i .i64 0,.i .u64 0,.nf] true)]
  unfold T5 at hn
  simp only [List.headD_cons,Bool.and_eq_true,decide_eq_true_eq] at hn
  have ho:=hn.1
  have hn2:=of_decide_eq_true hn.2
  have hv3:=hv.more [some (Row.mk [.i .i64 0,.i .i64 0,.i .u64 0,.nf] true),some (Row.mk (C2 (b :: E).length (fieldN b 10 2) (fieldN b 12 8)) true),some (Row.mk [] true)]
  obtain ⟨id,off,rfl,hid,_,hB⟩:=hv2.sl h0
  have hBl:(A1 b).length=256:=by rw [B1,hD.cons.1]
  have l2:=hB 0 256 (by rw [X7 hD];omega)
  have ec:((C6 (b :: E)).drop 0).take 256=A1 b:=by
    have:=A0U (i:=0) hD h0
    rwa [Nat.zero_mul] at this
  rw [ec,Nat.add_zero] at l2
  have a1:B9 256 (.c (.sl id off (b :: E).length 256)) (.c (.i .i64 0))=some (.c (.p id off)):=by
    have:=G6 (k:=.i64) (id:=id) (off:=off) (sz:=256) (j:=0) (len:=(b :: E).length) h0
    rwa [Nat.zero_mul,Nat.add_zero] at this
  have hG:=fun h=>C1X (h:=h) hD.cons.1
  have c0:¬ (((b :: E).length:Nat):Int)=0:=by omega
  have n13:¬ (13:Int)=0:=by decide
  simp only [ho,B3r ho,cond_true,hn2] at hG
  have eN:A1g (b :: E)=fieldN b 10 2:=rfl
  have eM:A1f (b :: E)=fieldN b 12 8:=rfl
  have hA:=C7r (id:=h.length + 2) (by simp) hv3 (by omega) h60
  have ef1:A8 ([]:List Cell) []=some []:=rfl
  have hlt:id < h.length:=by
    rcases hv with ⟨e,_⟩ | ⟨i,o,r,e,hr,_⟩
    · cases e
    · cases e;exact D0 hr
  rw [eN,eM]
  unfold IsView
  generalize C6 (b :: E)=C at *
  have emk:X5 67 [.c (.p (h.length + 4) 0)]=some (.c (.f 67 [(h.length + 4,0)])):=rfl
  refine ⟨.f 67 [(h.length + 4,0)],[some (Row.mk (vwC (b :: E).length (fieldN b 10 2) (fieldN b 12 8) (.f 67 [(h.length + 4,0)])) true),some (Row.mk (C2 (b :: E).length (fieldN b 10 2) (fieldN b 12 8)) true),none,some (Row.mk C true),some (Row.mk [.sl (h.length + 3) 0 (b :: E).length 256] true)],A7w (n:=0) ?_,h.length + 4,h.length + 3,true,true,rfl,A2N,A2N⟩
  rw [A7p]
  generalize (b :: E).length=N at *
  generalize A1 b=y at *
  generalize fieldN b 10 2=n1 at *
  generalize fieldN b 12 8=n2 at *
  have ef2:∀ x,A8 [Cell.i .i64 0,.i .i64 0,.i .u64 0,.nf] [(0,3,.a [.i .i64 (N:Int),.i .i64 n1,.i .u64 n2]),(3,1,.c x)]=some [.i .i64 (N:Int),.i .i64 n1,.i .u64 n2,x]:=fun _=>rfl
  unfold C2 vwC at *
  simp only [esc,esh,Nat.reduceAdd,Nat.reduceMul,Nat.reduceLT] at hA
  simp only [esc,esh,Nat.reduceAdd,Nat.reduceMul,Nat.reduceLT,l2,a1,hG,n13,eq_self,c0,hA,ef1,ef2,emk] <;> rfl
end Go.Proofs.YteckncopbicmcaaGreat
end
section
namespace Go.Proofs.YteckncopbicmcaaGreat
open Go Go.Esc
def zI (n:Nat):List Int:=List.replicate n 0
theorem M8 {n:Nat}:(zI n).length=n:=by simp [zI]
end Go.Proofs.YteckncopbicmcaaGreat
end
