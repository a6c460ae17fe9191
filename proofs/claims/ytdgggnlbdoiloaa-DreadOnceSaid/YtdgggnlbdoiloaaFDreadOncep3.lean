/- What the proof of this claim leans on, part 3. -/
import Derived.Test.YtdgggnlbdoiloaaFDreadOncep2
set_option linter.all false
section
namespace Go.Proofs.Ytdgggnlbdoiloaa
open Go Go.Esc
theorem C2v {v:Val} {nv:Nat} {l:List UInt8} {h:A0} (hv:Has h v 1 nv (A3 l)) {a w k:Nat} (hw:w ≤ 8) (haw:a + w ≤ l.length) (hl:l.length < 9223372036854775808):∀ d i m,i + d=w → d < m →
    A7R k m v (.c (.i .i64 a)) (.c (.i .u64 (le ((l.drop a).take i)))) (.c (.i .i64 w)) (.c (.i .i64 i)) h=some (.t [.c (.i .u64 (le ((l.drop a).take w))),.c (.b true)],h)
  | d,i,0,_,hm=>by omega
  | 0,i,m + 1,hi,hm=>by
    have e:i=w:=by omega
    subst e
    rw [C2u]
    simp
  | d + 1,i,m + 1,hi,hm=>by
    have ih:=C2v hv (k:=k) hw haw hl d (i + 1) m (by omega) (by omega)
    have hnv:l.length=nv:=by simpa [B6] using hv.length
    obtain ⟨id,off,rfl,hid,h1,h2⟩:=hv.sl (by omega)
    have hx:=h1 (a + i) (.i .u8 l[a + i].toNat) (by rw [A2i,List.getElem?_eq_getElem (by omega)];rfl)
    have hb:=l[a + i].toNat_lt
    have hlen:((l.drop a).take i).length=i:=by simp;omega
    have hle:=A4d ((l.drop a).take i)
    rw [hlen] at hle
    have hp:=A79 (show i ≤ 8 by omega)
    have hbp:=B3E (x:=l[a + i]) (show i < 8 by omega)
    have e2:IntKind.wrap .i64 (8 * (i:Int))=8 * i:=wrap_i64 (by omega) (by omega)
    have e3:IntKind.wrap .u64 (8 * (i:Int))=8 * i:=wrap_u64 (by omega) (by omega)
    have e5:IntKind.wrap .u64 (l[a + i].toNat:Int)=l[a + i].toNat:=wrap_u64 (by omega) (by omega)
    have e6:=C4e (k:=.u64) (x:=l[a + i]) (show i < 8 by omega) (wrap_u64 (by omega) (by omega)) rfl
    have e7:A4 .or (.c (.i .u64 (le ((l.drop a).take i):Nat))) (.c (.i .u64 ((l[a + i].toNat * 256 ^ i:Nat):Int)))=some (.c (.i .u64 (le ((l.drop a).take (i + 1)):Nat))):=by
      rw [H0u (by omega) (by omega),B0T (by omega),← C3s,hlen]
    have ea:D1 1 (.c (.sl id off nv 1)) (.c (.i .i64 ((a + i:Nat):Int)))=some (.c (.p id (off + (a + i)))):=by rw [K0 (by omega)];simp
    have h1':(i:Int) < w:=by omega
    rw [C2u]
    simp only [esc,h1',A0Y (show a + i < 9223372036854775808 by omega),e2,e3,ea,hx,e5,e6,e7,F4 (show i + 1 < 9223372036854775808 by omega)]
    exact ih
theorem G7s {v:Val} {nv:Nat} {l:List UInt8} {h:A0} (hv:Has h v 1 nv (A3 l)) {a w:Int} (hl:l.length < 9223372036854775808) :
    A3L [v,.c (.i .i64 a),.c (.i .i64 w)] h=some (.t [.c (.i .u64 ((A38 l a w).getD 0:Nat)),.c (.b (A38 l a w).isSome)],h):=by
  refine C8M (n:=w.toNat + 1) (h2:=ro h) ?_ (by simp)
  rw [C6Y]
  have hv':=hv.ro
  have hnv:l.length=nv:=by simpa [B6] using hv.length
  unfold A38
  by_cases c1:8 < w
  · have c1':¬ w ≤ 8:=by omega
    simp [c1,c1']
  · have c1':w ≤ 8:=by omega
    cases c2:W7 a w l.length with
    | false=>simp [c1,hv'.len,← hnv,A1y (show (l.length:Int) < 9223372036854775808 by omega),c2]
    | true =>
      simp [c1,c1',hv'.len,← hnv,A1y (show (l.length:Int) < 9223372036854775808 by omega),c2]
      rw [A0o] at c2
      have:=C2v hv' (a:=a.toNat) (w:=w.toNat) (k:=w.toNat + 1) (by omega) (by omega) hl w.toNat 0 (w.toNat + 1) (by omega) (by omega)
      simp only [show ((a.toNat:Nat):Int)=a by omega,show ((w.toNat:Nat):Int)=w by omega] at this
      simpa [le] using this
theorem C2X {l:List UInt8} {b id a w k:Nat} {v:Int} (hw:w ≤ 8) (haw:a + w ≤ l.length) (hl:l.length < 9223372036854775808):∀ d i m (h:A0),i + d=w → d < m → b ≤ id → b ≤ h.length → rd h id=some ⟨A3 (C7 l a (C1 i v)),true⟩ →
    ∃ h',A7X k m (.c (.i .i64 a)) (.c (.i .u64 v)) (.c (.sl id 0 l.length 1)) (.c (.i .i64 w)) (.c (.i .i64 i)) h=some (.t [.c (.sl id 0 l.length 1),.c (.b true)],h') ∧ rd h' id=some ⟨A3 (C7 l a (C1 w v)),true⟩
  | d,i,0,h,_,hm,_,_,_=>by omega
  | 0,i,m + 1,h,hi,hm,_,_,hr=>by
    have e:i=w:=by omega
    subst e
    have h1':¬ (i:Int) < i:=by omega
    rw [C2W]
    exact ⟨h,by simp only [esc,h1'],hr⟩
  | d + 1,i,m + 1,h,hi,hm,hb,hbl,hr=>by
    have e2:IntKind.wrap .i64 (8 * (i:Int))=8 * i:=wrap_i64 (by omega) (by omega)
    have e3:IntKind.wrap .u64 (8 * (i:Int))=8 * i:=wrap_u64 (by omega) (by omega)
    have e4:A4 .shr (.c (.i .u64 v)) (.c (.i .u64 (8 * (i:Int))))=some (.c (.i .u64 (v / 2 ^ (Nat.min (8 * (i:Int)).toNat 64)))):=A85 (by omega)
    have ea:D1 1 (.c (.sl id 0 l.length 1)) (.c (.i .i64 ((a + i:Nat):Int)))=some (.c (.p id (a + i))):=by rw [K0 (by omega)];simp
    have hst:=W6 (off:=a + i) (x:=.i .u8 (byI v i).toNat) hr (by rw [B6,Y6 (by simp;omega)];omega)
    have e5:(C7 l a (C1 i v)).set (a + i) (byI v i)=C7 l a (C1 (i + 1) v):=by
      rw [B3I]
      have:=A7n (l:=l) (xs:=C1 i v) (a:=a) (x:=byI v i) (by simp;omega)
      simpa using this
    rw [A0e,e5] at hst
    obtain ⟨h',ih,hr'⟩:=C2X (b:=b) (k:=k) (v:=v) hw haw hl d (i + 1) m (h.set id (some ⟨A3 (C7 l a (C1 (i + 1) v)),true⟩)) (by omega) (by omega) hb (by simpa using hbl) (I6 (D2 hr))
    have h1':(i:Int) < w:=by omega
    rw [C2W]
    exact ⟨h',by simp only [esc,h1',A0Y (show a + i < 9223372036854775808 by omega),e2,e3,e4,B3F (v:=v) (show i < 8 by omega),ea,hst,F4 (show i + 1 < 9223372036854775808 by omega)];exact ih,hr'⟩
def T1 (l:List UInt8) (a w v:Int):Option (List UInt8):=if w ≤ 8 ∧ W7 a w l.length=true then some (C7 l a.toNat (C1 w.toNat v)) else none
theorem G9q {x:Val} {nv:Nat} {l:List UInt8} {h:A0} (hv:Has h x 1 nv (A3 l)) {a w v:Int} (hl:l.length ≤ 1073741824) :
    A3M [x,.c (.i .i64 a),.c (.i .i64 w),.c (.i .u64 v)] h=some (.t [.c (.sl h.length 0 ((T1 l a w v).getD []).length 1),.c (.b (T1 l a w v).isSome)],h ++ [some ⟨A3 ((T1 l a w v).getD []),true⟩]):=by
  have hnv:l.length=nv:=by simpa [B6] using hv.length
  have key:∀ g,Has g x 1 nv (A3 l) → ∃ id g',A5F (w.toNat + 1) [x,.c (.i .i64 a),.c (.i .i64 w),.c (.i .u64 v)] g=some (.t [.c (.sl id 0 ((T1 l a w v).getD []).length 1),.c (.b (T1 l a w v).isSome)],g') ∧ g.length ≤ id ∧ rd g' id=some ⟨A3 ((T1 l a w v).getD []),true⟩:=by
    intro g hv
    rw [C61]
    have hvm:=hv.more [some ⟨[],true⟩]
    unfold T1
    by_cases c1:8 < w
    · rw [if_neg (by omega)]
      exact ⟨_,_,by simp only [esc,c1];rfl,by simp,by simp;rfl⟩
    · cases c2:W7 a w l.length with
      | false =>
        rw [if_neg (by simp)]
        exact ⟨_,_,by simp only [esc,c1,hvm.len,← hnv,A1y (show (l.length:Int) < 9223372036854775808 by omega),c2];rfl,by simp,by simp;rfl⟩
      | true =>
        rw [if_pos ⟨by omega,rfl⟩]
        have c3:=A0o.1 c2
        have hvm2:=hv.more [some ⟨[],true⟩,some ⟨[],true⟩]
        have e1:F9 (g ++ [some ⟨[],true⟩,some ⟨[],true⟩]) 1 (.c (.sl (g.length + 1) 0 0 1)) x=some (.c (.sl (g.length + 2) 0 l.length 1),g ++ [some ⟨[],true⟩,none,some ⟨A3 l,true⟩]):=by
          simp [F9,hvm2.add,B6]
          exact hl
        obtain ⟨g',e2,hr⟩:=C2X (l:=l) (b:=g.length) (id:=g.length + 2) (a:=a.toNat) (w:=w.toNat) (k:=w.toNat + 1) (v:=v) (by omega) (by omega) (by omega) w.toNat 0 (w.toNat + 1) (g ++ [some ⟨[],true⟩,none,some ⟨A3 l,true⟩]) (by omega) (by omega) (by omega) (by simp) (by simp [C1,A7m])
        simp only [show ((a.toNat:Nat):Int)=a by omega,show ((w.toNat:Nat):Int)=w by omega] at e2
        have hlen:((some (C7 l a.toNat (C1 w.toNat v))).getD []).length=l.length:=by
          simp only [Option.getD_some];rw [Y6 (by simp;omega)]
        rw [hlen]
        exact ⟨g.length + 2,g',by simp only [esc,c1,hvm.len,← hnv,A1y (show (l.length:Int) < 9223372036854775808 by omega),c2,B0,e1];exact e2,by omega,hr⟩
  obtain ⟨id,g',e,hb,hr⟩:=key _ hv.ro
  have hb':h.length ≤ id:=by simpa [Q5] using hb
  have:=C8R e (v2:=.t [.c (.sl h.length 0 ((T1 l a w v).getD []).length 1),.c (.b (T1 l a w v).isSome)]) (ids:=[id]) (by
    have e2:I1 g' h.length [id] [.b (T1 l a w v).isSome]=some ([.b (T1 l a w v).isSome],[id]):=A2d (by simp)
    simp [J4,O0,I1,hb',show ¬ id < h.length by omega,B0o hr (by simp:D8 (A3 ((T1 l a w v).getD []))=true)])
  rw [this]
  simp [hr]
end Go.Proofs.Ytdgggnlbdoiloaa
end
section
namespace Go.Proofs.Ytdgggnlbdoiloaa
open Go Go.Esc
def C8 (n:Nat) (l:List UInt8):List UInt8:=l ++ zeros (n - l.length)
theorem I5 {n:Nat} {l:List UInt8} (h:l.length ≤ n):(C8 n l).length=n:=by
  unfold C8;rw [List.length_append,zeros_length];omega
theorem H0y {n:Nat}:C8 n []=zeros n:=by simp [C8]
theorem C3w {l xs:List UInt8} {a:Nat} (h1:l.length ≤ a) (h2:a + xs.length ≤ 256):C7 (C8 256 l) a xs=C8 256 (l ++ zeros (a - l.length) ++ xs):=by
  unfold C7 C8
  have e1:(l ++ zeros (256 - l.length)).take a=l ++ zeros (a - l.length):=by
    rw [List.take_append,List.take_of_length_le h1]
    unfold zeros
    rw [List.take_replicate,Nat.min_eq_left (by omega)]
  have e2:(l ++ zeros (256 - l.length)).drop (a + xs.length)=zeros (256 - (l ++ zeros (a - l.length) ++ xs).length):=by
    rw [List.drop_append,List.drop_of_length_le (by omega),List.nil_append]
    unfold zeros
    rw [List.drop_replicate]
    congr 1
    simp
    omega
  rw [e1,e2]
  simp only [List.append_assoc]
theorem A0q {l:List UInt8} {a w:Nat} {v:Int} (h1:l.length ≤ a) (h2:a + w ≤ 256) (hw:1 ≤ w) (hw4:w ≤ 4):J7 (C8 256 l) a w v=C8 256 (l ++ zeros (a - l.length) ++ C1 w v):=by
  unfold J7
  rw [if_pos ⟨by omega,A0o.2 (by omega)⟩]
  simp only [Int.toNat_natCast]
  exact C3w h1 (by simp;exact h2)
def fieldN (b:List UInt8) (a w:Nat):Int:=((le ((b.drop a).take w):Nat):Int)
theorem A71 {b:List UInt8} (hb:b.length ≤ 256):P5 (zeros 256) 0 b=C8 256 b:=by
  unfold P5 C7 C8
  rw [if_pos (by omega)]
  simp only [Int.toNat_zero,List.take_zero,List.nil_append,Nat.sub_zero,Nat.zero_add]
  rw [List.take_of_length_le hb]
  unfold zeros
  rw [List.drop_replicate]
theorem A9i {b:List UInt8} {a w:Nat} (h1:a + w ≤ b.length) (h2:b.length ≤ 256) (hw:1 ≤ w) (hw4:w ≤ 4):((atN (C8 256 b) a w:Nat):Int)=fieldN b a w:=by
  unfold atN fieldN C8
  rw [if_pos ⟨by omega,A0o.2 (by omega)⟩]
  simp only [Int.toNat_natCast]
  rw [List.drop_append_of_le_length (by omega),List.take_append_of_le_length (by simp;omega)]
end Go.Proofs.Ytdgggnlbdoiloaa
end
noncomputable section
namespace Go.Proofs.Ytdgggnlbdoiloaa
open Go Go.Esc
set_option maxRecDepth 100000
def C0y:List AOper:=[aO 4 (.mv (.v (.c (.i .u32 0))))]
def F9C:ACode:=.ops C0y
def C0z:List AOper:=[aO 6 (.mv (.t 1)),aO 7 (.lenS (.t 6)),aO 8 (.mv (.v (.c (.i .i64 0))))]
def F9E:ACode:=.ops C0z
def C0A:List AOper:=[aO 9 (.bin .lss (.t 8) (.t 7))]
def F9W:ACode:=.ops C0A
def F9Y:ACode:=.cond (.t 9) .skip (.exit 0)
def C0B:List AOper:=[aO 10 (.mv (.t 8)),aO 5 (.mv (.t 10))]
def F90:ACode:=.ops C0B
def C0C:List AOper:=[aO 11 (.mv (.t 0)),aO 12 (.mv (.t 1)),aO 13 (.mv (.t 5)),aO 14 (.idxS (.t 12) (.t 13)),aO 15 (.conv .u32 (.t 14)),aO 16 (.bin .xor (.t 11) (.t 15)),aO 17 (.bin .mul (.t 16) (.v (.c (.i .u32 16777619)))),aO 0 (.mv (.t 17))]
def F92:ACode:=.ops C0C
def F94:ACode:=.seq [0,1,5,7,8] F90 F92
def F96:ACode:=.block 1 F94
def C0D:List AOper:=[aO 18 (.bin .add (.t 8) (.v (.c (.i .i64 1)))),aO 8 (.mv (.t 18))]
def F98:ACode:=.ops C0D
def G0a:ACode:=.seq [0,1,7,8] F96 F98
def F9F:ACode:=.seq [0,1,7,8] F9Y G0a
def F9H:ACode:=.seq [0,1,7,8,9] F9W F9F
def F9I:ACode:=.loop [0,1,7,8] F9H
def F9K:ACode:=.block 0 F9I
def F9M:ACode:=.seq [0,1,7,8] F9E F9K
def C0E:List AOper:=[aO 19 (.mv (.t 0)),aO 4 (.mv (.t 19))]
def F9O:ACode:=.ops C0E
def F9Q:ACode:=.seq [4] F9O .ret
def F9R:ACode:=.seq [0] F9M F9Q
def F9T:ACode:=.seq [0,1] F9C F9R
def A_mix_More:AFn:=⟨F9T,[.tmp 4]⟩
def A0u:B4:=C2
def F9D (n:Nat):SmV:=A2 A0u C0y
def F9V (n:Nat):SmV:=A2 A0u C0z
def F9X (n:Nat):SmV:=A2 A0u C0A
def F9Z (n:Nat):SmV:=B8 (.t 9) B9 (F0 0)
def F91 (n:Nat):SmV:=A2 A0u C0B
def F93 (n:Nat):SmV:=A2 A0u C0C
def F95 (n:Nat):SmV:=A1 [0,1,5,7,8] (F91 n) (F93 n)
def F97 (n:Nat):SmV:=C4 1 (F95 n)
def F99 (n:Nat):SmV:=A2 A0u C0D
def G0b (n:Nat):SmV:=A1 [0,1,7,8] (F97 n) (F99 n)
def F9G (n:Nat):SmV:=A1 [0,1,7,8] (F9Z n) (G0b n)
def C0u (n:Nat):SmV:=A1 [0,1,7,8,9] (F9X n) (F9G n)
def F9J (n:Nat):SmV:=F2 n [0,1,7,8] (C0u n)
def F9L (n:Nat):SmV:=C4 0 (F9J n)
def F9N (n:Nat):SmV:=A1 [0,1,7,8] (F9V n) (F9L n)
def F9P (n:Nat):SmV:=A2 A0u C0E
def C0v (n:Nat):SmV:=A1 [4] (F9P n) B5
def F9S (n:Nat):SmV:=A1 [0] (F9N n) (C0v n)
def F9U (n:Nat):SmV:=A1 [0,1] (F9D n) (F9S n)
def A7z (n:Nat):AExit → Env → A0 → A6:=fun x e h=>match x with | .normal=>hold ((C0v n) A_mix_More.fin (e.keep [0]) h) | .exit id=>A_mix_More.fin (.exit id) e h | .ret=>A_mix_More.fin .ret e h
def G0c (n:Nat):AExit → Env → A0 → A6:=fun x e h=>match x with | .exit i=>bif Nat.beq i 0 then (A7z n) .normal e h else (A7z n) (.exit i) e h | .normal=>(A7z n) .normal e h | .ret=>(A7z n) .ret e h
def A7A (n m:Nat) (x0 x1 x7 x8:Val) (h:A0):A6:=E2 (C0u n) [0,1,7,8] (G0c n) m [(0,x0),(1,x1),(7,x7),(8,x8)] h
def A8L (n:Nat) (args:List Val) (h:A0):A6:=(F9U n) A_mix_More.fin (params 0 args) h
theorem C6O (n:Nat) (a0 a1:Val) (h:A0):A8L n [a0,a1] h=bnd (Y0 a1) fun v1=>A7A n n a0 a1 v1 (.c (.i .i64 0)) h:=by kernel_rfl
theorem C0w (n m:Nat) (x0 x1 x7 x8:Val) (h:A0):A7A n (m + 1) x0 x1 x7 x8 h=bnd (A4 .lss x8 x7) fun v2=>cnd v2 (bnd (Z8 x1 x8) fun v3=>bnd (J9 .u32 v3) fun v4=>bnd (A4 .xor x0 v4) fun v5=>bnd (A4 .mul v5 (.c (.i .u32 16777619))) fun v6=>bnd (A4 .add x8 (.c (.i .i64 1))) fun v7=>A7A n m v6 x1 x7 v7 h) (some (x0,h)):=by kernel_rfl
theorem K_mix_More:FnK Try.prog 132 A_mix_More A0u A8L:=.mk' (C5) Try.func132 (by kernel_rfl) (by intro n args h;kernel_rfl)
def A3H:Fun:=tidy (Lim A_mix_More A0u)
theorem C8y:SOk Try.prog 132 A3H:=K_mix_More.sok
theorem C8x {n:Nat} {args:List Val} {h h2:A0} {v:Val} (he:A8L n args (ro h)=some (v,h2)) (hf:v.flat=true):A3H args h=some (v,h):=K_mix_More.flat he hf
def C0G:List AOper:=[aO 2 (.mv (.v (.c (.i .u32 0))))]
def G0d:ACode:=.ops C0G
def C0H:List AOper:=[aO 3 (.mv (.t 0)),aO 4 (.call 132 [(.v (.c (.i .u32 2166136261))),(.t 3)]),aO 2 (.mv (.t 4))]
def G0f:ACode:=.ops C0H
def G0h:ACode:=.seq [2] G0f .ret
def G0j:ACode:=.seq [0] G0d G0h
def A_mix_Of:AFn:=⟨G0j,[.tmp 2]⟩
def A4R:B4:=A9 132 A3H C2
def G0e (n:Nat):SmV:=A2 A4R C0G
def G0g (n:Nat):SmV:=A2 A4R C0H
def G0i (n:Nat):SmV:=A1 [2] (G0g n) B5
def G0k (n:Nat):SmV:=A1 [0] (G0e n) (G0i n)
def A8M (n:Nat) (args:List Val) (h:A0):A6:=(G0k n) A_mix_Of.fin (params 0 args) h
theorem C6P (n:Nat) (a0:Val) (h:A0):A8M n [a0] h=bnd (A3H [.c (.i .u32 2166136261),a0] h) fun p1=>some (p1.1,p1.2):=by kernel_rfl
theorem K_mix_Of:FnK Try.prog 99 A_mix_Of A4R A8M:=.mk' (B3 C8y C5) Try.func99 (by kernel_rfl) (by intro n args h;kernel_rfl)
def A1T:Fun:=tidy (Lim A_mix_Of A4R)
theorem B1f:SOk Try.prog 99 A1T:=K_mix_Of.sok
theorem C8z {n:Nat} {args:List Val} {h h2:A0} {v:Val} (he:A8M n args (ro h)=some (v,h2)) (hf:v.flat=true):A1T args h=some (v,h):=K_mix_Of.flat he hf
def C0o:List AOper:=[aO 4 (.mv (.v (.c (.i .i64 0))))]
def F85:ACode:=.ops C0o
def C0p:List AOper:=[aO 6 (.mv (.t 1)),aO 7 (.bin .lss (.t 6) (.v (.c (.i .i64 1)))),aO 5 (.mv (.t 7))]
def F87:ACode:=.ops C0p
def C0q:List AOper:=[aO 4 (.mv (.v (.c (.i .i64 0))))]
def F9l:ACode:=.ops C0q
def F9n:ACode:=.seq [4] F9l .ret
def C0r:List AOper:=[aO 9 (.mv (.t 1)),aO 10 (.bin .geq (.t 9) (.v (.c (.i .i64 32)))),aO 8 (.mv (.t 10))]
def F9p:ACode:=.ops C0r
def C0s:List AOper:=[aO 11 (.mv (.t 0)),aO 12 (.conv .i64 (.t 11)),aO 4 (.mv (.t 12))]
def F9r:ACode:=.ops C0s
def F9t:ACode:=.seq [4] F9r .ret
def F9v:ACode:=.cond (.t 8) F9t .skip
def F9x:ACode:=.seq [0,1,8] F9p F9v
def F9z:ACode:=.cond (.t 5) F9n F9x
def F88:ACode:=.seq [0,1,5] F87 F9z
def F9a:ACode:=.block 0 F88
def C0t:List AOper:=[aO 13 (.mv (.t 0)),aO 14 (.mv (.t 1)),aO 15 (.conv .u64 (.t 14)),aO 16 (.bin .shl (.v (.c (.i .u32 1))) (.t 15)),aO 17 (.bin .sub (.t 16) (.v (.c (.i .u32 1)))),aO 18 (.bin .and (.t 13) (.t 17)),aO 19 (.conv .i64 (.t 18)),aO 4 (.mv (.t 19))]
def F9c:ACode:=.ops C0t
def F9e:ACode:=.seq [4] F9c .ret
def F9g:ACode:=.seq [0,1] F9a F9e
def F9i:ACode:=.seq [0,1] F85 F9g
def A_mix_Low:AFn:=⟨F9i,[.tmp 4]⟩
def A01:B4:=C2
def F86 (n:Nat):SmV:=A2 A01 C0o
def F9k (n:Nat):SmV:=A2 A01 C0p
def F9m (n:Nat):SmV:=A2 A01 C0q
def F9o (n:Nat):SmV:=A1 [4] (F9m n) B5
def F9q (n:Nat):SmV:=A2 A01 C0r
def F9s (n:Nat):SmV:=A2 A01 C0s
def F9u (n:Nat):SmV:=A1 [4] (F9s n) B5
def F9w (n:Nat):SmV:=B8 (.t 8) (F9u n) B9
def F9y (n:Nat):SmV:=A1 [0,1,8] (F9q n) (F9w n)
def F9A (n:Nat):SmV:=B8 (.t 5) (F9o n) (F9y n)
def F89 (n:Nat):SmV:=A1 [0,1,5] (F9k n) (F9A n)
def F9b (n:Nat):SmV:=C4 0 (F89 n)
def F9d (n:Nat):SmV:=A2 A01 C0t
def F9f (n:Nat):SmV:=A1 [4] (F9d n) B5
def F9h (n:Nat):SmV:=A1 [0,1] (F9b n) (F9f n)
def F9j (n:Nat):SmV:=A1 [0,1] (F86 n) (F9h n)
def A5x (n:Nat) (args:List Val) (h:A0):A6:=(F9j n) A_mix_Low.fin (params 0 args) h
theorem C6N (n:Nat) (a0 a1:Val) (h:A0):A5x n [a0,a1] h=bnd (A4 .lss a1 (.c (.i .i64 1))) fun v1=>cnd v1 (some ((.c (.i .i64 0)),h)) (bnd (A4 .geq a1 (.c (.i .i64 32))) fun v2=>cnd v2 (bnd (J9 .i64 a0) fun v3=>some (v3,h)) (bnd (J9 .u64 a1) fun v4=>bnd (A4 .shl (.c (.i .u32 1)) v4) fun v5=>bnd (A4 .sub v5 (.c (.i .u32 1))) fun v6=>bnd (A4 .and a0 v6) fun v7=>bnd (J9 .i64 v7) fun v8=>some (v8,h))):=by kernel_rfl
theorem K_mix_Low:FnK Try.prog 153 A_mix_Low A01 A5x:=.mk' (C5) Try.func153 (by kernel_rfl) (by intro n args h;kernel_rfl)
def A3G:Fun:=tidy (Lim A_mix_Low A01)
theorem C8w:SOk Try.prog 153 A3G:=K_mix_Low.sok
theorem C8v {n:Nat} {args:List Val} {h h2:A0} {v:Val} (he:A5x n args (ro h)=some (v,h2)) (hf:v.flat=true):A3G args h=some (v,h):=K_mix_Low.flat he hf
end Go.Proofs.Ytdgggnlbdoiloaa
end
section
namespace Go.Proofs.Ytdgggnlbdoiloaa
open Go Go.Esc
def A4n (h:Nat) (c:UInt8):Nat:=((h ^^^ c.toNat) * 16777619) % 4294967296
def A7y (h:Nat) (s:List UInt8):Nat:=s.foldl A4n h
def Y8 (s:List UInt8):Nat:=A7y 2166136261 s
theorem C0n {h:Nat} {c:UInt8}:A4n h c < 4294967296:=Nat.mod_lt _ (by omega)
theorem F84 {s:List UInt8}:∀ {h:Nat},h < 4294967296 → A7y h s < 4294967296:=by
  induction s with
  | nil=>intro h hh;exact hh
  | cons c s ih=>intro h _;exact ih C0n
theorem C0m {s:List UInt8}:Y8 s < 4294967296:=F84 (by omega)
theorem H9B {a:Int}:IntKind.wrap .u32 a=a % 4294967296:=by
  simp only [IntKind.wrap,IntKind.bits,IntKind.signed,Bool.false_and]
  rfl
theorem C0x {s:List UInt8} (hs:s.length < 9223372036854775807) {q:Nat} {h:A0}:∀ (d i m H:Nat),i + d=s.length → d < m → H < 4294967296 →
    A7A q m (.c (.i .u32 H)) (.c (.s s)) (.c (.i .i64 s.length)) (.c (.i .i64 i)) h=some (.c (.i .u32 ((A7y H (s.drop i):Nat):Int)),h)
  | d,i,0,H,_,hm,_=>by omega
  | 0,i,m + 1,H,hi,hm,hH=>by
    have c0:¬ (i:Int) < s.length:=by omega
    rw [C0w,List.drop_of_length_le (by omega)]
    simp only [esc,c0,A7y,List.foldl_nil]
  | d + 1,i,m + 1,H,hi,hm,hH=>by
    have h2:i < s.length:=by omega
    have hb:=s[i].toNat_lt
    have ih:=C0x hs (q:=q) (h:=h) d (i + 1) m (A4n H s[i]) (by omega) (by omega) C0n
    have c0:(i:Int) < s.length:=by omega
    have e1:IntKind.wrap .u32 (s[i].toNat:Int)=s[i].toNat:=wrap_u32 (by omega) (by omega)
    have e2:=H9C (a:=H) (b:=s[i].toNat) hH (by omega)
    have e3:IntKind.wrap .u32 (((H ^^^ s[i].toNat:Nat):Int) * 16777619)=((A4n H s[i]:Nat):Int):=by
      rw [H9B];unfold A4n;omega
    rw [C0w,List.drop_eq_getElem_cons h2]
    simp only [esc,c0,A39 h2,e1,e2,e3,F4 (show i + 1 < 9223372036854775808 by omega)]
    exact ih
theorem C0F {s:List UInt8} (hs:s.length < 9223372036854775807) {h:A0}:A1T [.c (.s s)] h=some (.c (.i .u32 ((Y8 s:Nat):Int)),h):=by
  have hm:∀ h,A3H [.c (.i .u32 2166136261),.c (.s s)] h=some (.c (.i .u32 ((Y8 s:Nat):Int)),h):=fun h=>by
    refine C8x (n:=s.length + 1) (h2:=ro h) ?_ rfl
    rw [C6O]
    have:=C0x hs (q:=s.length + 1) (h:=ro h) s.length 0 (s.length + 1) 2166136261 (by omega) (by omega) (by omega)
    simp only [esc]
    exact this
  refine C8z (n:=0) (h2:=ro h) ?_ rfl
  rw [C6P]
  simp only [esc,hm]
end Go.Proofs.Ytdgggnlbdoiloaa
end
noncomputable section
namespace Go.Proofs.Ytdgggnlbdoiloaa
open Go Go.Esc
set_option maxRecDepth 100000
def C4w:List AOper:=[aO 1 (.box (.t 0)),aO 2 (.mv (.v (.c (.i .i64 0))))]
def H3f:ACode:=.ops C4w
def C4x:List AOper:=[aO 4 (.fAddr (.t 1) 0),aO 5 (.load1 (.t 4)),aO 6 (.bin .lss (.t 5) (.v (.c (.i .i64 16)))),aO 3 (.mv (.t 6))]
def H3h:ACode:=.ops C4x
def C4z:List AOper:=[aO 7 (.fAddr (.t 1) 0),aO 8 (.load1 (.t 7)),aO 9 (.bin .gtr (.t 8) (.v (.c (.i .i64 512)))),aO 3 (.mv (.t 9))]
def H3D:ACode:=.ops C4z
def H3W:ACode:=.cond (.t 3) .skip H3D
def H3Y:ACode:=.seq [1,3] H3h H3W
def C4A:List AOper:=[aO 2 (.mv (.v (.c (.i .i64 1))))]
def H30:ACode:=.ops C4A
def H32:ACode:=.seq [2] H30 .ret
def C4B:List AOper:=[aO 11 (.fAddr (.t 1) 1),aO 12 (.load1 (.t 11)),aO 13 (.bin .lss (.t 12) (.v (.c (.i .i64 8)))),aO 10 (.mv (.t 13))]
def H34:ACode:=.ops C4B
def C4C:List AOper:=[aO 14 (.fAddr (.t 1) 1),aO 15 (.load1 (.t 14)),aO 16 (.bin .gtr (.t 15) (.v (.c (.i .i64 128)))),aO 10 (.mv (.t 16))]
def H36:ACode:=.ops C4C
def C4D:List AOper:=[aO 17 (.fAddr (.t 1) 1),aO 18 (.load1 (.t 17)),aO 19 (.bin .rem (.t 18) (.v (.c (.i .i64 8)))),aO 20 (.bin .neq (.t 19) (.v (.c (.i .i64 0)))),aO 10 (.mv (.t 20))]
def H38:ACode:=.ops C4D
def H3i:ACode:=.cond (.t 10) .skip H38
def H3k:ACode:=.seq [1,10] H36 H3i
def H3m:ACode:=.cond (.t 10) .skip H3k
def H3o:ACode:=.seq [1,10] H34 H3m
def C4E:List AOper:=[aO 2 (.mv (.v (.c (.i .i64 1))))]
def H3q:ACode:=.ops C4E
def H3s:ACode:=.seq [2] H3q .ret
def C4F:List AOper:=[aO 22 (.fAddr (.t 1) 1),aO 23 (.load1 (.t 22)),aO 24 (.bin .quo (.t 23) (.v (.c (.i .i64 8)))),aO 25 (.bin .add (.v (.c (.i .i64 2))) (.t 24)),aO 26 (.fAddr (.t 1) 0),aO 27 (.load1 (.t 26)),aO 28 (.bin .geq (.t 25) (.t 27)),aO 21 (.mv (.t 28))]
def H3u:ACode:=.ops C4F
def C4G:List AOper:=[aO 2 (.mv (.v (.c (.i .i64 1))))]
def H3w:ACode:=.ops C4G
def H3y:ACode:=.seq [2] H3w .ret
def H3A:ACode:=.cond (.t 21) H3y .skip
def H3E:ACode:=.seq [21] H3u H3A
def H3G:ACode:=.cond (.t 10) H3s H3E
def H3H:ACode:=.seq [1,10] H3o H3G
def H3J:ACode:=.cond (.t 3) H32 H3H
def H3K:ACode:=.seq [1,3] H3Y H3J
def H3M:ACode:=.block 0 H3K
def C4y:List AOper:=[aO 2 (.mv (.v (.c (.i .i64 0))))]
def H3O:ACode:=.ops C4y
def H3Q:ACode:=.seq [2] H3O .ret
def H3R:ACode:=.seq [] H3M H3Q
def H3T:ACode:=.seq [1] H3f H3R
def A_super_Check:AFn:=⟨H3T,[.tmp 2]⟩
def T4:B4:=C2
def H3g (n:Nat):SmV:=A2 T4 C4w
def H3C (n:Nat):SmV:=A2 T4 C4x
def H3V (n:Nat):SmV:=A2 T4 C4z
def H3X (n:Nat):SmV:=B8 (.t 3) B9 (H3V n)
def H3Z (n:Nat):SmV:=A1 [1,3] (H3C n) (H3X n)
def H31 (n:Nat):SmV:=A2 T4 C4A
def H33 (n:Nat):SmV:=A1 [2] (H31 n) B5
def H35 (n:Nat):SmV:=A2 T4 C4B
def H37 (n:Nat):SmV:=A2 T4 C4C
def H39 (n:Nat):SmV:=A2 T4 C4D
def H3j (n:Nat):SmV:=B8 (.t 10) B9 (H39 n)
def H3l (n:Nat):SmV:=A1 [1,10] (H37 n) (H3j n)
def H3n (n:Nat):SmV:=B8 (.t 10) B9 (H3l n)
def H3p (n:Nat):SmV:=A1 [1,10] (H35 n) (H3n n)
def H3r (n:Nat):SmV:=A2 T4 C4E
def H3t (n:Nat):SmV:=A1 [2] (H3r n) B5
def H3v (n:Nat):SmV:=A2 T4 C4F
def H3x (n:Nat):SmV:=A2 T4 C4G
def H3z (n:Nat):SmV:=A1 [2] (H3x n) B5
def H3B (n:Nat):SmV:=B8 (.t 21) (H3z n) B9
def H3F (n:Nat):SmV:=A1 [21] (H3v n) (H3B n)
def C4s (n:Nat):SmV:=B8 (.t 10) (H3t n) (H3F n)
def H3I (n:Nat):SmV:=A1 [1,10] (H3p n) (C4s n)
def C4t (n:Nat):SmV:=B8 (.t 3) (H33 n) (H3I n)
def H3L (n:Nat):SmV:=A1 [1,3] (H3Z n) (C4t n)
def H3N (n:Nat):SmV:=C4 0 (H3L n)
def H3P (n:Nat):SmV:=A2 T4 C4y
def C4u (n:Nat):SmV:=A1 [2] (H3P n) B5
def H3S (n:Nat):SmV:=A1 [] (H3N n) (C4u n)
def H3U (n:Nat):SmV:=A1 [1] (H3g n) (H3S n)
def A8n (n:Nat):AExit → Env → A0 → A6:=fun x e h=>match x with | .normal=>hold ((C4u n) A_super_Check.fin (e.keep []) h) | .exit id=>A_super_Check.fin (.exit id) e h | .ret=>A_super_Check.fin .ret e h
def C4v (n:Nat):AExit → Env → A0 → A6:=fun x e h=>match x with | .exit i=>bif Nat.beq i 0 then (A8n n) .normal e h else (A8n n) (.exit i) e h | .normal=>(A8n n) .normal e h | .ret=>(A8n n) .ret e h
def B0S (n:Nat) (x1 x3:Val) (h:A0):A6:=hold ((C4t n) (C4v n) [(1,x1),(3,x3)] h)
def A5J (n:Nat) (args:List Val) (h:A0):A6:=(H3U n) A_super_Check.fin (params 0 args) h
def A8m (n:Nat) (x1 x10:Val) (h:A0):A6:=hold ((C4s n) (C4v n) [(1,x1),(10,x10)] h)
theorem C66 (n:Nat) (a0:Val) (h:A0):A5J n [a0] h=bnd (cells? a0) fun c1=>bnd (B7 ((.c (.p h.length 0))) 0) fun v2=>bnd (A8 ((h ++ [some (Row.mk (c1) true)])) v2) fun v3=>bnd (A4 .lss v3 (.c (.i .i64 16))) fun v4=>cnd v4 (B0S n ((.c (.p h.length 0))) v4 ((h ++ [some (Row.mk (c1) true)]))) (bnd (B7 ((.c (.p h.length 0))) 0) fun v5=>bnd (A8 ((h ++ [some (Row.mk (c1) true)])) v5) fun v6=>bnd (A4 .gtr v6 (.c (.i .i64 512))) fun v7=>B0S n ((.c (.p h.length 0))) v7 ((h ++ [some (Row.mk (c1) true)]))):=by kernel_rfl
theorem A2u (n:Nat) (x1 x3:Val) (h:A0):B0S n x1 x3 h=cnd x3 (some ((.c (.i .i64 1)),h)) (bnd (B7 x1 1) fun v8=>bnd (A8 h v8) fun v9=>bnd (A4 .lss v9 (.c (.i .i64 8))) fun v10=>cnd v10 (A8m n x1 v10 h) (bnd (B7 x1 1) fun v11=>bnd (A8 h v11) fun v12=>bnd (A4 .gtr v12 (.c (.i .i64 128))) fun v13=>cnd v13 (A8m n x1 v13 h) (bnd (B7 x1 1) fun v14=>bnd (A8 h v14) fun v15=>bnd (A4 .rem v15 (.c (.i .i64 8))) fun v16=>bnd (A4 .neq v16 (.c (.i .i64 0))) fun v17=>A8m n x1 v17 h))):=by kernel_rfl
theorem A4B (n:Nat) (x1 x10:Val) (h:A0):A8m n x1 x10 h=cnd x10 (some ((.c (.i .i64 1)),h)) (bnd (B7 x1 1) fun v18=>bnd (A8 h v18) fun v19=>bnd (A4 .quo v19 (.c (.i .i64 8))) fun v20=>bnd (A4 .add (.c (.i .i64 2)) v20) fun v21=>bnd (B7 x1 0) fun v22=>bnd (A8 h v22) fun v23=>bnd (A4 .geq v21 v23) fun v24=>cnd v24 (some ((.c (.i .i64 1)),h)) (some ((.c (.i .i64 0)),h))):=by kernel_rfl
theorem K_super_Check:FnK Try.prog 70 A_super_Check T4 A5J:=.mk' (C5) Try.func70 (by kernel_rfl) (by intro n args h;kernel_rfl)
def A1W:Fun:=tidy (Lim A_super_Check T4)
theorem B1i:SOk Try.prog 70 A1W:=K_super_Check.sok
theorem C8Y {n:Nat} {args:List Val} {h h2:A0} {v:Val} (he:A5J n args (ro h)=some (v,h2)) (hf:v.flat=true):A1W args h=some (v,h):=K_super_Check.flat he hf
def C4R:List AOper:=[aO 1 (.box (.t 0)),aO 2 (.alloc (List.replicate 256 (.i .u8 0))),aO 3 (.mv (.v (.c (.i .i64 0))))]
def H4G:ACode:=.ops C4R
def C4S:List AOper:=[aO 9 (.loadN 3 (.t 1)),aO 10 (.call 70 [(.t 9)]),aO 4 (.mv (.t 10))]
def H4I:ACode:=.ops C4S
def C4V:List AOper:=[aO 11 (.mv (.t 4)),aO 12 (.bin .neq (.t 11) (.v (.c (.i .i64 0))))]
def H44:ACode:=.ops C4V
def C4W:List AOper:=[aO 13 (.build (List.replicate 256 (.i .u8 0)) []),aO 14 (.mv (.t 4)),{ dst:=none,op:=.storeN 256 (.t 2) (.t 13) },aO 3 (.mv (.t 14))]
def H5e:ACode:=.ops C4W
def H5g:ACode:=.seq [2,3] H5e .ret
def H5i:ACode:=.cond (.t 12) H5g .skip
def H5k:ACode:=.seq [1,2,4,12] H44 H5i
def H5m:ACode:=.seq [1,2,4] H4I H5k
def C4X:List AOper:=[aO 15 (.buildSl 1 8 ([.i .u8 0,.i .u8 0,.i .u8 0,.i .u8 0,.i .u8 0,.i .u8 0,.i .u8 0,.i .u8 0]) [(0,1,(.v (.c (.i .u8 101)))),(1,1,(.v (.c (.i .u8 115)))),(2,1,(.v (.c (.i .u8 99)))),(3,1,(.v (.c (.i .u8 104)))),(4,1,(.v (.c (.i .u8 101)))),(5,1,(.v (.c (.i .u8 97)))),(6,1,(.v (.c (.i .u8 116)))),(7,1,(.v (.c (.i .u8 49))))]),aO 16 (.mark (.t 15)),aO 17 (.call 95 [(.t 16)]),aO 5 (.alloc (List.replicate 256 (.i .u8 0))),{ dst:=none,op:=.storeN 256 (.t 5) (.t 17) }]
def H5o:ACode:=.ops C4X
def C4Y:List AOper:=[aO 18 (.loadN 256 (.t 5)),aO 19 (.fAddr (.t 1) 0),aO 20 (.load1 (.t 19)),aO 21 (.call 96 [(.t 18),(.v (.c (.i .i64 8))),(.v (.c (.i .i64 2))),(.t 20)]),{ dst:=none,op:=.storeN 256 (.t 5) (.t 21) }]
def H5q:ACode:=.ops C4Y
def C4Z:List AOper:=[aO 22 (.loadN 256 (.t 5)),aO 23 (.fAddr (.t 1) 1),aO 24 (.load1 (.t 23)),aO 25 (.call 96 [(.t 22),(.v (.c (.i .i64 10))),(.v (.c (.i .i64 2))),(.t 24)]),{ dst:=none,op:=.storeN 256 (.t 5) (.t 25) }]
def H4J:ACode:=.ops C4Z
def C40:List AOper:=[{ dst:=some 27,op:=.mkSl 1 ([.i .u8 0]) (.v (.c (.i .i64 8))) (.v (.c (.i .i64 8))),slot:=some 0 },aO 28 (.fAddr (.t 1) 2),aO 29 (.load1 (.t 28)),aO 30 (.call 97 [(.t 27),(.v (.c (.i .i64 0))),(.v (.c (.i .i64 8))),(.t 29)]),aO 26 (.mv (.t 30)),aO 31 (.ext (.t 26) 0),aO 32 (.ext (.t 26) 1),aO 6 (.mv (.t 31))]
def C41:List AOper:=[aO 7 (.mv (.t 32))]
def H4L:ACode:=.draw 1 C40 C41
def C42:List AOper:=[aO 33 (.loadN 256 (.t 5)),aO 34 (.mv (.t 6)),aO 35 (.call 98 [(.t 33),(.v (.c (.i .i64 12))),(.t 34)]),{ dst:=none,op:=.storeN 256 (.t 5) (.t 35) }]
def H4N:ACode:=.ops C42
def C4T:List AOper:=[aO 36 (.loadN 256 (.t 5)),aO 37 (.call 57 [(.t 36),(.v (.c (.i .i64 0))),(.v (.c (.i .i64 20)))]),aO 38 (.b2s (.t 37)),aO 39 (.call 99 [(.t 38)]),aO 8 (.mv (.t 39))]
def H4P:ACode:=.ops C4T
def C4U:List AOper:=[aO 40 (.loadN 256 (.t 5)),aO 41 (.mv (.t 8)),aO 42 (.conv .i64 (.t 41)),aO 43 (.call 96 [(.t 40),(.v (.c (.i .i64 20))),(.v (.c (.i .i64 4))),(.t 42)]),{ dst:=none,op:=.storeN 256 (.t 2) (.t 43) },aO 3 (.mv (.v (.c (.i .i64 0))))]
def H4R:ACode:=.ops C4U
def H4T:ACode:=.seq [2,3] H4R .ret
def H4V:ACode:=.seq [2,5,8] H4P H4T
def H4X:ACode:=.seq [2,5] H4N H4V
def H4Z:ACode:=.seq [2,5,6] H4L H4X
def H41:ACode:=.seq [1,2,5] H4J H4Z
def H45:ACode:=.seq [1,2,5] H5q H41
def H47:ACode:=.seq [1,2,5] H5o H45
def H49:ACode:=.seq [1,2] H5m H47
def H5b:ACode:=.seq [1,2] H4G H49
def A_super_Put:AFn:=⟨H5b,[.cellN 2 256,.tmp 3]⟩
def T5:B4:=A9 70 A1W (A9 95 X7 (A9 96 N7 (A9 97 A3M (A9 98 A0G (A9 57 A0F (A9 99 A1T C2))))))
def H4H (n:Nat):SmV:=A2 T5 C4R
def H43 (n:Nat):SmV:=A2 T5 C4S
def H5d (n:Nat):SmV:=A2 T5 C4V
def H5f (n:Nat):SmV:=A2 T5 C4W
def H5h (n:Nat):SmV:=A1 [2,3] (H5f n) B5
def H5j (n:Nat):SmV:=B8 (.t 12) (H5h n) B9
def H5l (n:Nat):SmV:=A1 [1,2,4,12] (H5d n) (H5j n)
def H5n (n:Nat):SmV:=A1 [1,2,4] (H43 n) (H5l n)
def H5p (n:Nat):SmV:=A2 T5 C4X
def H5r (n:Nat):SmV:=A2 T5 C4Y
def H4K (n:Nat):SmV:=A2 T5 C4Z
def H4M (n:Nat):SmV:=P8 T5 1 C40 C41
def H4O (n:Nat):SmV:=A2 T5 C42
def H4Q (n:Nat):SmV:=A2 T5 C4T
def H4S (n:Nat):SmV:=A2 T5 C4U
def H4U (n:Nat):SmV:=A1 [2,3] (H4S n) B5
def H4W (n:Nat):SmV:=A1 [2,5,8] (H4Q n) (H4U n)
def H4Y (n:Nat):SmV:=A1 [2,5] (H4O n) (H4W n)
def H40 (n:Nat):SmV:=A1 [2,5,6] (H4M n) (H4Y n)
def H42 (n:Nat):SmV:=A1 [1,2,5] (H4K n) (H40 n)
def H46 (n:Nat):SmV:=A1 [1,2,5] (H5r n) (H42 n)
def H48 (n:Nat):SmV:=A1 [1,2,5] (H5p n) (H46 n)
def H5a (n:Nat):SmV:=A1 [1,2] (H5n n) (H48 n)
def H5c (n:Nat):SmV:=A1 [1,2] (H4H n) (H5a n)
def A5L (n:Nat) (args:List Val) (h:A0):A6:=(H5c n) A_super_Put.fin (params 0 args) h
theorem C68 (n:Nat) (a0:Val) (h:A0):A5L n [a0] h=bnd (cells? a0) fun c1=>bnd (A5 (((h ++ [some (Row.mk (c1) true)]) ++ [some (Row.mk (List.replicate 256 (.i .u8 0)) true)])) 3 ((.c (.p h.length 0)))) fun v2=>bnd (A1W [v2] (((h ++ [some (Row.mk (c1) true)]) ++ [some (Row.mk (List.replicate 256 (.i .u8 0)) true)]))) fun p3=>bnd (A4 .neq p3.1 (.c (.i .i64 0))) fun v4=>cnd v4 (bnd (B0 (List.replicate 256 (.i .u8 0)) []) fun c5=>bnd (B1 p3.2 256 ((.c (.p ((h ++ [some (Row.mk (c1) true)])).length 0))) ((.a c5))) fun h6=>D3 [A5 h6 256 ((.c (.p ((h ++ [some (Row.mk (c1) true)])).length 0))),some p3.1] h6) (bnd (B0 ([.i .u8 0,.i .u8 0,.i .u8 0,.i .u8 0,.i .u8 0,.i .u8 0,.i .u8 0,.i .u8 0]) [(0,1,.c (.i .u8 101)),(1,1,.c (.i .u8 115)),(2,1,.c (.i .u8 99)),(3,1,.c (.i .u8 104)),(4,1,.c (.i .u8 101)),(5,1,.c (.i .u8 97)),(6,1,.c (.i .u8 116)),(7,1,.c (.i .u8 49))]) fun c7=>bnd (S2 ((p3.2 ++ [some (Row.mk (c7) true)])) ((.c (.sl p3.2.length 0 8 1)))) fun v8=>bnd (X7 [v8] ((p3.2 ++ [some (Row.mk (c7) true)]))) fun p9=>bnd (B1 ((p9.2 ++ [some (Row.mk (List.replicate 256 (.i .u8 0)) true)])) 256 ((.c (.p p9.2.length 0))) p9.1) fun h10=>bnd (A5 h10 256 ((.c (.p p9.2.length 0)))) fun v11=>bnd (B7 ((.c (.p h.length 0))) 0) fun v12=>bnd (A8 h10 v12) fun v13=>bnd (N7 [v11,.c (.i .i64 8),.c (.i .i64 2),v13] h10) fun p14=>bnd (B1 p14.2 256 ((.c (.p p9.2.length 0))) p14.1) fun h15=>bnd (A5 h15 256 ((.c (.p p9.2.length 0)))) fun v16=>bnd (B7 ((.c (.p h.length 0))) 1) fun v17=>bnd (A8 h15 v17) fun v18=>bnd (N7 [v16,.c (.i .i64 10),.c (.i .i64 2),v18] h15) fun p19=>bnd (B1 p19.2 256 ((.c (.p p9.2.length 0))) p19.1) fun h20=>bnd (A0M (.c (.i .i64 8)) (.c (.i .i64 8))) fun n21=>bnd (B7 ((.c (.p h.length 0))) 2) fun v22=>bnd (A8 h20 v22) fun v23=>bnd (quiet ((((h20 ++ [none])).set (h20.length + 0) (some (Row.mk (rows ([.i .u8 0]) n21) true)))) (A3M [(.c (.sl (h20.length + 0) 0 n21 1)),.c (.i .i64 0),.c (.i .i64 8),v23] ((((h20 ++ [none])).set (h20.length + 0) (some (Row.mk (rows ([.i .u8 0]) n21) true)))))) fun p24=>bnd (C3 p24.1 0) fun v25=>bnd (C3 p24.1 1) fun v26=>bnd (A5 p24.2 256 ((.c (.p p9.2.length 0)))) fun v27=>bnd (A0G [v27,.c (.i .i64 12),v25] p24.2) fun p28=>bnd (B1 p28.2 256 ((.c (.p p9.2.length 0))) p28.1) fun h29=>bnd (A5 h29 256 ((.c (.p p9.2.length 0)))) fun v30=>bnd (A0F [v30,.c (.i .i64 0),.c (.i .i64 20)] h29) fun p31=>bnd (N8 p31.2 p31.1) fun v32=>bnd (A1T [v32] p31.2) fun p33=>bnd (A5 p33.2 256 ((.c (.p p9.2.length 0)))) fun v34=>bnd (J9 .i64 p33.1) fun v35=>bnd (N7 [v34,.c (.i .i64 20),.c (.i .i64 4),v35] p33.2) fun p36=>bnd (B1 p36.2 256 ((.c (.p ((h ++ [some (Row.mk (c1) true)])).length 0))) p36.1) fun h37=>D3 [A5 h37 256 ((.c (.p ((h ++ [some (Row.mk (c1) true)])).length 0))),some (.c (.i .i64 0))] h37):=by kernel_rfl
theorem K_super_Put:FnK Try.prog 52 A_super_Put T5 A5L:=.mk' (B3 B1i (B3 A5W (B3 A83 (B3 C8Q (B3 A82 (B3 A81 (B3 B1f C5))))))) Try.func52 (by kernel_rfl) (by intro n args h;kernel_rfl)
def A1X:Fun:=tidy (Lim A_super_Put T5)
theorem B1j:SOk Try.prog 52 A1X:=K_super_Put.sok
theorem C81 {n:Nat} {args:List Val} {h h2:A0} {v:Val} (he:A5L n args (ro h)=some (v,h2)) (hf:v.flat=true):A1X args h=some (v,h):=K_super_Put.flat he hf
def C4I:List AOper:=[aO 1 (.box (.t 0)),aO 2 (.alloc ([.i .i64 0,.i .i64 0,.i .u64 0])),aO 3 (.mv (.v (.c (.i .i64 0))))]
def H4a:ACode:=.ops C4I
def C4J:List AOper:=[aO 10 (.loadN 256 (.t 1)),aO 11 (.call 57 [(.t 10),(.v (.c (.i .i64 12))),(.v (.c (.i .i64 8)))]),aO 12 (.call 100 [(.t 11),(.v (.c (.i .i64 0))),(.v (.c (.i .i64 8)))]),aO 9 (.mv (.t 12)),aO 13 (.ext (.t 9) 0),aO 14 (.ext (.t 9) 1),aO 4 (.mv (.t 13)),aO 5 (.mv (.t 14))]
def H4c:ACode:=.ops C4J
def C4K:List AOper:=[aO 15 (.loadN 256 (.t 1)),aO 16 (.call 101 [(.t 15),(.v (.c (.i .i64 8))),(.v (.c (.i .i64 2)))]),aO 17 (.loadN 256 (.t 1)),aO 18 (.call 101 [(.t 17),(.v (.c (.i .i64 10))),(.v (.c (.i .i64 2)))]),aO 19 (.mv (.t 4)),aO 20 (.build ([.i .i64 0,.i .i64 0,.i .u64 0]) [(0,1,(.t 16)),(1,1,(.t 18)),(2,1,(.t 19))]),{ dst:=some 6,op:=.alloc ([.i .i64 0,.i .i64 0,.i .u64 0]),slot:=some 0 }]
def C4L:List AOper:=[{ dst:=none,op:=.storeN 3 (.t 6) (.t 20) }]
def H4q:ACode:=.draw 1 C4K C4L
def C4M:List AOper:=[aO 22 (.loadN 3 (.t 6)),aO 23 (.call 52 [(.t 22)]),aO 21 (.mv (.t 23)),aO 24 (.ext (.t 21) 0),aO 25 (.ext (.t 21) 1),aO 7 (.alloc (List.replicate 256 (.i .u8 0))),{ dst:=none,op:=.storeN 256 (.t 7) (.t 24) },aO 8 (.mv (.t 25))]
def H4s:ACode:=.ops C4M
def C4N:List AOper:=[aO 26 (.mv (.t 8)),aO 27 (.bin .neq (.t 26) (.v (.c (.i .i64 0)))),aO 28 (.mv (.t 27)),{ dst:=some 29,op:=.loadN 256 (.t 7),guard:=some (28,false) },{ dst:=some 30,op:=.loadN 256 (.t 1),guard:=some (28,false) },{ dst:=some 31,op:=.eqA true (List.replicate 256 (.i .u8)) (.t 29) (.t 30),guard:=some (28,false) },aO 32 (.pick (.t 28) (.v (.c (.b true))) (.t 31))]
def H4u:ACode:=.ops C4N
def C4O:List AOper:=[aO 33 (.build ([.i .i64 0,.i .i64 0,.i .u64 0]) []),{ dst:=none,op:=.storeN 3 (.t 2) (.t 33) },aO 3 (.mv (.v (.c (.i .i64 13))))]
def H4w:ACode:=.ops C4O
def H4y:ACode:=.seq [2,3] H4w .ret
def H4A:ACode:=.cond (.t 32) H4y .skip
def H4C:ACode:=.seq [2,6,32] H4u H4A
def H4E:ACode:=.seq [1,2,6,7,8] H4s H4C
def C4P:List AOper:=[aO 34 (.loadN 3 (.t 6)),{ dst:=none,op:=.storeN 3 (.t 2) (.t 34) },aO 3 (.mv (.v (.c (.i .i64 0))))]
def H4d:ACode:=.ops C4P
def H4f:ACode:=.seq [2,3] H4d .ret
def H4h:ACode:=.seq [2,6] H4E H4f
def H4j:ACode:=.seq [1,2,6] H4q H4h
def H4l:ACode:=.seq [1,2,4] H4c H4j
def H4n:ACode:=.seq [1,2] H4a H4l
def A_super_Get:AFn:=⟨H4n,[.cellN 2 3,.tmp 3]⟩
def A0v:B4:=A9 57 A0F (A9 100 A3L (A9 101 M4 (A9 52 A1X C2)))
def H4b (n:Nat):SmV:=A2 A0v C4I
def H4p (n:Nat):SmV:=A2 A0v C4J
def H4r (n:Nat):SmV:=P8 A0v 1 C4K C4L
def H4t (n:Nat):SmV:=A2 A0v C4M
def H4v (n:Nat):SmV:=A2 A0v C4N
def H4x (n:Nat):SmV:=A2 A0v C4O
def H4z (n:Nat):SmV:=A1 [2,3] (H4x n) B5
def H4B (n:Nat):SmV:=B8 (.t 32) (H4z n) B9
def H4D (n:Nat):SmV:=A1 [2,6,32] (H4v n) (H4B n)
def H4F (n:Nat):SmV:=A1 [1,2,6,7,8] (H4t n) (H4D n)
def H4e (n:Nat):SmV:=A2 A0v C4P
def H4g (n:Nat):SmV:=A1 [2,3] (H4e n) B5
def H4i (n:Nat):SmV:=A1 [2,6] (H4F n) (H4g n)
def H4k (n:Nat):SmV:=A1 [1,2,6] (H4r n) (H4i n)
def H4m (n:Nat):SmV:=A1 [1,2,4] (H4p n) (H4k n)
def H4o (n:Nat):SmV:=A1 [1,2] (H4b n) (H4m n)
def A5K (n:Nat) (args:List Val) (h:A0):A6:=(H4o n) A_super_Get.fin (params 0 args) h
theorem C67 (n:Nat) (a0:Val) (h:A0):A5K n [a0] h=bnd (cells? a0) fun c1=>bnd (A5 (((h ++ [some (Row.mk (c1) true)]) ++ [some (Row.mk ([.i .i64 0,.i .i64 0,.i .u64 0]) true)])) 256 ((.c (.p h.length 0)))) fun v2=>bnd (A0F [v2,.c (.i .i64 12),.c (.i .i64 8)] (((h ++ [some (Row.mk (c1) true)]) ++ [some (Row.mk ([.i .i64 0,.i .i64 0,.i .u64 0]) true)]))) fun p3=>bnd (A3L [p3.1,.c (.i .i64 0),.c (.i .i64 8)] p3.2) fun p4=>bnd (C3 p4.1 0) fun v5=>bnd (C3 p4.1 1) fun v6=>bnd (A5 p4.2 256 ((.c (.p h.length 0)))) fun v7=>bnd (quiet ((p4.2 ++ [none])) (M4 [v7,.c (.i .i64 8),.c (.i .i64 2)] ((p4.2 ++ [none])))) fun p8=>bnd (A5 p4.2 256 ((.c (.p h.length 0)))) fun v9=>bnd (quiet p8.2 (M4 [v9,.c (.i .i64 10),.c (.i .i64 2)] p8.2)) fun p10=>bnd (B0 ([.i .i64 0,.i .i64 0,.i .u64 0]) [(0,1,p8.1),(1,1,p10.1),(2,1,v5)]) fun c11=>bnd (B1 ((p10.2.set (p4.2.length + 0) (some (Row.mk ([.i .i64 0,.i .i64 0,.i .u64 0]) true)))) 3 ((.c (.p (p4.2.length + 0) 0))) ((.a c11))) fun h12=>bnd (A5 h12 3 ((.c (.p (p4.2.length + 0) 0)))) fun v13=>bnd (A1X [v13] h12) fun p14=>bnd (C3 p14.1 0) fun v15=>bnd (C3 p14.1 1) fun v16=>bnd (B1 ((p14.2 ++ [some (Row.mk (List.replicate 256 (.i .u8 0)) true)])) 256 ((.c (.p p14.2.length 0))) v15) fun h17=>bnd (A4 .neq v16 (.c (.i .i64 0))) fun v18=>bnd (gd v18 false (bnd (A5 h17 256 ((.c (.p p14.2.length 0)))) fun v19=>some (v19,h17)) (some (.no,h17))) fun p20=>bnd (gd v18 false (bnd (A5 p20.2 256 ((.c (.p h.length 0)))) fun v21=>some (v21,p20.2)) (some (.no,p20.2))) fun p22=>bnd (gd v18 false (bnd (aeq true (List.replicate 256 (.i .u8)) p20.1 p22.1) fun v23=>some (v23,p22.2)) (some (.no,p22.2))) fun p24=>bnd (D4 v18 (.c (.b true)) p24.1) fun v25=>cnd v25 (bnd (B0 ([.i .i64 0,.i .i64 0,.i .u64 0]) []) fun c26=>bnd (B1 p24.2 3 ((.c (.p ((h ++ [some (Row.mk (c1) true)])).length 0))) ((.a c26))) fun h27=>D3 [A5 h27 3 ((.c (.p ((h ++ [some (Row.mk (c1) true)])).length 0))),some (.c (.i .i64 13))] h27) (bnd (A5 p24.2 3 ((.c (.p (p4.2.length + 0) 0)))) fun v28=>bnd (B1 p24.2 3 ((.c (.p ((h ++ [some (Row.mk (c1) true)])).length 0))) v28) fun h29=>D3 [A5 h29 3 ((.c (.p ((h ++ [some (Row.mk (c1) true)])).length 0))),some (.c (.i .i64 0))] h29):=by kernel_rfl
theorem K_super_Get:FnK Try.prog 53 A_super_Get A0v A5K:=.mk' (B3 A81 (B3 C8N (B3 A5V (B3 B1j C5)))) Try.func53 (by kernel_rfl) (by intro n args h;kernel_rfl)
def A3P:Fun:=tidy (Lim A_super_Get A0v)
theorem C80:SOk Try.prog 53 A3P:=K_super_Get.sok
theorem C8Z {n:Nat} {args:List Val} {h h2:A0} {v:Val} (he:A5K n args (ro h)=some (v,h2)) (hf:v.flat=true):A3P args h=some (v,h):=K_super_Get.flat he hf
end Go.Proofs.Ytdgggnlbdoiloaa
end
noncomputable section
namespace Go.Proofs.Ytdgggnlbdoiloaa
open Go Go.Esc
set_option maxRecDepth 100000
def B7j:List AOper:=[aO 1 (.box (.t 0)),aO 2 (.mv (.v (.c (.b false))))]
def E8P:ACode:=.ops B7j
def B7k:List AOper:=[aO 3 (.loadN 3 (.t 1)),aO 4 (.call 70 [(.t 3)]),aO 5 (.bin .eql (.t 4) (.v (.c (.i .i64 0)))),aO 2 (.mv (.t 5))]
def E8R:ACode:=.ops B7k
def E8T:ACode:=.seq [2] E8R .ret
def E8V:ACode:=.seq [1] E8P E8T
def A_geom_ok:AFn:=⟨E8V,[.tmp 2]⟩
def A4L:B4:=A9 70 A1W C2
def E8Q (n:Nat):SmV:=A2 A4L B7j
def E8S (n:Nat):SmV:=A2 A4L B7k
def E8U (n:Nat):SmV:=A1 [2] (E8S n) B5
def E8W (n:Nat):SmV:=A1 [1] (E8Q n) (E8U n)
def A5k (n:Nat) (args:List Val) (h:A0):A6:=(E8W n) A_geom_ok.fin (params 0 args) h
theorem C6y (n:Nat) (a0:Val) (h:A0):A5k n [a0] h=bnd (cells? a0) fun c1=>bnd (A5 ((h ++ [some (Row.mk (c1) true)])) 3 ((.c (.p h.length 0)))) fun v2=>bnd (A1W [v2] ((h ++ [some (Row.mk (c1) true)]))) fun p3=>bnd (A4 .eql p3.1 (.c (.i .i64 0))) fun v4=>some (v4,p3.2):=by kernel_rfl
theorem K_geom_ok:FnK Try.prog 63 A_geom_ok A4L A5k:=.mk' (B3 B1i C5) Try.func63 (by kernel_rfl) (by intro n args h;kernel_rfl)
def A0D:Fun:=tidy (Lim A_geom_ok A4L)
theorem A8Z:SOk Try.prog 63 A0D:=K_geom_ok.sok
theorem C77 {n:Nat} {args:List Val} {h h2:A0} {v:Val} (he:A5k n args (ro h)=some (v,h2)) (hf:v.flat=true):A0D args h=some (v,h):=K_geom_ok.flat he hf
def B65:List AOper:=[aO 0 (.mv (.v (.c (.i .i64 0))))]
def E7Y:ACode:=.ops B65
def B66:List AOper:=[aO 0 (.mv (.v (.c (.i .i64 1))))]
def E70:ACode:=.ops B66
def E72:ACode:=.seq [0] E70 .ret
def E74:ACode:=.seq [] E7Y E72
def A_geom_Map:AFn:=⟨E74,[.tmp 0]⟩
def A4K:B4:=C2
def E7Z (n:Nat):SmV:=A2 A4K B65
def E71 (n:Nat):SmV:=A2 A4K B66
def E73 (n:Nat):SmV:=A1 [0] (E71 n) B5
def E75 (n:Nat):SmV:=A1 [] (E7Z n) (E73 n)
def A8I (n:Nat) (args:List Val) (h:A0):A6:=(E75 n) A_geom_Map.fin (params 0 args) h
theorem C6v (n:Nat) (h:A0):A8I n [] h=some ((.c (.i .i64 1)),h):=by kernel_rfl
theorem K_geom_Map:FnK Try.prog 72 A_geom_Map A4K A8I:=.mk' (C5) Try.func72 (by kernel_rfl) (by intro n args h;kernel_rfl)
def A3w:Fun:=tidy (Lim A_geom_Map A4K)
theorem C73:SOk Try.prog 72 A3w:=K_geom_Map.sok
theorem C72 {n:Nat} {args:List Val} {h h2:A0} {v:Val} (he:A8I n args (ro h)=some (v,h2)) (hf:v.flat=true):A3w args h=some (v,h):=K_geom_Map.flat he hf
def B68:List AOper:=[aO 1 (.box (.t 0)),aO 2 (.mv (.v (.c (.i .i64 0)))),aO 3 (.mv (.v (.c (.i .i64 0))))]
def E77:ACode:=.ops B68
def B69:List AOper:=[aO 4 (.loadN 3 (.t 1)),aO 5 (.call 63 [(.t 4)]),aO 6 (.un .not (.t 5))]
def E79:ACode:=.ops B69
def B7a:List AOper:=[aO 2 (.mv (.v (.c (.i .i64 0)))),aO 3 (.mv (.v (.c (.i .i64 0))))]
def E8b:ACode:=.ops B7a
def E8d:ACode:=.seq [2,3] E8b .ret
def E8f:ACode:=.cond (.t 6) E8d .skip
def E8h:ACode:=.seq [1,6] E79 E8f
def B7b:List AOper:=[aO 7 (.call 72 []),aO 8 (.bin .add (.t 7) (.v (.c (.i .i64 1)))),aO 9 (.fAddr (.t 1) 1),aO 10 (.load1 (.t 9)),aO 11 (.bin .quo (.t 10) (.v (.c (.i .i64 8)))),aO 2 (.mv (.t 8))]
def B7c:List AOper:=[aO 3 (.mv (.t 11))]
def E8j:ACode:=.draw 0 B7b B7c
def E8l:ACode:=.seq [2,3] E8j .ret
def E8n:ACode:=.seq [1] E8h E8l
def E8p:ACode:=.seq [1] E77 E8n
def A_geom_Table:AFn:=⟨E8p,[.tmp 2,.tmp 3]⟩
def A2F:B4:=A9 63 A0D (A9 72 A3w C2)
def E78 (n:Nat):SmV:=A2 A2F B68
def E8a (n:Nat):SmV:=A2 A2F B69
def E8c (n:Nat):SmV:=A2 A2F B7a
def E8e (n:Nat):SmV:=A1 [2,3] (E8c n) B5
def E8g (n:Nat):SmV:=B8 (.t 6) (E8e n) B9
def E8i (n:Nat):SmV:=A1 [1,6] (E8a n) (E8g n)
def E8k (n:Nat):SmV:=P8 A2F 0 B7b B7c
def E8m (n:Nat):SmV:=A1 [2,3] (E8k n) B5
def E8o (n:Nat):SmV:=A1 [1] (E8i n) (E8m n)
def E8q (n:Nat):SmV:=A1 [1] (E78 n) (E8o n)
def A5i (n:Nat) (args:List Val) (h:A0):A6:=(E8q n) A_geom_Table.fin (params 0 args) h
theorem C6w (n:Nat) (a0:Val) (h:A0):A5i n [a0] h=bnd (cells? a0) fun c1=>bnd (A5 ((h ++ [some (Row.mk (c1) true)])) 3 ((.c (.p h.length 0)))) fun v2=>bnd (A0D [v2] ((h ++ [some (Row.mk (c1) true)]))) fun p3=>bnd (aun .not p3.1) fun v4=>cnd v4 (D3 [some (.c (.i .i64 0)),some (.c (.i .i64 0))] p3.2) (bnd (quiet ((p3.2 ++ [])) (A3w [] ((p3.2 ++ [])))) fun p5=>bnd (A4 .add p5.1 (.c (.i .i64 1))) fun v6=>bnd (B7 ((.c (.p h.length 0))) 1) fun v7=>bnd (A8 p3.2 v7) fun v8=>bnd (A4 .quo v8 (.c (.i .i64 8))) fun v9=>D3 [some v6,some v9] p5.2):=by kernel_rfl
theorem K_geom_Table:FnK Try.prog 103 A_geom_Table A2F A5i:=.mk' (B3 A8Z (B3 C73 C5)) Try.func103 (by kernel_rfl) (by intro n args h;kernel_rfl)
def A1N:Fun:=tidy (Lim A_geom_Table A2F)
theorem B1a:SOk Try.prog 103 A1N:=K_geom_Table.sok
theorem C74 {n:Nat} {args:List Val} {h h2:A0} {v:Val} (he:A5i n args (ro h)=some (v,h2)) (hf:v.flat=true):A1N args h=some (v,h):=K_geom_Table.flat he hf
def B6X:List AOper:=[aO 1 (.box (.t 0)),aO 2 (.mv (.v (.c (.i .i64 0))))]
def E7w:ACode:=.ops B6X
def B6Y:List AOper:=[aO 6 (.loadN 3 (.t 1)),aO 7 (.call 103 [(.t 6)]),aO 5 (.mv (.t 7)),aO 8 (.ext (.t 5) 0),aO 9 (.ext (.t 5) 1),aO 3 (.mv (.t 8)),aO 4 (.mv (.t 9))]
def E7y:ACode:=.ops B6Y
def B6Z:List AOper:=[aO 10 (.mv (.t 3)),aO 11 (.mv (.t 4)),aO 12 (.bin .add (.t 10) (.t 11)),aO 2 (.mv (.t 12))]
def E7A:ACode:=.ops B6Z
def E7C:ACode:=.seq [2] E7A .ret
def E7E:ACode:=.seq [3,4] E7y E7C
def E7G:ACode:=.seq [1] E7w E7E
def A_geom_Data:AFn:=⟨E7G,[.tmp 2]⟩
def A3c:B4:=A9 103 A1N C2
def E7x (n:Nat):SmV:=A2 A3c B6X
def E7z (n:Nat):SmV:=A2 A3c B6Y
def E7B (n:Nat):SmV:=A2 A3c B6Z
def E7D (n:Nat):SmV:=A1 [2] (E7B n) B5
def E7F (n:Nat):SmV:=A1 [3,4] (E7z n) (E7D n)
def E7H (n:Nat):SmV:=A1 [1] (E7x n) (E7F n)
def A5f (n:Nat) (args:List Val) (h:A0):A6:=(E7H n) A_geom_Data.fin (params 0 args) h
theorem C6s (n:Nat) (a0:Val) (h:A0):A5f n [a0] h=bnd (cells? a0) fun c1=>bnd (A5 ((h ++ [some (Row.mk (c1) true)])) 3 ((.c (.p h.length 0)))) fun v2=>bnd (A1N [v2] ((h ++ [some (Row.mk (c1) true)]))) fun p3=>bnd (C3 p3.1 0) fun v4=>bnd (C3 p3.1 1) fun v5=>bnd (A4 .add v4 v5) fun v6=>some (v6,p3.2):=by kernel_rfl
theorem K_geom_Data:FnK Try.prog 64 A_geom_Data A3c A5f:=.mk' (B3 B1a C5) Try.func64 (by kernel_rfl) (by intro n args h;kernel_rfl)
def A3u:Fun:=tidy (Lim A_geom_Data A3c)
theorem C7Y:SOk Try.prog 64 A3u:=K_geom_Data.sok
theorem C7X {n:Nat} {args:List Val} {h h2:A0} {v:Val} (he:A5f n args (ro h)=some (v,h2)) (hf:v.flat=true):A3u args h=some (v,h):=K_geom_Data.flat he hf
def B60:List AOper:=[aO 2 (.box (.t 0)),aO 4 (.mv (.v (.c (.b false))))]
def E7I:ACode:=.ops B60
def B61:List AOper:=[aO 5 (.loadN 3 (.t 2)),aO 6 (.call 63 [(.t 5)]),aO 7 (.mv (.t 6)),{ dst:=some 8,op:=.mv (.t 1),guard:=some (7,true) },{ dst:=some 9,op:=.loadN 3 (.t 2),guard:=some (7,true) },{ dst:=some 10,op:=.call 64 [(.t 9)],guard:=some (7,true) },{ dst:=some 11,op:=.bin .geq (.t 8) (.t 10),guard:=some (7,true) },aO 12 (.pick (.t 7) (.t 11) (.v (.c (.b false)))),aO 13 (.mv (.t 12)),{ dst:=some 14,op:=.mv (.t 1),guard:=some (13,true) },{ dst:=some 15,op:=.fAddr (.t 2) 0,guard:=some (13,true) },{ dst:=some 16,op:=.load1 (.t 15),guard:=some (13,true) },{ dst:=some 17,op:=.bin .lss (.t 14) (.t 16),guard:=some (13,true) },aO 18 (.pick (.t 13) (.t 17) (.v (.c (.b false)))),aO 4 (.mv (.t 18))]
def E7K:ACode:=.ops B61
def E7M:ACode:=.seq [4] E7K .ret
def E7O:ACode:=.seq [1,2] E7I E7M
def A_geom_IsData:AFn:=⟨E7O,[.tmp 4]⟩
def A4I:B4:=A9 63 A0D (A9 64 A3u C2)
def E7J (n:Nat):SmV:=A2 A4I B60
def E7L (n:Nat):SmV:=A2 A4I B61
def E7N (n:Nat):SmV:=A1 [4] (E7L n) B5
def E7P (n:Nat):SmV:=A1 [1,2] (E7J n) (E7N n)
def A5g (n:Nat) (args:List Val) (h:A0):A6:=(E7P n) A_geom_IsData.fin (params 0 args) h
theorem C6t (n:Nat) (a0 a1:Val) (h:A0):A5g n [a0,a1] h=bnd (cells? a0) fun c1=>bnd (A5 ((h ++ [some (Row.mk (c1) true)])) 3 ((.c (.p h.length 0)))) fun v2=>bnd (A0D [v2] ((h ++ [some (Row.mk (c1) true)]))) fun p3=>bnd (gd p3.1 true (some (a1,p3.2)) (some (.no,p3.2))) fun p4=>bnd (gd p3.1 true (bnd (A5 p4.2 3 ((.c (.p h.length 0)))) fun v5=>some (v5,p4.2)) (some (.no,p4.2))) fun p6=>bnd (gd p3.1 true (bnd (A3u [p6.1] p6.2) fun p7=>some (p7.1,p7.2)) (some (.no,p6.2))) fun p8=>bnd (gd p3.1 true (bnd (A4 .geq p4.1 p8.1) fun v9=>some (v9,p8.2)) (some (.no,p8.2))) fun p10=>bnd (D4 p3.1 p10.1 (.c (.b false))) fun v11=>bnd (gd v11 true (some (a1,p10.2)) (some (.no,p10.2))) fun p12=>bnd (gd v11 true (bnd (B7 ((.c (.p h.length 0))) 0) fun v13=>some (v13,p12.2)) (some (.no,p12.2))) fun p14=>bnd (gd v11 true (bnd (A8 p14.2 p14.1) fun v15=>some (v15,p14.2)) (some (.no,p14.2))) fun p16=>bnd (gd v11 true (bnd (A4 .lss p12.1 p16.1) fun v17=>some (v17,p16.2)) (some (.no,p16.2))) fun p18=>bnd (D4 v11 p18.1 (.c (.b false))) fun v19=>some (v19,p18.2):=by kernel_rfl
theorem K_geom_IsData:FnK Try.prog 25 A_geom_IsData A4I A5g:=.mk' (B3 A8Z (B3 C7Y C5)) Try.func25 (by kernel_rfl) (by intro n args h;kernel_rfl)
def A0C:Fun:=tidy (Lim A_geom_IsData A4I)
theorem A8Y:SOk Try.prog 25 A0C:=K_geom_IsData.sok
theorem C7Z {n:Nat} {args:List Val} {h h2:A0} {v:Val} (he:A5g n args (ro h)=some (v,h2)) (hf:v.flat=true):A0C args h=some (v,h):=K_geom_IsData.flat he hf
def B63:List AOper:=[aO 2 (.box (.t 0)),aO 4 (.mv (.v (.c (.b false))))]
def E7Q:ACode:=.ops B63
def B64:List AOper:=[aO 5 (.loadN 3 (.t 2)),aO 6 (.call 63 [(.t 5)]),aO 7 (.mv (.t 6)),{ dst:=some 8,op:=.mv (.t 1),guard:=some (7,true) },{ dst:=some 9,op:=.bin .geq (.t 8) (.v (.c (.i .i64 1))),guard:=some (7,true) },aO 10 (.pick (.t 7) (.t 9) (.v (.c (.b false)))),aO 11 (.mv (.t 10)),{ dst:=some 12,op:=.mv (.t 1),guard:=some (11,true) },{ dst:=some 13,op:=.fAddr (.t 2) 1,guard:=some (11,true) },{ dst:=some 14,op:=.load1 (.t 13),guard:=some (11,true) },{ dst:=some 15,op:=.bin .leq (.t 12) (.t 14),guard:=some (11,true) },aO 16 (.pick (.t 11) (.t 15) (.v (.c (.b false)))),aO 4 (.mv (.t 16))]
def E7S:ACode:=.ops B64
def E7U:ACode:=.seq [4] E7S .ret
def E7W:ACode:=.seq [1,2] E7Q E7U
def A_geom_IsInode:AFn:=⟨E7W,[.tmp 4]⟩
def A4J:B4:=A9 63 A0D C2
def E7R (n:Nat):SmV:=A2 A4J B63
def E7T (n:Nat):SmV:=A2 A4J B64
def E7V (n:Nat):SmV:=A1 [4] (E7T n) B5
def E7X (n:Nat):SmV:=A1 [1,2] (E7R n) (E7V n)
def A5h (n:Nat) (args:List Val) (h:A0):A6:=(E7X n) A_geom_IsInode.fin (params 0 args) h
theorem C6u (n:Nat) (a0 a1:Val) (h:A0):A5h n [a0,a1] h=bnd (cells? a0) fun c1=>bnd (A5 ((h ++ [some (Row.mk (c1) true)])) 3 ((.c (.p h.length 0)))) fun v2=>bnd (A0D [v2] ((h ++ [some (Row.mk (c1) true)]))) fun p3=>bnd (gd p3.1 true (some (a1,p3.2)) (some (.no,p3.2))) fun p4=>bnd (gd p3.1 true (bnd (A4 .geq p4.1 (.c (.i .i64 1))) fun v5=>some (v5,p4.2)) (some (.no,p4.2))) fun p6=>bnd (D4 p3.1 p6.1 (.c (.b false))) fun v7=>bnd (gd v7 true (some (a1,p6.2)) (some (.no,p6.2))) fun p8=>bnd (gd v7 true (bnd (B7 ((.c (.p h.length 0))) 1) fun v9=>some (v9,p8.2)) (some (.no,p8.2))) fun p10=>bnd (gd v7 true (bnd (A8 p10.2 p10.1) fun v11=>some (v11,p10.2)) (some (.no,p10.2))) fun p12=>bnd (gd v7 true (bnd (A4 .leq p8.1 p12.1) fun v13=>some (v13,p12.2)) (some (.no,p12.2))) fun p14=>bnd (D4 v7 p14.1 (.c (.b false))) fun v15=>some (v15,p14.2):=by kernel_rfl
theorem K_geom_IsInode:FnK Try.prog 102 A_geom_IsInode A4J A5h:=.mk' (B3 A8Z C5) Try.func102 (by kernel_rfl) (by intro n args h;kernel_rfl)
def A3v:Fun:=tidy (Lim A_geom_IsInode A4J)
theorem C71:SOk Try.prog 102 A3v:=K_geom_IsInode.sok
theorem C70 {n:Nat} {args:List Val} {h h2:A0} {v:Val} (he:A5h n args (ro h)=some (v,h2)) (hf:v.flat=true):A3v args h=some (v,h):=K_geom_IsInode.flat he hf
def B7e:List AOper:=[aO 2 (.box (.t 0)),aO 4 (.mv (.v (.c (.i .i64 0)))),aO 5 (.mv (.v (.c (.i .i64 0)))),aO 6 (.mv (.v (.c (.b false))))]
def E8r:ACode:=.ops B7e
def B7f:List AOper:=[aO 9 (.loadN 3 (.t 2)),aO 10 (.mv (.t 1)),aO 11 (.call 102 [(.t 9),(.t 10)]),aO 12 (.un .not (.t 11))]
def E8t:ACode:=.ops B7f
def B7g:List AOper:=[aO 4 (.mv (.v (.c (.i .i64 0)))),aO 5 (.mv (.v (.c (.i .i64 0)))),aO 6 (.mv (.v (.c (.b false))))]
def E8z:ACode:=.ops B7g
def E8B:ACode:=.seq [4,5,6] E8z .ret
def E8D:ACode:=.cond (.t 12) E8B .skip
def E8F:ACode:=.seq [1,2,12] E8t E8D
def B7h:List AOper:=[aO 14 (.loadN 3 (.t 2)),aO 15 (.call 103 [(.t 14)]),aO 13 (.mv (.t 15)),aO 16 (.ext (.t 13) 0),aO 17 (.ext (.t 13) 1),aO 7 (.mv (.t 16)),aO 8 (.mv (.t 17))]
def E8H:ACode:=.ops B7h
def B7i:List AOper:=[aO 18 (.mv (.t 7)),aO 19 (.mv (.t 1)),aO 20 (.bin .sub (.t 19) (.v (.c (.i .i64 1)))),aO 21 (.bin .quo (.t 20) (.v (.c (.i .i64 8)))),aO 22 (.bin .add (.t 18) (.t 21)),aO 23 (.mv (.t 1)),aO 24 (.bin .sub (.t 23) (.v (.c (.i .i64 1)))),aO 25 (.bin .rem (.t 24) (.v (.c (.i .i64 8)))),aO 4 (.mv (.t 22)),aO 5 (.mv (.t 25)),aO 6 (.mv (.v (.c (.b true))))]
def E8J:ACode:=.ops B7i
def E8L:ACode:=.seq [4,5,6] E8J .ret
def E8N:ACode:=.seq [1,7] E8H E8L
def E8u:ACode:=.seq [1,2] E8F E8N
def E8w:ACode:=.seq [1,2] E8r E8u
def A_geom_Where:AFn:=⟨E8w,[.tmp 4,.tmp 5,.tmp 6]⟩
def A1D:B4:=A9 102 A3v (A9 103 A1N C2)
def E8s (n:Nat):SmV:=A2 A1D B7e
def E8y (n:Nat):SmV:=A2 A1D B7f
def E8A (n:Nat):SmV:=A2 A1D B7g
def E8C (n:Nat):SmV:=A1 [4,5,6] (E8A n) B5
def E8E (n:Nat):SmV:=B8 (.t 12) (E8C n) B9
def E8G (n:Nat):SmV:=A1 [1,2,12] (E8y n) (E8E n)
def E8I (n:Nat):SmV:=A2 A1D B7h
def E8K (n:Nat):SmV:=A2 A1D B7i
def E8M (n:Nat):SmV:=A1 [4,5,6] (E8K n) B5
def E8O (n:Nat):SmV:=A1 [1,7] (E8I n) (E8M n)
def E8v (n:Nat):SmV:=A1 [1,2] (E8G n) (E8O n)
def E8x (n:Nat):SmV:=A1 [1,2] (E8s n) (E8v n)
def A5j (n:Nat) (args:List Val) (h:A0):A6:=(E8x n) A_geom_Where.fin (params 0 args) h
theorem C6x (n:Nat) (a0 a1:Val) (h:A0):A5j n [a0,a1] h=bnd (cells? a0) fun c1=>bnd (A5 ((h ++ [some (Row.mk (c1) true)])) 3 ((.c (.p h.length 0)))) fun v2=>bnd (A3v [v2,a1] ((h ++ [some (Row.mk (c1) true)]))) fun p3=>bnd (aun .not p3.1) fun v4=>cnd v4 (D3 [some (.c (.i .i64 0)),some (.c (.i .i64 0)),some (.c (.b false))] p3.2) (bnd (A5 p3.2 3 ((.c (.p h.length 0)))) fun v5=>bnd (A1N [v5] p3.2) fun p6=>bnd (C3 p6.1 0) fun v7=>bnd (C3 p6.1 1) fun v8=>bnd (A4 .sub a1 (.c (.i .i64 1))) fun v9=>bnd (A4 .quo v9 (.c (.i .i64 8))) fun v10=>bnd (A4 .add v7 v10) fun v11=>bnd (A4 .sub a1 (.c (.i .i64 1))) fun v12=>bnd (A4 .rem v12 (.c (.i .i64 8))) fun v13=>D3 [some v11,some v13,some (.c (.b true))] p6.2):=by kernel_rfl
theorem K_geom_Where:FnK Try.prog 55 A_geom_Where A1D A5j:=.mk' (B3 C71 (B3 B1a C5)) Try.func55 (by kernel_rfl) (by intro n args h;kernel_rfl)
def A3x:Fun:=tidy (Lim A_geom_Where A1D)
theorem C76:SOk Try.prog 55 A3x:=K_geom_Where.sok
theorem C75 {n:Nat} {args:List Val} {h h2:A0} {v:Val} (he:A5j n args (ro h)=some (v,h2)) (hf:v.flat=true):A3x args h=some (v,h):=K_geom_Where.flat he hf
end Go.Proofs.Ytdgggnlbdoiloaa
end
section
namespace Go.Proofs.Ytdgggnlbdoiloaa
open Go Go.Esc
def H7 (b n:Int):Bool:=decide (16 ≤ b) && decide (b ≤ 512) && decide (8 ≤ n) && decide (n ≤ 128) && decide (n % 8=0) && decide (2 + n / 8 < b)
theorem A4m {b n:Int}:H7 b n=true ↔ 16 ≤ b ∧ b ≤ 512 ∧ 8 ≤ n ∧ n ≤ 128 ∧ n % 8=0 ∧ 2 + n / 8 < b:=by
  unfold H7;simp [and_assoc]
theorem A23 {b n:Int}:H7 b n=false ↔ ¬ (16 ≤ b ∧ b ≤ 512 ∧ 8 ≤ n ∧ n ≤ 128 ∧ n % 8=0 ∧ 2 + n / 8 < b):=by
  rw [← A4m];simp
abbrev E9 (b n m:Int):List Cell:=[.i .i64 b,.i .i64 n,.i .u64 m]
theorem A8l {b n m:Int} {h:A0}:A1W [.a (E9 b n m)] h=some (.c (.i .i64 (bif H7 b n then 0 else 1)),h):=by
  have key:∀ g,∃ g',A5J 0 [.a (E9 b n m)] g=some (.c (.i .i64 (bif H7 b n then 0 else 1)),g'):=by
    intro g
    rw [C66]
    have bad:H7 b n=false → (some (Val.c (.i .i64 1),g ++ [some ⟨E9 b n m,true⟩]))=some (.c (.i .i64 (bif H7 b n then 0 else 1)),g ++ [some ⟨E9 b n m,true⟩]):=fun h=>by rw [h];rfl
    by_cases c1:b < 16
    · rw [A23.2 (by omega)]
      exact ⟨_,by simp only [esc,esh,Nat.reduceAdd,Nat.reduceMul,Nat.reduceLT,c1,A2u] <;> rfl⟩
    · by_cases c2:512 < b
      · rw [A23.2 (by omega)]
        exact ⟨_,by simp only [esc,esh,Nat.reduceAdd,Nat.reduceMul,Nat.reduceLT,c1,c2,A2u] <;> rfl⟩
      · by_cases c3:n < 8
        · rw [A23.2 (by omega)]
          exact ⟨_,by simp only [esc,esh,Nat.reduceAdd,Nat.reduceMul,Nat.reduceLT,c1,c2,c3,A2u,A4B] <;> rfl⟩
        · by_cases c4:128 < n
          · rw [A23.2 (by omega)]
            exact ⟨_,by simp only [esc,esh,Nat.reduceAdd,Nat.reduceMul,Nat.reduceLT,c1,c2,c3,c4,A2u,A4B] <;> rfl⟩
          · have e1:=C3Z (a:=n) (b:=8) (k:=.i64) (by omega) (by omega)
            by_cases c5:n % 8=0
            · have e2:=A8b (a:=n) (b:=8) (by omega) (by omega) (by omega)
              have e3:IntKind.wrap .i64 (2 + n / 8)=2 + n / 8:=wrap_i64 (by omega) (by omega)
              by_cases c6:b ≤ 2 + n / 8
              · rw [A23.2 (by omega)]
                exact ⟨_,by simp only [esc,esh,Nat.reduceAdd,Nat.reduceMul,Nat.reduceLT,c1,c2,c3,c4,e1,c5,e2,e3,c6,A2u,A4B] <;> rfl⟩
              · rw [A4m.2 (by omega)]
                exact ⟨_,by simp only [esc,esh,Nat.reduceAdd,Nat.reduceMul,Nat.reduceLT,c1,c2,c3,c4,e1,c5,e2,e3,c6,A2u,A4B] <;> rfl⟩
            · rw [A23.2 (by omega)]
              exact ⟨_,by simp only [esc,esh,Nat.reduceAdd,Nat.reduceMul,Nat.reduceLT,c1,c2,c3,c4,e1,c5,A2u,A4B] <;> rfl⟩
  obtain ⟨g',e⟩:=key (ro h)
  exact C8Y e (by simp)
theorem A1h {b n m:Int} {h:A0}:A0D [.a (E9 b n m)] h=some (.c (.b (H7 b n)),h):=by
  have key:∀ g,∃ g',A5k 0 [.a (E9 b n m)] g=some (.c (.b (H7 b n)),g'):=by
    intro g
    rw [C6y]
    cases c:H7 b n with
    | true=>exact ⟨_,by simp only [esc,esh,Nat.reduceAdd,Nat.reduceMul,Nat.reduceLT,A8l,c] <;> rfl⟩
    | false=>exact ⟨_,by simp only [esc,esh,Nat.reduceAdd,Nat.reduceMul,Nat.reduceLT,A8l,c,Int.reduceEq] <;> rfl⟩
  obtain ⟨g',e⟩:=key (ro h)
  exact C77 e (by simp)
theorem E76 {h:A0}:A3w [] h=some (.c (.i .i64 1),h) :=
  C72 (n:=0) (h2:=ro h) (by rw [C6v]) rfl
def A0W (b n:Int):Int:=bif H7 b n then 2 else 0
def A2v (b n:Int):Int:=bif H7 b n then n / 8 else 0
def Y3 (b n:Int):Int:=A0W b n + A2v b n
theorem B67 {b n m:Int} {h:A0}:A1N [.a (E9 b n m)] h=some (.t [.c (.i .i64 (A0W b n)),.c (.i .i64 (A2v b n))],h):=by
  have key:∀ g,∃ g',A5i 0 [.a (E9 b n m)] g=some (.t [.c (.i .i64 (A0W b n)),.c (.i .i64 (A2v b n))],g'):=by
    intro g
    rw [C6w]
    unfold A0W A2v
    cases c:H7 b n with
    | true =>
      have c':=A4m.1 c
      have e2:=A8b (a:=n) (b:=8) (by omega) (by omega) (by omega)
      have e3:IntKind.wrap .i64 (1 + 1)=2:=wrap_i64 (by omega) (by omega)
      exact ⟨_,by simp only [esc,esh,Nat.reduceAdd,Nat.reduceMul,Nat.reduceLT,A1h,c,E76,e2,e3] <;> rfl⟩
    | false=>exact ⟨_,by simp only [esc,esh,Nat.reduceAdd,Nat.reduceMul,Nat.reduceLT,A1h,c] <;> rfl⟩
  obtain ⟨g',e⟩:=key (ro h)
  exact C74 e (by simp)
theorem D6f {b n:Int}:0 ≤ Y3 b n ∧ Y3 b n ≤ 18:=by
  unfold Y3 A0W A2v
  cases c:H7 b n with
  | true=>have:=A4m.1 c;simp only [cond_true];omega
  | false=>simp only [cond_false];omega
theorem B6W {b n m:Int} {h:A0}:A3u [.a (E9 b n m)] h=some (.c (.i .i64 (Y3 b n)),h):=by
  have key:∀ g,∃ g',A5f 0 [.a (E9 b n m)] g=some (.c (.i .i64 (Y3 b n)),g'):=by
    intro g
    rw [C6s]
    have hr:=D6f (b:=b) (n:=n)
    have e3:IntKind.wrap .i64 (A0W b n + A2v b n)=Y3 b n:=wrap_i64 (by unfold Y3 at hr;omega) (by unfold Y3 at hr;omega)
    exact ⟨_,by simp only [esc,esh,Nat.reduceAdd,Nat.reduceMul,Nat.reduceLT,B67,e3] <;> rfl⟩
  obtain ⟨g',e⟩:=key (ro h)
  exact C7X e (by simp)
def R2 (b n i:Int):Bool:=H7 b n && decide (1 ≤ i) && decide (i ≤ n)
def S9 (b n i:Int):Bool:=H7 b n && decide (Y3 b n ≤ i) && decide (i < b)
theorem B62 {b n m i:Int} {h:A0}:A3v [.a (E9 b n m),.c (.i .i64 i)] h=some (.c (.b (R2 b n i)),h):=by
  have key:∀ g,∃ g',A5h 0 [.a (E9 b n m),.c (.i .i64 i)] g=some (.c (.b (R2 b n i)),g'):=by
    intro g
    rw [C6u]
    unfold R2
    cases c:H7 b n with
    | true =>
      by_cases c1:1 ≤ i
      · exact ⟨_,by simp only [esc,esh,Nat.reduceAdd,Nat.reduceMul,Nat.reduceLT,A1h,c,c1] <;> rfl⟩
      · exact ⟨_,by simp only [esc,esh,Nat.reduceAdd,Nat.reduceMul,Nat.reduceLT,A1h,c,c1] <;> rfl⟩
    | false=>exact ⟨_,by simp only [esc,esh,Nat.reduceAdd,Nat.reduceMul,Nat.reduceLT,A1h,c] <;> rfl⟩
  obtain ⟨g',e⟩:=key (ro h)
  exact C70 e (by simp)
theorem A91 {b n m i:Int} {h:A0}:A0C [.a (E9 b n m),.c (.i .i64 i)] h=some (.c (.b (S9 b n i)),h):=by
  have key:∀ g,∃ g',A5g 0 [.a (E9 b n m),.c (.i .i64 i)] g=some (.c (.b (S9 b n i)),g'):=by
    intro g
    rw [C6t]
    unfold S9
    cases c:H7 b n with
    | true =>
      by_cases c1:Y3 b n ≤ i
      · exact ⟨_,by simp only [esc,esh,Nat.reduceAdd,Nat.reduceMul,Nat.reduceLT,A1h,B6W,c,c1] <;> rfl⟩
      · exact ⟨_,by simp only [esc,esh,Nat.reduceAdd,Nat.reduceMul,Nat.reduceLT,A1h,B6W,c,c1] <;> rfl⟩
    | false=>exact ⟨_,by simp only [esc,esh,Nat.reduceAdd,Nat.reduceMul,Nat.reduceLT,A1h,c] <;> rfl⟩
  obtain ⟨g',e⟩:=key (ro h)
  exact C7Z e (by simp)
def A2y (b n i:Int):Int:=bif R2 b n i then 2 + (i - 1) / 8 else 0
def A2z (b n i:Int):Int:=bif R2 b n i then (i - 1) % 8 else 0
theorem F8F {b n i:Int}:R2 b n i=true ↔ H7 b n=true ∧ 1 ≤ i ∧ i ≤ n:=by
  unfold R2;simp [and_assoc]
theorem B7d {b n m i:Int} {h:A0}:A3x [.a (E9 b n m),.c (.i .i64 i)] h=some (.t [.c (.i .i64 (A2y b n i)),.c (.i .i64 (A2z b n i)),.c (.b (R2 b n i))],h):=by
  have key:∀ g,∃ g',A5j 0 [.a (E9 b n m),.c (.i .i64 i)] g=some (.t [.c (.i .i64 (A2y b n i)),.c (.i .i64 (A2z b n i)),.c (.b (R2 b n i))],g'):=by
    intro g
    rw [C6x]
    unfold A2y A2z
    cases c:R2 b n i with
    | true =>
      obtain ⟨c1,c2,c3⟩:=F8F.1 c
      have c':=A4m.1 c1
      have e0:A0W b n=2:=by unfold A0W;rw [c1];rfl
      have e1:IntKind.wrap .i64 (i - 1)=i - 1:=wrap_i64 (by omega) (by omega)
      have e2:=A8b (a:=i - 1) (b:=8) (by omega) (by omega) (by omega)
      have e3:IntKind.wrap .i64 (2 + (i - 1) / 8)=2 + (i - 1) / 8:=wrap_i64 (by omega) (by omega)
      have e4:=C3Z (a:=i - 1) (b:=8) (k:=.i64) (by omega) (by omega)
      exact ⟨_,by simp only [esc,esh,Nat.reduceAdd,Nat.reduceMul,Nat.reduceLT,B62,c,B67,e0,e1,e2,e3,e4] <;> rfl⟩
    | false=>exact ⟨_,by simp only [esc,esh,Nat.reduceAdd,Nat.reduceMul,Nat.reduceLT,B62,c] <;> rfl⟩
  obtain ⟨g',e⟩:=key (ro h)
  exact C75 e (by simp)
end Go.Proofs.Ytdgggnlbdoiloaa
end
section
namespace Go.Proofs.Ytdgggnlbdoiloaa
open Go Go.Esc
theorem C9M {h:A0} {id off len sz:Nat} {cs:List Cell} (hr:rd h id=some ⟨cs,true⟩) (hn:0 < len):S2 h (.c (.sl id off len sz))=some (.c (.sl id off len sz)):=by
  simp [S2,hr,hn]
def magicB:List UInt8:=[101,115,99,104,101,97,116,49]
def L5 (b n m:Int):List UInt8:=magicB ++ C1 2 b ++ C1 2 n ++ C1 8 m
def Z1 (b n m:Int):List UInt8:=C8 256 (L5 b n m ++ C1 4 (Y8 (L5 b n m):Nat))
theorem A0n {b n m:Int}:(L5 b n m).length=20:=by simp [L5,magicB]
theorem A4A {b n m:Int}:(Z1 b n m).length=256:=I5 (by rw [List.length_append,A0n,A2c];omega)
theorem F8M {l xs:List UInt8} {a:Nat} (h1:l.length ≤ a) (h2:a + xs.length ≤ 256) (h3:a < 256):P5 (C8 256 l) a xs=C8 256 (l ++ zeros (a - l.length) ++ xs):=by
  unfold P5
  rw [if_pos (by omega)]
  simp only [Int.toNat_natCast]
  rw [List.take_of_length_le (by omega),C3w h1 h2]
theorem C4Q {b n m:Int} {h:A0} (hm0:0 ≤ m) (hm1:m < 18446744073709551616) :
    A1X [.a (E9 b n m)] h=some (.t [.a (A3 (bif H7 b n then Z1 b n m else zeros 256)),.c (.i .i64 (bif H7 b n then 0 else 1))],h):=by
  have key:∀ g,∃ g',A5L 0 [.a (E9 b n m)] g=some (.t [.a (A3 (bif H7 b n then Z1 b n m else zeros 256)),.c (.i .i64 (bif H7 b n then 0 else 1))],g'):=by
    intro g
    have hz:(A3 (zeros 256)).length=256:=by rw [B6];exact zeros_length
    have haf:B0 (List.replicate 256 (Cell.i .u8 0)) []=some (List.replicate 256 (Cell.i .u8 0)):=rfl
    rw [K2] at haf
    rw [C68,K2]
    cases c:H7 b n with
    | false =>
      simp only [cond_false]
      generalize zeros 256=z at *
      exact ⟨_,by simp only [esc,esh,Nat.reduceAdd,Nat.reduceMul,Nat.reduceLT,A8l,c,haf,hz,Int.reduceEq] <;> rfl⟩
    | true =>
      simp only [cond_true]
      have e7:B0 [Cell.i .u8 0,.i .u8 0,.i .u8 0,.i .u8 0,.i .u8 0,.i .u8 0,.i .u8 0,.i .u8 0] [(0,1,.c (.i .u8 101)),(1,1,.c (.i .u8 115)),(2,1,.c (.i .u8 99)),(3,1,.c (.i .u8 104)),(4,1,.c (.i .u8 101)),(5,1,.c (.i .u8 97)),(6,1,.c (.i .u8 116)),(7,1,.c (.i .u8 49))]=some (A3 magicB):=rfl
      have hmk:=C9M (h:=g ++ [some ⟨E9 b n m,true⟩,some ⟨A3 (zeros 256),true⟩,some ⟨A3 magicB,true⟩]) (id:=g.length + 2) (off:=0) (len:=8) (sz:=1) (cs:=A3 magicB) (by simp) (by omega)
      have ho:=A7V (h:=g ++ [some ⟨E9 b n m,true⟩,some ⟨A3 (zeros 256),true⟩,some ⟨A3 magicB,true⟩]) (v:=.c (.sl (g.length + 2) 0 8 1)) (nv:=8) (data:=magicB) (Has.tr (by simp) (by simp [B6,magicB]) (R3 _)) (by decide)
      rw [A71 (by decide)] at ho
      have lm:magicB.length=8:=rfl
      have w1:=fun h=>A0k (h:=h) (l:=C8 256 magicB) (I5 (by decide)) (a:=8) (w:=2) (v:=b)
      have e1:=A0q (l:=magicB) (a:=8) (w:=2) (v:=b) (by decide) (by omega) (by omega) (by omega)
      simp only [lm,Nat.sub_self,show zeros 0=[] from rfl,List.append_nil,Int.cast_ofNat_Int] at e1
      simp only [e1] at w1
      have l1:(magicB ++ C1 2 b).length=10:=by simp [lm]
      have w2:=fun h=>A0k (h:=h) (l:=C8 256 (magicB ++ C1 2 b)) (I5 (by omega)) (a:=10) (w:=2) (v:=n)
      have e2:=A0q (l:=magicB ++ C1 2 b) (a:=10) (w:=2) (v:=n) (by omega) (by omega) (by omega) (by omega)
      simp only [l1,Nat.sub_self,show zeros 0=[] from rfl,List.append_nil,Int.cast_ofNat_Int] at e2
      simp only [e2] at w2
      have l2:(magicB ++ C1 2 b ++ C1 2 n).length=12:=by simp [lm]
      have L0:(A3 (C8 256 magicB)).length=256:=by rw [B6,I5 (by decide)]
      have L1:(A3 (C8 256 (magicB ++ C1 2 b))).length=256:=by rw [B6,I5 (by omega)]
      have L2:(A3 (C8 256 (magicB ++ C1 2 b ++ C1 2 n))).length=256:=by rw [B6,I5 (by omega)]
      have L3:(A3 (C8 256 (L5 b n m))).length=256:=by rw [B6,I5 (by rw [A0n];omega)]
      have L4:(A3 (Z1 b n m)).length=256:=by rw [B6,A4A]
      have mk8:A0M (.c (.i .i64 8)) (.c (.i .i64 8))=some 8:=rfl
      have hp:=G9q (h:=g ++ [some ⟨E9 b n m,true⟩,some ⟨A3 (zeros 256),true⟩,some ⟨A3 magicB,true⟩,some ⟨A3 (C8 256 (magicB ++ C1 2 b ++ C1 2 n)),true⟩,some ⟨A3 (zeros 8),true⟩]) (x:=.c (.sl (g.length + 4) 0 8 1)) (nv:=8) (l:=zeros 8) (a:=0) (w:=8) (v:=m) (Has.tr (by simp) (by simp [B6]) (R3 _)) (by simp)
      have ep:T1 (zeros 8) 0 8 m=some (C1 8 m):=by
        unfold T1
        rw [if_pos ⟨by omega,by decide⟩]
        unfold C7
        simp [zeros]
      rw [ep] at hp
      simp only [Option.getD_some,Option.isSome_some,A2c] at hp
      have hl:=B0r (h:=g ++ [some ⟨E9 b n m,true⟩,some ⟨A3 (zeros 256),true⟩,some ⟨A3 magicB,true⟩,some ⟨A3 (C8 256 (magicB ++ C1 2 b ++ C1 2 n)),true⟩,some ⟨A3 (zeros 8),true⟩,some ⟨A3 (C1 8 m),true⟩]) (v:=.c (.sl (g.length + 5) 0 8 1)) (nv:=8) (data:=C1 8 m) (l:=C8 256 (magicB ++ C1 2 b ++ C1 2 n)) (a:=12) (Has.tr (by simp) (by simp [B6]) (R3 _)) (I5 (by omega)) (by simp)
      have e3:=F8M (l:=magicB ++ C1 2 b ++ C1 2 n) (xs:=C1 8 m) (a:=12) (by omega) (by simp) (by omega)
      simp only [l2,Nat.sub_self,show zeros 0=[] from rfl,List.append_nil,Int.cast_ofNat_Int] at e3
      rw [e3] at hl
      have hc:=fun h=>B0p (h:=h) (l:=C8 256 (L5 b n m)) (I5 (by rw [A0n];omega)) (a:=0) (n:=20)
      have e4:Q2 (C8 256 (L5 b n m)) 0 20=L5 b n m:=by
        unfold Q2 C8
        rw [if_pos (by omega)]
        simp only [Int.toNat_zero,List.drop_zero]
        exact List.take_left' A0n
      simp only [e4,A0n] at hc
      have hstr:=(Has.tr (h:=g ++ [some ⟨E9 b n m,true⟩,some ⟨A3 (zeros 256),true⟩,some ⟨A3 magicB,true⟩,some ⟨A3 (C8 256 (L5 b n m)),true⟩,some ⟨A3 (zeros 8),true⟩,some ⟨A3 (C1 8 m),true⟩,some ⟨A3 (L5 b n m),true⟩]) (id:=g.length + 6) (sz:=1) (n:=20) (cs:=A3 (L5 b n m)) (by simp) (by rw [B6,A0n]) (R3 _)).str
      have hmx:=fun h=>C0F (s:=L5 b n m) (h:=h) (by rw [A0n];omega)
      have hmlt:=C0m (s:=L5 b n m)
      have e5:IntKind.wrap .i64 ((Y8 (L5 b n m):Nat):Int)=(Y8 (L5 b n m):Nat):=wrap_i64 (by omega) (by omega)
      have w3:=fun h=>A0k (h:=h) (l:=C8 256 (L5 b n m)) (I5 (by rw [A0n];omega)) (a:=20) (w:=4) (v:=(Y8 (L5 b n m):Nat))
      have e6:=A0q (l:=L5 b n m) (a:=20) (w:=4) (v:=(Y8 (L5 b n m):Nat)) (by rw [A0n];omega) (by omega) (by omega) (by omega)
      simp only [A0n,Nat.sub_self,show zeros 0=[] from rfl,List.append_nil,Int.cast_ofNat_Int] at e6
      simp only [e6] at w3
      have eS:magicB ++ C1 2 b ++ C1 2 n ++ C1 8 m=L5 b n m:=rfl
      rw [eS] at hl
      have rz:=C32 8
      change ∀ h,N7 [_,_,_,_] h=some (.a (A3 (Z1 b n m)),h) at w3
      generalize Z1 b n m=SB at *
      generalize C8 256 magicB=P0 at *
      generalize C8 256 (magicB ++ C1 2 b)=P1 at *
      generalize C8 256 (magicB ++ C1 2 b ++ C1 2 n)=P2 at *
      generalize C8 256 (L5 b n m)=P3 at *
      simp only [esc] at hp
      generalize zeros 256=z at *
      generalize zeros 8=z8 at *
      exact ⟨_,by simp only [esc,esh,Nat.reduceAdd,Nat.reduceMul,Nat.reduceLT,A8l,c,e7,hmk,ho,hz,L0,w1,L1,w2,L2,mk8,rz,hp,hl,L3,hc,hstr,hmx,e5,w3,L4] <;> rfl⟩
  obtain ⟨g',e⟩:=key (ro h)
  exact C81 e (by simp)
theorem B1Y {b:List UInt8} {a w:Nat} (hb:b.length=256) (h1:a + w ≤ 256) (hw:1 ≤ w) (hw4:w ≤ 4):((atN b a w:Nat):Int)=fieldN b a w:=by
  unfold atN fieldN
  rw [if_pos ⟨by omega,A0o.2 (by omega)⟩]
  simp only [Int.toNat_natCast]
theorem E8X {b:List UInt8} (hb:b.length=256):A38 (Q2 b 12 8) 0 8=some (le ((b.drop 12).take 8)):=by
  have hc:Q2 b 12 8=(b.drop 12).take 8:=by
    unfold Q2
    rw [if_pos (by omega)];rfl
  have hl:((b.drop 12).take 8).length=8:=by simp;omega
  unfold A38
  rw [hc,hl,if_pos ⟨by omega,by decide⟩]
  simp only [Int.toNat_zero,List.drop_zero]
  rw [List.take_of_length_le (by rw [hl];decide)]
def okS (b:List UInt8):Bool:=H7 (fieldN b 8 2) (fieldN b 10 2) && decide (Z1 (fieldN b 8 2) (fieldN b 10 2) (fieldN b 12 8)=b)
def A1l (b:List UInt8):List Cell:=bif okS b then E9 (fieldN b 8 2) (fieldN b 10 2) (fieldN b 12 8) else E9 0 0 0
theorem B6q (b:List UInt8):0 ≤ fieldN b 12 8 ∧ fieldN b 12 8 < 18446744073709551616:=by
  unfold fieldN
  have h1:=A4d ((b.drop 12).take 8)
  have h2:((b.drop 12).take 8).length ≤ 8:=by simp;omega
  have h3:=A79 h2
  have h4:(256:Nat) ^ 8=18446744073709551616:=by decide
  omega
end Go.Proofs.Ytdgggnlbdoiloaa
end
section
namespace Go.Proofs.Ytdgggnlbdoiloaa
open Go Go.Esc
theorem C4H {b:List UInt8} {h:A0} (hb:b.length=256):A3P [.a (A3 b)] h=some (.t [.a (A1l b),.c (.i .i64 (bif okS b then 0 else 13))],h):=by
  have key:∀ g,∃ g',A5K 0 [.a (A3 b)] g=some (.t [.a (A1l b),.c (.i .i64 (bif okS b then 0 else 13))],g'):=by
    intro g
    have hl:(A3 b).length=256:=by rw [B6,hb]
    have hc:=B0p (h:=g ++ [some ⟨A3 b,true⟩,some ⟨E9 0 0 0,true⟩]) hb (a:=12) (n:=8)
    have hcl:(Q2 b 12 8).length=8:=by unfold Q2;rw [if_pos (by omega)];simp;omega
    rw [hcl] at hc
    have hg:=G7s (h:=g ++ [some ⟨A3 b,true⟩,some ⟨E9 0 0 0,true⟩,some ⟨A3 (Q2 b 12 8),true⟩]) (v:=.c (.sl (g.length + 2) 0 8 1)) (nv:=8) (l:=Q2 b 12 8) (Has.tr (by simp) (by rw [B6,hcl]) (R3 _)) (a:=0) (w:=8) (by rw [hcl];omega)
    rw [E8X hb] at hg
    simp only [Option.getD_some,Option.isSome_some] at hg
    have a1:=fun h=>A1r (h:=h) hb (a:=8) (w:=2)
    have a2:=fun h=>A1r (h:=h) hb (a:=10) (w:=2)
    have f1:=B1Y (a:=8) (w:=2) hb (by omega) (by omega) (by omega)
    have f2:=B1Y (a:=10) (w:=2) hb (by omega) (by omega) (by omega)
    simp only [Int.cast_ofNat_Int] at f1 f2
    simp only [f1] at a1
    simp only [f2] at a2
    have e12:((le ((b.drop 12).take 8):Nat):Int)=fieldN b 12 8:=rfl
    rw [e12] at hg
    have ef:∀ x y z:Int,B0 (E9 0 0 0) [(0,1,.c (.i .i64 x)),(1,1,.c (.i .i64 y)),(2,1,.c (.i .u64 z))]=some (E9 x y z):=fun _ _ _=>rfl
    have ef0:B0 (E9 0 0 0) []=some (E9 0 0 0):=rfl
    have hp:=fun h=>C4Q (b:=fieldN b 8 2) (n:=fieldN b 10 2) (m:=fieldN b 12 8) (h:=h) (B6q b).1 (B6q b).2
    have hz:(List.replicate 256 (Cell.i .u8 0)).length=256:=List.length_replicate
    have hS:(A3 (Z1 (fieldN b 8 2) (fieldN b 10 2) (fieldN b 12 8))).length=256:=by rw [B6,A4A]
    have hZ:(A3 (zeros 256)).length=256:=by rw [B6];exact zeros_length
    have hq:=A50 (l:=Z1 (fieldN b 8 2) (fieldN b 10 2) (fieldN b 12 8)) (m:=b) (n:=256) A4A hb
    simp only [esc] at hc
    rw [C67]
    unfold A1l okS
    generalize List.replicate 256 (Cell.i .u8 0)=z at *
    cases c:H7 (fieldN b 8 2) (fieldN b 10 2) with
    | false =>
      simp only [c,cond_false] at hp
      generalize zeros 256=zz at *
      exact ⟨_,by simp only [esc,esh,Nat.reduceAdd,Nat.reduceMul,Nat.reduceLT,hl,hc,hg,a1,a2,ef,ef0,hp,hz,hZ,Bool.false_and,Int.reduceEq] <;> rfl⟩
    | true =>
      simp only [c,cond_true] at hp
      cases c2:decide (Z1 (fieldN b 8 2) (fieldN b 10 2) (fieldN b 12 8)=b) with
      | false =>
        rw [c2] at hq
        exact ⟨_,by simp only [esc,esh,Nat.reduceAdd,Nat.reduceMul,Nat.reduceLT,hl,hc,hg,a1,a2,ef,ef0,hp,hz,hS,hq,Bool.and_false] <;> rfl⟩
      | true =>
        rw [c2] at hq
        exact ⟨_,by simp only [esc,esh,Nat.reduceAdd,Nat.reduceMul,Nat.reduceLT,hl,hc,hg,a1,a2,ef,ef0,hp,hz,hS,hq,Bool.and_true] <;> rfl⟩
  obtain ⟨g',e⟩:=key (ro h)
  refine C8Z e ?_
  unfold A1l
  cases okS b <;> simp
end Go.Proofs.Ytdgggnlbdoiloaa
end
noncomputable section
namespace Go.Proofs.Ytdgggnlbdoiloaa
open Go Go.Esc
set_option maxRecDepth 100000
def B88:List AOper:=[aO 1 (.box (.t 0)),aO 2 (.alloc ([.i .i64 0,.i .i64 0,.i .i64 0,.i .i64 0,.i .i64 0,.i .i64 0,.i .i64 0,.i .i64 0,.i .i64 0,.i .i64 0,.i .i64 0]))]
def F5i:ACode:=.ops B88
def B89:List AOper:=[aO 6 (.slA 32 1 (.t 1) none none),aO 7 (.call 95 [(.t 6)]),aO 3 (.alloc (List.replicate 256 (.i .u8 0))),{ dst:=none,op:=.storeN 256 (.t 3) (.t 7) }]
def F5k:ACode:=.ops B89
def B9b:List AOper:=[aO 8 (.loadN 256 (.t 3)),aO 9 (.call 101 [(.t 8),(.v (.c (.i .i64 0))),(.v (.c (.i .i64 1)))]),aO 10 (.loadN 256 (.t 3)),aO 11 (.call 101 [(.t 10),(.v (.c (.i .i64 2))),(.v (.c (.i .i64 2)))]),aO 12 (.loadN 256 (.t 3)),aO 13 (.call 101 [(.t 12),(.v (.c (.i .i64 4))),(.v (.c (.i .i64 4)))]),aO 14 (.loadN 256 (.t 3)),aO 15 (.call 101 [(.t 14),(.v (.c (.i .i64 8))),(.v (.c (.i .i64 2)))]),aO 16 (.build ([.i .i64 0,.i .i64 0,.i .i64 0,.i .i64 0,.i .i64 0,.i .i64 0,.i .i64 0,.i .i64 0,.i .i64 0,.i .i64 0,.i .i64 0]) [(0,1,(.t 9)),(1,1,(.t 11)),(2,1,(.t 13)),(3,1,(.t 15))]),{ dst:=some 4,op:=.alloc ([.i .i64 0,.i .i64 0,.i .i64 0,.i .i64 0,.i .i64 0,.i .i64 0,.i .i64 0,.i .i64 0,.i .i64 0,.i .i64 0,.i .i64 0]),slot:=some 0 }]
def B9c:List AOper:=[{ dst:=none,op:=.storeN 11 (.t 4) (.t 16) }]
def F5F:ACode:=.draw 1 B9b B9c
def B9d:List AOper:=[aO 17 (.mv (.v (.c (.i .i64 0))))]
def F5Q:ACode:=.ops B9d
def B9e:List AOper:=[aO 18 (.bin .lss (.t 17) (.v (.c (.i .i64 6))))]
def F5S:ACode:=.ops B9e
def F5U:ACode:=.cond (.t 18) .skip (.exit 0)
def B9f:List AOper:=[aO 19 (.mv (.t 17)),aO 5 (.mv (.t 19))]
def F5W:ACode:=.ops B9f
def B9g:List AOper:=[aO 20 (.mv (.t 5)),aO 21 (.loadN 256 (.t 3)),aO 22 (.mv (.t 5)),aO 23 (.bin .mul (.v (.c (.i .i64 2))) (.t 22)),aO 24 (.bin .add (.v (.c (.i .i64 10))) (.t 23)),aO 25 (.call 101 [(.t 21),(.t 24),(.v (.c (.i .i64 2)))]),aO 26 (.fAddr (.t 4) 4),aO 27 (.iAddrA 6 1 (.t 26) (.t 20)),{ dst:=none,op:=.store1 (.t 27) (.t 25) }]
def F5Y:ACode:=.ops B9g
def F50:ACode:=.seq [2,3,4,5,17] F5W F5Y
def F52:ACode:=.block 1 F50
def B9h:List AOper:=[aO 28 (.bin .add (.t 17) (.v (.c (.i .i64 1)))),aO 17 (.mv (.t 28))]
def F5l:ACode:=.ops B9h
def F5n:ACode:=.seq [2,3,4,17] F52 F5l
def F5p:ACode:=.seq [2,3,4,17] F5U F5n
def F5r:ACode:=.seq [2,3,4,17,18] F5S F5p
def F5s:ACode:=.loop [2,3,4,17] F5r
def F5u:ACode:=.block 0 F5s
def F5w:ACode:=.seq [2,3,4,17] F5Q F5u
def B9i:List AOper:=[aO 29 (.loadN 256 (.t 3)),aO 30 (.call 101 [(.t 29),(.v (.c (.i .i64 22))),(.v (.c (.i .i64 2)))]),aO 31 (.fAddr (.t 4) 10),{ dst:=none,op:=.store1 (.t 31) (.t 30) }]
def F5y:ACode:=.ops B9i
def B9a:List AOper:=[aO 32 (.loadN 11 (.t 4)),{ dst:=none,op:=.storeN 11 (.t 2) (.t 32) }]
def F5A:ACode:=.ops B9a
def F5C:ACode:=.seq [2] F5A .ret
def F5G:ACode:=.seq [2,4] F5y F5C
def F5H:ACode:=.seq [2,3,4] F5w F5G
def F5J:ACode:=.seq [2,3,4] F5F F5H
def F5L:ACode:=.seq [2,3] F5k F5J
def F5N:ACode:=.seq [1,2] F5i F5L
def A_inode_Get:AFn:=⟨F5N,[.cellN 2 11]⟩
def U5:B4:=A9 95 X7 (A9 101 M4 C2)
def F5j (n:Nat):SmV:=A2 U5 B88
def F5E (n:Nat):SmV:=A2 U5 B89
def F5P (n:Nat):SmV:=P8 U5 1 B9b B9c
def F5R (n:Nat):SmV:=A2 U5 B9d
def F5T (n:Nat):SmV:=A2 U5 B9e
def F5V (n:Nat):SmV:=B8 (.t 18) B9 (F0 0)
def F5X (n:Nat):SmV:=A2 U5 B9f
def F5Z (n:Nat):SmV:=A2 U5 B9g
def F51 (n:Nat):SmV:=A1 [2,3,4,5,17] (F5X n) (F5Z n)
def F53 (n:Nat):SmV:=C4 1 (F51 n)
def F5m (n:Nat):SmV:=A2 U5 B9h
def F5o (n:Nat):SmV:=A1 [2,3,4,17] (F53 n) (F5m n)
def F5q (n:Nat):SmV:=A1 [2,3,4,17] (F5V n) (F5o n)
def B85 (n:Nat):SmV:=A1 [2,3,4,17,18] (F5T n) (F5q n)
def F5t (n:Nat):SmV:=F2 n [2,3,4,17] (B85 n)
def F5v (n:Nat):SmV:=C4 0 (F5t n)
def F5x (n:Nat):SmV:=A1 [2,3,4,17] (F5R n) (F5v n)
def F5z (n:Nat):SmV:=A2 U5 B9i
def F5B (n:Nat):SmV:=A2 U5 B9a
def F5D (n:Nat):SmV:=A1 [2] (F5B n) B5
def B86 (n:Nat):SmV:=A1 [2,4] (F5z n) (F5D n)
def F5I (n:Nat):SmV:=A1 [2,3,4] (F5x n) (B86 n)
def F5K (n:Nat):SmV:=A1 [2,3,4] (F5P n) (F5I n)
def F5M (n:Nat):SmV:=A1 [2,3] (F5E n) (F5K n)
def F5O (n:Nat):SmV:=A1 [1,2] (F5j n) (F5M n)
def A7b (n:Nat):AExit → Env → A0 → A6:=fun x e h=>match x with | .normal=>hold ((B86 n) A_inode_Get.fin (e.keep [2,3,4]) h) | .exit id=>A_inode_Get.fin (.exit id) e h | .ret=>A_inode_Get.fin .ret e h
def F54 (n:Nat):AExit → Env → A0 → A6:=fun x e h=>match x with | .exit i=>bif Nat.beq i 0 then (A7b n) .normal e h else (A7b n) (.exit i) e h | .normal=>(A7b n) .normal e h | .ret=>(A7b n) .ret e h
def A7c (n m:Nat) (x2 x3 x4 x17:Val) (h:A0):A6:=E2 (B85 n) [2,3,4,17] (F54 n) m [(2,x2),(3,x3),(4,x4),(17,x17)] h
def A5u (n:Nat) (args:List Val) (h:A0):A6:=(F5O n) A_inode_Get.fin (params 0 args) h
theorem C6J (n:Nat) (a0:Val) (h:A0):A5u n [a0] h=bnd (cells? a0) fun c1=>bnd (V5 (((h ++ [some (Row.mk (c1) true)]) ++ [some (Row.mk ([.i .i64 0,.i .i64 0,.i .i64 0,.i .i64 0,.i .i64 0,.i .i64 0,.i .i64 0,.i .i64 0,.i .i64 0,.i .i64 0,.i .i64 0]) true)])) 32 1 ((.c (.p h.length 0))) none none) fun v2=>bnd (X7 [v2] (((h ++ [some (Row.mk (c1) true)]) ++ [some (Row.mk ([.i .i64 0,.i .i64 0,.i .i64 0,.i .i64 0,.i .i64 0,.i .i64 0,.i .i64 0,.i .i64 0,.i .i64 0,.i .i64 0,.i .i64 0]) true)]))) fun p3=>bnd (B1 ((p3.2 ++ [some (Row.mk (List.replicate 256 (.i .u8 0)) true)])) 256 ((.c (.p p3.2.length 0))) p3.1) fun h4=>bnd (A5 h4 256 ((.c (.p p3.2.length 0)))) fun v5=>bnd (quiet ((h4 ++ [none])) (M4 [v5,.c (.i .i64 0),.c (.i .i64 1)] ((h4 ++ [none])))) fun p6=>bnd (A5 h4 256 ((.c (.p p3.2.length 0)))) fun v7=>bnd (quiet p6.2 (M4 [v7,.c (.i .i64 2),.c (.i .i64 2)] p6.2)) fun p8=>bnd (A5 h4 256 ((.c (.p p3.2.length 0)))) fun v9=>bnd (quiet p8.2 (M4 [v9,.c (.i .i64 4),.c (.i .i64 4)] p8.2)) fun p10=>bnd (A5 h4 256 ((.c (.p p3.2.length 0)))) fun v11=>bnd (quiet p10.2 (M4 [v11,.c (.i .i64 8),.c (.i .i64 2)] p10.2)) fun p12=>bnd (B0 ([.i .i64 0,.i .i64 0,.i .i64 0,.i .i64 0,.i .i64 0,.i .i64 0,.i .i64 0,.i .i64 0,.i .i64 0,.i .i64 0,.i .i64 0]) [(0,1,p6.1),(1,1,p8.1),(2,1,p10.1),(3,1,p12.1)]) fun c13=>bnd (B1 ((p12.2.set (h4.length + 0) (some (Row.mk ([.i .i64 0,.i .i64 0,.i .i64 0,.i .i64 0,.i .i64 0,.i .i64 0,.i .i64 0,.i .i64 0,.i .i64 0,.i .i64 0,.i .i64 0]) true)))) 11 ((.c (.p (h4.length + 0) 0))) ((.a c13))) fun h14=>A7c n n ((.c (.p ((h ++ [some (Row.mk (c1) true)])).length 0))) ((.c (.p p3.2.length 0))) ((.c (.p (h4.length + 0) 0))) (.c (.i .i64 0)) h14:=by kernel_rfl
theorem B87 (n m:Nat) (x2 x3 x4 x17:Val) (h:A0):A7c n (m + 1) x2 x3 x4 x17 h=bnd (A4 .lss x17 (.c (.i .i64 6))) fun v15=>cnd v15 (bnd (A5 h 256 x3) fun v16=>bnd (A4 .mul (.c (.i .i64 2)) x17) fun v17=>bnd (A4 .add (.c (.i .i64 10)) v17) fun v18=>bnd (M4 [v16,v18,.c (.i .i64 2)] h) fun p19=>bnd (B7 x4 4) fun v20=>bnd (D6 6 1 v20 x17) fun v21=>bnd (E8 p19.2 v21 p19.1) fun h22=>bnd (A4 .add x17 (.c (.i .i64 1))) fun v23=>A7c n m x2 x3 x4 v23 h22) (bnd (A5 h 256 x3) fun v24=>bnd (M4 [v24,.c (.i .i64 22),.c (.i .i64 2)] h) fun p25=>bnd (B7 x4 10) fun v26=>bnd (E8 p25.2 v26 p25.1) fun h27=>bnd (A5 h27 11 x4) fun v28=>bnd (B1 h27 11 x2 v28) fun h29=>mp (A5 h29 11 x2) fun v=>(v,h29)):=by kernel_rfl
theorem K_inode_Get:FnK Try.prog 133 A_inode_Get U5 A5u:=.mk' (B3 A5W (B3 A5V C5)) Try.func133 (by kernel_rfl) (by intro n args h;kernel_rfl)
def A3F:Fun:=tidy (Lim A_inode_Get U5)
theorem C8q:SOk Try.prog 133 A3F:=K_inode_Get.sok
theorem C8p {n:Nat} {args:List Val} {h h2:A0} {v:Val} (he:A5u n args (ro h)=some (v,h2)) (hf:v.flat=true):A3F args h=some (v,h):=K_inode_Get.flat he hf
def B9X:List AOper:=[aO 2 (.mv (.v (.c (.b false))))]
def F8w:ACode:=.ops B9X
def B9Y:List AOper:=[aO 3 (.mv (.t 0)),aO 4 (.bin .geq (.t 3) (.v (.c (.i .i64 0)))),aO 5 (.mv (.t 4)),{ dst:=some 6,op:=.mv (.t 0),guard:=some (5,true) },{ dst:=some 7,op:=.bin .leq (.t 6) (.v (.c (.i .i64 65535))),guard:=some (5,true) },aO 8 (.pick (.t 5) (.t 7) (.v (.c (.b false)))),aO 2 (.mv (.t 8))]
def F8y:ACode:=.ops B9Y
def F8A:ACode:=.seq [2] F8y .ret
def F8C:ACode:=.seq [0] F8w F8A
def A_inode_small:AFn:=⟨F8C,[.tmp 2]⟩
def A4Q:B4:=C2
def F8x (n:Nat):SmV:=A2 A4Q B9X
def F8z (n:Nat):SmV:=A2 A4Q B9Y
def F8B (n:Nat):SmV:=A1 [2] (F8z n) B5
def F8D (n:Nat):SmV:=A1 [0] (F8x n) (F8B n)
def A8K (n:Nat) (args:List Val) (h:A0):A6:=(F8D n) A_inode_small.fin (params 0 args) h
theorem C6M (n:Nat) (a0:Val) (h:A0):A8K n [a0] h=bnd (A4 .geq a0 (.c (.i .i64 0))) fun v1=>bnd (gd v1 true (some (a0,h)) (some (.no,h))) fun p2=>bnd (gd v1 true (bnd (A4 .leq p2.1 (.c (.i .i64 65535))) fun v3=>some (v3,p2.2)) (some (.no,p2.2))) fun p4=>bnd (D4 v1 p4.1 (.c (.b false))) fun v5=>some (v5,p4.2):=by kernel_rfl
theorem K_inode_small:FnK Try.prog 163 A_inode_small A4Q A8K:=.mk' (C5) Try.func163 (by kernel_rfl) (by intro n args h;kernel_rfl)
def A1S:Fun:=tidy (Lim A_inode_small A4Q)
theorem C8u:SOk Try.prog 163 A1S:=K_inode_small.sok
theorem C8t {n:Nat} {args:List Val} {h h2:A0} {v:Val} (he:A8K n args (ro h)=some (v,h2)) (hf:v.flat=true):A1S args h=some (v,h):=K_inode_small.flat he hf
def B9m:List AOper:=[aO 1 (.box (.t 0)),aO 2 (.alloc ([.i .i64 0,.i .i64 0,.i .i64 0,.i .i64 0,.i .i64 0,.i .i64 0,.i .i64 0]))]
def F55:ACode:=.ops B9m
def B9n:List AOper:=[aO 3 (.alloc ([.i .i64 0,.i .i64 0,.i .i64 0,.i .i64 0,.i .i64 0,.i .i64 0,.i .i64 0]))]
def F57:ACode:=.ops B9n
def B9o:List AOper:=[aO 6 (.fAddr (.t 1) 4),aO 7 (.loadN 6 (.t 6)),aO 8 (.mv (.v (.c (.i .i64 0))))]
def F6r:ACode:=.ops B9o
def B9p:List AOper:=[aO 9 (.bin .lss (.t 8) (.v (.c (.i .i64 6))))]
def F6z:ACode:=.ops B9p
def F6B:ACode:=.cond (.t 9) .skip (.exit 0)
def B9q:List AOper:=[aO 10 (.mv (.t 8)),aO 11 (.idxA1 6 (.t 7) (.t 8)),aO 4 (.mv (.t 10)),aO 5 (.mv (.t 11))]
def F6D:ACode:=.ops B9q
def B9r:List AOper:=[aO 12 (.mv (.t 4)),aO 13 (.mv (.t 5)),aO 14 (.iAddrA 7 1 (.t 3) (.t 12)),{ dst:=none,op:=.store1 (.t 14) (.t 13) }]
def F6F:ACode:=.ops B9r
def F6H:ACode:=.seq [1,2,3,4,5,7,8] F6D F6F
def F6J:ACode:=.block 1 F6H
def B9s:List AOper:=[aO 15 (.bin .add (.t 8) (.v (.c (.i .i64 1)))),aO 8 (.mv (.t 15))]
def F6L:ACode:=.ops B9s
def F58:ACode:=.seq [1,2,3,7,8] F6J F6L
def F6a:ACode:=.seq [1,2,3,7,8] F6B F58
def F6c:ACode:=.seq [1,2,3,7,8,9] F6z F6a
def F6d:ACode:=.loop [1,2,3,7,8] F6c
def F6f:ACode:=.block 0 F6d
def F6h:ACode:=.seq [1,2,3,7,8] F6r F6f
def B9t:List AOper:=[aO 16 (.fAddr (.t 1) 10),aO 17 (.load1 (.t 16)),aO 18 (.iAddrA 7 1 (.t 3) (.v (.c (.i .i64 6)))),{ dst:=none,op:=.store1 (.t 18) (.t 17) }]
def F6j:ACode:=.ops B9t
def B9u:List AOper:=[aO 19 (.loadN 7 (.t 3)),{ dst:=none,op:=.storeN 7 (.t 2) (.t 19) }]
def F6l:ACode:=.ops B9u
def F6n:ACode:=.seq [2] F6l .ret
def F6p:ACode:=.seq [2,3] F6j F6n
def F6s:ACode:=.seq [1,2,3] F6h F6p
def F6u:ACode:=.seq [1,2,3] F57 F6s
def F6w:ACode:=.seq [1,2] F55 F6u
def A_inode_Numbers:AFn:=⟨F6w,[.cellN 2 7]⟩
def X2:B4:=C2
def F56 (n:Nat):SmV:=A2 X2 B9m
def F6q (n:Nat):SmV:=A2 X2 B9n
def F6y (n:Nat):SmV:=A2 X2 B9o
def F6A (n:Nat):SmV:=A2 X2 B9p
def F6C (n:Nat):SmV:=B8 (.t 9) B9 (F0 0)
def F6E (n:Nat):SmV:=A2 X2 B9q
def F6G (n:Nat):SmV:=A2 X2 B9r
def F6I (n:Nat):SmV:=A1 [1,2,3,4,5,7,8] (F6E n) (F6G n)
def F6K (n:Nat):SmV:=C4 1 (F6I n)
def F6M (n:Nat):SmV:=A2 X2 B9s
def F59 (n:Nat):SmV:=A1 [1,2,3,7,8] (F6K n) (F6M n)
def F6b (n:Nat):SmV:=A1 [1,2,3,7,8] (F6C n) (F59 n)
def B9j (n:Nat):SmV:=A1 [1,2,3,7,8,9] (F6A n) (F6b n)
def F6e (n:Nat):SmV:=F2 n [1,2,3,7,8] (B9j n)
def F6g (n:Nat):SmV:=C4 0 (F6e n)
def F6i (n:Nat):SmV:=A1 [1,2,3,7,8] (F6y n) (F6g n)
def F6k (n:Nat):SmV:=A2 X2 B9t
def F6m (n:Nat):SmV:=A2 X2 B9u
def F6o (n:Nat):SmV:=A1 [2] (F6m n) B5
def B9k (n:Nat):SmV:=A1 [2,3] (F6k n) (F6o n)
def F6t (n:Nat):SmV:=A1 [1,2,3] (F6i n) (B9k n)
def F6v (n:Nat):SmV:=A1 [1,2,3] (F6q n) (F6t n)
def F6x (n:Nat):SmV:=A1 [1,2] (F56 n) (F6v n)
def A7d (n:Nat):AExit → Env → A0 → A6:=fun x e h=>match x with | .normal=>hold ((B9k n) A_inode_Numbers.fin (e.keep [1,2,3]) h) | .exit id=>A_inode_Numbers.fin (.exit id) e h | .ret=>A_inode_Numbers.fin .ret e h
def F6N (n:Nat):AExit → Env → A0 → A6:=fun x e h=>match x with | .exit i=>bif Nat.beq i 0 then (A7d n) .normal e h else (A7d n) (.exit i) e h | .normal=>(A7d n) .normal e h | .ret=>(A7d n) .ret e h
def A7e (n m:Nat) (x1 x2 x3 x7 x8:Val) (h:A0):A6:=E2 (B9j n) [1,2,3,7,8] (F6N n) m [(1,x1),(2,x2),(3,x3),(7,x7),(8,x8)] h
def A5v (n:Nat) (args:List Val) (h:A0):A6:=(F6x n) A_inode_Numbers.fin (params 0 args) h
theorem C6K (n:Nat) (a0:Val) (h:A0):A5v n [a0] h=bnd (cells? a0) fun c1=>bnd (B7 ((.c (.p h.length 0))) 4) fun v2=>bnd (A5 ((((h ++ [some (Row.mk (c1) true)]) ++ [some (Row.mk ([.i .i64 0,.i .i64 0,.i .i64 0,.i .i64 0,.i .i64 0,.i .i64 0,.i .i64 0]) true)]) ++ [some (Row.mk ([.i .i64 0,.i .i64 0,.i .i64 0,.i .i64 0,.i .i64 0,.i .i64 0,.i .i64 0]) true)])) 6 v2) fun v3=>A7e n n ((.c (.p h.length 0))) ((.c (.p ((h ++ [some (Row.mk (c1) true)])).length 0))) ((.c (.p (((h ++ [some (Row.mk (c1) true)]) ++ [some (Row.mk ([.i .i64 0,.i .i64 0,.i .i64 0,.i .i64 0,.i .i64 0,.i .i64 0,.i .i64 0]) true)])).length 0))) v3 (.c (.i .i64 0)) ((((h ++ [some (Row.mk (c1) true)]) ++ [some (Row.mk ([.i .i64 0,.i .i64 0,.i .i64 0,.i .i64 0,.i .i64 0,.i .i64 0,.i .i64 0]) true)]) ++ [some (Row.mk ([.i .i64 0,.i .i64 0,.i .i64 0,.i .i64 0,.i .i64 0,.i .i64 0,.i .i64 0]) true)])):=by kernel_rfl
theorem B9l (n m:Nat) (x1 x2 x3 x7 x8:Val) (h:A0):A7e n (m + 1) x1 x2 x3 x7 x8 h=bnd (A4 .lss x8 (.c (.i .i64 6))) fun v4=>cnd v4 (bnd (T8 6 x7 x8) fun v5=>bnd (D6 7 1 x3 x8) fun v6=>bnd (E8 h v6 v5) fun h7=>bnd (A4 .add x8 (.c (.i .i64 1))) fun v8=>A7e n m x1 x2 x3 x7 v8 h7) (bnd (B7 x1 10) fun v9=>bnd (A8 h v9) fun v10=>bnd (D6 7 1 x3 (.c (.i .i64 6))) fun v11=>bnd (E8 h v11 v10) fun h12=>bnd (A5 h12 7 x3) fun v13=>bnd (B1 h12 7 x2 v13) fun h14=>mp (A5 h14 7 x2) fun v=>(v,h14)):=by kernel_rfl
theorem K_inode_Numbers:FnK Try.prog 156 A_inode_Numbers X2 A5v:=.mk' (C5) Try.func156 (by kernel_rfl) (by intro n args h;kernel_rfl)
def A1Q:Fun:=tidy (Lim A_inode_Numbers X2)
theorem B1d:SOk Try.prog 156 A1Q:=K_inode_Numbers.sok
theorem C8r {n:Nat} {args:List Val} {h h2:A0} {v:Val} (he:A5v n args (ro h)=some (v,h2)) (hf:v.flat=true):A1Q args h=some (v,h):=K_inode_Numbers.flat he hf
def B8N:List AOper:=[aO 1 (.box (.t 0)),aO 2 (.mv (.v (.c (.i .i64 0))))]
def F3I:ACode:=.ops B8N
def B8O:List AOper:=[aO 5 (.fAddr (.t 1) 0),aO 6 (.load1 (.t 5)),aO 7 (.bin .lss (.t 6) (.v (.c (.i .i64 0)))),aO 8 (.mv (.t 7)),{ dst:=some 9,op:=.fAddr (.t 1) 0,guard:=some (8,false) },{ dst:=some 10,op:=.load1 (.t 9),guard:=some (8,false) },{ dst:=some 11,op:=.bin .gtr (.t 10) (.v (.c (.i .i64 2))),guard:=some (8,false) },aO 12 (.pick (.t 8) (.v (.c (.b true))) (.t 11)),aO 13 (.mv (.t 12)),{ dst:=some 14,op:=.fAddr (.t 1) 0,guard:=some (13,false) },{ dst:=some 15,op:=.load1 (.t 14),guard:=some (13,false) },{ dst:=some 16,op:=.bin .eql (.t 15) (.v (.c (.i .i64 0))),guard:=some (13,false) },{ dst:=some 17,op:=.mv (.t 16),guard:=some (13,false) },{ dst:=some 18,op:=.loadN 11 (.t 1),guard:=some (17,true) },{ dst:=some 19,op:=.build ([.i .i64 0,.i .i64 0,.i .i64 0,.i .i64 0,.i .i64 0,.i .i64 0,.i .i64 0,.i .i64 0,.i .i64 0,.i .i64 0,.i .i64 0]) [],guard:=some (17,true) },{ dst:=some 20,op:=.eqA true ([.i .i64,.i .i64,.i .i64,.i .i64,.i .i64,.i .i64,.i .i64,.i .i64,.i .i64,.i .i64,.i .i64]) (.t 18) (.t 19),guard:=some (17,true) },{ dst:=some 21,op:=.pick (.t 17) (.t 20) (.v (.c (.b false))),guard:=some (13,false) },aO 22 (.pick (.t 13) (.v (.c (.b true))) (.t 21))]
def F3K:ACode:=.ops B8O
def B8R:List AOper:=[aO 2 (.mv (.v (.c (.i .i64 1))))]
def F36:ACode:=.ops B8R
def F4r:ACode:=.seq [2] F36 .ret
def F4C:ACode:=.cond (.t 22) F4r .skip
def F4E:ACode:=.seq [1,22] F3K F4C
def B8S:List AOper:=[aO 23 (.fAddr (.t 1) 1),aO 24 (.load1 (.t 23)),aO 25 (.call 163 [(.t 24)]),aO 26 (.un .not (.t 25)),aO 27 (.mv (.t 26)),{ dst:=some 28,op:=.fAddr (.t 1) 3,guard:=some (27,false) },{ dst:=some 29,op:=.load1 (.t 28),guard:=some (27,false) },{ dst:=some 30,op:=.call 163 [(.t 29)],guard:=some (27,false) },{ dst:=some 31,op:=.un .not (.t 30),guard:=some (27,false) },aO 32 (.pick (.t 27) (.v (.c (.b true))) (.t 31)),aO 33 (.mv (.t 32)),{ dst:=some 34,op:=.fAddr (.t 1) 2,guard:=some (33,false) },{ dst:=some 35,op:=.load1 (.t 34),guard:=some (33,false) },{ dst:=some 36,op:=.bin .lss (.t 35) (.v (.c (.i .i64 0))),guard:=some (33,false) },aO 37 (.pick (.t 33) (.v (.c (.b true))) (.t 36)),aO 38 (.mv (.t 37)),{ dst:=some 39,op:=.fAddr (.t 1) 2,guard:=some (38,false) },{ dst:=some 40,op:=.load1 (.t 39),guard:=some (38,false) },{ dst:=some 41,op:=.bin .gtr (.t 40) (.v (.c (.i .i64 34304))),guard:=some (38,false) },aO 42 (.pick (.t 38) (.v (.c (.b true))) (.t 41))]
def F4G:ACode:=.ops B8S
def B8T:List AOper:=[aO 2 (.mv (.v (.c (.i .i64 1))))]
def F4I:ACode:=.ops B8T
def F4K:ACode:=.seq [2] F4I .ret
def F4M:ACode:=.cond (.t 42) F4K .skip
def F3L:ACode:=.seq [1,42] F4G F4M
def B8U:List AOper:=[aO 43 (.loadN 11 (.t 1)),aO 44 (.call 156 [(.t 43)]),aO 45 (.mv (.v (.c (.i .i64 0))))]
def F3N:ACode:=.ops B8U
def B8V:List AOper:=[aO 46 (.bin .lss (.t 45) (.v (.c (.i .i64 7))))]
def F3P:ACode:=.ops B8V
def F3R:ACode:=.cond (.t 46) .skip (.exit 0)
def B8W:List AOper:=[aO 47 (.idxA1 7 (.t 44) (.t 45)),aO 4 (.mv (.t 47))]
def F3T:ACode:=.ops B8W
def B8X:List AOper:=[aO 48 (.mv (.t 4)),aO 49 (.call 163 [(.t 48)]),aO 50 (.un .not (.t 49))]
def F3V:ACode:=.ops B8X
def B8Y:List AOper:=[aO 2 (.mv (.v (.c (.i .i64 1))))]
def F3X:ACode:=.ops B8Y
def F3Z:ACode:=.seq [2] F3X .ret
def F31:ACode:=.cond (.t 50) F3Z .skip
def F33:ACode:=.seq [44,45,50] F3V F31
def F37:ACode:=.seq [4,44,45] F3T F33
def F39:ACode:=.block 1 F37
def B8P:List AOper:=[aO 51 (.bin .add (.t 45) (.v (.c (.i .i64 1)))),aO 45 (.mv (.t 51))]
def F4b:ACode:=.ops B8P
def F4d:ACode:=.seq [44,45] F39 F4b
def F4f:ACode:=.seq [44,45] F3R F4d
def F4h:ACode:=.seq [44,45,46] F3P F4f
def F4i:ACode:=.loop [44,45] F4h
def F4k:ACode:=.block 0 F4i
def F4m:ACode:=.seq [44,45] F3N F4k
def B8Q:List AOper:=[aO 2 (.mv (.v (.c (.i .i64 0))))]
def F4o:ACode:=.ops B8Q
def F4s:ACode:=.seq [2] F4o .ret
def F4t:ACode:=.seq [] F4m F4s
def F4v:ACode:=.seq [1] F3L F4t
def F4x:ACode:=.seq [1] F4E F4v
def F4z:ACode:=.seq [1] F3I F4x
def A_inode_Check:AFn:=⟨F4z,[.tmp 2]⟩
def R8:B4:=A9 163 A1S (A9 156 A1Q C2)
def F3J (n:Nat):SmV:=A2 R8 B8N
def F35 (n:Nat):SmV:=A2 R8 B8O
def F4q (n:Nat):SmV:=A2 R8 B8R
def F4B (n:Nat):SmV:=A1 [2] (F4q n) B5
def F4D (n:Nat):SmV:=B8 (.t 22) (F4B n) B9
def F4F (n:Nat):SmV:=A1 [1,22] (F35 n) (F4D n)
def F4H (n:Nat):SmV:=A2 R8 B8S
def F4J (n:Nat):SmV:=A2 R8 B8T
def F4L (n:Nat):SmV:=A1 [2] (F4J n) B5
def F4N (n:Nat):SmV:=B8 (.t 42) (F4L n) B9
def F3M (n:Nat):SmV:=A1 [1,42] (F4H n) (F4N n)
def F3O (n:Nat):SmV:=A2 R8 B8U
def F3Q (n:Nat):SmV:=A2 R8 B8V
def F3S (n:Nat):SmV:=B8 (.t 46) B9 (F0 0)
def F3U (n:Nat):SmV:=A2 R8 B8W
def F3W (n:Nat):SmV:=A2 R8 B8X
def F3Y (n:Nat):SmV:=A2 R8 B8Y
def F30 (n:Nat):SmV:=A1 [2] (F3Y n) B5
def F32 (n:Nat):SmV:=B8 (.t 50) (F30 n) B9
def F34 (n:Nat):SmV:=A1 [44,45,50] (F3W n) (F32 n)
def F38 (n:Nat):SmV:=A1 [4,44,45] (F3U n) (F34 n)
def F4a (n:Nat):SmV:=C4 1 (F38 n)
def F4c (n:Nat):SmV:=A2 R8 B8P
def F4e (n:Nat):SmV:=A1 [44,45] (F4a n) (F4c n)
def F4g (n:Nat):SmV:=A1 [44,45] (F3S n) (F4e n)
def B8J (n:Nat):SmV:=A1 [44,45,46] (F3Q n) (F4g n)
def F4j (n:Nat):SmV:=F2 n [44,45] (B8J n)
def F4l (n:Nat):SmV:=C4 0 (F4j n)
def F4n (n:Nat):SmV:=A1 [44,45] (F3O n) (F4l n)
def F4p (n:Nat):SmV:=A2 R8 B8Q
def B8K (n:Nat):SmV:=A1 [2] (F4p n) B5
def F4u (n:Nat):SmV:=A1 [] (F4n n) (B8K n)
def F4w (n:Nat):SmV:=A1 [1] (F3M n) (F4u n)
def F4y (n:Nat):SmV:=A1 [1] (F4F n) (F4w n)
def F4A (n:Nat):SmV:=A1 [1] (F3J n) (F4y n)
def A69 (n:Nat):AExit → Env → A0 → A6:=fun x e h=>match x with | .normal=>hold ((B8K n) A_inode_Check.fin (e.keep []) h) | .exit id=>A_inode_Check.fin (.exit id) e h | .ret=>A_inode_Check.fin .ret e h
def F4O (n:Nat):AExit → Env → A0 → A6:=fun x e h=>match x with | .exit i=>bif Nat.beq i 0 then (A69 n) .normal e h else (A69 n) (.exit i) e h | .normal=>(A69 n) .normal e h | .ret=>(A69 n) .ret e h
def A7a (n m:Nat) (x44 x45:Val) (h:A0):A6:=E2 (B8J n) [44,45] (F4O n) m [(44,x44),(45,x45)] h
def A5s (n:Nat) (args:List Val) (h:A0):A6:=(F4A n) A_inode_Check.fin (params 0 args) h
theorem C6H (n:Nat) (a0:Val) (h:A0):A5s n [a0] h=bnd (cells? a0) fun c1=>bnd (B7 ((.c (.p h.length 0))) 0) fun v2=>bnd (A8 ((h ++ [some (Row.mk (c1) true)])) v2) fun v3=>bnd (A4 .lss v3 (.c (.i .i64 0))) fun v4=>bnd (gd v4 false (bnd (B7 ((.c (.p h.length 0))) 0) fun v5=>some (v5,(h ++ [some (Row.mk (c1) true)]))) (some (.no,(h ++ [some (Row.mk (c1) true)])))) fun p6=>bnd (gd v4 false (bnd (A8 p6.2 p6.1) fun v7=>some (v7,p6.2)) (some (.no,p6.2))) fun p8=>bnd (gd v4 false (bnd (A4 .gtr p8.1 (.c (.i .i64 2))) fun v9=>some (v9,p8.2)) (some (.no,p8.2))) fun p10=>bnd (D4 v4 (.c (.b true)) p10.1) fun v11=>bnd (gd v11 false (bnd (B7 ((.c (.p h.length 0))) 0) fun v12=>some (v12,p10.2)) (some (.no,p10.2))) fun p13=>bnd (gd v11 false (bnd (A8 p13.2 p13.1) fun v14=>some (v14,p13.2)) (some (.no,p13.2))) fun p15=>bnd (gd v11 false (bnd (A4 .eql p15.1 (.c (.i .i64 0))) fun v16=>some (v16,p15.2)) (some (.no,p15.2))) fun p17=>bnd (gd v11 false (some (p17.1,p17.2)) (some (.no,p17.2))) fun p18=>bnd (gd p18.1 true (bnd (A5 p18.2 11 ((.c (.p h.length 0)))) fun v19=>some (v19,p18.2)) (some (.no,p18.2))) fun p20=>bnd (gd p18.1 true (bnd (B0 ([.i .i64 0,.i .i64 0,.i .i64 0,.i .i64 0,.i .i64 0,.i .i64 0,.i .i64 0,.i .i64 0,.i .i64 0,.i .i64 0,.i .i64 0]) []) fun c21=>some ((.a c21),p20.2)) (some (.no,p20.2))) fun p22=>bnd (gd p18.1 true (bnd (aeq true ([.i .i64,.i .i64,.i .i64,.i .i64,.i .i64,.i .i64,.i .i64,.i .i64,.i .i64,.i .i64,.i .i64]) p20.1 p22.1) fun v23=>some (v23,p22.2)) (some (.no,p22.2))) fun p24=>bnd (gd v11 false (bnd (D4 p18.1 p24.1 (.c (.b false))) fun v25=>some (v25,p24.2)) (some (.no,p24.2))) fun p26=>bnd (D4 v11 (.c (.b true)) p26.1) fun v27=>cnd v27 (some ((.c (.i .i64 1)),p26.2)) (bnd (B7 ((.c (.p h.length 0))) 1) fun v28=>bnd (A8 p26.2 v28) fun v29=>bnd (A1S [v29] p26.2) fun p30=>bnd (aun .not p30.1) fun v31=>bnd (gd v31 false (bnd (B7 ((.c (.p h.length 0))) 3) fun v32=>some (v32,p30.2)) (some (.no,p30.2))) fun p33=>bnd (gd v31 false (bnd (A8 p33.2 p33.1) fun v34=>some (v34,p33.2)) (some (.no,p33.2))) fun p35=>bnd (gd v31 false (bnd (A1S [p35.1] p35.2) fun p36=>some (p36.1,p36.2)) (some (.no,p35.2))) fun p37=>bnd (gd v31 false (bnd (aun .not p37.1) fun v38=>some (v38,p37.2)) (some (.no,p37.2))) fun p39=>bnd (D4 v31 (.c (.b true)) p39.1) fun v40=>bnd (gd v40 false (bnd (B7 ((.c (.p h.length 0))) 2) fun v41=>some (v41,p39.2)) (some (.no,p39.2))) fun p42=>bnd (gd v40 false (bnd (A8 p42.2 p42.1) fun v43=>some (v43,p42.2)) (some (.no,p42.2))) fun p44=>bnd (gd v40 false (bnd (A4 .lss p44.1 (.c (.i .i64 0))) fun v45=>some (v45,p44.2)) (some (.no,p44.2))) fun p46=>bnd (D4 v40 (.c (.b true)) p46.1) fun v47=>bnd (gd v47 false (bnd (B7 ((.c (.p h.length 0))) 2) fun v48=>some (v48,p46.2)) (some (.no,p46.2))) fun p49=>bnd (gd v47 false (bnd (A8 p49.2 p49.1) fun v50=>some (v50,p49.2)) (some (.no,p49.2))) fun p51=>bnd (gd v47 false (bnd (A4 .gtr p51.1 (.c (.i .i64 34304))) fun v52=>some (v52,p51.2)) (some (.no,p51.2))) fun p53=>bnd (D4 v47 (.c (.b true)) p53.1) fun v54=>cnd v54 (some ((.c (.i .i64 1)),p53.2)) (bnd (A5 p53.2 11 ((.c (.p h.length 0)))) fun v55=>bnd (A1Q [v55] p53.2) fun p56=>A7a n n p56.1 (.c (.i .i64 0)) p56.2)):=by kernel_rfl
theorem B8M (n m:Nat) (x44 x45:Val) (h:A0):A7a n (m + 1) x44 x45 h=bnd (A4 .lss x45 (.c (.i .i64 7))) fun v57=>cnd v57 (bnd (T8 7 x44 x45) fun v58=>bnd (A1S [v58] h) fun p59=>bnd (aun .not p59.1) fun v60=>cnd v60 (some ((.c (.i .i64 1)),p59.2)) (bnd (A4 .add x45 (.c (.i .i64 1))) fun v61=>A7a n m x44 v61 p59.2)) (some ((.c (.i .i64 0)),h)):=by kernel_rfl
theorem K_inode_Check:FnK Try.prog 155 A_inode_Check R8 A5s:=.mk' (B3 C8u (B3 B1d C5)) Try.func155 (by kernel_rfl) (by intro n args h;kernel_rfl)
def A3D:Fun:=tidy (Lim A_inode_Check R8)
theorem C8m:SOk Try.prog 155 A3D:=K_inode_Check.sok
theorem C8l {n:Nat} {args:List Val} {h h2:A0} {v:Val} (he:A5s n args (ro h)=some (v,h2)) (hf:v.flat=true):A3D args h=some (v,h):=K_inode_Check.flat he hf
def B9C:List AOper:=[aO 1 (.box (.t 0)),aO 2 (.alloc (List.replicate 32 (.i .u8 0))),aO 3 (.mv (.v (.c (.i .i64 0))))]
def F6O:ACode:=.ops B9C
def B9D:List AOper:=[aO 4 (.alloc (List.replicate 32 (.i .u8 0)))]
def F6Q:ACode:=.ops B9D
def B9O:List AOper:=[aO 10 (.loadN 11 (.t 1)),aO 11 (.call 155 [(.t 10)]),aO 5 (.mv (.t 11))]
def F7c:ACode:=.ops B9O
def B9Q:List AOper:=[aO 12 (.mv (.t 5)),aO 13 (.bin .neq (.t 12) (.v (.c (.i .i64 0))))]
def F7x:ACode:=.ops B9Q
def B9R:List AOper:=[aO 14 (.loadN 32 (.t 4)),aO 15 (.mv (.t 5)),{ dst:=none,op:=.storeN 32 (.t 2) (.t 14) },aO 3 (.mv (.t 15))]
def F7S:ACode:=.ops B9R
def F8c:ACode:=.seq [2,3] F7S .ret
def F8m:ACode:=.cond (.t 13) F8c .skip
def F8o:ACode:=.seq [1,2,4,5,13] F7x F8m
def F8q:ACode:=.seq [1,2,4,5] F7c F8o
def B9S:List AOper:=[aO 6 (.alloc (List.replicate 256 (.i .u8 0)))]
def F8s:ACode:=.ops B9S
def B9T:List AOper:=[aO 16 (.loadN 256 (.t 6)),aO 17 (.fAddr (.t 1) 0),aO 18 (.load1 (.t 17)),aO 19 (.call 96 [(.t 16),(.v (.c (.i .i64 0))),(.v (.c (.i .i64 1))),(.t 18)]),{ dst:=none,op:=.storeN 256 (.t 6) (.t 19) }]
def F6R:ACode:=.ops B9T
def B9U:List AOper:=[aO 20 (.loadN 256 (.t 6)),aO 21 (.fAddr (.t 1) 1),aO 22 (.load1 (.t 21)),aO 23 (.call 96 [(.t 20),(.v (.c (.i .i64 2))),(.v (.c (.i .i64 2))),(.t 22)]),{ dst:=none,op:=.storeN 256 (.t 6) (.t 23) }]
def F6T:ACode:=.ops B9U
def B9V:List AOper:=[aO 24 (.loadN 256 (.t 6)),aO 25 (.fAddr (.t 1) 2),aO 26 (.load1 (.t 25)),aO 27 (.call 96 [(.t 24),(.v (.c (.i .i64 4))),(.v (.c (.i .i64 4))),(.t 26)]),{ dst:=none,op:=.storeN 256 (.t 6) (.t 27) }]
def F6V:ACode:=.ops B9V
def B9W:List AOper:=[aO 28 (.loadN 256 (.t 6)),aO 29 (.fAddr (.t 1) 3),aO 30 (.load1 (.t 29)),aO 31 (.call 96 [(.t 28),(.v (.c (.i .i64 8))),(.v (.c (.i .i64 2))),(.t 30)]),{ dst:=none,op:=.storeN 256 (.t 6) (.t 31) }]
def F6X:ACode:=.ops B9W
def B9E:List AOper:=[aO 32 (.loadN 11 (.t 1)),aO 33 (.call 156 [(.t 32)]),aO 34 (.mv (.v (.c (.i .i64 0))))]
def F6Z:ACode:=.ops B9E
def B9F:List AOper:=[aO 35 (.bin .lss (.t 34) (.v (.c (.i .i64 7))))]
def F61:ACode:=.ops B9F
def F63:ACode:=.cond (.t 35) .skip (.exit 0)
def B9G:List AOper:=[aO 36 (.mv (.t 34)),aO 37 (.idxA1 7 (.t 33) (.t 34)),aO 7 (.mv (.t 36)),aO 8 (.mv (.t 37))]
def F65:ACode:=.ops B9G
def B9H:List AOper:=[aO 38 (.loadN 256 (.t 6)),aO 39 (.mv (.t 7)),aO 40 (.bin .mul (.v (.c (.i .i64 2))) (.t 39)),aO 41 (.bin .add (.v (.c (.i .i64 10))) (.t 40)),aO 42 (.mv (.t 8)),aO 43 (.call 96 [(.t 38),(.t 41),(.v (.c (.i .i64 2))),(.t 42)]),{ dst:=none,op:=.storeN 256 (.t 6) (.t 43) }]
def F67:ACode:=.ops B9H
def F69:ACode:=.seq [2,4,6,7,8,33,34] F65 F67
def F7d:ACode:=.block 1 F69
def B9I:List AOper:=[aO 44 (.bin .add (.t 34) (.v (.c (.i .i64 1)))),aO 34 (.mv (.t 44))]
def F7f:ACode:=.ops B9I
def F7h:ACode:=.seq [2,4,6,33,34] F7d F7f
def F7j:ACode:=.seq [2,4,6,33,34] F63 F7h
def F7l:ACode:=.seq [2,4,6,33,34,35] F61 F7j
def F7m:ACode:=.loop [2,4,6,33,34] F7l
def F7o:ACode:=.block 0 F7m
def F7q:ACode:=.seq [2,4,6,33,34] F6Z F7o
def B9J:List AOper:=[aO 45 (.mv (.v (.c (.i .i64 0))))]
def F7s:ACode:=.ops B9J
def B9K:List AOper:=[aO 46 (.bin .lss (.t 45) (.v (.c (.i .i64 32))))]
def F7u:ACode:=.ops B9K
def F7y:ACode:=.cond (.t 46) .skip (.exit 2)
def B9L:List AOper:=[aO 47 (.mv (.t 45)),aO 9 (.mv (.t 47))]
def F7A:ACode:=.ops B9L
def B9M:List AOper:=[aO 48 (.mv (.t 9)),aO 49 (.mv (.t 9)),aO 50 (.iAddrA 256 1 (.t 6) (.t 49)),aO 51 (.load1 (.t 50)),aO 52 (.iAddrA 32 1 (.t 4) (.t 48)),{ dst:=none,op:=.store1 (.t 52) (.t 51) }]
def F7C:ACode:=.ops B9M
def F7E:ACode:=.seq [2,4,6,9,45] F7A F7C
def F7G:ACode:=.block 3 F7E
def B9N:List AOper:=[aO 53 (.bin .add (.t 45) (.v (.c (.i .i64 1)))),aO 45 (.mv (.t 53))]
def F7I:ACode:=.ops B9N
def F7K:ACode:=.seq [2,4,6,45] F7G F7I
def F7M:ACode:=.seq [2,4,6,45] F7y F7K
def F7O:ACode:=.seq [2,4,6,45,46] F7u F7M
def F7P:ACode:=.loop [2,4,6,45] F7O
def F7T:ACode:=.block 2 F7P
def F7V:ACode:=.seq [2,4,6,45] F7s F7T
def B9P:List AOper:=[aO 54 (.loadN 32 (.t 4)),{ dst:=none,op:=.storeN 32 (.t 2) (.t 54) },aO 3 (.mv (.v (.c (.i .i64 0))))]
def F7X:ACode:=.ops B9P
def F7Z:ACode:=.seq [2,3] F7X .ret
def F70:ACode:=.seq [2,4] F7V F7Z
def F71:ACode:=.seq [2,4,6] F7q F70
def F73:ACode:=.seq [1,2,4,6] F6X F71
def F75:ACode:=.seq [1,2,4,6] F6V F73
def F77:ACode:=.seq [1,2,4,6] F6T F75
def F79:ACode:=.seq [1,2,4,6] F6R F77
def F8d:ACode:=.seq [1,2,4,6] F8s F79
def F8f:ACode:=.seq [1,2,4] F8q F8d
def F8h:ACode:=.seq [1,2,4] F6Q F8f
def F8j:ACode:=.seq [1,2] F6O F8h
def A_inode_Put:AFn:=⟨F8j,[.cellN 2 32,.tmp 3]⟩
def J3:B4:=A9 155 A3D (A9 96 N7 (A9 156 A1Q C2))
def F6P (n:Nat):SmV:=A2 J3 B9C
def F7b (n:Nat):SmV:=A2 J3 B9D
def F7w (n:Nat):SmV:=A2 J3 B9O
def F7R (n:Nat):SmV:=A2 J3 B9Q
def F8b (n:Nat):SmV:=A2 J3 B9R
def F8l (n:Nat):SmV:=A1 [2,3] (F8b n) B5
def F8n (n:Nat):SmV:=B8 (.t 13) (F8l n) B9
def F8p (n:Nat):SmV:=A1 [1,2,4,5,13] (F7R n) (F8n n)
def F8r (n:Nat):SmV:=A1 [1,2,4,5] (F7w n) (F8p n)
def F8t (n:Nat):SmV:=A2 J3 B9S
def F6S (n:Nat):SmV:=A2 J3 B9T
def F6U (n:Nat):SmV:=A2 J3 B9U
def F6W (n:Nat):SmV:=A2 J3 B9V
def F6Y (n:Nat):SmV:=A2 J3 B9W
def F60 (n:Nat):SmV:=A2 J3 B9E
def F62 (n:Nat):SmV:=A2 J3 B9F
def F64 (n:Nat):SmV:=B8 (.t 35) B9 (F0 0)
def F66 (n:Nat):SmV:=A2 J3 B9G
def F68 (n:Nat):SmV:=A2 J3 B9H
def F7a (n:Nat):SmV:=A1 [2,4,6,7,8,33,34] (F66 n) (F68 n)
def F7e (n:Nat):SmV:=C4 1 (F7a n)
def F7g (n:Nat):SmV:=A2 J3 B9I
def F7i (n:Nat):SmV:=A1 [2,4,6,33,34] (F7e n) (F7g n)
def F7k (n:Nat):SmV:=A1 [2,4,6,33,34] (F64 n) (F7i n)
def B9v (n:Nat):SmV:=A1 [2,4,6,33,34,35] (F62 n) (F7k n)
def F7n (n:Nat):SmV:=F2 n [2,4,6,33,34] (B9v n)
def F7p (n:Nat):SmV:=C4 0 (F7n n)
def F7r (n:Nat):SmV:=A1 [2,4,6,33,34] (F60 n) (F7p n)
def F7t (n:Nat):SmV:=A2 J3 B9J
def F7v (n:Nat):SmV:=A2 J3 B9K
def F7z (n:Nat):SmV:=B8 (.t 46) B9 (F0 2)
def F7B (n:Nat):SmV:=A2 J3 B9L
def F7D (n:Nat):SmV:=A2 J3 B9M
def F7F (n:Nat):SmV:=A1 [2,4,6,9,45] (F7B n) (F7D n)
def F7H (n:Nat):SmV:=C4 3 (F7F n)
def F7J (n:Nat):SmV:=A2 J3 B9N
def F7L (n:Nat):SmV:=A1 [2,4,6,45] (F7H n) (F7J n)
def F7N (n:Nat):SmV:=A1 [2,4,6,45] (F7z n) (F7L n)
def B9w (n:Nat):SmV:=A1 [2,4,6,45,46] (F7v n) (F7N n)
def F7Q (n:Nat):SmV:=F2 n [2,4,6,45] (B9w n)
def F7U (n:Nat):SmV:=C4 2 (F7Q n)
def F7W (n:Nat):SmV:=A1 [2,4,6,45] (F7t n) (F7U n)
def F7Y (n:Nat):SmV:=A2 J3 B9P
def B9x (n:Nat):SmV:=A1 [2,3] (F7Y n) B5
def B9y (n:Nat):SmV:=A1 [2,4] (F7W n) (B9x n)
def F72 (n:Nat):SmV:=A1 [2,4,6] (F7r n) (B9y n)
def F74 (n:Nat):SmV:=A1 [1,2,4,6] (F6Y n) (F72 n)
def F76 (n:Nat):SmV:=A1 [1,2,4,6] (F6W n) (F74 n)
def F78 (n:Nat):SmV:=A1 [1,2,4,6] (F6U n) (F76 n)
def F8a (n:Nat):SmV:=A1 [1,2,4,6] (F6S n) (F78 n)
def F8e (n:Nat):SmV:=A1 [1,2,4,6] (F8t n) (F8a n)
def F8g (n:Nat):SmV:=A1 [1,2,4] (F8r n) (F8e n)
def F8i (n:Nat):SmV:=A1 [1,2,4] (F7b n) (F8g n)
def F8k (n:Nat):SmV:=A1 [1,2] (F6P n) (F8i n)
def A7f (n:Nat):AExit → Env → A0 → A6:=fun x e h=>match x with | .normal=>hold ((B9y n) A_inode_Put.fin (e.keep [2,4,6]) h) | .exit id=>A_inode_Put.fin (.exit id) e h | .ret=>A_inode_Put.fin .ret e h
def F8u (n:Nat):AExit → Env → A0 → A6:=fun x e h=>match x with | .exit i=>bif Nat.beq i 0 then (A7f n) .normal e h else (A7f n) (.exit i) e h | .normal=>(A7f n) .normal e h | .ret=>(A7f n) .ret e h
def A7h (n m:Nat) (x2 x4 x6 x33 x34:Val) (h:A0):A6:=E2 (B9v n) [2,4,6,33,34] (F8u n) m [(2,x2),(4,x4),(6,x6),(33,x33),(34,x34)] h
def A5w (n:Nat) (args:List Val) (h:A0):A6:=(F8k n) A_inode_Put.fin (params 0 args) h
def A7g (n:Nat):AExit → Env → A0 → A6:=fun x e h=>match x with | .normal=>hold ((B9x n) A_inode_Put.fin (e.keep [2,4]) h) | .exit id=>A_inode_Put.fin (.exit id) e h | .ret=>A_inode_Put.fin .ret e h
def F8v (n:Nat):AExit → Env → A0 → A6:=fun x e h=>match x with | .exit i=>bif Nat.beq i 2 then (A7g n) .normal e h else (A7g n) (.exit i) e h | .normal=>(A7g n) .normal e h | .ret=>(A7g n) .ret e h
def A7i (n m:Nat) (x2 x4 x6 x45:Val) (h:A0):A6:=E2 (B9w n) [2,4,6,45] (F8v n) m [(2,x2),(4,x4),(6,x6),(45,x45)] h
theorem C6L (n:Nat) (a0:Val) (h:A0):A5w n [a0] h=bnd (cells? a0) fun c1=>bnd (A5 ((((h ++ [some (Row.mk (c1) true)]) ++ [some (Row.mk (List.replicate 32 (.i .u8 0)) true)]) ++ [some (Row.mk (List.replicate 32 (.i .u8 0)) true)])) 11 ((.c (.p h.length 0)))) fun v2=>bnd (A3D [v2] ((((h ++ [some (Row.mk (c1) true)]) ++ [some (Row.mk (List.replicate 32 (.i .u8 0)) true)]) ++ [some (Row.mk (List.replicate 32 (.i .u8 0)) true)]))) fun p3=>bnd (A4 .neq p3.1 (.c (.i .i64 0))) fun v4=>cnd v4 (bnd (A5 p3.2 32 ((.c (.p (((h ++ [some (Row.mk (c1) true)]) ++ [some (Row.mk (List.replicate 32 (.i .u8 0)) true)])).length 0)))) fun v5=>bnd (B1 p3.2 32 ((.c (.p ((h ++ [some (Row.mk (c1) true)])).length 0))) v5) fun h6=>D3 [A5 h6 32 ((.c (.p ((h ++ [some (Row.mk (c1) true)])).length 0))),some p3.1] h6) (bnd (A5 ((p3.2 ++ [some (Row.mk (List.replicate 256 (.i .u8 0)) true)])) 256 ((.c (.p p3.2.length 0)))) fun v7=>bnd (B7 ((.c (.p h.length 0))) 0) fun v8=>bnd (A8 ((p3.2 ++ [some (Row.mk (List.replicate 256 (.i .u8 0)) true)])) v8) fun v9=>bnd (N7 [v7,.c (.i .i64 0),.c (.i .i64 1),v9] ((p3.2 ++ [some (Row.mk (List.replicate 256 (.i .u8 0)) true)]))) fun p10=>bnd (B1 p10.2 256 ((.c (.p p3.2.length 0))) p10.1) fun h11=>bnd (A5 h11 256 ((.c (.p p3.2.length 0)))) fun v12=>bnd (B7 ((.c (.p h.length 0))) 1) fun v13=>bnd (A8 h11 v13) fun v14=>bnd (N7 [v12,.c (.i .i64 2),.c (.i .i64 2),v14] h11) fun p15=>bnd (B1 p15.2 256 ((.c (.p p3.2.length 0))) p15.1) fun h16=>bnd (A5 h16 256 ((.c (.p p3.2.length 0)))) fun v17=>bnd (B7 ((.c (.p h.length 0))) 2) fun v18=>bnd (A8 h16 v18) fun v19=>bnd (N7 [v17,.c (.i .i64 4),.c (.i .i64 4),v19] h16) fun p20=>bnd (B1 p20.2 256 ((.c (.p p3.2.length 0))) p20.1) fun h21=>bnd (A5 h21 256 ((.c (.p p3.2.length 0)))) fun v22=>bnd (B7 ((.c (.p h.length 0))) 3) fun v23=>bnd (A8 h21 v23) fun v24=>bnd (N7 [v22,.c (.i .i64 8),.c (.i .i64 2),v24] h21) fun p25=>bnd (B1 p25.2 256 ((.c (.p p3.2.length 0))) p25.1) fun h26=>bnd (A5 h26 11 ((.c (.p h.length 0)))) fun v27=>bnd (A1Q [v27] h26) fun p28=>A7h n n ((.c (.p ((h ++ [some (Row.mk (c1) true)])).length 0))) ((.c (.p (((h ++ [some (Row.mk (c1) true)]) ++ [some (Row.mk (List.replicate 32 (.i .u8 0)) true)])).length 0))) ((.c (.p p3.2.length 0))) p28.1 (.c (.i .i64 0)) p28.2):=by kernel_rfl
theorem B9A (n m:Nat) (x2 x4 x6 x33 x34:Val) (h:A0):A7h n (m + 1) x2 x4 x6 x33 x34 h=bnd (A4 .lss x34 (.c (.i .i64 7))) fun v29=>cnd v29 (bnd (T8 7 x33 x34) fun v30=>bnd (A5 h 256 x6) fun v31=>bnd (A4 .mul (.c (.i .i64 2)) x34) fun v32=>bnd (A4 .add (.c (.i .i64 10)) v32) fun v33=>bnd (N7 [v31,v33,.c (.i .i64 2),v30] h) fun p34=>bnd (B1 p34.2 256 x6 p34.1) fun h35=>bnd (A4 .add x34 (.c (.i .i64 1))) fun v36=>A7h n m x2 x4 x6 x33 v36 h35) (A7i n n x2 x4 x6 (.c (.i .i64 0)) h):=by kernel_rfl
theorem B9B (n m:Nat) (x2 x4 x6 x45:Val) (h:A0):A7i n (m + 1) x2 x4 x6 x45 h=bnd (A4 .lss x45 (.c (.i .i64 32))) fun v37=>cnd v37 (bnd (D6 256 1 x6 x45) fun v38=>bnd (A8 h v38) fun v39=>bnd (D6 32 1 x4 x45) fun v40=>bnd (E8 h v40 v39) fun h41=>bnd (A4 .add x45 (.c (.i .i64 1))) fun v42=>A7i n m x2 x4 x6 v42 h41) (bnd (A5 h 32 x4) fun v43=>bnd (B1 h 32 x2 v43) fun h44=>D3 [A5 h44 32 x2,some (.c (.i .i64 0))] h44):=by kernel_rfl
theorem K_inode_Put:FnK Try.prog 134 A_inode_Put J3 A5w:=.mk' (B3 C8m (B3 A83 (B3 B1d C5))) Try.func134 (by kernel_rfl) (by intro n args h;kernel_rfl)
def A1R:Fun:=tidy (Lim A_inode_Put J3)
theorem B1e:SOk Try.prog 134 A1R:=K_inode_Put.sok
theorem C8s {n:Nat} {args:List Val} {h h2:A0} {v:Val} (he:A5w n args (ro h)=some (v,h2)) (hf:v.flat=true):A1R args h=some (v,h):=K_inode_Put.flat he hf
def B8Z:List AOper:=[aO 1 (.box (.t 0)),aO 2 (.alloc ([.i .i64 0,.i .i64 0,.i .i64 0,.i .i64 0,.i .i64 0,.i .i64 0,.i .i64 0,.i .i64 0,.i .i64 0,.i .i64 0,.i .i64 0])),aO 3 (.mv (.v (.c (.b false))))]
def F4P:ACode:=.ops B8Z
def B80:List AOper:=[aO 7 (.loadN 32 (.t 1)),aO 8 (.call 133 [(.t 7)]),aO 4 (.alloc ([.i .i64 0,.i .i64 0,.i .i64 0,.i .i64 0,.i .i64 0,.i .i64 0,.i .i64 0,.i .i64 0,.i .i64 0,.i .i64 0,.i .i64 0])),{ dst:=none,op:=.storeN 11 (.t 4) (.t 8) }]
def F4R:ACode:=.ops B80
def B81:List AOper:=[aO 10 (.loadN 11 (.t 4)),aO 11 (.call 134 [(.t 10)]),aO 9 (.mv (.t 11)),aO 12 (.ext (.t 9) 0),aO 13 (.ext (.t 9) 1),aO 5 (.alloc (List.replicate 32 (.i .u8 0))),{ dst:=none,op:=.storeN 32 (.t 5) (.t 12) },aO 6 (.mv (.t 13))]
def F41:ACode:=.ops B81
def B82:List AOper:=[aO 14 (.mv (.t 6)),aO 15 (.bin .neq (.t 14) (.v (.c (.i .i64 0)))),aO 16 (.mv (.t 15)),{ dst:=some 17,op:=.loadN 32 (.t 5),guard:=some (16,false) },{ dst:=some 18,op:=.loadN 32 (.t 1),guard:=some (16,false) },{ dst:=some 19,op:=.eqA true (List.replicate 32 (.i .u8)) (.t 17) (.t 18),guard:=some (16,false) },aO 20 (.pick (.t 16) (.v (.c (.b true))) (.t 19))]
def F43:ACode:=.ops B82
def B83:List AOper:=[aO 21 (.build ([.i .i64 0,.i .i64 0,.i .i64 0,.i .i64 0,.i .i64 0,.i .i64 0,.i .i64 0,.i .i64 0,.i .i64 0,.i .i64 0,.i .i64 0]) []),{ dst:=none,op:=.storeN 11 (.t 2) (.t 21) },aO 3 (.mv (.v (.c (.b false))))]
def F45:ACode:=.ops B83
def F47:ACode:=.seq [2,3] F45 .ret
def F49:ACode:=.cond (.t 20) F47 .skip
def F5b:ACode:=.seq [2,4,20] F43 F49
def F5d:ACode:=.seq [1,2,4,5,6] F41 F5b
def B84:List AOper:=[aO 22 (.loadN 11 (.t 4)),{ dst:=none,op:=.storeN 11 (.t 2) (.t 22) },aO 3 (.mv (.v (.c (.b true))))]
def F5f:ACode:=.ops B84
def F4S:ACode:=.seq [2,3] F5f .ret
def F4U:ACode:=.seq [2,4] F5d F4S
def F4W:ACode:=.seq [1,2,4] F4R F4U
def F4Y:ACode:=.seq [1,2] F4P F4W
def A_inode_Clean:AFn:=⟨F4Y,[.cellN 2 11,.tmp 3]⟩
def A00:B4:=A9 133 A3F (A9 134 A1R C2)
def F4Q (n:Nat):SmV:=A2 A00 B8Z
def F40 (n:Nat):SmV:=A2 A00 B80
def F42 (n:Nat):SmV:=A2 A00 B81
def F44 (n:Nat):SmV:=A2 A00 B82
def F46 (n:Nat):SmV:=A2 A00 B83
def F48 (n:Nat):SmV:=A1 [2,3] (F46 n) B5
def F5a (n:Nat):SmV:=B8 (.t 20) (F48 n) B9
def F5c (n:Nat):SmV:=A1 [2,4,20] (F44 n) (F5a n)
def F5e (n:Nat):SmV:=A1 [1,2,4,5,6] (F42 n) (F5c n)
def F5g (n:Nat):SmV:=A2 A00 B84
def F4T (n:Nat):SmV:=A1 [2,3] (F5g n) B5
def F4V (n:Nat):SmV:=A1 [2,4] (F5e n) (F4T n)
def F4X (n:Nat):SmV:=A1 [1,2,4] (F40 n) (F4V n)
def F4Z (n:Nat):SmV:=A1 [1,2] (F4Q n) (F4X n)
def A5t (n:Nat) (args:List Val) (h:A0):A6:=(F4Z n) A_inode_Clean.fin (params 0 args) h
theorem C6I (n:Nat) (a0:Val) (h:A0):A5t n [a0] h=bnd (cells? a0) fun c1=>bnd (A5 (((h ++ [some (Row.mk (c1) true)]) ++ [some (Row.mk ([.i .i64 0,.i .i64 0,.i .i64 0,.i .i64 0,.i .i64 0,.i .i64 0,.i .i64 0,.i .i64 0,.i .i64 0,.i .i64 0,.i .i64 0]) true)])) 32 ((.c (.p h.length 0)))) fun v2=>bnd (A3F [v2] (((h ++ [some (Row.mk (c1) true)]) ++ [some (Row.mk ([.i .i64 0,.i .i64 0,.i .i64 0,.i .i64 0,.i .i64 0,.i .i64 0,.i .i64 0,.i .i64 0,.i .i64 0,.i .i64 0,.i .i64 0]) true)]))) fun p3=>bnd (B1 ((p3.2 ++ [some (Row.mk ([.i .i64 0,.i .i64 0,.i .i64 0,.i .i64 0,.i .i64 0,.i .i64 0,.i .i64 0,.i .i64 0,.i .i64 0,.i .i64 0,.i .i64 0]) true)])) 11 ((.c (.p p3.2.length 0))) p3.1) fun h4=>bnd (A5 h4 11 ((.c (.p p3.2.length 0)))) fun v5=>bnd (A1R [v5] h4) fun p6=>bnd (C3 p6.1 0) fun v7=>bnd (C3 p6.1 1) fun v8=>bnd (B1 ((p6.2 ++ [some (Row.mk (List.replicate 32 (.i .u8 0)) true)])) 32 ((.c (.p p6.2.length 0))) v7) fun h9=>bnd (A4 .neq v8 (.c (.i .i64 0))) fun v10=>bnd (gd v10 false (bnd (A5 h9 32 ((.c (.p p6.2.length 0)))) fun v11=>some (v11,h9)) (some (.no,h9))) fun p12=>bnd (gd v10 false (bnd (A5 p12.2 32 ((.c (.p h.length 0)))) fun v13=>some (v13,p12.2)) (some (.no,p12.2))) fun p14=>bnd (gd v10 false (bnd (aeq true (List.replicate 32 (.i .u8)) p12.1 p14.1) fun v15=>some (v15,p14.2)) (some (.no,p14.2))) fun p16=>bnd (D4 v10 (.c (.b true)) p16.1) fun v17=>cnd v17 (bnd (B0 ([.i .i64 0,.i .i64 0,.i .i64 0,.i .i64 0,.i .i64 0,.i .i64 0,.i .i64 0,.i .i64 0,.i .i64 0,.i .i64 0,.i .i64 0]) []) fun c18=>bnd (B1 p16.2 11 ((.c (.p ((h ++ [some (Row.mk (c1) true)])).length 0))) ((.a c18))) fun h19=>D3 [A5 h19 11 ((.c (.p ((h ++ [some (Row.mk (c1) true)])).length 0))),some (.c (.b false))] h19) (bnd (A5 p16.2 11 ((.c (.p p3.2.length 0)))) fun v20=>bnd (B1 p16.2 11 ((.c (.p ((h ++ [some (Row.mk (c1) true)])).length 0))) v20) fun h21=>D3 [A5 h21 11 ((.c (.p ((h ++ [some (Row.mk (c1) true)])).length 0))),some (.c (.b true))] h21):=by kernel_rfl
theorem K_inode_Clean:FnK Try.prog 104 A_inode_Clean A00 A5t:=.mk' (B3 C8q (B3 B1e C5)) Try.func104 (by kernel_rfl) (by intro n args h;kernel_rfl)
def A3E:Fun:=tidy (Lim A_inode_Clean A00)
theorem C8o:SOk Try.prog 104 A3E:=K_inode_Clean.sok
theorem C8n {n:Nat} {args:List Val} {h h2:A0} {v:Val} (he:A5t n args (ro h)=some (v,h2)) (hf:v.flat=true):A3E args h=some (v,h):=K_inode_Clean.flat he hf
end Go.Proofs.Ytdgggnlbdoiloaa
end
noncomputable section
namespace Go.Proofs.Ytdgggnlbdoiloaa
open Go Go.Esc
set_option maxRecDepth 100000
def C3y:List AOper:=[aO 1 (.box (.t 0)),aO 2 (.mv (.v (.c (.i .i64 0))))]
def H0D:ACode:=.ops C3y
def C3z:List AOper:=[aO 4 (.fAddr (.t 1) 1),aO 5 (.load1 (.t 4)),aO 6 (.len (.t 5)),aO 3 (.mv (.t 6))]
def H0F:ACode:=.ops C3z
def C3A:List AOper:=[aO 7 (.mv (.t 3)),aO 8 (.bin .lss (.t 7) (.v (.c (.i .i64 1)))),aO 9 (.mv (.t 8)),{ dst:=some 10,op:=.mv (.t 3),guard:=some (9,false) },{ dst:=some 11,op:=.bin .gtr (.t 10) (.v (.c (.i .i64 256))),guard:=some (9,false) },aO 12 (.pick (.t 9) (.v (.c (.b true))) (.t 11)),aO 13 (.mv (.t 12)),{ dst:=some 14,op:=.fAddr (.t 1) 0,guard:=some (13,false) },{ dst:=some 15,op:=.load1 (.t 14),guard:=some (13,false) },{ dst:=some 16,op:=.bin .lss (.t 15) (.v (.c (.i .i64 0))),guard:=some (13,false) },aO 17 (.pick (.t 13) (.v (.c (.b true))) (.t 16)),aO 18 (.mv (.t 17)),{ dst:=some 19,op:=.fAddr (.t 1) 0,guard:=some (18,false) },{ dst:=some 20,op:=.load1 (.t 19),guard:=some (18,false) },{ dst:=some 21,op:=.mv (.t 3),guard:=some (18,false) },{ dst:=some 22,op:=.bin .sub (.v (.c (.i .i64 256))) (.t 21),guard:=some (18,false) },{ dst:=some 23,op:=.bin .gtr (.t 20) (.t 22),guard:=some (18,false) },aO 24 (.pick (.t 18) (.v (.c (.b true))) (.t 23))]
def H0L:ACode:=.ops C3A
def C3B:List AOper:=[aO 2 (.mv (.v (.c (.i .i64 2))))]
def H0N:ACode:=.ops C3B
def H0P:ACode:=.seq [2] H0N .ret
def H0R:ACode:=.cond (.t 24) H0P .skip
def H0T:ACode:=.seq [24] H0L H0R
def C3C:List AOper:=[aO 2 (.mv (.v (.c (.i .i64 0))))]
def H0V:ACode:=.ops C3C
def H0X:ACode:=.seq [2] H0V .ret
def H0Z:ACode:=.seq [] H0T H0X
def H0G:ACode:=.seq [1,3] H0F H0Z
def H0I:ACode:=.seq [1] H0D H0G
def A_patch_Check:AFn:=⟨H0I,[.tmp 2]⟩
def A1E:B4:=C2
def H0E (n:Nat):SmV:=A2 A1E C3y
def H0K (n:Nat):SmV:=A2 A1E C3z
def H0M (n:Nat):SmV:=A2 A1E C3A
def H0O (n:Nat):SmV:=A2 A1E C3B
def H0Q (n:Nat):SmV:=A1 [2] (H0O n) B5
def H0S (n:Nat):SmV:=B8 (.t 24) (H0Q n) B9
def H0U (n:Nat):SmV:=A1 [24] (H0M n) (H0S n)
def H0W (n:Nat):SmV:=A2 A1E C3C
def H0Y (n:Nat):SmV:=A1 [2] (H0W n) B5
def H00 (n:Nat):SmV:=A1 [] (H0U n) (H0Y n)
def H0H (n:Nat):SmV:=A1 [1,3] (H0K n) (H00 n)
def H0J (n:Nat):SmV:=A1 [1] (H0E n) (H0H n)
def A5H (n:Nat) (args:List Val) (h:A0):A6:=(H0J n) A_patch_Check.fin (params 0 args) h
theorem C64 (n:Nat) (a0:Val) (h:A0):A5H n [a0] h=bnd (cells? a0) fun c1=>bnd (B7 ((.c (.p h.length 0))) 1) fun v2=>bnd (A8 ((h ++ [some (Row.mk (c1) true)])) v2) fun v3=>bnd (F5 v3) fun v4=>bnd (A4 .lss v4 (.c (.i .i64 1))) fun v5=>bnd (gd v5 false (some (v4,(h ++ [some (Row.mk (c1) true)]))) (some (.no,(h ++ [some (Row.mk (c1) true)])))) fun p6=>bnd (gd v5 false (bnd (A4 .gtr p6.1 (.c (.i .i64 256))) fun v7=>some (v7,p6.2)) (some (.no,p6.2))) fun p8=>bnd (D4 v5 (.c (.b true)) p8.1) fun v9=>bnd (gd v9 false (bnd (B7 ((.c (.p h.length 0))) 0) fun v10=>some (v10,p8.2)) (some (.no,p8.2))) fun p11=>bnd (gd v9 false (bnd (A8 p11.2 p11.1) fun v12=>some (v12,p11.2)) (some (.no,p11.2))) fun p13=>bnd (gd v9 false (bnd (A4 .lss p13.1 (.c (.i .i64 0))) fun v14=>some (v14,p13.2)) (some (.no,p13.2))) fun p15=>bnd (D4 v9 (.c (.b true)) p15.1) fun v16=>bnd (gd v16 false (bnd (B7 ((.c (.p h.length 0))) 0) fun v17=>some (v17,p15.2)) (some (.no,p15.2))) fun p18=>bnd (gd v16 false (bnd (A8 p18.2 p18.1) fun v19=>some (v19,p18.2)) (some (.no,p18.2))) fun p20=>bnd (gd v16 false (some (v4,p20.2)) (some (.no,p20.2))) fun p21=>bnd (gd v16 false (bnd (A4 .sub (.c (.i .i64 256)) p21.1) fun v22=>some (v22,p21.2)) (some (.no,p21.2))) fun p23=>bnd (gd v16 false (bnd (A4 .gtr p20.1 p23.1) fun v24=>some (v24,p23.2)) (some (.no,p23.2))) fun p25=>bnd (D4 v16 (.c (.b true)) p25.1) fun v26=>cnd v26 (some ((.c (.i .i64 2)),p25.2)) (some ((.c (.i .i64 0)),p25.2)):=by kernel_rfl
theorem K_patch_Check:FnK Try.prog 157 A_patch_Check A1E A5H:=.mk' (C5) Try.func157 (by kernel_rfl) (by intro n args h;kernel_rfl)
def A3N:Fun:=tidy (Lim A_patch_Check A1E)
theorem C8V:SOk Try.prog 157 A3N:=K_patch_Check.sok
theorem C8U {n:Nat} {args:List Val} {h h2:A0} {v:Val} (he:A5H n args (ro h)=some (v,h2)) (hf:v.flat=true):A3N args h=some (v,h):=K_patch_Check.flat he hf
def C3H:List AOper:=[aO 2 (.box (.t 0)),aO 3 (.box (.t 1)),aO 4 (.alloc (List.replicate 256 (.i .u8 0)))]
def H02:ACode:=.ops C3H
def C3I:List AOper:=[aO 7 (.loadN 2 (.t 3)),aO 8 (.call 157 [(.t 7)]),aO 9 (.bin .neq (.t 8) (.v (.c (.i .i64 0))))]
def H04:ACode:=.ops C3I
def C3J:List AOper:=[aO 10 (.loadN 256 (.t 2)),{ dst:=none,op:=.storeN 256 (.t 4) (.t 10) }]
def H1p:ACode:=.ops C3J
def H1A:ACode:=.seq [4] H1p .ret
def H1C:ACode:=.cond (.t 9) H1A .skip
def H1E:ACode:=.seq [2,3,4,9] H04 H1C
def C3K:List AOper:=[aO 11 (.fAddr (.t 3) 1),aO 12 (.load1 (.t 11)),aO 13 (.len (.t 12)),aO 14 (.mv (.v (.c (.i .i64 0))))]
def H1G:ACode:=.ops C3K
def C3L:List AOper:=[aO 15 (.bin .lss (.t 14) (.t 13))]
def H1I:ACode:=.ops C3L
def H1K:ACode:=.cond (.t 15) .skip (.exit 0)
def C3M:List AOper:=[aO 16 (.mv (.t 14)),aO 17 (.iAddrL 1 (.t 12) (.t 14)),aO 18 (.load1 (.t 17)),aO 5 (.mv (.t 16)),aO 6 (.mv (.t 18))]
def H1M:ACode:=.ops C3M
def C3N:List AOper:=[aO 19 (.fAddr (.t 3) 0),aO 20 (.load1 (.t 19)),aO 21 (.mv (.t 5)),aO 22 (.bin .add (.t 20) (.t 21)),aO 23 (.mv (.t 6)),aO 24 (.iAddrA 256 1 (.t 2) (.t 22)),{ dst:=none,op:=.store1 (.t 24) (.t 23) }]
def H05:ACode:=.ops C3N
def H07:ACode:=.seq [2,3,4,5,6,12,13,14] H1M H05
def H09:ACode:=.block 1 H07
def C3O:List AOper:=[aO 25 (.bin .add (.t 14) (.v (.c (.i .i64 1)))),aO 14 (.mv (.t 25))]
def H1b:ACode:=.ops C3O
def H1d:ACode:=.seq [2,3,4,12,13,14] H09 H1b
def H1f:ACode:=.seq [2,3,4,12,13,14] H1K H1d
def H1h:ACode:=.seq [2,3,4,12,13,14,15] H1I H1f
def H1i:ACode:=.loop [2,3,4,12,13,14] H1h
def H1k:ACode:=.block 0 H1i
def H1m:ACode:=.seq [2,3,4,12,13,14] H1G H1k
def C3P:List AOper:=[aO 26 (.loadN 256 (.t 2)),{ dst:=none,op:=.storeN 256 (.t 4) (.t 26) }]
def H1q:ACode:=.ops C3P
def H1s:ACode:=.seq [4] H1q .ret
def H1t:ACode:=.seq [2,4] H1m H1s
def H1v:ACode:=.seq [2,3,4] H1E H1t
def H1x:ACode:=.seq [2,3,4] H02 H1v
def A_patch_Lay:AFn:=⟨H1x,[.cellN 4 256]⟩
def X5:B4:=A9 157 A3N C2
def H03 (n:Nat):SmV:=A2 X5 C3H
def H1o (n:Nat):SmV:=A2 X5 C3I
def H1z (n:Nat):SmV:=A2 X5 C3J
def H1B (n:Nat):SmV:=A1 [4] (H1z n) B5
def H1D (n:Nat):SmV:=B8 (.t 9) (H1B n) B9
def H1F (n:Nat):SmV:=A1 [2,3,4,9] (H1o n) (H1D n)
def H1H (n:Nat):SmV:=A2 X5 C3K
def H1J (n:Nat):SmV:=A2 X5 C3L
def H1L (n:Nat):SmV:=B8 (.t 15) B9 (F0 0)
def H1N (n:Nat):SmV:=A2 X5 C3M
def H06 (n:Nat):SmV:=A2 X5 C3N
def H08 (n:Nat):SmV:=A1 [2,3,4,5,6,12,13,14] (H1N n) (H06 n)
def H1a (n:Nat):SmV:=C4 1 (H08 n)
def H1c (n:Nat):SmV:=A2 X5 C3O
def H1e (n:Nat):SmV:=A1 [2,3,4,12,13,14] (H1a n) (H1c n)
def H1g (n:Nat):SmV:=A1 [2,3,4,12,13,14] (H1L n) (H1e n)
def C3D (n:Nat):SmV:=A1 [2,3,4,12,13,14,15] (H1J n) (H1g n)
def H1j (n:Nat):SmV:=F2 n [2,3,4,12,13,14] (C3D n)
def H1l (n:Nat):SmV:=C4 0 (H1j n)
def H1n (n:Nat):SmV:=A1 [2,3,4,12,13,14] (H1H n) (H1l n)
def H1r (n:Nat):SmV:=A2 X5 C3P
def C3E (n:Nat):SmV:=A1 [4] (H1r n) B5
def H1u (n:Nat):SmV:=A1 [2,4] (H1n n) (C3E n)
def H1w (n:Nat):SmV:=A1 [2,3,4] (H1F n) (H1u n)
def H1y (n:Nat):SmV:=A1 [2,3,4] (H03 n) (H1w n)
def A76 (n:Nat):AExit → Env → A0 → A6:=fun x e h=>match x with | .normal=>hold ((C3E n) A_patch_Lay.fin (e.keep [2,4]) h) | .exit id=>A_patch_Lay.fin (.exit id) e h | .ret=>A_patch_Lay.fin .ret e h
def H1P (n:Nat):AExit → Env → A0 → A6:=fun x e h=>match x with | .exit i=>bif Nat.beq i 0 then (A76 n) .normal e h else (A76 n) (.exit i) e h | .normal=>(A76 n) .normal e h | .ret=>(A76 n) .ret e h
def A77 (n m:Nat) (x2 x3 x4 x12 x13 x14:Val) (h:A0):A6:=E2 (C3D n) [2,3,4,12,13,14] (H1P n) m [(2,x2),(3,x3),(4,x4),(12,x12),(13,x13),(14,x14)] h
def A5I (n:Nat) (args:List Val) (h:A0):A6:=(H1y n) A_patch_Lay.fin (params 0 args) h
theorem C65 (n:Nat) (a0 a1:Val) (h:A0):A5I n [a0,a1] h=bnd (cells? a0) fun c1=>bnd (cells? a1) fun c2=>bnd (A5 ((((h ++ [some (Row.mk (c1) true)]) ++ [some (Row.mk (c2) true)]) ++ [some (Row.mk (List.replicate 256 (.i .u8 0)) true)])) 2 ((.c (.p ((h ++ [some (Row.mk (c1) true)])).length 0)))) fun v3=>bnd (A3N [v3] ((((h ++ [some (Row.mk (c1) true)]) ++ [some (Row.mk (c2) true)]) ++ [some (Row.mk (List.replicate 256 (.i .u8 0)) true)]))) fun p4=>bnd (A4 .neq p4.1 (.c (.i .i64 0))) fun v5=>cnd v5 (bnd (A5 p4.2 256 ((.c (.p h.length 0)))) fun v6=>bnd (B1 p4.2 256 ((.c (.p (((h ++ [some (Row.mk (c1) true)]) ++ [some (Row.mk (c2) true)])).length 0))) v6) fun h7=>mp (A5 h7 256 ((.c (.p (((h ++ [some (Row.mk (c1) true)]) ++ [some (Row.mk (c2) true)])).length 0)))) fun v=>(v,h7)) (bnd (B7 ((.c (.p ((h ++ [some (Row.mk (c1) true)])).length 0))) 1) fun v8=>bnd (A8 p4.2 v8) fun v9=>bnd (F5 v9) fun v10=>A77 n n ((.c (.p h.length 0))) ((.c (.p ((h ++ [some (Row.mk (c1) true)])).length 0))) ((.c (.p (((h ++ [some (Row.mk (c1) true)]) ++ [some (Row.mk (c2) true)])).length 0))) v9 v10 (.c (.i .i64 0)) p4.2):=by kernel_rfl
theorem C3F (n m:Nat) (x2 x3 x4 x12 x13 x14:Val) (h:A0):A77 n (m + 1) x2 x3 x4 x12 x13 x14 h=bnd (A4 .lss x14 x13) fun v11=>cnd v11 (bnd (D1 1 x12 x14) fun v12=>bnd (A8 h v12) fun v13=>bnd (B7 x3 0) fun v14=>bnd (A8 h v14) fun v15=>bnd (A4 .add v15 x14) fun v16=>bnd (D6 256 1 x2 v16) fun v17=>bnd (E8 h v17 v13) fun h18=>bnd (A4 .add x14 (.c (.i .i64 1))) fun v19=>A77 n m x2 x3 x4 x12 x13 v19 h18) (bnd (A5 h 256 x2) fun v20=>bnd (B1 h 256 x4 v20) fun h21=>mp (A5 h21 256 x4) fun v=>(v,h21)):=by kernel_rfl
theorem K_patch_Lay:FnK Try.prog 136 A_patch_Lay X5 A5I:=.mk' (B3 C8V C5) Try.func136 (by kernel_rfl) (by intro n args h;kernel_rfl)
def A3O:Fun:=tidy (Lim A_patch_Lay X5)
theorem C8X:SOk Try.prog 136 A3O:=K_patch_Lay.sok
theorem C8W {n:Nat} {args:List Val} {h h2:A0} {v:Val} (he:A5I n args (ro h)=some (v,h2)) (hf:v.flat=true):A3O args h=some (v,h):=K_patch_Lay.flat he hf
end Go.Proofs.Ytdgggnlbdoiloaa
end
noncomputable section
namespace Go.Proofs.Ytdgggnlbdoiloaa
open Go Go.Esc
set_option maxRecDepth 100000
def C5h:List AOper:=[aO 2 (.box (.t 0)),aO 4 (.alloc (List.replicate 32 (.i .u8 0)))]
def H6o:ACode:=.ops C5h
def C5i:List AOper:=[aO 5 (.alloc (List.replicate 32 (.i .u8 0)))]
def H6q:ACode:=.ops C5i
def C5j:List AOper:=[aO 7 (.mv (.t 1)),aO 8 (.bin .lss (.t 7) (.v (.c (.i .i64 0)))),aO 9 (.mv (.t 8)),{ dst:=some 10,op:=.mv (.t 1),guard:=some (9,false) },{ dst:=some 11,op:=.bin .geq (.t 10) (.v (.c (.i .i64 8))),guard:=some (9,false) },aO 12 (.pick (.t 9) (.v (.c (.b true))) (.t 11))]
def H6L:ACode:=.ops C5j
def C5k:List AOper:=[aO 13 (.loadN 32 (.t 5)),{ dst:=none,op:=.storeN 32 (.t 4) (.t 13) }]
def H60:ACode:=.ops C5k
def H62:ACode:=.seq [4] H60 .ret
def H64:ACode:=.cond (.t 12) H62 .skip
def H66:ACode:=.seq [1,2,4,5,12] H6L H64
def C5l:List AOper:=[aO 14 (.mv (.v (.c (.i .i64 0))))]
def H68:ACode:=.ops C5l
def C5m:List AOper:=[aO 15 (.bin .lss (.t 14) (.v (.c (.i .i64 32))))]
def H7a:ACode:=.ops C5m
def H7c:ACode:=.cond (.t 15) .skip (.exit 0)
def C5n:List AOper:=[aO 16 (.mv (.t 14)),aO 6 (.mv (.t 16))]
def H6r:ACode:=.ops C5n
def C5o:List AOper:=[aO 17 (.mv (.t 6)),aO 18 (.mv (.t 1)),aO 19 (.bin .mul (.t 18) (.v (.c (.i .i64 32)))),aO 20 (.mv (.t 6)),aO 21 (.bin .add (.t 19) (.t 20)),aO 22 (.iAddrA 256 1 (.t 2) (.t 21)),aO 23 (.load1 (.t 22)),aO 24 (.iAddrA 32 1 (.t 5) (.t 17)),{ dst:=none,op:=.store1 (.t 24) (.t 23) }]
def H6t:ACode:=.ops C5o
def H6v:ACode:=.seq [1,2,4,5,6,14] H6r H6t
def H6x:ACode:=.block 1 H6v
def C5p:List AOper:=[aO 25 (.bin .add (.t 14) (.v (.c (.i .i64 1)))),aO 14 (.mv (.t 25))]
def H6z:ACode:=.ops C5p
def H6B:ACode:=.seq [1,2,4,5,14] H6x H6z
def H6D:ACode:=.seq [1,2,4,5,14] H7c H6B
def H6F:ACode:=.seq [1,2,4,5,14,15] H7a H6D
def H6G:ACode:=.loop [1,2,4,5,14] H6F
def H6I:ACode:=.block 0 H6G
def H6M:ACode:=.seq [1,2,4,5,14] H68 H6I
def C5q:List AOper:=[aO 26 (.loadN 32 (.t 5)),{ dst:=none,op:=.storeN 32 (.t 4) (.t 26) }]
def H6O:ACode:=.ops C5q
def H6Q:ACode:=.seq [4] H6O .ret
def H6R:ACode:=.seq [4,5] H6M H6Q
def H6T:ACode:=.seq [1,2,4,5] H66 H6R
def H6V:ACode:=.seq [1,2,4,5] H6q H6T
def H6X:ACode:=.seq [1,2,4] H6o H6V
def A_table_Raw:AFn:=⟨H6X,[.cellN 4 32]⟩
def V1:B4:=C2
def H6p (n:Nat):SmV:=A2 V1 C5h
def H6K (n:Nat):SmV:=A2 V1 C5i
def H6Z (n:Nat):SmV:=A2 V1 C5j
def H61 (n:Nat):SmV:=A2 V1 C5k
def H63 (n:Nat):SmV:=A1 [4] (H61 n) B5
def H65 (n:Nat):SmV:=B8 (.t 12) (H63 n) B9
def H67 (n:Nat):SmV:=A1 [1,2,4,5,12] (H6Z n) (H65 n)
def H69 (n:Nat):SmV:=A2 V1 C5l
def H7b (n:Nat):SmV:=A2 V1 C5m
def H7d (n:Nat):SmV:=B8 (.t 15) B9 (F0 0)
def H6s (n:Nat):SmV:=A2 V1 C5n
def H6u (n:Nat):SmV:=A2 V1 C5o
def H6w (n:Nat):SmV:=A1 [1,2,4,5,6,14] (H6s n) (H6u n)
def H6y (n:Nat):SmV:=C4 1 (H6w n)
def H6A (n:Nat):SmV:=A2 V1 C5p
def H6C (n:Nat):SmV:=A1 [1,2,4,5,14] (H6y n) (H6A n)
def H6E (n:Nat):SmV:=A1 [1,2,4,5,14] (H7d n) (H6C n)
def C5e (n:Nat):SmV:=A1 [1,2,4,5,14,15] (H7b n) (H6E n)
def H6H (n:Nat):SmV:=F2 n [1,2,4,5,14] (C5e n)
def H6J (n:Nat):SmV:=C4 0 (H6H n)
def H6N (n:Nat):SmV:=A1 [1,2,4,5,14] (H69 n) (H6J n)
def H6P (n:Nat):SmV:=A2 V1 C5q
def C5f (n:Nat):SmV:=A1 [4] (H6P n) B5
def H6S (n:Nat):SmV:=A1 [4,5] (H6N n) (C5f n)
def H6U (n:Nat):SmV:=A1 [1,2,4,5] (H67 n) (H6S n)
def H6W (n:Nat):SmV:=A1 [1,2,4,5] (H6K n) (H6U n)
def H6Y (n:Nat):SmV:=A1 [1,2,4] (H6p n) (H6W n)
def A8o (n:Nat):AExit → Env → A0 → A6:=fun x e h=>match x with | .normal=>hold ((C5f n) A_table_Raw.fin (e.keep [4,5]) h) | .exit id=>A_table_Raw.fin (.exit id) e h | .ret=>A_table_Raw.fin .ret e h
def H7f (n:Nat):AExit → Env → A0 → A6:=fun x e h=>match x with | .exit i=>bif Nat.beq i 0 then (A8o n) .normal e h else (A8o n) (.exit i) e h | .normal=>(A8o n) .normal e h | .ret=>(A8o n) .ret e h
def A8p (n m:Nat) (x1 x2 x4 x5 x14:Val) (h:A0):A6:=E2 (C5e n) [1,2,4,5,14] (H7f n) m [(1,x1),(2,x2),(4,x4),(5,x5),(14,x14)] h
def A5O (n:Nat) (args:List Val) (h:A0):A6:=(H6Y n) A_table_Raw.fin (params 0 args) h
theorem C7b (n:Nat) (a0 a1:Val) (h:A0):A5O n [a0,a1] h=bnd (cells? a0) fun c1=>bnd (A4 .lss a1 (.c (.i .i64 0))) fun v2=>bnd (gd v2 false (some (a1,(((h ++ [some (Row.mk (c1) true)]) ++ [some (Row.mk (List.replicate 32 (.i .u8 0)) true)]) ++ [some (Row.mk (List.replicate 32 (.i .u8 0)) true)]))) (some (.no,(((h ++ [some (Row.mk (c1) true)]) ++ [some (Row.mk (List.replicate 32 (.i .u8 0)) true)]) ++ [some (Row.mk (List.replicate 32 (.i .u8 0)) true)])))) fun p3=>bnd (gd v2 false (bnd (A4 .geq p3.1 (.c (.i .i64 8))) fun v4=>some (v4,p3.2)) (some (.no,p3.2))) fun p5=>bnd (D4 v2 (.c (.b true)) p5.1) fun v6=>cnd v6 (bnd (A5 p5.2 32 ((.c (.p (((h ++ [some (Row.mk (c1) true)]) ++ [some (Row.mk (List.replicate 32 (.i .u8 0)) true)])).length 0)))) fun v7=>bnd (B1 p5.2 32 ((.c (.p ((h ++ [some (Row.mk (c1) true)])).length 0))) v7) fun h8=>mp (A5 h8 32 ((.c (.p ((h ++ [some (Row.mk (c1) true)])).length 0)))) fun v=>(v,h8)) (A8p n n a1 ((.c (.p h.length 0))) ((.c (.p ((h ++ [some (Row.mk (c1) true)])).length 0))) ((.c (.p (((h ++ [some (Row.mk (c1) true)]) ++ [some (Row.mk (List.replicate 32 (.i .u8 0)) true)])).length 0))) (.c (.i .i64 0)) p5.2):=by kernel_rfl
theorem C5g (n m:Nat) (x1 x2 x4 x5 x14:Val) (h:A0):A8p n (m + 1) x1 x2 x4 x5 x14 h=bnd (A4 .lss x14 (.c (.i .i64 32))) fun v9=>cnd v9 (bnd (A4 .mul x1 (.c (.i .i64 32))) fun v10=>bnd (A4 .add v10 x14) fun v11=>bnd (D6 256 1 x2 v11) fun v12=>bnd (A8 h v12) fun v13=>bnd (D6 32 1 x5 x14) fun v14=>bnd (E8 h v14 v13) fun h15=>bnd (A4 .add x14 (.c (.i .i64 1))) fun v16=>A8p n m x1 x2 x4 x5 v16 h15) (bnd (A5 h 32 x5) fun v17=>bnd (B1 h 32 x4 v17) fun h18=>mp (A5 h18 32 x4) fun v=>(v,h18)):=by kernel_rfl
theorem K_table_Raw:FnK Try.prog 105 A_table_Raw V1 A5O:=.mk' (C5) Try.func105 (by kernel_rfl) (by intro n args h;kernel_rfl)
def A3S:Fun:=tidy (Lim A_table_Raw V1)
theorem C87:SOk Try.prog 105 A3S:=K_table_Raw.sok
theorem C86 {n:Nat} {args:List Val} {h h2:A0} {v:Val} (he:A5O n args (ro h)=some (v,h2)) (hf:v.flat=true):A3S args h=some (v,h):=K_table_Raw.flat he hf
def C43:List AOper:=[aO 2 (.box (.t 0)),aO 4 (.alloc ([.i .i64 0,.i .i64 0,.i .i64 0,.i .i64 0,.i .i64 0,.i .i64 0,.i .i64 0,.i .i64 0,.i .i64 0,.i .i64 0,.i .i64 0])),aO 5 (.mv (.v (.c (.b false))))]
def H5t:ACode:=.ops C43
def C44:List AOper:=[aO 6 (.mv (.t 1)),aO 7 (.bin .lss (.t 6) (.v (.c (.i .i64 0)))),aO 8 (.mv (.t 7)),{ dst:=some 9,op:=.mv (.t 1),guard:=some (8,false) },{ dst:=some 10,op:=.bin .geq (.t 9) (.v (.c (.i .i64 8))),guard:=some (8,false) },aO 11 (.pick (.t 8) (.v (.c (.b true))) (.t 10))]
def H5v:ACode:=.ops C44
def C45:List AOper:=[aO 12 (.build ([.i .i64 0,.i .i64 0,.i .i64 0,.i .i64 0,.i .i64 0,.i .i64 0,.i .i64 0,.i .i64 0,.i .i64 0,.i .i64 0,.i .i64 0]) []),{ dst:=none,op:=.storeN 11 (.t 4) (.t 12) },aO 5 (.mv (.v (.c (.b false))))]
def H5x:ACode:=.ops C45
def H5z:ACode:=.seq [4,5] H5x .ret
def H5B:ACode:=.cond (.t 11) H5z .skip
def H5D:ACode:=.seq [1,2,4,11] H5v H5B
def C46:List AOper:=[aO 13 (.loadN 256 (.t 2)),aO 14 (.mv (.t 1)),aO 15 (.call 105 [(.t 13),(.t 14)]),aO 16 (.call 104 [(.t 15)]),aO 17 (.ext (.t 16) 0),aO 18 (.ext (.t 16) 1),{ dst:=none,op:=.storeN 11 (.t 4) (.t 17) },aO 5 (.mv (.t 18))]
def H5F:ACode:=.ops C46
def H5H:ACode:=.seq [4,5] H5F .ret
def H5J:ACode:=.seq [1,2,4] H5D H5H
def H5L:ACode:=.seq [1,2,4] H5t H5J
def A_table_Get:AFn:=⟨H5L,[.cellN 4 11,.tmp 5]⟩
def A2G:B4:=A9 105 A3S (A9 104 A3E C2)
def H5u (n:Nat):SmV:=A2 A2G C43
def H5w (n:Nat):SmV:=A2 A2G C44
def H5y (n:Nat):SmV:=A2 A2G C45
def H5A (n:Nat):SmV:=A1 [4,5] (H5y n) B5
def H5C (n:Nat):SmV:=B8 (.t 11) (H5A n) B9
def H5E (n:Nat):SmV:=A1 [1,2,4,11] (H5w n) (H5C n)
def H5G (n:Nat):SmV:=A2 A2G C46
def H5I (n:Nat):SmV:=A1 [4,5] (H5G n) B5
def H5K (n:Nat):SmV:=A1 [1,2,4] (H5E n) (H5I n)
def H5M (n:Nat):SmV:=A1 [1,2,4] (H5u n) (H5K n)
def A5M (n:Nat) (args:List Val) (h:A0):A6:=(H5M n) A_table_Get.fin (params 0 args) h
theorem C69 (n:Nat) (a0 a1:Val) (h:A0):A5M n [a0,a1] h=bnd (cells? a0) fun c1=>bnd (A4 .lss a1 (.c (.i .i64 0))) fun v2=>bnd (gd v2 false (some (a1,((h ++ [some (Row.mk (c1) true)]) ++ [some (Row.mk ([.i .i64 0,.i .i64 0,.i .i64 0,.i .i64 0,.i .i64 0,.i .i64 0,.i .i64 0,.i .i64 0,.i .i64 0,.i .i64 0,.i .i64 0]) true)]))) (some (.no,((h ++ [some (Row.mk (c1) true)]) ++ [some (Row.mk ([.i .i64 0,.i .i64 0,.i .i64 0,.i .i64 0,.i .i64 0,.i .i64 0,.i .i64 0,.i .i64 0,.i .i64 0,.i .i64 0,.i .i64 0]) true)])))) fun p3=>bnd (gd v2 false (bnd (A4 .geq p3.1 (.c (.i .i64 8))) fun v4=>some (v4,p3.2)) (some (.no,p3.2))) fun p5=>bnd (D4 v2 (.c (.b true)) p5.1) fun v6=>cnd v6 (bnd (B0 ([.i .i64 0,.i .i64 0,.i .i64 0,.i .i64 0,.i .i64 0,.i .i64 0,.i .i64 0,.i .i64 0,.i .i64 0,.i .i64 0,.i .i64 0]) []) fun c7=>bnd (B1 p5.2 11 ((.c (.p ((h ++ [some (Row.mk (c1) true)])).length 0))) ((.a c7))) fun h8=>D3 [A5 h8 11 ((.c (.p ((h ++ [some (Row.mk (c1) true)])).length 0))),some (.c (.b false))] h8) (bnd (A5 p5.2 256 ((.c (.p h.length 0)))) fun v9=>bnd (A3S [v9,a1] p5.2) fun p10=>bnd (A3E [p10.1] p10.2) fun p11=>bnd (C3 p11.1 0) fun v12=>bnd (C3 p11.1 1) fun v13=>bnd (B1 p11.2 11 ((.c (.p ((h ++ [some (Row.mk (c1) true)])).length 0))) v12) fun h14=>D3 [A5 h14 11 ((.c (.p ((h ++ [some (Row.mk (c1) true)])).length 0))),some v13] h14):=by kernel_rfl
theorem K_table_Get:FnK Try.prog 56 A_table_Get A2G A5M:=.mk' (B3 C87 (B3 C8o C5)) Try.func56 (by kernel_rfl) (by intro n args h;kernel_rfl)
def A3Q:Fun:=tidy (Lim A_table_Get A2G)
theorem C83:SOk Try.prog 56 A3Q:=K_table_Get.sok
theorem C82 {n:Nat} {args:List Val} {h h2:A0} {v:Val} (he:A5M n args (ro h)=some (v,h2)) (hf:v.flat=true):A3Q args h=some (v,h):=K_table_Get.flat he hf
def C47:List AOper:=[aO 3 (.box (.t 1)),aO 4 (.alloc ([.i .i64 0,.ns])),aO 5 (.mv (.v (.c (.i .i64 0))))]
def H5N:ACode:=.ops C47
def C48:List AOper:=[aO 8 (.mv (.t 0)),aO 9 (.bin .lss (.t 8) (.v (.c (.i .i64 0)))),aO 10 (.mv (.t 9)),{ dst:=some 11,op:=.mv (.t 0),guard:=some (10,false) },{ dst:=some 12,op:=.bin .geq (.t 11) (.v (.c (.i .i64 8))),guard:=some (10,false) },aO 13 (.pick (.t 10) (.v (.c (.b true))) (.t 12))]
def H5P:ACode:=.ops C48
def C49:List AOper:=[aO 14 (.build ([.i .i64 0,.ns]) []),{ dst:=none,op:=.storeN 2 (.t 4) (.t 14) },aO 5 (.mv (.v (.c (.i .i64 2))))]
def H57:ACode:=.ops C49
def H59:ACode:=.seq [4,5] H57 .ret
def H6b:ACode:=.cond (.t 13) H59 .skip
def H6d:ACode:=.seq [0,3,4,13] H5P H6b
def C5a:List AOper:=[aO 16 (.loadN 11 (.t 3)),aO 17 (.call 134 [(.t 16)]),aO 15 (.mv (.t 17)),aO 18 (.ext (.t 15) 0),aO 19 (.ext (.t 15) 1),aO 6 (.alloc (List.replicate 32 (.i .u8 0))),{ dst:=none,op:=.storeN 32 (.t 6) (.t 18) },aO 7 (.mv (.t 19))]
def H6f:ACode:=.ops C5a
def C5b:List AOper:=[aO 20 (.mv (.t 7)),aO 21 (.bin .neq (.t 20) (.v (.c (.i .i64 0))))]
def H6h:ACode:=.ops C5b
def C5c:List AOper:=[aO 22 (.build ([.i .i64 0,.ns]) []),aO 23 (.mv (.t 7)),{ dst:=none,op:=.storeN 2 (.t 4) (.t 22) },aO 5 (.mv (.t 23))]
def H6j:ACode:=.ops C5c
def H6l:ACode:=.seq [4,5] H6j .ret
def H5Q:ACode:=.cond (.t 21) H6l .skip
def H5S:ACode:=.seq [0,4,6,7,21] H6h H5Q
def C5d:List AOper:=[aO 24 (.mv (.t 0)),aO 25 (.bin .mul (.t 24) (.v (.c (.i .i64 32)))),aO 26 (.buildSl 1 0 ([]) []),aO 27 (.slA 32 1 (.t 6) none none),aO 28 (.app 1 (.t 26) (.t 27)),aO 29 (.build ([.i .i64 0,.ns]) [(0,1,(.t 25)),(1,1,(.t 28))]),{ dst:=none,op:=.storeN 2 (.t 4) (.t 29) },aO 5 (.mv (.v (.c (.i .i64 0))))]
def H5U:ACode:=.ops C5d
def H5W:ACode:=.seq [4,5] H5U .ret
def H5Y:ACode:=.seq [0,4,6] H5S H5W
def H50:ACode:=.seq [0,4,6,7] H6f H5Y
def H52:ACode:=.seq [0,3,4] H6d H50
def H54:ACode:=.seq [0,3,4] H5N H52
def A_table_Patch:AFn:=⟨H54,[.cellN 4 2,.tmp 5]⟩
def A0w:B4:=A9 134 A1R C2
def H5O (n:Nat):SmV:=A2 A0w C47
def H56 (n:Nat):SmV:=A2 A0w C48
def H58 (n:Nat):SmV:=A2 A0w C49
def H6a (n:Nat):SmV:=A1 [4,5] (H58 n) B5
def H6c (n:Nat):SmV:=B8 (.t 13) (H6a n) B9
def H6e (n:Nat):SmV:=A1 [0,3,4,13] (H56 n) (H6c n)
def H6g (n:Nat):SmV:=A2 A0w C5a
def H6i (n:Nat):SmV:=A2 A0w C5b
def H6k (n:Nat):SmV:=A2 A0w C5c
def H6m (n:Nat):SmV:=A1 [4,5] (H6k n) B5
def H5R (n:Nat):SmV:=B8 (.t 21) (H6m n) B9
def H5T (n:Nat):SmV:=A1 [0,4,6,7,21] (H6i n) (H5R n)
def H5V (n:Nat):SmV:=A2 A0w C5d
def H5X (n:Nat):SmV:=A1 [4,5] (H5V n) B5
def H5Z (n:Nat):SmV:=A1 [0,4,6] (H5T n) (H5X n)
def H51 (n:Nat):SmV:=A1 [0,4,6,7] (H6g n) (H5Z n)
def H53 (n:Nat):SmV:=A1 [0,3,4] (H6e n) (H51 n)
def H55 (n:Nat):SmV:=A1 [0,3,4] (H5O n) (H53 n)
def A5N (n:Nat) (args:List Val) (h:A0):A6:=(H55 n) A_table_Patch.fin (params 0 args) h
theorem C7a (n:Nat) (a0 a1:Val) (h:A0):A5N n [a0,a1] h=bnd (cells? a1) fun c1=>bnd (A4 .lss a0 (.c (.i .i64 0))) fun v2=>bnd (gd v2 false (some (a0,((h ++ [some (Row.mk (c1) true)]) ++ [some (Row.mk ([.i .i64 0,.ns]) true)]))) (some (.no,((h ++ [some (Row.mk (c1) true)]) ++ [some (Row.mk ([.i .i64 0,.ns]) true)])))) fun p3=>bnd (gd v2 false (bnd (A4 .geq p3.1 (.c (.i .i64 8))) fun v4=>some (v4,p3.2)) (some (.no,p3.2))) fun p5=>bnd (D4 v2 (.c (.b true)) p5.1) fun v6=>cnd v6 (bnd (B0 ([.i .i64 0,.ns]) []) fun c7=>bnd (B1 p5.2 2 ((.c (.p ((h ++ [some (Row.mk (c1) true)])).length 0))) ((.a c7))) fun h8=>D3 [A5 h8 2 ((.c (.p ((h ++ [some (Row.mk (c1) true)])).length 0))),some (.c (.i .i64 2))] h8) (bnd (A5 p5.2 11 ((.c (.p h.length 0)))) fun v9=>bnd (A1R [v9] p5.2) fun p10=>bnd (C3 p10.1 0) fun v11=>bnd (C3 p10.1 1) fun v12=>bnd (B1 ((p10.2 ++ [some (Row.mk (List.replicate 32 (.i .u8 0)) true)])) 32 ((.c (.p p10.2.length 0))) v11) fun h13=>bnd (A4 .neq v12 (.c (.i .i64 0))) fun v14=>cnd v14 (bnd (B0 ([.i .i64 0,.ns]) []) fun c15=>bnd (B1 h13 2 ((.c (.p ((h ++ [some (Row.mk (c1) true)])).length 0))) ((.a c15))) fun h16=>D3 [A5 h16 2 ((.c (.p ((h ++ [some (Row.mk (c1) true)])).length 0))),some v12] h16) (bnd (A4 .mul a0 (.c (.i .i64 32))) fun v17=>bnd (B0 ([]) []) fun c18=>bnd (V5 ((h13 ++ [some (Row.mk (c18) true)])) 32 1 ((.c (.p p10.2.length 0))) none none) fun v19=>bnd (F9 ((h13 ++ [some (Row.mk (c18) true)])) 1 ((.c (.sl h13.length 0 0 1))) v19) fun p20=>bnd (B0 ([.i .i64 0,.ns]) [(0,1,v17),(1,1,p20.1)]) fun c21=>bnd (B1 p20.2 2 ((.c (.p ((h ++ [some (Row.mk (c1) true)])).length 0))) ((.a c21))) fun h22=>D3 [A5 h22 2 ((.c (.p ((h ++ [some (Row.mk (c1) true)])).length 0))),some (.c (.i .i64 0))] h22)):=by kernel_rfl
theorem K_table_Patch:FnK Try.prog 135 A_table_Patch A0w A5N:=.mk' (B3 B1e C5) Try.func135 (by kernel_rfl) (by intro n args h;kernel_rfl)
def A3R:Fun:=tidy (Lim A_table_Patch A0w)
theorem C84:SOk Try.prog 135 A3R:=K_table_Patch.sok
theorem C85 {n:Nat} {args:List Val} {h h2:A0} {v:Val} {v2:Val} {ids:List Nat} (he:A5N n args (ro h)=some (v,h2)) (hc:J4 h2 h.length v=some (v2,ids)):A3R args h=some (v2,h ++ ids.map (rd h2)):=K_table_Patch.tidy he hc
def C5r:List AOper:=[aO 3 (.box (.t 0)),aO 5 (.box (.t 2)),aO 6 (.alloc (List.replicate 256 (.i .u8 0))),aO 7 (.mv (.v (.c (.i .i64 0))))]
def H7g:ACode:=.ops C5r
def C5s:List AOper:=[aO 11 (.mv (.t 1)),aO 12 (.loadN 11 (.t 5)),aO 13 (.call 135 [(.t 11),(.t 12)]),aO 10 (.mv (.t 13)),aO 14 (.ext (.t 10) 0),aO 15 (.ext (.t 10) 1),aO 8 (.alloc ([.i .i64 0,.ns])),{ dst:=none,op:=.storeN 2 (.t 8) (.t 14) },aO 9 (.mv (.t 15))]
def H7i:ACode:=.ops C5s
def C5t:List AOper:=[aO 16 (.mv (.t 9)),aO 17 (.bin .neq (.t 16) (.v (.c (.i .i64 0))))]
def H7o:ACode:=.ops C5t
def C5u:List AOper:=[aO 18 (.loadN 256 (.t 3)),aO 19 (.mv (.t 9)),{ dst:=none,op:=.storeN 256 (.t 6) (.t 18) },aO 7 (.mv (.t 19))]
def H7q:ACode:=.ops C5u
def H7s:ACode:=.seq [6,7] H7q .ret
def H7u:ACode:=.cond (.t 17) H7s .skip
def H7w:ACode:=.seq [3,6,8,9,17] H7o H7u
def C5v:List AOper:=[aO 20 (.loadN 256 (.t 3)),aO 21 (.loadN 2 (.t 8)),aO 22 (.call 136 [(.t 20),(.t 21)]),{ dst:=none,op:=.storeN 256 (.t 6) (.t 22) },aO 7 (.mv (.v (.c (.i .i64 0))))]
def H7y:ACode:=.ops C5v
def H7A:ACode:=.seq [6,7] H7y .ret
def H7C:ACode:=.seq [3,6,8] H7w H7A
def H7j:ACode:=.seq [3,6,8,9] H7i H7C
def H7l:ACode:=.seq [1,3,5,6] H7g H7j
def A_table_With:AFn:=⟨H7l,[.cellN 6 256,.tmp 7]⟩
def A1F:B4:=A9 135 A3R (A9 136 A3O C2)
def H7h (n:Nat):SmV:=A2 A1F C5r
def H7n (n:Nat):SmV:=A2 A1F C5s
def H7p (n:Nat):SmV:=A2 A1F C5t
def H7r (n:Nat):SmV:=A2 A1F C5u
def H7t (n:Nat):SmV:=A1 [6,7] (H7r n) B5
def H7v (n:Nat):SmV:=B8 (.t 17) (H7t n) B9
def H7x (n:Nat):SmV:=A1 [3,6,8,9,17] (H7p n) (H7v n)
def H7z (n:Nat):SmV:=A2 A1F C5v
def H7B (n:Nat):SmV:=A1 [6,7] (H7z n) B5
def H7D (n:Nat):SmV:=A1 [3,6,8] (H7x n) (H7B n)
def H7k (n:Nat):SmV:=A1 [3,6,8,9] (H7n n) (H7D n)
def H7m (n:Nat):SmV:=A1 [1,3,5,6] (H7h n) (H7k n)
def A5P (n:Nat) (args:List Val) (h:A0):A6:=(H7m n) A_table_With.fin (params 0 args) h
theorem C7c (n:Nat) (a0 a1 a2:Val) (h:A0):A5P n [a0,a1,a2] h=bnd (cells? a0) fun c1=>bnd (cells? a2) fun c2=>bnd (A5 ((((h ++ [some (Row.mk (c1) true)]) ++ [some (Row.mk (c2) true)]) ++ [some (Row.mk (List.replicate 256 (.i .u8 0)) true)])) 11 ((.c (.p ((h ++ [some (Row.mk (c1) true)])).length 0)))) fun v3=>bnd (A3R [a1,v3] ((((h ++ [some (Row.mk (c1) true)]) ++ [some (Row.mk (c2) true)]) ++ [some (Row.mk (List.replicate 256 (.i .u8 0)) true)]))) fun p4=>bnd (C3 p4.1 0) fun v5=>bnd (C3 p4.1 1) fun v6=>bnd (B1 ((p4.2 ++ [some (Row.mk ([.i .i64 0,.ns]) true)])) 2 ((.c (.p p4.2.length 0))) v5) fun h7=>bnd (A4 .neq v6 (.c (.i .i64 0))) fun v8=>cnd v8 (bnd (A5 h7 256 ((.c (.p h.length 0)))) fun v9=>bnd (B1 h7 256 ((.c (.p (((h ++ [some (Row.mk (c1) true)]) ++ [some (Row.mk (c2) true)])).length 0))) v9) fun h10=>D3 [A5 h10 256 ((.c (.p (((h ++ [some (Row.mk (c1) true)]) ++ [some (Row.mk (c2) true)])).length 0))),some v6] h10) (bnd (A5 h7 256 ((.c (.p h.length 0)))) fun v11=>bnd (A5 h7 2 ((.c (.p p4.2.length 0)))) fun v12=>bnd (A3O [v11,v12] h7) fun p13=>bnd (B1 p13.2 256 ((.c (.p (((h ++ [some (Row.mk (c1) true)]) ++ [some (Row.mk (c2) true)])).length 0))) p13.1) fun h14=>D3 [A5 h14 256 ((.c (.p (((h ++ [some (Row.mk (c1) true)]) ++ [some (Row.mk (c2) true)])).length 0))),some (.c (.i .i64 0))] h14):=by kernel_rfl
theorem K_table_With:FnK Try.prog 108 A_table_With A1F A5P:=.mk' (B3 C84 (B3 C8X C5)) Try.func108 (by kernel_rfl) (by intro n args h;kernel_rfl)
def A2L:Fun:=tidy (Lim A_table_With A1F)
theorem C89:SOk Try.prog 108 A2L:=K_table_With.sok
theorem C88 {n:Nat} {args:List Val} {h h2:A0} {v:Val} (he:A5P n args (ro h)=some (v,h2)) (hf:v.flat=true):A2L args h=some (v,h):=K_table_With.flat he hf
end Go.Proofs.Ytdgggnlbdoiloaa
end
noncomputable section
namespace Go.Proofs.Ytdgggnlbdoiloaa
open Go Go.Esc
set_option maxRecDepth 100000
def C5D:List AOper:=[aO 2 (.alloc ([.i .i64 0,.i .i64 0,.i .u64 0,.nf])),aO 3 (.mv (.v (.c (.i .i64 0))))]
def H70:ACode:=.ops C5D
def C5E:List AOper:=[aO 7 (.mv (.t 0)),aO 8 (.len (.t 7)),aO 9 (.bin .eql (.t 8) (.v (.c (.i .i64 0))))]
def H72:ACode:=.ops C5E
def C5F:List AOper:=[aO 10 (.build ([.i .i64 0,.i .i64 0,.i .u64 0,.nf]) []),{ dst:=none,op:=.storeN 4 (.t 2) (.t 10) },aO 3 (.mv (.v (.c (.i .i64 13))))]
def H8o:ACode:=.ops C5F
def H8q:ACode:=.seq [2,3] H8o .ret
def H8s:ACode:=.cond (.t 9) H8q .skip
def H8u:ACode:=.seq [0,2,9] H72 H8s
def C5G:List AOper:=[aO 12 (.mv (.t 0)),aO 13 (.iAddrL 256 (.t 12) (.v (.c (.i .i64 0)))),aO 14 (.loadN 256 (.t 13)),aO 15 (.call 53 [(.t 14)]),aO 11 (.mv (.t 15)),aO 16 (.ext (.t 11) 0),aO 17 (.ext (.t 11) 1),aO 4 (.alloc ([.i .i64 0,.i .i64 0,.i .u64 0])),{ dst:=none,op:=.storeN 3 (.t 4) (.t 16) },aO 5 (.mv (.t 17))]
def H8w:ACode:=.ops C5G
def C5H:List AOper:=[aO 18 (.mv (.t 5)),aO 19 (.bin .neq (.t 18) (.v (.c (.i .i64 0)))),aO 20 (.mv (.t 19)),{ dst:=some 21,op:=.fAddr (.t 4) 0,guard:=some (20,false) },{ dst:=some 22,op:=.load1 (.t 21),guard:=some (20,false) },{ dst:=some 23,op:=.mv (.t 0),guard:=some (20,false) },{ dst:=some 24,op:=.len (.t 23),guard:=some (20,false) },{ dst:=some 25,op:=.bin .neq (.t 22) (.t 24),guard:=some (20,false) },aO 26 (.pick (.t 20) (.v (.c (.b true))) (.t 25))]
def H8y:ACode:=.ops C5H
def C5I:List AOper:=[aO 27 (.build ([.i .i64 0,.i .i64 0,.i .u64 0,.nf]) []),{ dst:=none,op:=.storeN 4 (.t 2) (.t 27) },aO 3 (.mv (.v (.c (.i .i64 13))))]
def H8A:ACode:=.ops C5I
def H8C:ACode:=.seq [2,3] H8A .ret
def H73:ACode:=.cond (.t 26) H8C .skip
def H75:ACode:=.seq [0,2,4,26] H8y H73
def C5J:List AOper:=[aO 28 (.buildSl 256 0 ([]) []),aO 29 (.mv (.t 0)),aO 30 (.app 256 (.t 28) (.t 29)),aO 6 (.alloc ([.ns])),{ dst:=none,op:=.store1 (.t 6) (.t 30) }]
def H77:ACode:=.ops C5J
def C5K:List AOper:=[aO 31 (.loadN 3 (.t 4)),aO 32 (.mkf 54 [(.t 6)]),aO 33 (.build ([.i .i64 0,.i .i64 0,.i .u64 0,.nf]) [(0,3,(.t 31)),(3,1,(.t 32))]),{ dst:=none,op:=.storeN 4 (.t 2) (.t 33) },aO 3 (.mv (.v (.c (.i .i64 0))))]
def H79:ACode:=.ops C5K
def H8b:ACode:=.seq [2,3] H79 .ret
def H8d:ACode:=.seq [2,4,6] H77 H8b
def H8f:ACode:=.seq [0,2,4] H75 H8d
def H8h:ACode:=.seq [0,2,4,5] H8w H8f
def H8j:ACode:=.seq [0,2] H8u H8h
def H8l:ACode:=.seq [0,2] H70 H8j
def A_view_Of:AFn:=⟨H8l,[.cellN 2 4,.tmp 3]⟩
def Z6:B4:=A9 53 A3P C2
def H71 (n:Nat):SmV:=A2 Z6 C5D
def H8n (n:Nat):SmV:=A2 Z6 C5E
def H8p (n:Nat):SmV:=A2 Z6 C5F
def H8r (n:Nat):SmV:=A1 [2,3] (H8p n) B5
def H8t (n:Nat):SmV:=B8 (.t 9) (H8r n) B9
def H8v (n:Nat):SmV:=A1 [0,2,9] (H8n n) (H8t n)
def H8x (n:Nat):SmV:=A2 Z6 C5G
def H8z (n:Nat):SmV:=A2 Z6 C5H
def H8B (n:Nat):SmV:=A2 Z6 C5I
def H8D (n:Nat):SmV:=A1 [2,3] (H8B n) B5
def H74 (n:Nat):SmV:=B8 (.t 26) (H8D n) B9
def H76 (n:Nat):SmV:=A1 [0,2,4,26] (H8z n) (H74 n)
def H78 (n:Nat):SmV:=A2 Z6 C5J
def H8a (n:Nat):SmV:=A2 Z6 C5K
def H8c (n:Nat):SmV:=A1 [2,3] (H8a n) B5
def H8e (n:Nat):SmV:=A1 [2,4,6] (H78 n) (H8c n)
def H8g (n:Nat):SmV:=A1 [0,2,4] (H76 n) (H8e n)
def H8i (n:Nat):SmV:=A1 [0,2,4,5] (H8x n) (H8g n)
def H8k (n:Nat):SmV:=A1 [0,2] (H8v n) (H8i n)
def H8m (n:Nat):SmV:=A1 [0,2] (H71 n) (H8k n)
def A8S (n:Nat) (args:List Val) (h:A0):A6:=(H8m n) A_view_Of.fin (params 0 args) h
theorem A5R (n:Nat) (a0:Val) (h:A0):A8S n [a0] h=bnd (F5 a0) fun v1=>bnd (A4 .eql v1 (.c (.i .i64 0))) fun v2=>cnd v2 (bnd (B0 ([.i .i64 0,.i .i64 0,.i .u64 0,.nf]) []) fun c3=>bnd (B1 ((h ++ [some (Row.mk ([.i .i64 0,.i .i64 0,.i .u64 0,.nf]) true)])) 4 ((.c (.p h.length 0))) ((.a c3))) fun h4=>D3 [A5 h4 4 ((.c (.p h.length 0))),some (.c (.i .i64 13))] h4) (bnd (D1 256 a0 (.c (.i .i64 0))) fun v5=>bnd (A5 ((h ++ [some (Row.mk ([.i .i64 0,.i .i64 0,.i .u64 0,.nf]) true)])) 256 v5) fun v6=>bnd (A3P [v6] ((h ++ [some (Row.mk ([.i .i64 0,.i .i64 0,.i .u64 0,.nf]) true)]))) fun p7=>bnd (C3 p7.1 0) fun v8=>bnd (C3 p7.1 1) fun v9=>bnd (B1 ((p7.2 ++ [some (Row.mk ([.i .i64 0,.i .i64 0,.i .u64 0]) true)])) 3 ((.c (.p p7.2.length 0))) v8) fun h10=>bnd (A4 .neq v9 (.c (.i .i64 0))) fun v11=>bnd (gd v11 false (bnd (B7 ((.c (.p p7.2.length 0))) 0) fun v12=>some (v12,h10)) (some (.no,h10))) fun p13=>bnd (gd v11 false (bnd (A8 p13.2 p13.1) fun v14=>some (v14,p13.2)) (some (.no,p13.2))) fun p15=>bnd (gd v11 false (some (a0,p15.2)) (some (.no,p15.2))) fun p16=>bnd (gd v11 false (bnd (F5 p16.1) fun v17=>some (v17,p16.2)) (some (.no,p16.2))) fun p18=>bnd (gd v11 false (bnd (A4 .neq p15.1 p18.1) fun v19=>some (v19,p18.2)) (some (.no,p18.2))) fun p20=>bnd (D4 v11 (.c (.b true)) p20.1) fun v21=>cnd v21 (bnd (B0 ([.i .i64 0,.i .i64 0,.i .u64 0,.nf]) []) fun c22=>bnd (B1 p20.2 4 ((.c (.p h.length 0))) ((.a c22))) fun h23=>D3 [A5 h23 4 ((.c (.p h.length 0))),some (.c (.i .i64 13))] h23) (bnd (B0 ([]) []) fun c24=>bnd (F9 ((p20.2 ++ [some (Row.mk (c24) true)])) 256 ((.c (.sl p20.2.length 0 0 256))) a0) fun p25=>bnd (E8 ((p25.2 ++ [some (Row.mk ([.ns]) true)])) ((.c (.p p25.2.length 0))) p25.1) fun h26=>bnd (A5 h26 3 ((.c (.p p7.2.length 0)))) fun v27=>bnd (V4 54 [(.c (.p p25.2.length 0))]) fun v28=>bnd (B0 ([.i .i64 0,.i .i64 0,.i .u64 0,.nf]) [(0,3,v27),(3,1,v28)]) fun c29=>bnd (B1 h26 4 ((.c (.p h.length 0))) ((.a c29))) fun h30=>D3 [A5 h30 4 ((.c (.p h.length 0))),some (.c (.i .i64 0))] h30)):=by kernel_rfl
theorem K_view_Of:FnK Try.prog 15 A_view_Of Z6 A8S:=.mk' (B3 C80 C5) Try.func15 (by kernel_rfl) (by intro n args h;kernel_rfl)
def Z7:Fun:=Lim A_view_Of Z6
theorem B1k:SOk Try.prog 15 Z7:=K_view_Of.ok
theorem A5Y {n:Nat} {args:List Val} {h:A0} {p:Val × A0} (he:A8S n args h=some p):Z7 args h=some p:=K_view_Of.of he
def C5W:List AOper:=[aO 2 (.box (.t 0)),aO 4 (.mv (.v (.c (.b false))))]
def H9s:ACode:=.ops C5W
def C5X:List AOper:=[aO 5 (.fAddr (.t 2) 3),aO 6 (.load1 (.t 5)),aO 7 (.eqN true true (.t 6)),aO 8 (.mv (.t 7)),{ dst:=some 9,op:=.mv (.t 1),guard:=some (8,true) },{ dst:=some 10,op:=.bin .geq (.t 9) (.v (.c (.i .i64 0))),guard:=some (8,true) },aO 11 (.pick (.t 8) (.t 10) (.v (.c (.b false)))),aO 12 (.mv (.t 11)),{ dst:=some 13,op:=.mv (.t 1),guard:=some (12,true) },{ dst:=some 14,op:=.fAddr (.t 2) 0,guard:=some (12,true) },{ dst:=some 15,op:=.fAddr (.t 14) 0,guard:=some (12,true) },{ dst:=some 16,op:=.load1 (.t 15),guard:=some (12,true) },{ dst:=some 17,op:=.bin .lss (.t 13) (.t 16),guard:=some (12,true) },aO 18 (.pick (.t 12) (.t 17) (.v (.c (.b false)))),aO 4 (.mv (.t 18))]
def H9u:ACode:=.ops C5X
def H9w:ACode:=.seq [4] H9u .ret
def H9y:ACode:=.seq [1,2] H9s H9w
def A_view_View_there:AFn:=⟨H9y,[.tmp 4]⟩
def A4W:B4:=C2
def H9t (n:Nat):SmV:=A2 A4W C5W
def H9v (n:Nat):SmV:=A2 A4W C5X
def H9x (n:Nat):SmV:=A1 [4] (H9v n) B5
def H9z (n:Nat):SmV:=A1 [1,2] (H9t n) (H9x n)
def A5T (n:Nat) (args:List Val) (h:A0):A6:=(H9z n) A_view_View_there.fin (params 0 args) h
theorem C7f (n:Nat) (a0 a1:Val) (h:A0):A5T n [a0,a1] h=bnd (cells? a0) fun c1=>bnd (B7 ((.c (.p h.length 0))) 3) fun v2=>bnd (A8 ((h ++ [some (Row.mk (c1) true)])) v2) fun v3=>bnd (A0J true true v3) fun v4=>bnd (gd v4 true (some (a1,(h ++ [some (Row.mk (c1) true)]))) (some (.no,(h ++ [some (Row.mk (c1) true)])))) fun p5=>bnd (gd v4 true (bnd (A4 .geq p5.1 (.c (.i .i64 0))) fun v6=>some (v6,p5.2)) (some (.no,p5.2))) fun p7=>bnd (D4 v4 p7.1 (.c (.b false))) fun v8=>bnd (gd v8 true (some (a1,p7.2)) (some (.no,p7.2))) fun p9=>bnd (gd v8 true (bnd (B7 ((.c (.p h.length 0))) 0) fun v10=>some (v10,p9.2)) (some (.no,p9.2))) fun p11=>bnd (gd v8 true (bnd (B7 p11.1 0) fun v12=>some (v12,p11.2)) (some (.no,p11.2))) fun p13=>bnd (gd v8 true (bnd (A8 p13.2 p13.1) fun v14=>some (v14,p13.2)) (some (.no,p13.2))) fun p15=>bnd (gd v8 true (bnd (A4 .lss p9.1 p15.1) fun v16=>some (v16,p15.2)) (some (.no,p15.2))) fun p17=>bnd (D4 v8 p17.1 (.c (.b false))) fun v18=>some (v18,p17.2):=by kernel_rfl
theorem K_view_View_there:FnK Try.prog 76 A_view_View_there A4W A5T:=.mk' (C5) Try.func76 (by kernel_rfl) (by intro n args h;kernel_rfl)
def A3U:Fun:=tidy (Lim A_view_View_there A4W)
theorem C9e:SOk Try.prog 76 A3U:=K_view_View_there.sok
theorem C9d {n:Nat} {args:List Val} {h h2:A0} {v:Val} (he:A5T n args (ro h)=some (v,h2)) (hf:v.flat=true):A3U args h=some (v,h):=K_view_View_there.flat he hf
def C5B:List AOper:=[aO 3 (.alloc (List.replicate 256 (.i .u8 0)))]
def H7Q:ACode:=.ops C5B
def C5C:List AOper:=[aO 4 (.load1 (.t 1)),aO 5 (.mv (.t 0)),aO 6 (.iAddrL 256 (.t 4) (.t 5)),aO 7 (.loadN 256 (.t 6)),{ dst:=none,op:=.storeN 256 (.t 3) (.t 7) }]
def H7S:ACode:=.ops C5C
def H7U:ACode:=.seq [3] H7S .ret
def H7W:ACode:=.seq [0,1,3] H7Q H7U
def A_view_Of_1:AFn:=⟨H7W,[.cellN 3 256]⟩
def A4V:B4:=C2
def H7R (n:Nat):SmV:=A2 A4V C5B
def H7T (n:Nat):SmV:=A2 A4V C5C
def H7V (n:Nat):SmV:=A1 [3] (H7T n) B5
def H7X (n:Nat):SmV:=A1 [0,1,3] (H7R n) (H7V n)
def A5Q (n:Nat) (args:List Val) (h:A0):A6:=(H7X n) A_view_Of_1.fin (params 0 args) h
theorem C7d (n:Nat) (a0 a1:Val) (h:A0):A5Q n [a0,a1] h=bnd (A8 ((h ++ [some (Row.mk (List.replicate 256 (.i .u8 0)) true)])) a1) fun v1=>bnd (D1 256 v1 a0) fun v2=>bnd (A5 ((h ++ [some (Row.mk (List.replicate 256 (.i .u8 0)) true)])) 256 v2) fun v3=>bnd (B1 ((h ++ [some (Row.mk (List.replicate 256 (.i .u8 0)) true)])) 256 ((.c (.p h.length 0))) v3) fun h4=>mp (A5 h4 256 ((.c (.p h.length 0)))) fun v=>(v,h4):=by kernel_rfl
theorem K_view_Of_1:FnK Try.prog 54 A_view_Of_1 A4V A5Q:=.mk' (C5) Try.func54 (by kernel_rfl) (by intro n args h;kernel_rfl)
def A3T:Fun:=tidy (Lim A_view_Of_1 A4V)
theorem C9b:SOk Try.prog 54 A3T:=K_view_Of_1.sok
theorem C9a {n:Nat} {args:List Val} {h h2:A0} {v:Val} (he:A5Q n args (ro h)=some (v,h2)) (hf:v.flat=true):A3T args h=some (v,h):=K_view_Of_1.flat he hf
def C5M:List AOper:=[aO 2 (.box (.t 0)),aO 4 (.alloc (List.replicate 256 (.i .u8 0)))]
def H8G:ACode:=.ops C5M
def C5N:List AOper:=[aO 5 (.loadN 4 (.t 2)),aO 6 (.mv (.t 1)),aO 7 (.call 76 [(.t 5),(.t 6)]),aO 8 (.un .not (.t 7))]
def H8I:ACode:=.ops C5N
def C5O:List AOper:=[aO 9 (.build (List.replicate 256 (.i .u8 0)) []),{ dst:=none,op:=.storeN 256 (.t 4) (.t 9) }]
def H8K:ACode:=.ops C5O
def H8M:ACode:=.seq [4] H8K .ret
def H8O:ACode:=.cond (.t 8) H8M .skip
def H8Q:ACode:=.seq [1,2,4,8] H8I H8O
def C5P:List AOper:=[aO 10 (.fAddr (.t 2) 3),aO 11 (.load1 (.t 10)),aO 12 (.mv (.t 1)),aO 13 (.callV (.t 11) [(.t 12)]),{ dst:=none,op:=.storeN 256 (.t 4) (.t 13) }]
def H8S:ACode:=.ops C5P
def H8U:ACode:=.seq [4] H8S .ret
def H8W:ACode:=.seq [1,2,4] H8Q H8U
def H8Y:ACode:=.seq [1,2,4] H8G H8W
def A_view_View_Block__Of_1:AFn:=⟨H8Y,[.cellN 4 256]⟩
def A02:B4:=A9 76 A3U (A9 54 A3T C2)
def H8H (n:Nat):SmV:=A2 A02 C5M
def H8J (n:Nat):SmV:=A2 A02 C5N
def H8L (n:Nat):SmV:=A2 A02 C5O
def H8N (n:Nat):SmV:=A1 [4] (H8L n) B5
def H8P (n:Nat):SmV:=B8 (.t 8) (H8N n) B9
def H8R (n:Nat):SmV:=A1 [1,2,4,8] (H8J n) (H8P n)
def H8T (n:Nat):SmV:=A2 A02 C5P
def H8V (n:Nat):SmV:=A1 [4] (H8T n) B5
def H8X (n:Nat):SmV:=A1 [1,2,4] (H8R n) (H8V n)
def H8Z (n:Nat):SmV:=A1 [1,2,4] (H8H n) (H8X n)
def A5S (n:Nat) (args:List Val) (h:A0):A6:=(H8Z n) A_view_View_Block__Of_1.fin (params 0 args) h
theorem C7e (n:Nat) (a0 a1:Val) (h:A0):A5S n [a0,a1] h=bnd (cells? a0) fun c1=>bnd (A5 (((h ++ [some (Row.mk (c1) true)]) ++ [some (Row.mk (List.replicate 256 (.i .u8 0)) true)])) 4 ((.c (.p h.length 0)))) fun v2=>bnd (A3U [v2,a1] (((h ++ [some (Row.mk (c1) true)]) ++ [some (Row.mk (List.replicate 256 (.i .u8 0)) true)]))) fun p3=>bnd (aun .not p3.1) fun v4=>cnd v4 (bnd (B0 (List.replicate 256 (.i .u8 0)) []) fun c5=>bnd (B1 p3.2 256 ((.c (.p ((h ++ [some (Row.mk (c1) true)])).length 0))) ((.a c5))) fun h6=>mp (A5 h6 256 ((.c (.p ((h ++ [some (Row.mk (c1) true)])).length 0)))) fun v=>(v,h6)) (bnd (B7 ((.c (.p h.length 0))) 3) fun v7=>bnd (A8 p3.2 v7) fun v8=>bnd (L7 A02 v8 [a1] p3.2) fun p9=>bnd (B1 p9.2 256 ((.c (.p ((h ++ [some (Row.mk (c1) true)])).length 0))) p9.1) fun h10=>mp (A5 h10 256 ((.c (.p ((h ++ [some (Row.mk (c1) true)])).length 0)))) fun v=>(v,h10)):=by kernel_rfl
theorem K_view_View_Block__Of_1:FnK Try.prog 38 A_view_View_Block__Of_1 A02 A5S:=.mk' (B3 C9e (B3 C9b C5)) Try.func38 (by kernel_rfl) (by intro n args h;kernel_rfl)
def Q0:Fun:=tidy (Lim A_view_View_Block__Of_1 A02)
theorem A2M:SOk Try.prog 38 Q0:=K_view_View_Block__Of_1.sok
theorem C9c {n:Nat} {args:List Val} {h h2:A0} {v:Val} (he:A5S n args (ro h)=some (v,h2)) (hf:v.flat=true):Q0 args h=some (v,h):=K_view_View_Block__Of_1.flat he hf
def C5Q:List AOper:=[aO 2 (.box (.t 0)),aO 4 (.alloc ([.i .i64 0,.i .i64 0,.i .i64 0,.i .i64 0,.i .i64 0,.i .i64 0,.i .i64 0,.i .i64 0,.i .i64 0,.i .i64 0,.i .i64 0]))]
def H80:ACode:=.ops C5Q
def C5R:List AOper:=[aO 11 (.fAddr (.t 2) 0),aO 12 (.loadN 3 (.t 11)),aO 13 (.mv (.t 1)),aO 14 (.call 55 [(.t 12),(.t 13)]),aO 10 (.mv (.t 14)),aO 15 (.ext (.t 10) 0),aO 16 (.ext (.t 10) 1),aO 17 (.ext (.t 10) 2),aO 5 (.mv (.t 15)),aO 6 (.mv (.t 16)),aO 7 (.mv (.t 17))]
def H82:ACode:=.ops C5R
def C5S:List AOper:=[aO 18 (.mv (.t 7)),aO 19 (.un .not (.t 18))]
def H9c:ACode:=.ops C5S
def C5T:List AOper:=[aO 20 (.build ([.i .i64 0,.i .i64 0,.i .i64 0,.i .i64 0,.i .i64 0,.i .i64 0,.i .i64 0,.i .i64 0,.i .i64 0,.i .i64 0,.i .i64 0]) []),{ dst:=none,op:=.storeN 11 (.t 4) (.t 20) }]
def H9e:ACode:=.ops C5T
def H9g:ACode:=.seq [4] H9e .ret
def H9i:ACode:=.cond (.t 19) H9g .skip
def H9k:ACode:=.seq [2,4,5,6,19] H9c H9i
def C5U:List AOper:=[aO 22 (.loadN 4 (.t 2)),aO 23 (.mv (.t 5)),aO 24 (.call 38 [(.t 22),(.t 23)]),aO 25 (.mv (.t 6)),aO 26 (.call 56 [(.t 24),(.t 25)]),aO 21 (.mv (.t 26)),aO 27 (.ext (.t 21) 0),aO 28 (.ext (.t 21) 1),aO 8 (.alloc ([.i .i64 0,.i .i64 0,.i .i64 0,.i .i64 0,.i .i64 0,.i .i64 0,.i .i64 0,.i .i64 0,.i .i64 0,.i .i64 0,.i .i64 0])),{ dst:=none,op:=.storeN 11 (.t 8) (.t 27) },aO 9 (.mv (.t 28))]
def H9m:ACode:=.ops C5U
def C5V:List AOper:=[aO 29 (.loadN 11 (.t 8)),{ dst:=none,op:=.storeN 11 (.t 4) (.t 29) }]
def H9o:ACode:=.ops C5V
def H9q:ACode:=.seq [4] H9o .ret
def H83:ACode:=.seq [4,8] H9m H9q
def H85:ACode:=.seq [2,4,5,6] H9k H83
def H87:ACode:=.seq [2,4,5,6,7] H82 H85
def H89:ACode:=.seq [1,2,4] H80 H87
def A_view_View_Inode:AFn:=⟨H89,[.cellN 4 11]⟩
def A03:B4:=A9 55 A3x (A9 38 Q0 (A9 56 A3Q C2))
def H81 (n:Nat):SmV:=A2 A03 C5Q
def H9b (n:Nat):SmV:=A2 A03 C5R
def H9d (n:Nat):SmV:=A2 A03 C5S
def H9f (n:Nat):SmV:=A2 A03 C5T
def H9h (n:Nat):SmV:=A1 [4] (H9f n) B5
def H9j (n:Nat):SmV:=B8 (.t 19) (H9h n) B9
def H9l (n:Nat):SmV:=A1 [2,4,5,6,19] (H9d n) (H9j n)
def H9n (n:Nat):SmV:=A2 A03 C5U
def H9p (n:Nat):SmV:=A2 A03 C5V
def H9r (n:Nat):SmV:=A1 [4] (H9p n) B5
def H84 (n:Nat):SmV:=A1 [4,8] (H9n n) (H9r n)
def H86 (n:Nat):SmV:=A1 [2,4,5,6] (H9l n) (H84 n)
def H88 (n:Nat):SmV:=A1 [2,4,5,6,7] (H9b n) (H86 n)
def H9a (n:Nat):SmV:=A1 [1,2,4] (H81 n) (H88 n)
def A3g (n:Nat) (args:List Val) (h:A0):A6:=(H9a n) A_view_View_Inode.fin (params 0 args) h
theorem B0Z (n:Nat) (a0 a1:Val) (h:A0):A3g n [a0,a1] h=bnd (cells? a0) fun c1=>bnd (B7 ((.c (.p h.length 0))) 0) fun v2=>bnd (A5 (((h ++ [some (Row.mk (c1) true)]) ++ [some (Row.mk ([.i .i64 0,.i .i64 0,.i .i64 0,.i .i64 0,.i .i64 0,.i .i64 0,.i .i64 0,.i .i64 0,.i .i64 0,.i .i64 0,.i .i64 0]) true)])) 3 v2) fun v3=>bnd (A3x [v3,a1] (((h ++ [some (Row.mk (c1) true)]) ++ [some (Row.mk ([.i .i64 0,.i .i64 0,.i .i64 0,.i .i64 0,.i .i64 0,.i .i64 0,.i .i64 0,.i .i64 0,.i .i64 0,.i .i64 0,.i .i64 0]) true)]))) fun p4=>bnd (C3 p4.1 0) fun v5=>bnd (C3 p4.1 1) fun v6=>bnd (C3 p4.1 2) fun v7=>bnd (aun .not v7) fun v8=>cnd v8 (bnd (B0 ([.i .i64 0,.i .i64 0,.i .i64 0,.i .i64 0,.i .i64 0,.i .i64 0,.i .i64 0,.i .i64 0,.i .i64 0,.i .i64 0,.i .i64 0]) []) fun c9=>bnd (B1 p4.2 11 ((.c (.p ((h ++ [some (Row.mk (c1) true)])).length 0))) ((.a c9))) fun h10=>mp (A5 h10 11 ((.c (.p ((h ++ [some (Row.mk (c1) true)])).length 0)))) fun v=>(v,h10)) (bnd (A5 p4.2 4 ((.c (.p h.length 0)))) fun v11=>bnd (Q0 [v11,v5] p4.2) fun p12=>bnd (A3Q [p12.1,v6] p12.2) fun p13=>bnd (C3 p13.1 0) fun v14=>bnd (C3 p13.1 1) fun v15=>bnd (B1 ((p13.2 ++ [some (Row.mk ([.i .i64 0,.i .i64 0,.i .i64 0,.i .i64 0,.i .i64 0,.i .i64 0,.i .i64 0,.i .i64 0,.i .i64 0,.i .i64 0,.i .i64 0]) true)])) 11 ((.c (.p p13.2.length 0))) v14) fun h16=>bnd (A5 h16 11 ((.c (.p p13.2.length 0)))) fun v17=>bnd (B1 h16 11 ((.c (.p ((h ++ [some (Row.mk (c1) true)])).length 0))) v17) fun h18=>mp (A5 h18 11 ((.c (.p ((h ++ [some (Row.mk (c1) true)])).length 0)))) fun v=>(v,h18)):=by kernel_rfl
theorem K_view_View_Inode:FnK Try.prog 17 A_view_View_Inode A03 A3g:=.mk' (B3 C76 (B3 A2M (B3 C83 C5))) Try.func17 (by kernel_rfl) (by intro n args h;kernel_rfl)
def A04:Fun:=tidy (Lim A_view_View_Inode A03)
theorem B1m:SOk Try.prog 17 A04:=K_view_View_Inode.sok
theorem B1l {n:Nat} {args:List Val} {h h2:A0} {v:Val} (he:A3g n args (ro h)=some (v,h2)) (hf:v.flat=true):A04 args h=some (v,h):=K_view_View_Inode.flat he hf
end Go.Proofs.Ytdgggnlbdoiloaa
end
section
namespace Go.Proofs.Ytdgggnlbdoiloaa
open Go Go.Esc
def IsView (h:A0) (f:Cell) (D:Dev):Prop:=∃ r q rw rw',f=.f 54 [(r,0)] ∧ rd h r=some ⟨[.sl q 0 D.length 256],rw⟩ ∧ rd h q=some ⟨C9 D,rw'⟩
theorem IsView.ro {h:A0} {f:Cell} {D:Dev} (hv:IsView h f D):IsView (ro h) f D:=by
  obtain ⟨r,q,rw,rw',e,h1,h2⟩:=hv
  exact ⟨r,q,false,false,e,A8d h1 rfl,A8d h2 (A4p D)⟩
theorem IsView.more {h:A0} {f:Cell} {D:Dev} (hv:IsView h f D) (l:A0):IsView (h ++ l) f D:=by
  obtain ⟨r,q,rw,rw',e,h1,h2⟩:=hv
  exact ⟨r,q,rw,rw',e,C0 h1,C0 h2⟩
theorem IsView.since {g h:A0} {f:Cell} {D:Dev} (hv:IsView g f D) (h1:Low g.length g h):IsView h f D:=by
  obtain ⟨r,q,rw,rw',e,h2,h3⟩:=hv
  exact ⟨r,q,rw,rw',e,h1.rd h2,h1.rd h3⟩
theorem IsView.get {h:A0} {f:Cell} {D:Dev} (hv:IsView h f D):∃ id cs,f=.f id cs:=by
  obtain ⟨r,q,rw,rw',e,_⟩:=hv
  exact ⟨_,_,e⟩
def vwC (b n m:Int) (f:Cell):List Cell:=[.i .i64 b,.i .i64 n,.i .u64 m,f]
section
variable {D:Dev} {n m:Int} {f:Cell}
theorem A8s {b:Int}:ldN (some (Row.mk (vwC b n m f) true)) 0 3=some (.a (E9 b n m)):=rfl
theorem A2x {b:Int}:ldN (some (Row.mk (vwC b n m f) true)) 0 4=some (.a (vwC b n m f)):=rfl
end
theorem H7Y {h:A0} {r q:Nat} {rw rw':Bool} {D:Dev} {no:Nat} (hD:okD D) (hno:no < D.length) (h1:rd h r=some ⟨[.sl q 0 D.length 256],rw⟩) (h2:rd h q=some ⟨C9 D,rw'⟩) :
    A3T [.c (.i .i64 (no:Int)),.c (.p r 0)] h=some (.a (A3 D[no]),h):=by
  have key:∀ g rw rw',rd g r=some ⟨[.sl q 0 D.length 256],rw⟩ → rd g q=some ⟨C9 D,rw'⟩ → ∃ g',A5Q 0 [.c (.i .i64 (no:Int)),.c (.p r 0)] g=some (.a (A3 D[no]),g'):=by
    intro g rw rw' h1 h2
    have hz:(List.replicate 256 (Cell.i .u8 0)).length=256:=List.length_replicate
    have hB:(A3 D[no]).length=256:=by rw [B6,hD.at hno]
    have l1:A8 (g ++ [some (Row.mk (List.replicate 256 (.i .u8 0)) true)]) (.c (.p r 0))=some (.c (.sl q 0 D.length 256)):=H8 (cs:=[.sl q 0 D.length 256]) (C0 h1) rfl (by cases rw <;> rfl)
    have a1:D1 256 (.c (.sl q 0 D.length 256)) (.c (.i .i64 (no:Int)))=some (.c (.p q (0 + no * 256))):=K0 hno
    have l2:A5 (g ++ [some (Row.mk (List.replicate 256 (.i .u8 0)) true)]) 256 (.c (.p q (0 + no * 256)))=some (.a (A3 D[no])):=by
      rw [A4i (cs:=C9 D) (rw:=rw') (C0 h2) (by rw [V8 hD];omega) (by
        rw [Nat.zero_add,A2e hD hno,R3];simp),Nat.zero_add,A2e hD hno]
    rw [Nat.zero_add] at a1 l2
    rw [C7d]
    generalize List.replicate 256 (Cell.i .u8 0)=z at *
    generalize A3 D[no]=y at *
    exact ⟨_,by simp only [esc,esh,Nat.reduceAdd,Nat.reduceMul,Nat.reduceLT,l1,a1,l2,hz,hB] <;> rfl⟩
  obtain ⟨g',e⟩:=key (ro h) false false (A8d h1 rfl) (A8d h2 (A4p D))
  exact C9a e (by simp [Val.flat])
theorem H9A {b n m no:Int} {f:Nat} {cs:List (Nat × Nat)} {h:A0}:A3U [.a (vwC b n m (.f f cs)),.c (.i .i64 no)] h=some (.c (.b (decide (0 ≤ no) && decide (no < b))),h):=by
  have key:∀ g,∃ g',A5T 0 [.a (vwC b n m (.f f cs)),.c (.i .i64 no)] g=some (.c (.b (decide (0 ≤ no) && decide (no < b))),g'):=by
    intro g
    rw [C7f]
    unfold vwC
    by_cases c1:0 ≤ no
    · exact ⟨_,by simp only [esc,esh,Nat.reduceAdd,Nat.reduceMul,Nat.reduceLT,c1] <;> rfl⟩
    · exact ⟨_,by simp only [esc,esh,Nat.reduceAdd,Nat.reduceMul,Nat.reduceLT,c1,Bool.false_and] <;> rfl⟩
  obtain ⟨g',e⟩:=key (ro h)
  exact C9d e rfl
theorem A4D {n m no:Int} {f:Cell} {D:Dev} {h:A0} (hD:okD D) (hv:IsView h f D):Q0 [.a (vwC D.length n m f),.c (.i .i64 no)] h=some (.a (A3 (blk D no)),h):=by
  have key:∀ g,IsView g f D → ∃ g',A5S 0 [.a (vwC D.length n m f),.c (.i .i64 no)] g=some (.a (A3 (blk D no)),g'):=by
    intro g hv
    have hz:(A3 (zeros 256)).length=256:=by rw [B6];exact zeros_length
    have hB:(A3 (blk D no)).length=256:=by rw [B6,A2T hD]
    obtain ⟨r,q,rw',rw'',rfl,h1,h2⟩:=hv
    have hT:=fun h=>H9A (b:=D.length) (n:=n) (m:=m) (no:=no) (f:=54) (cs:=[(r,0)]) (h:=h)
    have hcv:∀ (x:Val) (h:A0),L7 A02 (.c (.f 54 [(r,0)])) [x] h=A3T [x,.c (.p r 0)] h:=fun _ _=>Eq.trans rfl rfl
    rw [C7e,K2]
    by_cases c1:0 ≤ no ∧ no < D.length
    · have c2:=c1.1
      have c3:=c1.2
      obtain ⟨k,rfl⟩:∃ k:Nat,no=k:=⟨no.toNat,by omega⟩
      have e1:=C97 (D:=D) (i:=k) (by omega)
      have hO:=H7Y (h:=g ++ [some (Row.mk (vwC D.length n m (.f 54 [(r,0)])) true),some (Row.mk (A3 (zeros 256)) true)]) hD (show k < D.length by omega) (C0 h1) (C0 h2)
      rw [← e1] at hO
      simp only [c2,c3,decide_true,Bool.and_self] at hT
      generalize A3 (zeros 256)=z at *
      generalize A3 (blk D k)=y at *
      unfold vwC at *
      exact ⟨_,by simp only [esc,esh,Nat.reduceAdd,Nat.reduceMul,Nat.reduceLT,hT,hcv,hO,hz,hB] <;> rfl⟩
    · have e1:=C98 (D:=D) (i:=no) (by omega)
      have ht:(decide (0 ≤ no) && decide (no < (D.length:Int)))=false:=by
        rw [Bool.and_eq_false_iff,decide_eq_false_iff_not,decide_eq_false_iff_not];omega
      simp only [ht] at hT
      rw [e1] at hB ⊢
      have ef:B0 (A3 (zeros 256)) []=some (A3 (zeros 256)):=rfl
      generalize A3 (zeros 256)=z at *
      unfold vwC at *
      exact ⟨_,by simp only [esc,esh,Nat.reduceAdd,Nat.reduceMul,Nat.reduceLT,hT,ef,hz] <;> rfl⟩
  obtain ⟨g',e⟩:=key (ro h) hv.ro
  exact C9c e (by simp [Val.flat])
theorem C9U {h:A0} {id m sz:Nat} {ys:List Cell} {y:Val} (hr:rd h id=some ⟨[],true⟩) (hy:Has h y sz m ys) (hsz:0 < sz) (hn:m ≤ 1073741824) :
    F9 h sz (.c (.sl id 0 0 sz)) y=some (.c (.sl h.length 0 m sz),h.set id none ++ [some ⟨ys,true⟩]):=by
  have h1:=hy.add
  have h2:ys.length / sz=m:=by rw [hy.length];exact Nat.mul_div_cancel m hsz
  simp only [F9,h1,hr,Option.bind_some,h2,List.nil_append,Nat.zero_add]
  rw [if_pos ⟨trivial,trivial,by simp,trivial,hn⟩]
def A1c (D:Dev):Bool:=okS (D.headD []) && decide (fieldN (D.headD []) 8 2=D.length)
def A6r (D:Dev):Int:=fieldN (D.headD []) 10 2
def A6q (D:Dev):Int:=fieldN (D.headD []) 12 8
theorem H8E {v:Val} {h:A0} (hv:Has h v 256 0 []):∃ t,Z7 [v] h=some (.t [.a (vwC 0 0 0 .nf),.c (.i .i64 13)],h ++ t):=by
  have ef:B0 [Cell.i .i64 0,.i .i64 0,.i .u64 0,.nf] []=some [Cell.i .i64 0,.i .i64 0,.i .u64 0,.nf]:=rfl
  have hl:=hv.len
  rw [show ((0:Nat):Int)=0 from rfl] at hl
  exact ⟨_,A5Y (n:=0) (by rw [A5R];simp only [esc,esh,Nat.reduceAdd,Nat.reduceMul,Nat.reduceLT,hl,ef,vwC] <;> rfl)⟩
theorem F8N {b:List UInt8} (h:okS b=false):A1l b=E9 0 0 0:=by unfold A1l;rw [h];rfl
theorem B94 {b:List UInt8} (h:okS b=true):A1l b=E9 (fieldN b 8 2) (fieldN b 10 2) (fieldN b 12 8):=by unfold A1l;rw [h];rfl
theorem H8F {v:Val} {D:Dev} {h:A0} (hv:Has h v 256 D.length (C9 D)) (hD:okD D) (h0:0 < D.length) (hn:A1c D=false):∃ t,Z7 [v] h=some (.t [.a (vwC 0 0 0 .nf),.c (.i .i64 13)],h ++ t):=by
  have ef:B0 [Cell.i .i64 0,.i .i64 0,.i .u64 0,.nf] []=some [Cell.i .i64 0,.i .i64 0,.i .u64 0,.nf]:=rfl
  have hl:=hv.len
  have hv2:=hv.more [some (Row.mk [.i .i64 0,.i .i64 0,.i .u64 0,.nf] true)]
  obtain ⟨b,E,rfl⟩:∃ b E,D=b :: E:=by cases D with | nil=>simp at h0 | cons b E=>exact ⟨b,E,rfl⟩
  obtain ⟨id,off,rfl,hid,_,hB⟩:=hv2.sl h0
  have hBl:(A3 b).length=256:=by rw [B6,hD.cons.1]
  have l2:=hB 0 256 (by rw [V8 hD];omega)
  have ec:((C9 (b :: E)).drop 0).take 256=A3 b:=by
    have:=A2e (i:=0) hD h0
    rwa [Nat.zero_mul] at this
  rw [ec,Nat.add_zero] at l2
  have a1:D1 256 (.c (.sl id off (b :: E).length 256)) (.c (.i .i64 0))=some (.c (.p id off)):=by
    have:=K0 (k:=.i64) (id:=id) (off:=off) (sz:=256) (j:=0) (len:=(b :: E).length) h0
    rwa [Nat.zero_mul,Nat.add_zero] at this
  have hG:=fun h=>C4H (h:=h) hD.cons.1
  have c0:¬ (((b :: E).length:Nat):Int)=0:=by omega
  have n13:¬ (13:Int)=0:=by decide
  unfold A1c at hn
  simp only [List.headD_cons] at hn
  cases ho:okS b with
  | false =>
    simp only [ho,F8N ho,cond_false] at hG
    refine ⟨[some (Row.mk [.i .i64 0,.i .i64 0,.i .u64 0,.nf] true),some (Row.mk [.i .i64 0,.i .i64 0,.i .u64 0] true)],A5Y (n:=0) ?_⟩
    rw [A5R]
    generalize (b :: E).length=N at *
    generalize A3 b=y at *
    unfold E9 at *
    simp only [esc,esh,Nat.reduceAdd,Nat.reduceMul,Nat.reduceLT,ef,vwC,l2,a1,hG,n13,eq_self,c0] <;> rfl
  | true =>
    rw [ho,Bool.true_and] at hn
    replace hn:=of_decide_eq_false hn
    simp only [ho,B94 ho,cond_true] at hG
    refine ⟨[some (Row.mk [.i .i64 0,.i .i64 0,.i .u64 0,.nf] true),some (Row.mk [.i .i64 (fieldN b 8 2),.i .i64 (fieldN b 10 2),.i .u64 (fieldN b 12 8)] true)],A5Y (n:=0) ?_⟩
    rw [A5R]
    generalize (b :: E).length=N at *
    generalize A3 b=y at *
    generalize fieldN b 8 2=n1 at *
    unfold E9 at *
    simp only [esc,esh,Nat.reduceAdd,Nat.reduceMul,Nat.reduceLT,ef,vwC,l2,a1,hG,n13,eq_self,c0,hn] <;> rfl
theorem H7Z {v:Val} {D:Dev} {h:A0} (hv:Has h v 256 D.length (C9 D)) (hD:okD D) (hn:A1c D=false):∃ t,Z7 [v] h=some (.t [.a (vwC 0 0 0 .nf),.c (.i .i64 13)],h ++ t):=by
  by_cases h0:D=[]
  · subst h0;exact H8E hv
  · exact H8F hv hD (List.length_pos_iff.2 h0) hn
theorem C5L {v:Val} {D:Dev} {h:A0} (hv:Has h v 256 D.length (C9 D)) (hD:okD D) (hn:A1c D=true) (h60:D.length ≤ 1073741824) :
    ∃ f t,Z7 [v] h=some (.t [.a (vwC D.length (A6r D) (A6q D) f),.c (.i .i64 0)],h ++ t) ∧ IsView (h ++ t) f D:=by
  obtain ⟨b,E,rfl⟩:∃ b E,D=b :: E:=by
    cases D with
    | nil=>simp only [A1c,List.headD_nil,List.length_nil,Bool.and_eq_true,decide_eq_true_eq] at hn;exact absurd hn.1 (by decide)
    | cons b E=>exact ⟨b,E,rfl⟩
  have h0:0 < (b :: E).length:=by simp
  have hv2:=hv.more [some (Row.mk [.i .i64 0,.i .i64 0,.i .u64 0,.nf] true)]
  unfold A1c at hn
  simp only [List.headD_cons,Bool.and_eq_true,decide_eq_true_eq] at hn
  have ho:=hn.1
  have hn2:=of_decide_eq_true hn.2
  have hv3:=hv.more [some (Row.mk [.i .i64 0,.i .i64 0,.i .u64 0,.nf] true),some (Row.mk (E9 (b :: E).length (fieldN b 10 2) (fieldN b 12 8)) true),some (Row.mk [] true)]
  obtain ⟨id,off,rfl,hid,_,hB⟩:=hv2.sl h0
  have hBl:(A3 b).length=256:=by rw [B6,hD.cons.1]
  have l2:=hB 0 256 (by rw [V8 hD];omega)
  have ec:((C9 (b :: E)).drop 0).take 256=A3 b:=by
    have:=A2e (i:=0) hD h0
    rwa [Nat.zero_mul] at this
  rw [ec,Nat.add_zero] at l2
  have a1:D1 256 (.c (.sl id off (b :: E).length 256)) (.c (.i .i64 0))=some (.c (.p id off)):=by
    have:=K0 (k:=.i64) (id:=id) (off:=off) (sz:=256) (j:=0) (len:=(b :: E).length) h0
    rwa [Nat.zero_mul,Nat.add_zero] at this
  have hG:=fun h=>C4H (h:=h) hD.cons.1
  have c0:¬ (((b :: E).length:Nat):Int)=0:=by omega
  have n13:¬ (13:Int)=0:=by decide
  simp only [ho,B94 ho,cond_true,hn2] at hG
  have eN:A6r (b :: E)=fieldN b 10 2:=rfl
  have eM:A6q (b :: E)=fieldN b 12 8:=rfl
  have hA:=C9U (id:=h.length + 2) (by simp) hv3 (by omega) h60
  have ef1:B0 ([]:List Cell) []=some []:=rfl
  have hlt:id < h.length:=by
    rcases hv with ⟨e,_⟩ | ⟨i,o,r,e,hr,_⟩
    · cases e
    · cases e;exact D2 hr
  rw [eN,eM]
  unfold IsView
  generalize C9 (b :: E)=C at *
  have emk:V4 54 [.c (.p (h.length + 4) 0)]=some (.c (.f 54 [(h.length + 4,0)])):=rfl
  refine ⟨.f 54 [(h.length + 4,0)],[some (Row.mk (vwC (b :: E).length (fieldN b 10 2) (fieldN b 12 8) (.f 54 [(h.length + 4,0)])) true),some (Row.mk (E9 (b :: E).length (fieldN b 10 2) (fieldN b 12 8)) true),none,some (Row.mk C true),some (Row.mk [.sl (h.length + 3) 0 (b :: E).length 256] true)],A5Y (n:=0) ?_,h.length + 4,h.length + 3,true,true,rfl,A2s,A2s⟩
  rw [A5R]
  generalize (b :: E).length=N at *
  generalize A3 b=y at *
  generalize fieldN b 10 2=n1 at *
  generalize fieldN b 12 8=n2 at *
  have ef2:∀ x,B0 [Cell.i .i64 0,.i .i64 0,.i .u64 0,.nf] [(0,3,.a [.i .i64 (N:Int),.i .i64 n1,.i .u64 n2]),(3,1,.c x)]=some [.i .i64 (N:Int),.i .i64 n1,.i .u64 n2,x]:=fun _=>rfl
  unfold E9 vwC at *
  simp only [esc,esh,Nat.reduceAdd,Nat.reduceMul,Nat.reduceLT] at hA
  simp only [esc,esh,Nat.reduceAdd,Nat.reduceMul,Nat.reduceLT,l2,a1,hG,n13,eq_self,c0,hA,ef1,ef2,emk] <;> rfl
end Go.Proofs.Ytdgggnlbdoiloaa
end
section
namespace Go.Proofs.Ytdgggnlbdoiloaa
open Go Go.Esc
def zI (n:Nat):List Int:=List.replicate n 0
theorem N6 {n:Nat}:(zI n).length=n:=by simp [zI]
end Go.Proofs.Ytdgggnlbdoiloaa
end
section
namespace Go.Proofs.Ytdgggnlbdoiloaa
open Go Go.Esc
abbrev A7 (k l s p:Int) (d:List Int):List Cell:=.i .i64 k :: .i .i64 l :: .i .i64 s :: .i .i64 p :: encI d
def Z0 (n:Int):Bool:=decide (0 ≤ n) && decide (n ≤ 65535)
theorem A1j {n:Int} {h:A0}:A1S [.c (.i .i64 n)] h=some (.c (.b (Z0 n)),h):=by
  refine C8t (n:=0) (h2:=ro h) ?_ rfl
  rw [C6M]
  unfold Z0
  by_cases c:0 ≤ n
  · simp only [esc,c,Bool.true_and]
  · simp only [esc,c,Bool.false_and]
theorem C3n {g:A0} {k l s p:Int} {d:List Int} {z:List Cell} {q:Nat} (hd:d.length=7) (hz:z.length=7):∀ e i m:Nat,i + e=6 → e < m →
    A7e q m (.c (.p g.length 0)) (.c (.p (g.length + 1) 0)) (.c (.p (g.length + 2) 0)) (.a (encI (d.take 6))) (.c (.i .i64 i)) (g ++ [some ⟨A7 k l s p d,true⟩,some ⟨z,true⟩,some ⟨encI (d.take i ++ zI (7 - i)),true⟩]) =
      some (.a (encI d),g ++ [some ⟨A7 k l s p d,true⟩,some ⟨encI d,true⟩,some ⟨encI d,true⟩])
  | e,i,0,_,hm=>by omega
  | 0,i,m + 1,hi,hm=>by
    have e0:i=6:=by omega
    subst e0
    have h1':¬ ((6:Nat):Int) < 6:=by omega
    have l1:(A7 k l s p d)[10]? = some (.i .i64 d[6]):=by
      have:(encI d)[6]? = some (.i .i64 d[6]):=by rw [V9,List.getElem?_eq_getElem (by omega)];rfl
      exact this
    have a1:D6 7 1 (.c (.p (g.length + 2) 0)) (.c (.i .i64 6))=some (.c (.p (g.length + 2) 6)):=rfl
    have ho:6 < (encI (d.take 6 ++ zI (7 - 6))).length:=by rw [F6,List.length_append,N6,List.length_take];omega
    have es:(encI (d.take 6 ++ zI (7 - 6))).set 6 (.i .i64 d[6])=encI d:=by
      rw [A6K]
      congr 1
      have h6:(d.take 6).length=6:=by simp;omega
      rw [List.set_append_right _ _ (by omega),h6]
      have:d=d.take 6 ++ [d[6]]:=by
        rw [← List.take_succ_eq_append_getElem (by omega),List.take_of_length_le (by omega)]
      conv=>rhs;rw [this]
      rfl
    have hl:(encI d).length=7:=by rw [F6,hd]
    rw [B9l]
    simp only [esc,esh,Nat.reduceAdd,Nat.reduceMul,Nat.reduceLT,h1',l1,a1,ho,es,hl,hz]
  | e + 1,i,m + 1,hi,hm=>by
    have ih:=C3n (g:=g) (k:=k) (l:=l) (s:=s) (p:=p) (q:=q) hd hz e (i + 1) m (by omega) (by omega)
    have h1':(i:Int) < 6:=by omega
    have hx:T8 6 (.a (encI (d.take 6))) (.c (.i .i64 (i:Int)))=some (.c (.i .i64 d[i])):=by
      rw [A6V (by omega),V9,List.getElem?_take_of_lt (by omega),List.getElem?_eq_getElem (by omega)];rfl
    have a1:D6 7 1 (.c (.p (g.length + 2) 0)) (.c (.i .i64 (i:Int)))=some (.c (.p (g.length + 2) i)):=by rw [R0 (by omega)];simp
    have ho:i < (encI (d.take i ++ zI (7 - i))).length:=by rw [F6,List.length_append,N6,List.length_take];omega
    have es:(encI (d.take i ++ zI (7 - i))).set i (.i .i64 d[i])=encI (d.take (i + 1) ++ zI (7 - (i + 1))):=by
      rw [A6K]
      refine congrArg encI ?_
      have h6:(d.take i).length=i:=by simp;omega
      rw [List.set_append_right _ _ (by omega),h6,Nat.sub_self,List.take_succ_eq_append_getElem (by omega),List.append_assoc]
      refine congrArg (d.take i ++ ·) ?_
      rw [show 7 - i=7 - (i + 1) + 1 by omega]
      unfold zI
      rw [List.replicate_succ,List.set_cons_zero];rfl
    rw [B9l]
    simp only [esc,esh,Nat.reduceAdd,Nat.reduceMul,Nat.reduceLT,h1',hx,a1,ho,es,F4 (show i + 1 < 9223372036854775808 by omega)]
    exact ih
theorem F3H {k l s p:Int} {d:List Int} (hd:d.length=7):ldN (some ⟨A7 k l s p d,true⟩) 4 6=some (.a (encI (d.take 6))):=by
  have h1:(A7 k l s p d).length=11:=by simp [F6,hd]
  simp only [ldN,Option.bind_some]
  rw [if_pos ⟨by omega,by simp⟩]
  simp only [List.drop_succ_cons,List.drop_zero]
  unfold encI
  rw [List.map_take]
theorem B0d {k l s p:Int} {d:List Int} {h:A0} (hd:d.length=7):A1Q [.a (A7 k l s p d)] h=some (.a (encI d),h):=by
  have key:∀ N,7 < N → ∀ g,∃ g',A5v N [.a (A7 k l s p d)] g=some (.a (encI d),g'):=by
    intro N hN g
    have:=C3n (g:=g) (k:=k) (l:=l) (s:=s) (p:=p) (z:=encI (zI 7)) (q:=N) hd (by rw [F6,N6]) 6 0 N (by omega) (by omega)
    have e0:encI (d.take 0 ++ zI (7 - 0))=[Cell.i .i64 0,.i .i64 0,.i .i64 0,.i .i64 0,.i .i64 0,.i .i64 0,.i .i64 0]:=rfl
    have e1:encI (zI 7)=[Cell.i .i64 0,.i .i64 0,.i .i64 0,.i .i64 0,.i .i64 0,.i .i64 0,.i .i64 0]:=rfl
    rw [e0,e1] at this
    rw [C6K]
    exact ⟨_,by simp only [esc,esh,Nat.reduceAdd,Nat.reduceMul,Nat.reduceLT,F3H hd];exact this⟩
  obtain ⟨g',e⟩:=key (h.length + 8) (by omega) (ro h)
  exact C8r e (by simp)
def A8u (l s p:Int) (d:List Int):Bool:=decide (l=0 ∧ s=0 ∧ p=0 ∧ d=zI 7)
def C30 (k l s p:Int) (d:List Int):Bool:=decide (0 ≤ k ∧ k ≤ 2) && (Z0 l && (Z0 p && (decide (0 ≤ s ∧ s ≤ 34304) && d.all Z0)))
def W4 (k l s p:Int) (d:List Int):Bool:=if k=0 then A8u l s p d else C30 k l s p d
theorem B3O {h:A0} {d:List Int} {q:Nat} (hd:d.length=7):∀ e i m:Nat,i + e=7 → e < m →
    A7a q m (.a (encI d)) (.c (.i .i64 i)) h=some (.c (.i .i64 (bif (d.drop i).all Z0 then 0 else 1)),h)
  | e,i,0,_,hm=>by omega
  | 0,i,m + 1,hi,hm=>by
    have c0:¬ (i:Int) < 7:=by omega
    rw [B8M,List.drop_of_length_le (by omega)]
    simp only [esc,c0,List.all_nil]
  | e + 1,i,m + 1,hi,hm=>by
    have ih:=B3O (h:=h) (q:=q) hd e (i + 1) m (by omega) (by omega)
    have c0:(i:Int) < 7:=by omega
    have hx:T8 7 (.a (encI d)) (.c (.i .i64 (i:Int)))=some (.c (.i .i64 d[i])):=by
      rw [A6V (by omega),V9,List.getElem?_eq_getElem (by omega)];rfl
    rw [B8M,List.drop_eq_getElem_cons (by omega),List.all_cons]
    cases c1:Z0 d[i] with
    | true =>
      simp only [esc,c0,hx,A1j,c1,Bool.true_and,F4 (show i + 1 < 9223372036854775808 by omega)]
      exact ih
    | false=>simp only [esc,c0,hx,A1j,c1,Bool.false_and]
theorem C9D {k l s p k' l' s' p':Int} {d d':List Int} {neg:Bool} (hd:d.length=7) (hd':d'.length=7) :
    aeq neg [Sh.i .i64,.i .i64,.i .i64,.i .i64,.i .i64,.i .i64,.i .i64,.i .i64,.i .i64,.i .i64,.i .i64] (.a (A7 k l s p d)) (.a (A7 k' l' s' p' d'))=some (.c (.b (bif neg then !decide (k :: l :: s :: p :: d=k' :: l' :: s' :: p' :: d') else decide (k :: l :: s :: p :: d=k' :: l' :: s' :: p' :: d')))):=by
  have h1:=C9y (l:=k :: l :: s :: p :: d) (m:=k' :: l' :: s' :: p' :: d') (n:=11) (by simp [hd]) (by simp [hd'])
  have h2:=C9x (l:=k :: l :: s :: p :: d) (m:=k' :: l' :: s' :: p' :: d') (n:=11) (by simp [hd]) (by simp [hd'])
  cases neg
  · exact h2
  · exact h1
theorem H9F {l s p:Int} {d:List Int}:decide ((0:Int) :: l :: s :: p :: d=0 :: 0 :: 0 :: 0 :: zI 7)=A8u l s p d:=by
  unfold A8u
  simp
theorem A89:B0 [Cell.i .i64 0,.i .i64 0,.i .i64 0,.i .i64 0,.i .i64 0,.i .i64 0,.i .i64 0,.i .i64 0,.i .i64 0,.i .i64 0,.i .i64 0] []=some (A7 0 0 0 0 (zI 7)):=rfl
theorem B8L {k l s p:Int} {d:List Int} {h:A0} (hd:d.length=7):A3D [.a (A7 k l s p d)] h=some (.c (.i .i64 (bif W4 k l s p d then 0 else 1)),h):=by
  have hlen:(A7 k l s p d).length=11:=by simp [F6,hd]
  have key:∀ N,8 < N → ∀ g,∃ g',A5s N [.a (A7 k l s p d)] g=some (.c (.i .i64 (bif W4 k l s p d then 0 else 1)),g'):=by
    intro N hN g
    have lp:=fun g=>B3O (h:=g) (q:=N) hd 7 0 N (by omega) (by omega)
    simp only [List.drop_zero,Int.cast_ofNat_Int] at lp
    rw [C6H]
    unfold W4
    by_cases k0:k=0
    · subst k0
      rw [if_pos rfl]
      have c1:¬ (0:Int) < 0:=by omega
      have c2:¬ (2:Int) < 0:=by omega
      have hq:=C9D (k:=0) (l:=l) (s:=s) (p:=p) (k':=0) (l':=0) (s':=0) (p':=0) (neg:=true) hd (N6 (n:=7))
      simp only [cond_true,H9F] at hq
      cases hz:A8u l s p d with
      | false =>
        rw [hz] at hq
        exact ⟨_,by simp only [esc,esh,Nat.reduceAdd,Nat.reduceMul,Nat.reduceLT,c1,c2,hlen,A89,hq] <;> rfl⟩
      | true =>
        rw [hz] at hq
        have hz':=of_decide_eq_true hz
        obtain ⟨rfl,rfl,rfl,rfl⟩:=hz'
        have sm:Z0 0=true:=by decide
        have al:(zI 7).all Z0=true:=by decide
        have c3:¬ (34304:Int) < 0:=by omega
        rw [al] at lp
        exact ⟨_,by simp only [esc,esh,Nat.reduceAdd,Nat.reduceMul,Nat.reduceLT,c1,c2,c3,hlen,A89,hq,A1j,sm,B0d hd,lp] <;> rfl⟩
    · rw [if_neg k0]
      unfold C30
      by_cases c1:k < 0
      · rw [decide_eq_false (show ¬ (0 ≤ k ∧ k ≤ 2) by omega)]
        exact ⟨_,by simp only [esc,esh,Nat.reduceAdd,Nat.reduceMul,Nat.reduceLT,c1,Bool.false_and] <;> rfl⟩
      · by_cases c2:2 < k
        · rw [decide_eq_false (show ¬ (0 ≤ k ∧ k ≤ 2) by omega)]
          exact ⟨_,by simp only [esc,esh,Nat.reduceAdd,Nat.reduceMul,Nat.reduceLT,c1,c2,Bool.false_and] <;> rfl⟩
        · rw [decide_eq_true (show 0 ≤ k ∧ k ≤ 2 by omega),Bool.true_and]
          cases sl:Z0 l with
          | false=>exact ⟨_,by simp only [esc,esh,Nat.reduceAdd,Nat.reduceMul,Nat.reduceLT,c1,c2,k0,A1j,sl,Bool.false_and] <;> rfl⟩
          | true =>
            cases sp:Z0 p with
            | false=>exact ⟨_,by simp only [esc,esh,Nat.reduceAdd,Nat.reduceMul,Nat.reduceLT,c1,c2,k0,A1j,sl,sp,Bool.true_and,Bool.false_and] <;> rfl⟩
            | true =>
              by_cases c3:s < 0
              · rw [decide_eq_false (show ¬ (0 ≤ s ∧ s ≤ 34304) by omega)]
                exact ⟨_,by simp only [esc,esh,Nat.reduceAdd,Nat.reduceMul,Nat.reduceLT,c1,c2,k0,A1j,sl,sp,c3,Bool.true_and,Bool.false_and] <;> rfl⟩
              · by_cases c4:34304 < s
                · rw [decide_eq_false (show ¬ (0 ≤ s ∧ s ≤ 34304) by omega)]
                  exact ⟨_,by simp only [esc,esh,Nat.reduceAdd,Nat.reduceMul,Nat.reduceLT,c1,c2,k0,A1j,sl,sp,c3,c4,Bool.true_and,Bool.false_and] <;> rfl⟩
                · rw [decide_eq_true (show 0 ≤ s ∧ s ≤ 34304 by omega)]
                  exact ⟨_,by simp only [esc,esh,Nat.reduceAdd,Nat.reduceMul,Nat.reduceLT,c1,c2,k0,A1j,sl,sp,c3,c4,Bool.true_and,hlen,B0d hd,lp] <;> rfl⟩
  obtain ⟨g',e⟩:=key (h.length + 9) (by omega) (ro h)
  exact C8l e rfl
def O9 (k l s p:Int):List UInt8:=C1 1 k ++ zeros 1 ++ C1 2 l ++ C1 4 s ++ C1 2 p
def M7 (d:List Int):List UInt8:=(d.map (C1 2)).flatten
def I3 (k l s p:Int) (d:List Int):List UInt8:=O9 k l s p ++ M7 d ++ zeros 8
theorem A4c {k l s p:Int}:(O9 k l s p).length=10:=by simp [O9]
theorem A68 {d:List Int}:(M7 d).length=2 * d.length:=by
  unfold M7
  induction d with
  | nil=>rfl
  | cons x d ih=>simp only [List.map_cons,List.flatten_cons,List.length_append,A2c,List.length_cons,ih];omega
theorem A4b {k l s p:Int} {d:List Int} (hd:d.length=7):(I3 k l s p d).length=32:=by
  unfold I3;rw [List.length_append,List.length_append,A4c,A68,zeros_length,hd]
theorem F3F {d:List Int} {x:Int}:M7 (d ++ [x])=M7 d ++ C1 2 x:=by simp [M7]
theorem F3G {k l s p:Int}:J7 (J7 (J7 (J7 (zeros 256) 0 1 k) 2 2 l) 4 4 s) 8 2 p=C8 256 (O9 k l s p):=by
  rw [← H0y]
  have h1:=A0q (l:=[]) (a:=0) (w:=1) (v:=k) (by simp) (by omega) (by omega) (by omega)
  have h2:=A0q (l:=[] ++ zeros (0 - 0) ++ C1 1 k) (a:=2) (w:=2) (v:=l) (by simp) (by omega) (by omega) (by omega)
  have h3:=A0q (l:=[] ++ zeros (0 - 0) ++ C1 1 k ++ zeros 1 ++ C1 2 l) (a:=4) (w:=4) (v:=s) (by simp) (by omega) (by omega) (by omega)
  have h4:=A0q (l:=[] ++ zeros (0 - 0) ++ C1 1 k ++ zeros 1 ++ C1 2 l ++ zeros 0 ++ C1 4 s) (a:=8) (w:=2) (v:=p) (by simp) (by omega) (by omega) (by omega)
  simp only [List.length_append,List.length_nil,zeros_length,A2c,Nat.sub_self,Nat.zero_sub,Nat.reduceAdd,Nat.reduceSub] at h1 h2 h3 h4
  simp only [Int.cast_ofNat_Int] at h1 h2 h3 h4
  rw [h1,h2,h3,h4]
  congr 1
theorem C3R {g:A0} {c0:List Cell} {B:List UInt8} {z:List Cell} {q:Nat} (hB:B.length=256) (hz:z.length=32):∀ e i m:Nat,i + e=32 → e < m →
    A7i q m (.c (.p (g.length + 1) 0)) (.c (.p (g.length + 2) 0)) (.c (.p (g.length + 3) 0)) (.c (.i .i64 i)) (g ++ [some ⟨c0,true⟩,some ⟨z,true⟩,some ⟨A3 (B.take i ++ zeros (32 - i)),true⟩,some ⟨A3 B,true⟩]) =
      some (.t [.a (A3 (B.take 32)),.c (.i .i64 0)],g ++ [some ⟨c0,true⟩,some ⟨A3 (B.take 32),true⟩,some ⟨A3 (B.take 32),true⟩,some ⟨A3 B,true⟩])
  | e,i,0,_,hm=>by omega
  | 0,i,m + 1,hi,hm=>by
    have e0:i=32:=by omega
    subst e0
    have h1':¬ ((32:Nat):Int) < 32:=by omega
    have hl:(A3 (B.take 32)).length=32:=by rw [B6,List.length_take];omega
    have e1:A3 (B.take 32 ++ zeros (32 - 32))=A3 (B.take 32):=by simp [zeros]
    rw [B9B,e1]
    simp only [esc,esh,Nat.reduceAdd,Nat.reduceMul,Nat.reduceLT,h1',hl,hz]
  | e + 1,i,m + 1,hi,hm=>by
    have ih:=C3R (g:=g) (c0:=c0) (q:=q) hB hz e (i + 1) m (by omega) (by omega)
    have h1':(i:Int) < 32:=by omega
    have a1:D6 256 1 (.c (.p (g.length + 3) 0)) (.c (.i .i64 (i:Int)))=some (.c (.p (g.length + 3) i)):=by rw [R0 (by omega)];simp
    have a2:D6 32 1 (.c (.p (g.length + 2) 0)) (.c (.i .i64 (i:Int)))=some (.c (.p (g.length + 2) i)):=by rw [R0 (by omega)];simp
    have l1:(A3 B)[i]? = some (.i .u8 B[i].toNat):=by rw [A2i,List.getElem?_eq_getElem (by omega)];rfl
    have ho:i < (A3 (B.take i ++ zeros (32 - i))).length:=by rw [B6,List.length_append,zeros_length,List.length_take];omega
    have es:(A3 (B.take i ++ zeros (32 - i))).set i (.i .u8 B[i].toNat)=A3 (B.take (i + 1) ++ zeros (32 - (i + 1))):=by
      rw [A0e]
      refine congrArg A3 ?_
      have h6:(B.take i).length=i:=by simp;omega
      rw [List.set_append_right _ _ (by omega),h6,Nat.sub_self,List.take_succ_eq_append_getElem (by omega),List.append_assoc]
      refine congrArg (B.take i ++ ·) ?_
      rw [show 32 - i=32 - (i + 1) + 1 by omega]
      unfold zeros
      rw [List.replicate_succ,List.set_cons_zero];rfl
    rw [B9B]
    simp only [esc,esh,Nat.reduceAdd,Nat.reduceMul,Nat.reduceLT,h1',a1,a2,l1,ho,es,F4 (show i + 1 < 9223372036854775808 by omega)]
    exact ih
theorem C3S {g:A0} {k l s p:Int} {d:List Int} {c0 z:List Cell} {q:Nat} (hd:d.length=7) (hz:z.length=32) (hq:33 < q):∀ e i m:Nat,i + e=7 → e < m →
    A7h q m (.c (.p (g.length + 1) 0)) (.c (.p (g.length + 2) 0)) (.c (.p (g.length + 3) 0)) (.a (encI d)) (.c (.i .i64 i)) (g ++ [some ⟨c0,true⟩,some ⟨z,true⟩,some ⟨A3 (zeros 32),true⟩,some ⟨A3 (C8 256 (O9 k l s p ++ M7 (d.take i))),true⟩]) =
      some (.t [.a (A3 (I3 k l s p d)),.c (.i .i64 0)],g ++ [some ⟨c0,true⟩,some ⟨A3 (I3 k l s p d),true⟩,some ⟨A3 (I3 k l s p d),true⟩,some ⟨A3 (C8 256 (O9 k l s p ++ M7 d)),true⟩])
  | e,i,0,_,hm=>by omega
  | 0,i,m + 1,hi,hm=>by
    have e0:i=7:=by omega
    subst e0
    have h1':¬ ((7:Nat):Int) < 7:=by omega
    rw [List.take_of_length_le (by omega)]
    have hlen:(O9 k l s p ++ M7 d).length=24:=by rw [List.length_append,A4c,A68,hd]
    have:=C3R (g:=g) (c0:=c0) (z:=z) (q:=q) (B:=C8 256 (O9 k l s p ++ M7 d)) (I5 (by omega)) hz 32 0 q (by omega) (by omega)
    have e1:(C8 256 (O9 k l s p ++ M7 d)).take 32=I3 k l s p d:=by
      unfold C8 I3
      rw [List.take_append,List.take_of_length_le (by omega),hlen]
      refine congrArg (O9 k l s p ++ M7 d ++ ·) ?_
      unfold zeros
      rw [List.take_replicate];rfl
    rw [e1] at this
    simp only [List.take_zero,List.nil_append,Nat.sub_zero] at this
    rw [B9A]
    simp only [esc,h1']
    exact this
  | e + 1,i,m + 1,hi,hm=>by
    have ih:=C3S (g:=g) (k:=k) (l:=l) (s:=s) (p:=p) (c0:=c0) hd hz hq e (i + 1) m (by omega) (by omega)
    have h1':(i:Int) < 7:=by omega
    have hx:T8 7 (.a (encI d)) (.c (.i .i64 (i:Int)))=some (.c (.i .i64 d[i])):=by
      rw [A6V (by omega),V9,List.getElem?_eq_getElem (by omega)];rfl
    have hlen:(O9 k l s p ++ M7 (d.take i)).length=10 + 2 * i:=by rw [List.length_append,A4c,A68,List.length_take];omega
    have hL:(A3 (C8 256 (O9 k l s p ++ M7 (d.take i)))).length=256:=by rw [B6,I5 (by omega)]
    have e2:IntKind.wrap .i64 (2 * (i:Int))=((2 * i:Nat):Int):=by rw [wrap_i64 (by omega) (by omega)];omega
    have e3:IntKind.wrap .i64 (10 + ((2 * i:Nat):Int))=((10 + 2 * i:Nat):Int):=by rw [wrap_i64 (by omega) (by omega)];omega
    have hw:=A0k (l:=C8 256 (O9 k l s p ++ M7 (d.take i))) (h:=g ++ [some ⟨c0,true⟩,some ⟨z,true⟩,some ⟨A3 (zeros 32),true⟩,some ⟨A3 (C8 256 (O9 k l s p ++ M7 (d.take i))),true⟩]) (I5 (by omega)) (a:=((10 + 2 * i:Nat):Int)) (w:=2) (v:=d[i])
    have e4:=A0q (l:=O9 k l s p ++ M7 (d.take i)) (a:=10 + 2 * i) (w:=2) (v:=d[i]) (by omega) (by omega) (by omega) (by omega)
    rw [show ((2:Nat):Int)=2 from rfl,hlen,Nat.sub_self,show zeros 0=[] from rfl,List.append_nil,List.append_assoc,← F3F,← List.take_succ_eq_append_getElem (by omega)] at e4
    rw [e4] at hw
    have hL':(A3 (C8 256 (O9 k l s p ++ M7 (d.take (i + 1))))).length=256:=by
      rw [B6,I5 (by rw [List.length_append,A4c,A68,List.length_take];omega)]
    rw [B9A]
    simp only [esc,esh,Nat.reduceAdd,Nat.reduceMul,Nat.reduceLT,h1',hx,hL,e2,e3,hw,hL',F4 (show i + 1 < 9223372036854775808 by omega)]
    exact ih
theorem B9z {k l s p:Int} {d:List Int} {h:A0} (hd:d.length=7) :
    A1R [.a (A7 k l s p d)] h=some (.t [.a (A3 (bif W4 k l s p d then I3 k l s p d else zeros 32)),.c (.i .i64 (bif W4 k l s p d then 0 else 1))],h):=by
  have hlen:(A7 k l s p d).length=11:=by simp [F6,hd]
  have key:∀ N,33 < N → ∀ g,∃ g',A5w N [.a (A7 k l s p d)] g=some (.t [.a (A3 (bif W4 k l s p d then I3 k l s p d else zeros 32)),.c (.i .i64 (bif W4 k l s p d then 0 else 1))],g'):=by
    intro N hN g
    have hz:(A3 (zeros 32)).length=32:=by rw [B6];exact zeros_length
    have hz2:(A3 (zeros 256)).length=256:=by rw [B6];exact zeros_length
    rw [C6L,K2,K2]
    cases c:W4 k l s p d with
    | false =>
      generalize zeros 32=z at *
      generalize zeros 256=y at *
      exact ⟨_,by simp only [esc,esh,Nat.reduceAdd,Nat.reduceMul,Nat.reduceLT,hlen,B8L hd,c,hz,Int.reduceEq] <;> rfl⟩
    | true =>
      have:=C3S (g:=g) (k:=k) (l:=l) (s:=s) (p:=p) (c0:=A7 k l s p d) (z:=A3 (zeros 32)) (q:=N) hd hz hN 7 0 N (by omega) (by omega)
      simp only [List.take_zero,show M7 []=[] from rfl,List.append_nil] at this
      have w1:=fun h=>A0k (h:=h) (l:=zeros 256) zeros_length (a:=0) (w:=1) (v:=k)
      have w2:=fun h=>A0k (h:=h) (l:=J7 (zeros 256) 0 1 k) (W8 zeros_length) (a:=2) (w:=2) (v:=l)
      have w3:=fun h=>A0k (h:=h) (l:=J7 (J7 (zeros 256) 0 1 k) 2 2 l) (W8 (W8 zeros_length)) (a:=4) (w:=4) (v:=s)
      have w4:=fun h=>A0k (h:=h) (l:=J7 (J7 (J7 (zeros 256) 0 1 k) 2 2 l) 4 4 s) (W8 (W8 (W8 zeros_length))) (a:=8) (w:=2) (v:=p)
      have l1:(A3 (J7 (zeros 256) 0 1 k)).length=256:=by rw [B6,W8 zeros_length]
      have l2:(A3 (J7 (J7 (zeros 256) 0 1 k) 2 2 l)).length=256:=by rw [B6,W8 (W8 zeros_length)]
      have l3:(A3 (J7 (J7 (J7 (zeros 256) 0 1 k) 2 2 l) 4 4 s)).length=256:=by rw [B6,W8 (W8 (W8 zeros_length))]
      have l4:(A3 (C8 256 (O9 k l s p))).length=256:=by rw [B6,I5 (by rw [A4c];omega)]
      simp only [F3G] at w4
      generalize zeros 32=z at *
      generalize zeros 256=y at *
      exact ⟨_,by simp only [esc,esh,Nat.reduceAdd,Nat.reduceMul,Nat.reduceLT,hlen,B8L hd,c,hz,hz2,w1,w2,w3,w4,l1,l2,l3,l4,B0d hd];exact this⟩
  obtain ⟨g',e⟩:=key (h.length + 34) (by omega) (ro h)
  exact C8s e (by simp)
def Q9 (b:List UInt8):Int:=fieldN b 0 1
def S5 (b:List UInt8):Int:=fieldN b 2 2
def S7 (b:List UInt8):Int:=fieldN b 4 4
def S6 (b:List UInt8):Int:=fieldN b 8 2
def H1 (b:List UInt8):List Int:=(List.range 7).map fun j=>fieldN b (10 + 2 * j) 2
theorem N3 {b:List UInt8}:(H1 b).length=7:=by simp [H1]
theorem B7l {b:List UInt8} {i:Nat} (hi:i < 7):(H1 b)[i]? = some (fieldN b (10 + 2 * i) 2):=by simp [H1,hi]
theorem B8H {k l s p x:Int} {d:List Int} {i:Nat}:(A7 k l s p d).set (4 + i) (.i .i64 x)=A7 k l s p (d.set i x):=by
  rw [show 4 + i=i + 1 + 1 + 1 + 1 by omega]
  simp only [A7,List.set_cons_succ,A6K]
theorem C5w {D:List Int} (hD:D.length=7) {i:Nat} (hi:i < 7):(D.take i ++ zI (7 - i)).set i D[i]=D.take (i + 1) ++ zI (7 - (i + 1)):=by
  have h6:(D.take i).length=i:=by simp;omega
  rw [List.set_append_right _ _ (by omega),h6,Nat.sub_self,List.take_succ_eq_append_getElem (by omega),List.append_assoc]
  refine congrArg (D.take i ++ ·) ?_
  rw [show 7 - i=7 - (i + 1) + 1 by omega]
  unfold zI
  rw [List.replicate_succ,List.set_cons_zero];rfl
theorem B7t {g:A0} {b:List UInt8} {k l s p:Int} {c0 z:List Cell} {q:Nat} (hb:b.length=32) (hz:z.length=11):∀ e i m:Nat,i + e=6 → e < m →
    A7c q m (.c (.p (g.length + 1) 0)) (.c (.p (g.length + 2) 0)) (.c (.p (g.length + 3) 0)) (.c (.i .i64 i)) (g ++ [some ⟨c0,true⟩,some ⟨z,true⟩,some ⟨A3 (C8 256 b),true⟩,some ⟨A7 k l s p ((H1 b).take i ++ zI (7 - i)),true⟩]) =
      some (.a (A7 k l s p (H1 b)),g ++ [some ⟨c0,true⟩,some ⟨A7 k l s p (H1 b),true⟩,some ⟨A3 (C8 256 b),true⟩,some ⟨A7 k l s p (H1 b),true⟩])
  | e,i,0,_,hm=>by omega
  | 0,i,m + 1,hi,hm=>by
    have e0:i=6:=by omega
    subst e0
    have h1':¬ ((6:Nat):Int) < 6:=by omega
    have hX:(A3 (C8 256 b)).length=256:=by rw [B6,I5 (by omega)]
    have ha:=fun h=>A1r (h:=h) (l:=C8 256 b) (I5 (by omega)) (a:=22) (w:=2)
    have e1:=A9i (b:=b) (a:=22) (w:=2) (by omega) (by omega) (by omega) (by omega)
    simp only [Int.cast_ofNat_Int] at e1
    simp only [e1] at ha
    have hl0:(A7 k l s p ((H1 b).take 6 ++ zI (7 - 6))).length=11:=by simp [F6,N3,N6]
    have ho:(encI ((H1 b).take 6 ++ zI (7 - 6))).length=7:=by simp [F6,N3,N6]
    have hg6:(H1 b)[6]'(by rw [N3];omega)=fieldN b 22 2:=by
      have:=B7l (b:=b) (i:=6) (by omega)
      rw [List.getElem?_eq_getElem (by rw [N3];omega)] at this
      exact Option.some.inj this
    have es:(A7 k l s p ((H1 b).take 6 ++ zI (7 - 6))).set 10 (.i .i64 (fieldN b 22 2))=A7 k l s p (H1 b):=by
      have h1:=B8H (k:=k) (l:=l) (s:=s) (p:=p) (x:=fieldN b 22 2) (d:=(H1 b).take 6 ++ zI (7 - 6)) (i:=6)
      rw [show 4 + 6=10 from rfl] at h1
      rw [h1,← hg6,C5w N3 (by omega)]
      have:(H1 b).take (6 + 1) ++ zI (7 - (6 + 1))=H1 b:=by rw [List.take_of_length_le (by rw [N3];omega)];simp [zI]
      rw [this]
    have hl1:(A7 k l s p (H1 b)).length=11:=by simp [F6,N3]
    rw [B87]
    simp only [esc,esh,Nat.reduceAdd,Nat.reduceMul,Nat.reduceLT,h1',hX,ha,ho,es,hl1,hz,F6,N3]
  | e + 1,i,m + 1,hi,hm=>by
    have ih:=B7t (g:=g) (k:=k) (l:=l) (s:=s) (p:=p) (c0:=c0) (q:=q) hb hz e (i + 1) m (by omega) (by omega)
    have h1':(i:Int) < 6:=by omega
    have hX:(A3 (C8 256 b)).length=256:=by rw [B6,I5 (by omega)]
    have e2:IntKind.wrap .i64 (2 * (i:Int))=((2 * i:Nat):Int):=by rw [wrap_i64 (by omega) (by omega)];omega
    have e3:IntKind.wrap .i64 (10 + ((2 * i:Nat):Int))=((10 + 2 * i:Nat):Int):=by rw [wrap_i64 (by omega) (by omega)];omega
    have ha:=fun h=>A1r (h:=h) (l:=C8 256 b) (I5 (by omega)) (a:=((10 + 2 * i:Nat):Int)) (w:=2)
    have e1:=A9i (b:=b) (a:=10 + 2 * i) (w:=2) (by omega) (by omega) (by omega) (by omega)
    rw [show ((2:Nat):Int)=2 from rfl] at e1
    simp only [e1] at ha
    have a1:D6 6 1 (.c (.p (g.length + 3) 4)) (.c (.i .i64 (i:Int)))=some (.c (.p (g.length + 3) (4 + i))):=by rw [R0 (by omega)];simp
    have ho:(encI ((H1 b).take i ++ zI (7 - i))).length=7:=by simp [F6,N3,N6];omega
    have ho2:4 + i < 11:=by omega
    have hgi:(H1 b)[i]'(by rw [N3];omega)=fieldN b (10 + 2 * i) 2:=by
      have:=B7l (b:=b) (i:=i) (by omega)
      rw [List.getElem?_eq_getElem (by rw [N3];omega)] at this
      exact Option.some.inj this
    have es:(A7 k l s p ((H1 b).take i ++ zI (7 - i))).set (4 + i) (.i .i64 (fieldN b (10 + 2 * i) 2))=A7 k l s p ((H1 b).take (i + 1) ++ zI (7 - (i + 1))):=by
      rw [B8H,← hgi,C5w N3 (by omega)]
    rw [B87]
    simp only [esc,esh,Nat.reduceAdd,Nat.reduceMul,Nat.reduceLT,h1',hX,e2,e3,ha,a1,ho,ho2,es,F4 (show i + 1 < 9223372036854775808 by omega)]
    exact ih
theorem B0c {b:List UInt8} {h:A0} (hb:b.length=32):A3F [.a (A3 b)] h=some (.a (A7 (Q9 b) (S5 b) (S7 b) (S6 b) (H1 b)),h):=by
  have key:∀ N,7 < N → ∀ g,∃ g',A5u N [.a (A3 b)] g=some (.a (A7 (Q9 b) (S5 b) (S7 b) (S6 b) (H1 b)),g'):=by
    intro N hN g
    have hl:(A3 b).length=32:=by rw [B6,hb]
    have hX:(A3 (C8 256 b)).length=256:=by rw [B6,I5 (by omega)]
    have hz:(List.replicate 256 (Cell.i .u8 0)).length=256:=List.length_replicate
    have z11:[Cell.i .i64 0,.i .i64 0,.i .i64 0,.i .i64 0,.i .i64 0,.i .i64 0,.i .i64 0,.i .i64 0,.i .i64 0,.i .i64 0,.i .i64 0]=A7 0 0 0 0 (zI 7):=rfl
    have l11:(A7 0 0 0 0 (zI 7)).length=11:=rfl
    have ho:=A7V (h:=g ++ [some ⟨A3 b,true⟩,some ⟨A7 0 0 0 0 (zI 7),true⟩]) (v:=.c (.sl g.length 0 32 1)) (nv:=32) (data:=b) (Has.tr (by simp) (by omega) (R3 _)) (by omega)
    rw [A71 (by omega)] at ho
    have at_:∀ (a w:Nat),a + w ≤ 32 → 1 ≤ w → w ≤ 4 → ∀ h,M4 [.a (A3 (C8 256 b)),.c (.i .i64 a),.c (.i .i64 w)] h=some (.c (.i .i64 (fieldN b a w)),h):=fun a w h1 h2 h3 h=>by
      rw [A1r (I5 (by omega)),A9i (by omega) (by omega) h2 h3]
    have a1:=at_ 0 1 (by omega) (by omega) (by omega)
    have a2:=at_ 2 2 (by omega) (by omega) (by omega)
    have a3:=at_ 4 4 (by omega) (by omega) (by omega)
    have a4:=at_ 8 2 (by omega) (by omega) (by omega)
    simp only [Int.cast_ofNat_Int] at a1 a2 a3 a4
    have ef:B0 (A7 0 0 0 0 (zI 7)) [(0,1,.c (.i .i64 (fieldN b 0 1))),(1,1,.c (.i .i64 (fieldN b 2 2))),(2,1,.c (.i .i64 (fieldN b 4 4))),(3,1,.c (.i .i64 (fieldN b 8 2)))]=some (A7 (Q9 b) (S5 b) (S7 b) (S6 b) (zI 7)):=rfl
    have lf:(A7 (Q9 b) (S5 b) (S7 b) (S6 b) (zI 7)).length=11:=rfl
    have:=B7t (g:=g) (b:=b) (k:=Q9 b) (l:=S5 b) (s:=S7 b) (p:=S6 b) (c0:=A3 b) (z:=A7 0 0 0 0 (zI 7)) (q:=N) hb l11 6 0 N (by omega) (by omega)
    simp only [List.take_zero,List.nil_append,Nat.sub_zero] at this
    rw [C6J,z11]
    generalize List.replicate 256 (Cell.i .u8 0)=z at *
    generalize A7 0 0 0 0 (zI 7)=y at *
    exact ⟨_,by simp only [esc,esh,Nat.reduceAdd,Nat.reduceMul,Nat.reduceLT,hl,ho,hz,hX,a1,a2,a3,a4,ef,l11,lf];exact this⟩
  obtain ⟨g',e⟩:=key (h.length + 8) (by omega) (ro h)
  exact C8p e (by simp)
def A0c (b:List UInt8):Bool:=W4 (Q9 b) (S5 b) (S7 b) (S6 b) (H1 b) && decide (I3 (Q9 b) (S5 b) (S7 b) (S6 b) (H1 b)=b)
def U0 (b:List UInt8):List Cell:=bif A0c b then A7 (Q9 b) (S5 b) (S7 b) (S6 b) (H1 b) else A7 0 0 0 0 (zI 7)
theorem B3W {b:List UInt8}:(U0 b).length=11:=by
  unfold U0
  cases A0c b <;> simp [F6,N3,N6]
theorem B6t {b:List UInt8}:D8 (U0 b)=true:=by
  unfold U0
  cases A0c b <;> simp
theorem F5h {b:List UInt8} {h:A0} (hb:b.length=32):A3E [.a (A3 b)] h=some (.t [.a (U0 b),.c (.b (A0c b))],h):=by
  have key:∀ g,∃ g',A5t 0 [.a (A3 b)] g=some (.t [.a (U0 b),.c (.b (A0c b))],g'):=by
    intro g
    have hl:(A3 b).length=32:=by rw [B6,hb]
    have hI:(A7 (Q9 b) (S5 b) (S7 b) (S6 b) (H1 b)).length=11:=by simp [F6,N3]
    have z11:[Cell.i .i64 0,.i .i64 0,.i .i64 0,.i .i64 0,.i .i64 0,.i .i64 0,.i .i64 0,.i .i64 0,.i .i64 0,.i .i64 0,.i .i64 0]=A7 0 0 0 0 (zI 7):=rfl
    have l11:(A7 0 0 0 0 (zI 7)).length=11:=rfl
    have af:=A89
    rw [z11] at af
    have hz:(List.replicate 32 (Cell.i .u8 0)).length=32:=List.length_replicate
    have hp:=fun h=>B9z (h:=h) (k:=Q9 b) (l:=S5 b) (s:=S7 b) (p:=S6 b) (d:=H1 b) N3
    have hB:(A3 (I3 (Q9 b) (S5 b) (S7 b) (S6 b) (H1 b))).length=32:=by rw [B6,A4b N3]
    have hZ:(A3 (zeros 32)).length=32:=by rw [B6];exact zeros_length
    have hq:=A50 (l:=I3 (Q9 b) (S5 b) (S7 b) (S6 b) (H1 b)) (m:=b) (n:=32) (A4b N3) hb
    rw [C6I,z11]
    unfold U0 A0c
    generalize List.replicate 32 (Cell.i .u8 0)=z at *
    generalize A7 0 0 0 0 (zI 7)=y at *
    cases c:W4 (Q9 b) (S5 b) (S7 b) (S6 b) (H1 b) with
    | false =>
      simp only [c,cond_false] at hp
      exact ⟨_,by simp only [esc,esh,Nat.reduceAdd,Nat.reduceMul,Nat.reduceLT,hl,B0c hb,hI,l11,hp,hz,hZ,Int.reduceEq,af,Bool.false_and] <;> rfl⟩
    | true =>
      simp only [c,cond_true] at hp
      cases c2:decide (I3 (Q9 b) (S5 b) (S7 b) (S6 b) (H1 b)=b) with
      | false =>
        rw [c2] at hq
        exact ⟨_,by simp only [esc,esh,Nat.reduceAdd,Nat.reduceMul,Nat.reduceLT,hl,B0c hb,hI,l11,hp,hz,hB,hq,af,Bool.and_false] <;> rfl⟩
      | true =>
        rw [c2] at hq
        exact ⟨_,by simp only [esc,esh,Nat.reduceAdd,Nat.reduceMul,Nat.reduceLT,hl,B0c hb,hI,l11,hp,hz,hB,hq,Bool.and_true] <;> rfl⟩
  obtain ⟨g',e⟩:=key (ro h)
  exact C8n e (by simp [B6t])
end Go.Proofs.Ytdgggnlbdoiloaa
end
noncomputable section
namespace Go.Proofs.Ytdgggnlbdoiloaa
open Go Go.Esc
set_option maxRecDepth 100000
def B8n:List AOper:=[aO 1 (.box (.t 0)),aO 2 (.mv (.v (.c (.i .i64 0))))]
def F2v:ACode:=.ops B8n
def B8o:List AOper:=[aO 3 (.fAddr (.t 1) 0),aO 4 (.load1 (.t 3)),aO 5 (.min (.t 4) (.v (.c (.i .i64 5)))),aO 6 (.max (.v (.c (.i .i64 0))) (.t 5)),aO 2 (.mv (.t 6))]
def F2x:ACode:=.ops B8o
def F2z:ACode:=.seq [2] F2x .ret
def F2B:ACode:=.seq [1] F2v F2z
def A_index_depth:AFn:=⟨F2B,[.tmp 2]⟩
def A4N:B4:=C2
def F2w (n:Nat):SmV:=A2 A4N B8n
def F2y (n:Nat):SmV:=A2 A4N B8o
def F2A (n:Nat):SmV:=A1 [2] (F2y n) B5
def F2C (n:Nat):SmV:=A1 [1] (F2w n) (F2A n)
def A5p (n:Nat) (args:List Val) (h:A0):A6:=(F2C n) A_index_depth.fin (params 0 args) h
theorem C6D (n:Nat) (a0:Val) (h:A0):A5p n [a0] h=bnd (cells? a0) fun c1=>bnd (B7 ((.c (.p h.length 0))) 0) fun v2=>bnd (A8 ((h ++ [some (Row.mk (c1) true)])) v2) fun v3=>bnd (A0L v3 (.c (.i .i64 5))) fun v4=>bnd (A2Q (.c (.i .i64 0)) v4) fun v5=>some (v5,(h ++ [some (Row.mk (c1) true)])):=by kernel_rfl
theorem K_index_depth:FnK Try.prog 145 A_index_depth A4N A5p:=.mk' (C5) Try.func145 (by kernel_rfl) (by intro n args h;kernel_rfl)
def A0E:Fun:=tidy (Lim A_index_depth A4N)
theorem A80:SOk Try.prog 145 A0E:=K_index_depth.sok
theorem C8f {n:Nat} {args:List Val} {h h2:A0} {v:Val} (he:A5p n args (ro h)=some (v,h2)) (hf:v.flat=true):A0E args h=some (v,h):=K_index_depth.flat he hf
def B8p:List AOper:=[aO 2 (.mv (.v (.c (.b false))))]
def F2D:ACode:=.ops B8p
def B8q:List AOper:=[aO 3 (.mv (.t 0)),aO 4 (.bin .geq (.t 3) (.v (.c (.i .i64 0)))),aO 5 (.mv (.t 4)),{ dst:=some 6,op:=.mv (.t 0),guard:=some (5,true) },{ dst:=some 7,op:=.bin .leq (.t 6) (.v (.c (.i .i64 65535))),guard:=some (5,true) },aO 8 (.pick (.t 5) (.t 7) (.v (.c (.b false)))),aO 2 (.mv (.t 8))]
def F2F:ACode:=.ops B8q
def F2H:ACode:=.seq [2] F2F .ret
def F2J:ACode:=.seq [0] F2D F2H
def A_index_fine:AFn:=⟨F2J,[.tmp 2]⟩
def A4O:B4:=C2
def F2E (n:Nat):SmV:=A2 A4O B8p
def F2G (n:Nat):SmV:=A2 A4O B8q
def F2I (n:Nat):SmV:=A1 [2] (F2G n) B5
def F2K (n:Nat):SmV:=A1 [0] (F2E n) (F2I n)
def A8J (n:Nat) (args:List Val) (h:A0):A6:=(F2K n) A_index_fine.fin (params 0 args) h
theorem C6E (n:Nat) (a0:Val) (h:A0):A8J n [a0] h=bnd (A4 .geq a0 (.c (.i .i64 0))) fun v1=>bnd (gd v1 true (some (a0,h)) (some (.no,h))) fun p2=>bnd (gd v1 true (bnd (A4 .leq p2.1 (.c (.i .i64 65535))) fun v3=>some (v3,p2.2)) (some (.no,p2.2))) fun p4=>bnd (D4 v1 p4.1 (.c (.b false))) fun v5=>some (v5,p4.2):=by kernel_rfl
theorem K_index_fine:FnK Try.prog 146 A_index_fine A4O A8J:=.mk' (C5) Try.func146 (by kernel_rfl) (by intro n args h;kernel_rfl)
def A3B:Fun:=tidy (Lim A_index_fine A4O)
theorem C8h:SOk Try.prog 146 A3B:=K_index_fine.sok
theorem C8g {n:Nat} {args:List Val} {h h2:A0} {v:Val} (he:A8J n args (ro h)=some (v,h2)) (hf:v.flat=true):A3B args h=some (v,h):=K_index_fine.flat he hf
def B79:List AOper:=[aO 1 (.box (.t 0)),aO 2 (.alloc (List.replicate 256 (.i .u8 0))),aO 3 (.mv (.v (.c (.i .i64 0))))]
def F1s:ACode:=.ops B79
def B8a:List AOper:=[aO 7 (.fAddr (.t 1) 0),aO 8 (.load1 (.t 7)),aO 9 (.loadN 33 (.t 1)),aO 10 (.call 145 [(.t 9)])]
def B8f:List AOper:=[aO 11 (.bin .neq (.t 8) (.t 10))]
def F1u:ACode:=.draw 0 B8a B8f
def B8g:List AOper:=[aO 12 (.build (List.replicate 256 (.i .u8 0)) []),{ dst:=none,op:=.storeN 256 (.t 2) (.t 12) },aO 3 (.mv (.v (.c (.i .i64 1))))]
def F1Q:ACode:=.ops B8g
def F2a:ACode:=.seq [2,3] F1Q .ret
def F2i:ACode:=.cond (.t 11) F2a .skip
def F2k:ACode:=.seq [1,2,11] F1u F2i
def B8h:List AOper:=[{ dst:=some 13,op:=.buildSl 1 4 ([.i .u8 0,.i .u8 0,.i .u8 0,.i .u8 0]) [(0,1,(.v (.c (.i .u8 105)))),(1,1,(.v (.c (.i .u8 100)))),(2,1,(.v (.c (.i .u8 120)))),(3,1,(.v (.c (.i .u8 33))))],slot:=some 0 },aO 14 (.mark (.t 13)),aO 15 (.call 95 [(.t 14)]),aO 16 (.fAddr (.t 1) 0),aO 17 (.load1 (.t 16)),aO 18 (.call 96 [(.t 15),(.v (.c (.i .i64 4))),(.v (.c (.i .i64 1))),(.t 17)]),{ dst:=some 4,op:=.alloc (List.replicate 256 (.i .u8 0)),slot:=some 1 }]
def B8i:List AOper:=[{ dst:=none,op:=.storeN 256 (.t 4) (.t 18) }]
def F2m:ACode:=.draw 2 B8h B8i
def B8j:List AOper:=[aO 19 (.fAddr (.t 1) 1),aO 20 (.loadN 32 (.t 19)),aO 21 (.mv (.v (.c (.i .i64 0))))]
def F2o:ACode:=.ops B8j
def B8k:List AOper:=[aO 22 (.bin .lss (.t 21) (.v (.c (.i .i64 32))))]
def F2q:ACode:=.ops B8k
def F2s:ACode:=.cond (.t 22) .skip (.exit 0)
def B8l:List AOper:=[aO 23 (.mv (.t 21)),aO 24 (.idxA1 32 (.t 20) (.t 21)),aO 5 (.mv (.t 23)),aO 6 (.mv (.t 24))]
def F1v:ACode:=.ops B8l
def B8m:List AOper:=[aO 25 (.mv (.t 6)),aO 26 (.call 146 [(.t 25)]),aO 27 (.un .not (.t 26))]
def F1x:ACode:=.ops B8m
def B8b:List AOper:=[aO 28 (.build (List.replicate 256 (.i .u8 0)) []),{ dst:=none,op:=.storeN 256 (.t 2) (.t 28) },aO 3 (.mv (.v (.c (.i .i64 1))))]
def F1z:ACode:=.ops B8b
def F1B:ACode:=.seq [2,3] F1z .ret
def F1D:ACode:=.cond (.t 27) F1B .skip
def F1F:ACode:=.seq [2,4,5,6,20,21,27] F1x F1D
def B8c:List AOper:=[aO 29 (.loadN 256 (.t 4)),aO 30 (.mv (.t 5)),aO 31 (.bin .mul (.v (.c (.i .i64 2))) (.t 30)),aO 32 (.bin .add (.v (.c (.i .i64 32))) (.t 31)),aO 33 (.mv (.t 6)),aO 34 (.call 96 [(.t 29),(.t 32),(.v (.c (.i .i64 2))),(.t 33)]),{ dst:=none,op:=.storeN 256 (.t 4) (.t 34) }]
def F1H:ACode:=.ops B8c
def F1J:ACode:=.seq [2,4,5,6,20,21] F1F F1H
def F1L:ACode:=.seq [2,4,5,6,20,21] F1v F1J
def F1N:ACode:=.block 1 F1L
def B8d:List AOper:=[aO 35 (.bin .add (.t 21) (.v (.c (.i .i64 1)))),aO 21 (.mv (.t 35))]
def F1R:ACode:=.ops B8d
def F1T:ACode:=.seq [2,4,20,21] F1N F1R
def F1V:ACode:=.seq [2,4,20,21] F2s F1T
def F1X:ACode:=.seq [2,4,20,21,22] F2q F1V
def F1Y:ACode:=.loop [2,4,20,21] F1X
def F10:ACode:=.block 0 F1Y
def F12:ACode:=.seq [2,4,20,21] F2o F10
def B8e:List AOper:=[aO 36 (.loadN 256 (.t 4)),{ dst:=none,op:=.storeN 256 (.t 2) (.t 36) },aO 3 (.mv (.v (.c (.i .i64 0))))]
def F14:ACode:=.ops B8e
def F16:ACode:=.seq [2,3] F14 .ret
def F17:ACode:=.seq [2,4] F12 F16
def F2b:ACode:=.seq [1,2,4] F2m F17
def F2d:ACode:=.seq [1,2] F2k F2b
def F2f:ACode:=.seq [1,2] F1s F2d
def A_index_Put:AFn:=⟨F2f,[.cellN 2 256,.tmp 3]⟩
def R7:B4:=A9 145 A0E (A9 95 X7 (A9 96 N7 (A9 146 A3B C2)))
def F1t (n:Nat):SmV:=A2 R7 B79
def F1P (n:Nat):SmV:=P8 R7 0 B8a B8f
def F19 (n:Nat):SmV:=A2 R7 B8g
def F2h (n:Nat):SmV:=A1 [2,3] (F19 n) B5
def F2j (n:Nat):SmV:=B8 (.t 11) (F2h n) B9
def F2l (n:Nat):SmV:=A1 [1,2,11] (F1P n) (F2j n)
def F2n (n:Nat):SmV:=P8 R7 2 B8h B8i
def F2p (n:Nat):SmV:=A2 R7 B8j
def F2r (n:Nat):SmV:=A2 R7 B8k
def F2t (n:Nat):SmV:=B8 (.t 22) B9 (F0 0)
def F1w (n:Nat):SmV:=A2 R7 B8l
def F1y (n:Nat):SmV:=A2 R7 B8m
def F1A (n:Nat):SmV:=A2 R7 B8b
def F1C (n:Nat):SmV:=A1 [2,3] (F1A n) B5
def F1E (n:Nat):SmV:=B8 (.t 27) (F1C n) B9
def F1G (n:Nat):SmV:=A1 [2,4,5,6,20,21,27] (F1y n) (F1E n)
def F1I (n:Nat):SmV:=A2 R7 B8c
def F1K (n:Nat):SmV:=A1 [2,4,5,6,20,21] (F1G n) (F1I n)
def F1M (n:Nat):SmV:=A1 [2,4,5,6,20,21] (F1w n) (F1K n)
def F1O (n:Nat):SmV:=C4 1 (F1M n)
def F1S (n:Nat):SmV:=A2 R7 B8d
def F1U (n:Nat):SmV:=A1 [2,4,20,21] (F1O n) (F1S n)
def F1W (n:Nat):SmV:=A1 [2,4,20,21] (F2t n) (F1U n)
def B75 (n:Nat):SmV:=A1 [2,4,20,21,22] (F2r n) (F1W n)
def F1Z (n:Nat):SmV:=F2 n [2,4,20,21] (B75 n)
def F11 (n:Nat):SmV:=C4 0 (F1Z n)
def F13 (n:Nat):SmV:=A1 [2,4,20,21] (F2p n) (F11 n)
def F15 (n:Nat):SmV:=A2 R7 B8e
def B76 (n:Nat):SmV:=A1 [2,3] (F15 n) B5
def F18 (n:Nat):SmV:=A1 [2,4] (F13 n) (B76 n)
def F2c (n:Nat):SmV:=A1 [1,2,4] (F2n n) (F18 n)
def F2e (n:Nat):SmV:=A1 [1,2] (F2l n) (F2c n)
def F2g (n:Nat):SmV:=A1 [1,2] (F1t n) (F2e n)
def A63 (n:Nat):AExit → Env → A0 → A6:=fun x e h=>match x with | .normal=>hold ((B76 n) A_index_Put.fin (e.keep [2,4]) h) | .exit id=>A_index_Put.fin (.exit id) e h | .ret=>A_index_Put.fin .ret e h
def F2u (n:Nat):AExit → Env → A0 → A6:=fun x e h=>match x with | .exit i=>bif Nat.beq i 0 then (A63 n) .normal e h else (A63 n) (.exit i) e h | .normal=>(A63 n) .normal e h | .ret=>(A63 n) .ret e h
def A64 (n m:Nat) (x2 x4 x20 x21:Val) (h:A0):A6:=E2 (B75 n) [2,4,20,21] (F2u n) m [(2,x2),(4,x4),(20,x20),(21,x21)] h
def A5o (n:Nat) (args:List Val) (h:A0):A6:=(F2g n) A_index_Put.fin (params 0 args) h
theorem C6C (n:Nat) (a0:Val) (h:A0):A5o n [a0] h=bnd (cells? a0) fun c1=>bnd (B7 ((.c (.p h.length 0))) 0) fun v2=>bnd (A8 (((h ++ [some (Row.mk (c1) true)]) ++ [some (Row.mk (List.replicate 256 (.i .u8 0)) true)])) v2) fun v3=>bnd (A5 (((h ++ [some (Row.mk (c1) true)]) ++ [some (Row.mk (List.replicate 256 (.i .u8 0)) true)])) 33 ((.c (.p h.length 0)))) fun v4=>bnd (quiet (((((h ++ [some (Row.mk (c1) true)]) ++ [some (Row.mk (List.replicate 256 (.i .u8 0)) true)])) ++ [])) (A0E [v4] (((((h ++ [some (Row.mk (c1) true)]) ++ [some (Row.mk (List.replicate 256 (.i .u8 0)) true)])) ++ [])))) fun p5=>bnd (A4 .neq v3 p5.1) fun v6=>cnd v6 (bnd (B0 (List.replicate 256 (.i .u8 0)) []) fun c7=>bnd (B1 p5.2 256 ((.c (.p ((h ++ [some (Row.mk (c1) true)])).length 0))) ((.a c7))) fun h8=>D3 [A5 h8 256 ((.c (.p ((h ++ [some (Row.mk (c1) true)])).length 0))),some (.c (.i .i64 1))] h8) (bnd (B0 ([.i .u8 0,.i .u8 0,.i .u8 0,.i .u8 0]) [(0,1,.c (.i .u8 105)),(1,1,.c (.i .u8 100)),(2,1,.c (.i .u8 120)),(3,1,.c (.i .u8 33))]) fun c9=>bnd (S2 ((((p5.2 ++ [none,none])).set (p5.2.length + 0) (some (Row.mk (c9) true)))) ((.c (.sl (p5.2.length + 0) 0 4 1)))) fun v10=>bnd (quiet ((((p5.2 ++ [none,none])).set (p5.2.length + 0) (some (Row.mk (c9) true)))) (X7 [v10] ((((p5.2 ++ [none,none])).set (p5.2.length + 0) (some (Row.mk (c9) true)))))) fun p11=>bnd (B7 ((.c (.p h.length 0))) 0) fun v12=>bnd (A8 p5.2 v12) fun v13=>bnd (quiet p11.2 (N7 [p11.1,.c (.i .i64 4),.c (.i .i64 1),v13] p11.2)) fun p14=>bnd (B1 ((p14.2.set (p5.2.length + 1) (some (Row.mk (List.replicate 256 (.i .u8 0)) true)))) 256 ((.c (.p (p5.2.length + 1) 0))) p14.1) fun h15=>bnd (B7 ((.c (.p h.length 0))) 1) fun v16=>bnd (A5 h15 32 v16) fun v17=>A64 n n ((.c (.p ((h ++ [some (Row.mk (c1) true)])).length 0))) ((.c (.p (p5.2.length + 1) 0))) v17 (.c (.i .i64 0)) h15):=by kernel_rfl
theorem B78 (n m:Nat) (x2 x4 x20 x21:Val) (h:A0):A64 n (m + 1) x2 x4 x20 x21 h=bnd (A4 .lss x21 (.c (.i .i64 32))) fun v18=>cnd v18 (bnd (T8 32 x20 x21) fun v19=>bnd (A3B [v19] h) fun p20=>bnd (aun .not p20.1) fun v21=>cnd v21 (bnd (B0 (List.replicate 256 (.i .u8 0)) []) fun c22=>bnd (B1 p20.2 256 x2 ((.a c22))) fun h23=>D3 [A5 h23 256 x2,some (.c (.i .i64 1))] h23) (bnd (A5 p20.2 256 x4) fun v24=>bnd (A4 .mul (.c (.i .i64 2)) x21) fun v25=>bnd (A4 .add (.c (.i .i64 32)) v25) fun v26=>bnd (N7 [v24,v26,.c (.i .i64 2),v19] p20.2) fun p27=>bnd (B1 p27.2 256 x4 p27.1) fun h28=>bnd (A4 .add x21 (.c (.i .i64 1))) fun v29=>A64 n m x2 x4 x20 v29 h28)) (bnd (A5 h 256 x4) fun v30=>bnd (B1 h 256 x2 v30) fun h31=>D3 [A5 h31 256 x2,some (.c (.i .i64 0))] h31):=by kernel_rfl
theorem K_index_Put:FnK Try.prog 117 A_index_Put R7 A5o:=.mk' (B3 A80 (B3 A5W (B3 A83 (B3 C8h C5)))) Try.func117 (by kernel_rfl) (by intro n args h;kernel_rfl)
def A1O:Fun:=tidy (Lim A_index_Put R7)
theorem B1b:SOk Try.prog 117 A1O:=K_index_Put.sok
theorem C8e {n:Nat} {args:List Val} {h h2:A0} {v:Val} (he:A5o n args (ro h)=some (v,h2)) (hf:v.flat=true):A1O args h=some (v,h):=K_index_Put.flat he hf
def B8E:List AOper:=[aO 1 (.box (.t 0)),aO 2 (.mv (.v (.c (.i .i64 0))))]
def F3w:ACode:=.ops B8E
def B8F:List AOper:=[aO 3 (.loadN 33 (.t 1)),aO 4 (.call 145 [(.t 3)]),aO 5 (.conv .u64 (.t 4)),aO 6 (.bin .shl (.v (.c (.i .i64 1))) (.t 5)),aO 2 (.mv (.t 6))]
def F3y:ACode:=.ops B8F
def F3A:ACode:=.seq [2] F3y .ret
def F3C:ACode:=.seq [1] F3w F3A
def A_index_many:AFn:=⟨F3C,[.tmp 2]⟩
def A4P:B4:=A9 145 A0E C2
def F3x (n:Nat):SmV:=A2 A4P B8E
def F3z (n:Nat):SmV:=A2 A4P B8F
def F3B (n:Nat):SmV:=A1 [2] (F3z n) B5
def F3D (n:Nat):SmV:=A1 [1] (F3x n) (F3B n)
def A5r (n:Nat) (args:List Val) (h:A0):A6:=(F3D n) A_index_many.fin (params 0 args) h
theorem C6G (n:Nat) (a0:Val) (h:A0):A5r n [a0] h=bnd (cells? a0) fun c1=>bnd (A5 ((h ++ [some (Row.mk (c1) true)])) 33 ((.c (.p h.length 0)))) fun v2=>bnd (A0E [v2] ((h ++ [some (Row.mk (c1) true)]))) fun p3=>bnd (J9 .u64 p3.1) fun v4=>bnd (A4 .shl (.c (.i .i64 1)) v4) fun v5=>some (v5,p3.2):=by kernel_rfl
theorem K_index_many:FnK Try.prog 118 A_index_many A4P A5r:=.mk' (B3 A80 C5) Try.func118 (by kernel_rfl) (by intro n args h;kernel_rfl)
def A1P:Fun:=tidy (Lim A_index_many A4P)
theorem B1c:SOk Try.prog 118 A1P:=K_index_many.sok
theorem C8k {n:Nat} {args:List Val} {h h2:A0} {v:Val} (he:A5r n args (ro h)=some (v,h2)) (hf:v.flat=true):A1P args h=some (v,h):=K_index_many.flat he hf
def B7N:List AOper:=[aO 1 (.box (.t 0)),aO 2 (.alloc ([.i .i64 0] ++ List.replicate 32 (.i .i64 0))),aO 3 (.mv (.v (.c (.i .i64 0))))]
def E9Q:ACode:=.ops B7N
def B7O:List AOper:=[aO 9 (.loadN 256 (.t 1)),aO 10 (.call 101 [(.t 9),(.v (.c (.i .i64 4))),(.v (.c (.i .i64 1)))]),aO 11 (.build ([.i .i64 0] ++ List.replicate 32 (.i .i64 0)) [(0,1,(.t 10))]),aO 4 (.alloc ([.i .i64 0] ++ List.replicate 32 (.i .i64 0))),{ dst:=none,op:=.storeN 33 (.t 4) (.t 11) }]
def E9S:ACode:=.ops B7O
def B7V:List AOper:=[aO 12 (.mv (.v (.c (.i .i64 0))))]
def F0d:ACode:=.ops B7V
def B7W:List AOper:=[aO 13 (.bin .lss (.t 12) (.v (.c (.i .i64 32))))]
def F0z:ACode:=.ops B7W
def F0T:ACode:=.cond (.t 13) .skip (.exit 0)
def B7X:List AOper:=[aO 14 (.mv (.t 12)),aO 5 (.mv (.t 14))]
def F06:ACode:=.ops B7X
def B7Y:List AOper:=[aO 15 (.mv (.t 5)),aO 16 (.loadN 256 (.t 1)),aO 17 (.mv (.t 5)),aO 18 (.bin .mul (.v (.c (.i .i64 2))) (.t 17)),aO 19 (.bin .add (.v (.c (.i .i64 32))) (.t 18)),aO 20 (.call 101 [(.t 16),(.t 19),(.v (.c (.i .i64 2)))]),aO 21 (.fAddr (.t 4) 1),aO 22 (.iAddrA 32 1 (.t 21) (.t 15)),{ dst:=none,op:=.store1 (.t 22) (.t 20) }]
def F08:ACode:=.ops B7Y
def F1a:ACode:=.seq [1,2,4,5,12] F06 F08
def F1c:ACode:=.block 1 F1a
def B7Z:List AOper:=[aO 23 (.bin .add (.t 12) (.v (.c (.i .i64 1)))),aO 12 (.mv (.t 23))]
def F1e:ACode:=.ops B7Z
def E9T:ACode:=.seq [1,2,4,12] F1c F1e
def E9V:ACode:=.seq [1,2,4,12] F0T E9T
def E9X:ACode:=.seq [1,2,4,12,13] F0z E9V
def E9Y:ACode:=.loop [1,2,4,12] E9X
def E90:ACode:=.block 0 E9Y
def E92:ACode:=.seq [1,2,4,12] F0d E90
def B70:List AOper:=[aO 25 (.loadN 33 (.t 4)),aO 26 (.call 117 [(.t 25)]),aO 24 (.mv (.t 26)),aO 27 (.ext (.t 24) 0),aO 28 (.ext (.t 24) 1),aO 6 (.alloc (List.replicate 256 (.i .u8 0))),{ dst:=none,op:=.storeN 256 (.t 6) (.t 27) },aO 7 (.mv (.t 28))]
def E94:ACode:=.ops B70
def B71:List AOper:=[aO 29 (.mv (.t 7)),aO 30 (.bin .neq (.t 29) (.v (.c (.i .i64 0)))),aO 31 (.mv (.t 30)),{ dst:=some 32,op:=.loadN 256 (.t 6),guard:=some (31,false) },{ dst:=some 33,op:=.loadN 256 (.t 1),guard:=some (31,false) },{ dst:=some 34,op:=.eqA true (List.replicate 256 (.i .u8)) (.t 32) (.t 33),guard:=some (31,false) },aO 35 (.pick (.t 31) (.v (.c (.b true))) (.t 34))]
def E96:ACode:=.ops B71
def B72:List AOper:=[aO 36 (.build ([.i .i64 0] ++ List.replicate 32 (.i .i64 0)) []),{ dst:=none,op:=.storeN 33 (.t 2) (.t 36) },aO 3 (.mv (.v (.c (.i .i64 14))))]
def E98:ACode:=.ops B72
def F0a:ACode:=.seq [2,3] E98 .ret
def F0e:ACode:=.cond (.t 35) F0a .skip
def F0g:ACode:=.seq [2,4,35] E96 F0e
def B7P:List AOper:=[aO 37 (.loadN 33 (.t 4)),aO 38 (.call 118 [(.t 37)]),aO 8 (.mv (.t 38))]
def F0i:ACode:=.ops B7P
def B7Q:List AOper:=[aO 39 (.mv (.t 8)),aO 40 (.bin .lss (.t 39) (.v (.c (.i .i64 32))))]
def F0k:ACode:=.ops B7Q
def F0m:ACode:=.cond (.t 40) .skip (.exit 2)
def F0o:ACode:=.seq [2,4,8,40] F0k F0m
def B7R:List AOper:=[aO 43 (.mv (.t 8)),aO 44 (.fAddr (.t 4) 1),aO 45 (.iAddrA 32 1 (.t 44) (.t 43)),aO 46 (.load1 (.t 45)),aO 47 (.bin .neq (.t 46) (.v (.c (.i .i64 0))))]
def F0q:ACode:=.ops B7R
def B7S:List AOper:=[aO 48 (.build ([.i .i64 0] ++ List.replicate 32 (.i .i64 0)) []),{ dst:=none,op:=.storeN 33 (.t 2) (.t 48) },aO 3 (.mv (.v (.c (.i .i64 14))))]
def F0s:ACode:=.ops B7S
def F0u:ACode:=.seq [2,3] F0s .ret
def F0w:ACode:=.cond (.t 47) F0u .skip
def F0A:ACode:=.seq [2,4,8,47] F0q F0w
def F0C:ACode:=.block 3 F0A
def B7T:List AOper:=[aO 41 (.mv (.t 8)),aO 42 (.bin .add (.t 41) (.v (.c (.i .i64 1)))),aO 8 (.mv (.t 42))]
def F0E:ACode:=.ops B7T
def F0G:ACode:=.seq [2,4,8] F0C F0E
def F0I:ACode:=.seq [2,4,8] F0o F0G
def F0J:ACode:=.loop [2,4,8] F0I
def F0L:ACode:=.block 2 F0J
def F0N:ACode:=.seq [2,4,8] F0i F0L
def B7U:List AOper:=[aO 49 (.loadN 33 (.t 4)),{ dst:=none,op:=.storeN 33 (.t 2) (.t 49) },aO 3 (.mv (.v (.c (.i .i64 0))))]
def F0P:ACode:=.ops B7U
def F0R:ACode:=.seq [2,3] F0P .ret
def F0U:ACode:=.seq [2,4] F0N F0R
def F0W:ACode:=.seq [2,4] F0g F0U
def F0Y:ACode:=.seq [1,2,4,6,7] E94 F0W
def F0Z:ACode:=.seq [1,2,4] E92 F0Y
def F01:ACode:=.seq [1,2,4] E9S F0Z
def F03:ACode:=.seq [1,2] E9Q F01
def A_index_Get:AFn:=⟨F03,[.cellN 2 33,.tmp 3]⟩
def N1:B4:=A9 101 M4 (A9 117 A1O (A9 118 A1P C2))
def E9R (n:Nat):SmV:=A2 N1 B7N
def F0c (n:Nat):SmV:=A2 N1 B7O
def F0y (n:Nat):SmV:=A2 N1 B7V
def F0S (n:Nat):SmV:=A2 N1 B7W
def F05 (n:Nat):SmV:=B8 (.t 13) B9 (F0 0)
def F07 (n:Nat):SmV:=A2 N1 B7X
def F09 (n:Nat):SmV:=A2 N1 B7Y
def F1b (n:Nat):SmV:=A1 [1,2,4,5,12] (F07 n) (F09 n)
def F1d (n:Nat):SmV:=C4 1 (F1b n)
def F1f (n:Nat):SmV:=A2 N1 B7Z
def E9U (n:Nat):SmV:=A1 [1,2,4,12] (F1d n) (F1f n)
def E9W (n:Nat):SmV:=A1 [1,2,4,12] (F05 n) (E9U n)
def B7H (n:Nat):SmV:=A1 [1,2,4,12,13] (F0S n) (E9W n)
def E9Z (n:Nat):SmV:=F2 n [1,2,4,12] (B7H n)
def E91 (n:Nat):SmV:=C4 0 (E9Z n)
def E93 (n:Nat):SmV:=A1 [1,2,4,12] (F0y n) (E91 n)
def E95 (n:Nat):SmV:=A2 N1 B70
def E97 (n:Nat):SmV:=A2 N1 B71
def E99 (n:Nat):SmV:=A2 N1 B72
def F0b (n:Nat):SmV:=A1 [2,3] (E99 n) B5
def F0f (n:Nat):SmV:=B8 (.t 35) (F0b n) B9
def F0h (n:Nat):SmV:=A1 [2,4,35] (E97 n) (F0f n)
def F0j (n:Nat):SmV:=A2 N1 B7P
def F0l (n:Nat):SmV:=A2 N1 B7Q
def F0n (n:Nat):SmV:=B8 (.t 40) B9 (F0 2)
def F0p (n:Nat):SmV:=A1 [2,4,8,40] (F0l n) (F0n n)
def F0r (n:Nat):SmV:=A2 N1 B7R
def F0t (n:Nat):SmV:=A2 N1 B7S
def F0v (n:Nat):SmV:=A1 [2,3] (F0t n) B5
def F0x (n:Nat):SmV:=B8 (.t 47) (F0v n) B9
def F0B (n:Nat):SmV:=A1 [2,4,8,47] (F0r n) (F0x n)
def F0D (n:Nat):SmV:=C4 3 (F0B n)
def F0F (n:Nat):SmV:=A2 N1 B7T
def F0H (n:Nat):SmV:=A1 [2,4,8] (F0D n) (F0F n)
def B7I (n:Nat):SmV:=A1 [2,4,8] (F0p n) (F0H n)
def F0K (n:Nat):SmV:=F2 n [2,4,8] (B7I n)
def F0M (n:Nat):SmV:=C4 2 (F0K n)
def F0O (n:Nat):SmV:=A1 [2,4,8] (F0j n) (F0M n)
def F0Q (n:Nat):SmV:=A2 N1 B7U
def B7J (n:Nat):SmV:=A1 [2,3] (F0Q n) B5
def F0V (n:Nat):SmV:=A1 [2,4] (F0O n) (B7J n)
def F0X (n:Nat):SmV:=A1 [2,4] (F0h n) (F0V n)
def B7K (n:Nat):SmV:=A1 [1,2,4,6,7] (E95 n) (F0X n)
def F00 (n:Nat):SmV:=A1 [1,2,4] (E93 n) (B7K n)
def F02 (n:Nat):SmV:=A1 [1,2,4] (F0c n) (F00 n)
def F04 (n:Nat):SmV:=A1 [1,2] (E9R n) (F02 n)
def A6Z (n:Nat):AExit → Env → A0 → A6:=fun x e h=>match x with | .normal=>hold ((B7K n) A_index_Get.fin (e.keep [1,2,4]) h) | .exit id=>A_index_Get.fin (.exit id) e h | .ret=>A_index_Get.fin .ret e h
def F1h (n:Nat):AExit → Env → A0 → A6:=fun x e h=>match x with | .exit i=>bif Nat.beq i 0 then (A6Z n) .normal e h else (A6Z n) (.exit i) e h | .normal=>(A6Z n) .normal e h | .ret=>(A6Z n) .ret e h
def A61 (n m:Nat) (x1 x2 x4 x12:Val) (h:A0):A6:=E2 (B7H n) [1,2,4,12] (F1h n) m [(1,x1),(2,x2),(4,x4),(12,x12)] h
def A5m (n:Nat) (args:List Val) (h:A0):A6:=(F04 n) A_index_Get.fin (params 0 args) h
def A60 (n:Nat):AExit → Env → A0 → A6:=fun x e h=>match x with | .normal=>hold ((B7J n) A_index_Get.fin (e.keep [2,4]) h) | .exit id=>A_index_Get.fin (.exit id) e h | .ret=>A_index_Get.fin .ret e h
def F1i (n:Nat):AExit → Env → A0 → A6:=fun x e h=>match x with | .exit i=>bif Nat.beq i 2 then (A60 n) .normal e h else (A60 n) (.exit i) e h | .normal=>(A60 n) .normal e h | .ret=>(A60 n) .ret e h
def A62 (n m:Nat) (x2 x4 x8:Val) (h:A0):A6:=E2 (B7I n) [2,4,8] (F1i n) m [(2,x2),(4,x4),(8,x8)] h
theorem C6A (n:Nat) (a0:Val) (h:A0):A5m n [a0] h=bnd (cells? a0) fun c1=>bnd (A5 (((h ++ [some (Row.mk (c1) true)]) ++ [some (Row.mk ([.i .i64 0] ++ List.replicate 32 (.i .i64 0)) true)])) 256 ((.c (.p h.length 0)))) fun v2=>bnd (M4 [v2,.c (.i .i64 4),.c (.i .i64 1)] (((h ++ [some (Row.mk (c1) true)]) ++ [some (Row.mk ([.i .i64 0] ++ List.replicate 32 (.i .i64 0)) true)]))) fun p3=>bnd (B0 ([.i .i64 0] ++ List.replicate 32 (.i .i64 0)) [(0,1,p3.1)]) fun c4=>bnd (B1 ((p3.2 ++ [some (Row.mk ([.i .i64 0] ++ List.replicate 32 (.i .i64 0)) true)])) 33 ((.c (.p p3.2.length 0))) ((.a c4))) fun h5=>A61 n n ((.c (.p h.length 0))) ((.c (.p ((h ++ [some (Row.mk (c1) true)])).length 0))) ((.c (.p p3.2.length 0))) (.c (.i .i64 0)) h5:=by kernel_rfl
theorem B7L (n m:Nat) (x1 x2 x4 x12:Val) (h:A0):A61 n (m + 1) x1 x2 x4 x12 h=bnd (A4 .lss x12 (.c (.i .i64 32))) fun v6=>cnd v6 (bnd (A5 h 256 x1) fun v7=>bnd (A4 .mul (.c (.i .i64 2)) x12) fun v8=>bnd (A4 .add (.c (.i .i64 32)) v8) fun v9=>bnd (M4 [v7,v9,.c (.i .i64 2)] h) fun p10=>bnd (B7 x4 1) fun v11=>bnd (D6 32 1 v11 x12) fun v12=>bnd (E8 p10.2 v12 p10.1) fun h13=>bnd (A4 .add x12 (.c (.i .i64 1))) fun v14=>A61 n m x1 x2 x4 v14 h13) (bnd (A5 h 33 x4) fun v15=>bnd (A1O [v15] h) fun p16=>bnd (C3 p16.1 0) fun v17=>bnd (C3 p16.1 1) fun v18=>bnd (B1 ((p16.2 ++ [some (Row.mk (List.replicate 256 (.i .u8 0)) true)])) 256 ((.c (.p p16.2.length 0))) v17) fun h19=>bnd (A4 .neq v18 (.c (.i .i64 0))) fun v20=>bnd (gd v20 false (bnd (A5 h19 256 ((.c (.p p16.2.length 0)))) fun v21=>some (v21,h19)) (some (.no,h19))) fun p22=>bnd (gd v20 false (bnd (A5 p22.2 256 x1) fun v23=>some (v23,p22.2)) (some (.no,p22.2))) fun p24=>bnd (gd v20 false (bnd (aeq true (List.replicate 256 (.i .u8)) p22.1 p24.1) fun v25=>some (v25,p24.2)) (some (.no,p24.2))) fun p26=>bnd (D4 v20 (.c (.b true)) p26.1) fun v27=>cnd v27 (bnd (B0 ([.i .i64 0] ++ List.replicate 32 (.i .i64 0)) []) fun c28=>bnd (B1 p26.2 33 x2 ((.a c28))) fun h29=>D3 [A5 h29 33 x2,some (.c (.i .i64 14))] h29) (bnd (A5 p26.2 33 x4) fun v30=>bnd (A1P [v30] p26.2) fun p31=>A62 n n x2 x4 p31.1 p31.2)):=by kernel_rfl
theorem B7M (n m:Nat) (x2 x4 x8:Val) (h:A0):A62 n (m + 1) x2 x4 x8 h=bnd (A4 .lss x8 (.c (.i .i64 32))) fun v32=>cnd v32 (bnd (B7 x4 1) fun v33=>bnd (D6 32 1 v33 x8) fun v34=>bnd (A8 h v34) fun v35=>bnd (A4 .neq v35 (.c (.i .i64 0))) fun v36=>cnd v36 (bnd (B0 ([.i .i64 0] ++ List.replicate 32 (.i .i64 0)) []) fun c37=>bnd (B1 h 33 x2 ((.a c37))) fun h38=>D3 [A5 h38 33 x2,some (.c (.i .i64 14))] h38) (bnd (A4 .add x8 (.c (.i .i64 1))) fun v39=>A62 n m x2 x4 v39 h)) (bnd (A5 h 33 x4) fun v40=>bnd (B1 h 33 x2 v40) fun h41=>D3 [A5 h41 33 x2,some (.c (.i .i64 0))] h41):=by kernel_rfl
theorem K_index_Get:FnK Try.prog 78 A_index_Get N1 A5m:=.mk' (B3 A5V (B3 B1b (B3 B1c C5))) Try.func78 (by kernel_rfl) (by intro n args h;kernel_rfl)
def A3z:Fun:=tidy (Lim A_index_Get N1)
theorem C8b:SOk Try.prog 78 A3z:=K_index_Get.sok
theorem C8a {n:Nat} {args:List Val} {h h2:A0} {v:Val} (he:A5m n args (ro h)=some (v,h2)) (hf:v.flat=true):A3z args h=some (v,h):=K_index_Get.flat he hf
def B8u:List AOper:=[aO 2 (.box (.t 0)),aO 4 (.mv (.v (.c (.b false))))]
def F2M:ACode:=.ops B8u
def B8v:List AOper:=[aO 6 (.mv (.t 1)),aO 7 (.mv (.v (.c (.i .i64 0))))]
def F2O:ACode:=.ops B8v
def B8w:List AOper:=[aO 8 (.bin .lss (.t 7) (.t 6))]
def F29:ACode:=.ops B8w
def F3g:ACode:=.cond (.t 8) .skip (.exit 0)
def B8x:List AOper:=[aO 9 (.mv (.t 7)),aO 5 (.mv (.t 9))]
def F3i:ACode:=.ops B8x
def B8y:List AOper:=[aO 10 (.mv (.t 5)),aO 11 (.fAddr (.t 2) 1),aO 12 (.iAddrA 32 1 (.t 11) (.t 10)),aO 13 (.load1 (.t 12)),aO 14 (.mv (.t 1)),aO 15 (.fAddr (.t 2) 1),aO 16 (.iAddrA 32 1 (.t 15) (.t 14)),aO 17 (.load1 (.t 16))]
def B8z:List AOper:=[aO 18 (.bin .eql (.t 13) (.t 17))]
def F3k:ACode:=.draw 0 B8y B8z
def B8A:List AOper:=[aO 4 (.mv (.v (.c (.b false))))]
def F3m:ACode:=.ops B8A
def F3o:ACode:=.seq [4] F3m .ret
def F3q:ACode:=.cond (.t 18) F3o .skip
def F3s:ACode:=.seq [1,2,6,7,18] F3k F3q
def F2P:ACode:=.seq [1,2,5,6,7] F3i F3s
def F2R:ACode:=.block 1 F2P
def B8B:List AOper:=[aO 19 (.bin .add (.t 7) (.v (.c (.i .i64 1)))),aO 7 (.mv (.t 19))]
def F2T:ACode:=.ops B8B
def F2V:ACode:=.seq [1,2,6,7] F2R F2T
def F2X:ACode:=.seq [1,2,6,7] F3g F2V
def F2Z:ACode:=.seq [1,2,6,7,8] F29 F2X
def F20:ACode:=.loop [1,2,6,7] F2Z
def F22:ACode:=.block 0 F20
def F24:ACode:=.seq [1,2,6,7] F2O F22
def B8C:List AOper:=[aO 4 (.mv (.v (.c (.b true))))]
def F26:ACode:=.ops B8C
def F3a:ACode:=.seq [4] F26 .ret
def F3b:ACode:=.seq [] F24 F3a
def F3d:ACode:=.seq [1,2] F2M F3b
def A_index_first:AFn:=⟨F3d,[.tmp 4]⟩
def Z4:B4:=C2
def F2N (n:Nat):SmV:=A2 Z4 B8u
def F28 (n:Nat):SmV:=A2 Z4 B8v
def F3f (n:Nat):SmV:=A2 Z4 B8w
def F3h (n:Nat):SmV:=B8 (.t 8) B9 (F0 0)
def F3j (n:Nat):SmV:=A2 Z4 B8x
def F3l (n:Nat):SmV:=P8 Z4 0 B8y B8z
def F3n (n:Nat):SmV:=A2 Z4 B8A
def F3p (n:Nat):SmV:=A1 [4] (F3n n) B5
def F3r (n:Nat):SmV:=B8 (.t 18) (F3p n) B9
def F3t (n:Nat):SmV:=A1 [1,2,6,7,18] (F3l n) (F3r n)
def F2Q (n:Nat):SmV:=A1 [1,2,5,6,7] (F3j n) (F3t n)
def F2S (n:Nat):SmV:=C4 1 (F2Q n)
def F2U (n:Nat):SmV:=A2 Z4 B8B
def F2W (n:Nat):SmV:=A1 [1,2,6,7] (F2S n) (F2U n)
def F2Y (n:Nat):SmV:=A1 [1,2,6,7] (F3h n) (F2W n)
def B8r (n:Nat):SmV:=A1 [1,2,6,7,8] (F3f n) (F2Y n)
def F21 (n:Nat):SmV:=F2 n [1,2,6,7] (B8r n)
def F23 (n:Nat):SmV:=C4 0 (F21 n)
def F25 (n:Nat):SmV:=A1 [1,2,6,7] (F28 n) (F23 n)
def F27 (n:Nat):SmV:=A2 Z4 B8C
def B8s (n:Nat):SmV:=A1 [4] (F27 n) B5
def F3c (n:Nat):SmV:=A1 [] (F25 n) (B8s n)
def F3e (n:Nat):SmV:=A1 [1,2] (F2N n) (F3c n)
def A65 (n:Nat):AExit → Env → A0 → A6:=fun x e h=>match x with | .normal=>hold ((B8s n) A_index_first.fin (e.keep []) h) | .exit id=>A_index_first.fin (.exit id) e h | .ret=>A_index_first.fin .ret e h
def F3v (n:Nat):AExit → Env → A0 → A6:=fun x e h=>match x with | .exit i=>bif Nat.beq i 0 then (A65 n) .normal e h else (A65 n) (.exit i) e h | .normal=>(A65 n) .normal e h | .ret=>(A65 n) .ret e h
def A66 (n m:Nat) (x1 x2 x6 x7:Val) (h:A0):A6:=E2 (B8r n) [1,2,6,7] (F3v n) m [(1,x1),(2,x2),(6,x6),(7,x7)] h
def A5q (n:Nat) (args:List Val) (h:A0):A6:=(F3e n) A_index_first.fin (params 0 args) h
theorem C6F (n:Nat) (a0 a1:Val) (h:A0):A5q n [a0,a1] h=bnd (cells? a0) fun c1=>A66 n n a1 ((.c (.p h.length 0))) a1 (.c (.i .i64 0)) ((h ++ [some (Row.mk (c1) true)])):=by kernel_rfl
theorem B8t (n m:Nat) (x1 x2 x6 x7:Val) (h:A0):A66 n (m + 1) x1 x2 x6 x7 h=bnd (A4 .lss x7 x6) fun v2=>cnd v2 (bnd (B7 x2 1) fun v3=>bnd (D6 32 1 v3 x7) fun v4=>bnd (A8 h v4) fun v5=>bnd (B7 x2 1) fun v6=>bnd (D6 32 1 v6 x1) fun v7=>bnd (A8 h v7) fun v8=>bnd (A4 .eql v5 v8) fun v9=>cnd v9 (some ((.c (.b false)),(h ++ []))) (bnd (A4 .add x7 (.c (.i .i64 1))) fun v10=>A66 n m x1 x2 x6 v10 ((h ++ [])))) (some ((.c (.b true)),h)):=by kernel_rfl
theorem K_index_first:FnK Try.prog 122 A_index_first Z4 A5q:=.mk' (C5) Try.func122 (by kernel_rfl) (by intro n args h;kernel_rfl)
def A3C:Fun:=tidy (Lim A_index_first Z4)
theorem C8j:SOk Try.prog 122 A3C:=K_index_first.sok
theorem C8i {n:Nat} {args:List Val} {h h2:A0} {v:Val} (he:A5q n args (ro h)=some (v,h2)) (hf:v.flat=true):A3C args h=some (v,h):=K_index_first.flat he hf
def B7y:List AOper:=[aO 1 (.box (.t 0)),aO 2 (.nilrow 1)]
def E85:ACode:=.ops B7y
def B7z:List AOper:=[aO 3 (.nilrow 1)]
def E87:ACode:=.ops B7z
def B7A:List AOper:=[aO 5 (.loadN 33 (.t 1)),aO 6 (.call 118 [(.t 5)]),aO 7 (.mv (.v (.c (.i .i64 0))))]
def E9r:ACode:=.ops B7A
def B7B:List AOper:=[aO 8 (.bin .lss (.t 7) (.t 6))]
def E9A:ACode:=.ops B7B
def E9C:ACode:=.cond (.t 8) .skip (.exit 0)
def B7C:List AOper:=[aO 9 (.mv (.t 7)),aO 4 (.mv (.t 9))]
def E9E:ACode:=.ops B7C
def B7D:List AOper:=[aO 10 (.mv (.t 4)),aO 11 (.fAddr (.t 1) 1),aO 12 (.iAddrA 32 1 (.t 11) (.t 10)),aO 13 (.load1 (.t 12)),aO 14 (.bin .neq (.t 13) (.v (.c (.i .i64 0)))),aO 15 (.mv (.t 14)),{ dst:=some 16,op:=.loadN 33 (.t 1),guard:=some (15,true) },{ dst:=some 17,op:=.mv (.t 4),guard:=some (15,true) },{ dst:=some 18,op:=.call 122 [(.t 16),(.t 17)],guard:=some (15,true) },aO 19 (.pick (.t 15) (.t 18) (.v (.c (.b false))))]
def E9G:ACode:=.ops B7D
def B7E:List AOper:=[aO 20 (.mv (.t 3)),aO 21 (.mv (.t 4)),aO 22 (.fAddr (.t 1) 1),aO 23 (.iAddrA 32 1 (.t 22) (.t 21)),aO 24 (.load1 (.t 23)),aO 25 (.buildSl 1 1 ([.i .i64 0]) [(0,1,(.t 24))]),aO 26 (.app 1 (.t 20) (.t 25)),aO 3 (.mv (.t 26))]
def E9I:ACode:=.ops B7E
def E9K:ACode:=.cond (.t 19) E9I .skip
def E9M:ACode:=.seq [1,3,4,6,7,19] E9G E9K
def E88:ACode:=.seq [1,3,4,6,7] E9E E9M
def E9a:ACode:=.block 1 E88
def B7F:List AOper:=[aO 27 (.bin .add (.t 7) (.v (.c (.i .i64 1)))),aO 7 (.mv (.t 27))]
def E9c:ACode:=.ops B7F
def E9d:ACode:=.seq [1,3,6,7] E9a E9c
def E9f:ACode:=.seq [1,3,6,7] E9C E9d
def E9h:ACode:=.seq [1,3,6,7,8] E9A E9f
def E9i:ACode:=.loop [1,3,6,7] E9h
def E9k:ACode:=.block 0 E9i
def E9m:ACode:=.seq [1,3,6,7] E9r E9k
def B7G:List AOper:=[aO 28 (.mv (.t 3)),aO 2 (.mv (.t 28))]
def E9o:ACode:=.ops B7G
def E9s:ACode:=.seq [2] E9o .ret
def E9t:ACode:=.seq [3] E9m E9s
def E9v:ACode:=.seq [1,3] E87 E9t
def E9x:ACode:=.seq [1] E85 E9v
def A_index_Buckets:AFn:=⟨E9x,[.tmp 2]⟩
def X1:B4:=A9 118 A1P (A9 122 A3C C2)
def E86 (n:Nat):SmV:=A2 X1 B7y
def E9q (n:Nat):SmV:=A2 X1 B7z
def E9z (n:Nat):SmV:=A2 X1 B7A
def E9B (n:Nat):SmV:=A2 X1 B7B
def E9D (n:Nat):SmV:=B8 (.t 8) B9 (F0 0)
def E9F (n:Nat):SmV:=A2 X1 B7C
def E9H (n:Nat):SmV:=A2 X1 B7D
def E9J (n:Nat):SmV:=A2 X1 B7E
def E9L (n:Nat):SmV:=B8 (.t 19) (E9J n) B9
def E9N (n:Nat):SmV:=A1 [1,3,4,6,7,19] (E9H n) (E9L n)
def E89 (n:Nat):SmV:=A1 [1,3,4,6,7] (E9F n) (E9N n)
def E9b (n:Nat):SmV:=C4 1 (E89 n)
def B7v (n:Nat):SmV:=A2 X1 B7F
def E9e (n:Nat):SmV:=A1 [1,3,6,7] (E9b n) (B7v n)
def E9g (n:Nat):SmV:=A1 [1,3,6,7] (E9D n) (E9e n)
def A97 (n:Nat):SmV:=A1 [1,3,6,7,8] (E9B n) (E9g n)
def E9j (n:Nat):SmV:=F2 n [1,3,6,7] (A97 n)
def E9l (n:Nat):SmV:=C4 0 (E9j n)
def E9n (n:Nat):SmV:=A1 [1,3,6,7] (E9z n) (E9l n)
def E9p (n:Nat):SmV:=A2 X1 B7G
def B7w (n:Nat):SmV:=A1 [2] (E9p n) B5
def E9u (n:Nat):SmV:=A1 [3] (E9n n) (B7w n)
def E9w (n:Nat):SmV:=A1 [1,3] (E9q n) (E9u n)
def E9y (n:Nat):SmV:=A1 [1] (E86 n) (E9w n)
def A6X (n:Nat):AExit → Env → A0 → A6:=fun x e h=>match x with | .normal=>hold ((B7w n) A_index_Buckets.fin (e.keep [3]) h) | .exit id=>A_index_Buckets.fin (.exit id) e h | .ret=>A_index_Buckets.fin .ret e h
def A6Y (n:Nat):AExit → Env → A0 → A6:=fun x e h=>match x with | .exit i=>bif Nat.beq i 0 then (A6X n) .normal e h else (A6X n) (.exit i) e h | .normal=>(A6X n) .normal e h | .ret=>(A6X n) .ret e h
def A4a (n m:Nat) (x1 x3 x6 x7:Val) (h:A0):A6:=E2 (A97 n) [1,3,6,7] (A6Y n) m [(1,x1),(3,x3),(6,x6),(7,x7)] h
def A5l (n:Nat) (args:List Val) (h:A0):A6:=(E9y n) A_index_Buckets.fin (params 0 args) h
def E9P (n m:Nat):AExit → Env → A0 → A6:=fun x e h=>match x with | .normal=>E2 (A97 n) [1,3,6,7] (A6Y n) m (e.keep [1,3,6,7]) h | .exit id=>(A6Y n) (.exit id) e h | .ret=>(A6Y n) .ret e h
def A98 (n m:Nat) (x1 x3 x6 x7:Val) (h:A0):A6:=hold ((B7v n) (E9P n m) [(1,x1),(3,x3),(6,x6),(7,x7)] h)
theorem C6z (n:Nat) (a0:Val) (h:A0):A5l n [a0] h=bnd (cells? a0) fun c1=>bnd (A5 ((((h ++ [some (Row.mk (c1) true)]) ++ [some (Row.mk ([]) true)]) ++ [some (Row.mk ([]) true)])) 33 ((.c (.p h.length 0)))) fun v2=>bnd (A1P [v2] ((((h ++ [some (Row.mk (c1) true)]) ++ [some (Row.mk ([]) true)]) ++ [some (Row.mk ([]) true)]))) fun p3=>A4a n n ((.c (.p h.length 0))) ((.c (.sl (((h ++ [some (Row.mk (c1) true)]) ++ [some (Row.mk ([]) true)])).length 0 0 1))) p3.1 (.c (.i .i64 0)) p3.2:=by kernel_rfl
theorem B7x (n m:Nat) (x1 x3 x6 x7:Val) (h:A0):A4a n (m + 1) x1 x3 x6 x7 h=bnd (A4 .lss x7 x6) fun v4=>cnd v4 (bnd (B7 x1 1) fun v5=>bnd (D6 32 1 v5 x7) fun v6=>bnd (A8 h v6) fun v7=>bnd (A4 .neq v7 (.c (.i .i64 0))) fun v8=>bnd (gd v8 true (bnd (A5 h 33 x1) fun v9=>some (v9,h)) (some (.no,h))) fun p10=>bnd (gd v8 true (some (x7,p10.2)) (some (.no,p10.2))) fun p11=>bnd (gd v8 true (bnd (A3C [p10.1,p11.1] p11.2) fun p12=>some (p12.1,p12.2)) (some (.no,p11.2))) fun p13=>bnd (D4 v8 p13.1 (.c (.b false))) fun v14=>cnd v14 (bnd (B7 x1 1) fun v15=>bnd (D6 32 1 v15 x7) fun v16=>bnd (A8 p13.2 v16) fun v17=>bnd (B0 ([.i .i64 0]) [(0,1,v17)]) fun c18=>bnd (F9 ((p13.2 ++ [some (Row.mk (c18) true)])) 1 x3 ((.c (.sl p13.2.length 0 1 1)))) fun p19=>A98 n m x1 p19.1 x6 x7 p19.2) (A98 n m x1 x3 x6 x7 p13.2)) (some (x3,h)):=by kernel_rfl
theorem A99 (n m:Nat) (x1 x3 x6 x7:Val) (h:A0):A98 n m x1 x3 x6 x7 h=bnd (A4 .add x7 (.c (.i .i64 1))) fun v20=>A4a n m x1 x3 x6 v20 h:=by kernel_rfl
theorem K_index_Buckets:FnK Try.prog 82 A_index_Buckets X1 A5l:=.mk' (B3 B1c (B3 C8j C5)) Try.func82 (by kernel_rfl) (by intro n args h;kernel_rfl)
def A3y:Fun:=tidy (Lim A_index_Buckets X1)
theorem C78:SOk Try.prog 82 A3y:=K_index_Buckets.sok
theorem C79 {n:Nat} {args:List Val} {h h2:A0} {v:Val} {sz k:Nat} {cs:List Cell} (he:A5l n args (ro h)=some (v,h2)) (ho:Out h.length h2 v sz k cs) (hf:D8 cs=true):A3y args h=some (.c (.sl h.length 0 k sz),h ++ [some ⟨cs,true⟩]):=K_index_Buckets.out he ho hf
def B73:List AOper:=[aO 2 (.box (.t 0)),aO 4 (.mv (.v (.c (.i .i64 0))))]
def F1j:ACode:=.ops B73
def B74:List AOper:=[aO 5 (.mv (.t 1)),aO 6 (.loadN 33 (.t 2)),aO 7 (.call 145 [(.t 6)]),aO 8 (.call 153 [(.t 5),(.t 7)]),aO 4 (.mv (.t 8))]
def F1l:ACode:=.ops B74
def F1n:ACode:=.seq [4] F1l .ret
def F1p:ACode:=.seq [1,2] F1j F1n
def A_index_Place:AFn:=⟨F1p,[.tmp 4]⟩
def A4M:B4:=A9 145 A0E (A9 153 A3G C2)
def F1k (n:Nat):SmV:=A2 A4M B73
def F1m (n:Nat):SmV:=A2 A4M B74
def F1o (n:Nat):SmV:=A1 [4] (F1m n) B5
def F1q (n:Nat):SmV:=A1 [1,2] (F1k n) (F1o n)
def A5n (n:Nat) (args:List Val) (h:A0):A6:=(F1q n) A_index_Place.fin (params 0 args) h
theorem C6B (n:Nat) (a0 a1:Val) (h:A0):A5n n [a0,a1] h=bnd (cells? a0) fun c1=>bnd (A5 ((h ++ [some (Row.mk (c1) true)])) 33 ((.c (.p h.length 0)))) fun v2=>bnd (A0E [v2] ((h ++ [some (Row.mk (c1) true)]))) fun p3=>bnd (A3G [a1,p3.1] p3.2) fun p4=>some (p4.1,p4.2):=by kernel_rfl
theorem K_index_Place:FnK Try.prog 127 A_index_Place A4M A5n:=.mk' (B3 A80 (B3 C8w C5)) Try.func127 (by kernel_rfl) (by intro n args h;kernel_rfl)
def A3A:Fun:=tidy (Lim A_index_Place A4M)
theorem C8d:SOk Try.prog 127 A3A:=K_index_Place.sok
theorem C8c {n:Nat} {args:List Val} {h h2:A0} {v:Val} (he:A5n n args (ro h)=some (v,h2)) (hf:v.flat=true):A3A args h=some (v,h):=K_index_Place.flat he hf
end Go.Proofs.Ytdgggnlbdoiloaa
end
noncomputable section
namespace Go.Proofs.Ytdgggnlbdoiloaa
open Go Go.Esc
set_option maxRecDepth 100000
def B6N:List AOper:=[aO 2 (.box (.t 0)),aO 3 (.box (.t 1)),aO 4 (.alloc ([.i .i64 0] ++ List.replicate 32 (.i .i64 0))),aO 5 (.mv (.v (.c (.b false))))]
def E66:ACode:=.ops B6N
def B6O:List AOper:=[aO 8 (.fAddr (.t 3) 0),aO 9 (.load1 (.t 8)),aO 10 (.bin .neq (.t 9) (.v (.c (.i .i64 2)))),aO 11 (.mv (.t 10)),{ dst:=some 12,op:=.fAddr (.t 2) 0,guard:=some (11,false) },{ dst:=some 13,op:=.loadN 3 (.t 12),guard:=some (11,false) },{ dst:=some 14,op:=.fAddr (.t 3) 4,guard:=some (11,false) },{ dst:=some 15,op:=.iAddrA 6 1 (.t 14) (.v (.c (.i .i64 0))),guard:=some (11,false) },{ dst:=some 16,op:=.load1 (.t 15),guard:=some (11,false) },{ dst:=some 17,op:=.call 25 [(.t 13),(.t 16)],guard:=some (11,false) },{ dst:=some 18,op:=.un .not (.t 17),guard:=some (11,false) },aO 19 (.pick (.t 11) (.v (.c (.b true))) (.t 18))]
def E68:ACode:=.ops B6O
def B6P:List AOper:=[aO 20 (.build ([.i .i64 0] ++ List.replicate 32 (.i .i64 0)) []),{ dst:=none,op:=.storeN 33 (.t 4) (.t 20) },aO 5 (.mv (.v (.c (.b false))))]
def E7e:ACode:=.ops B6P
def E7g:ACode:=.seq [4,5] E7e .ret
def E7i:ACode:=.cond (.t 19) E7g .skip
def E7k:ACode:=.seq [2,3,4,19] E68 E7i
def B6Q:List AOper:=[aO 22 (.loadN 4 (.t 2)),aO 23 (.fAddr (.t 3) 4),aO 24 (.iAddrA 6 1 (.t 23) (.v (.c (.i .i64 0)))),aO 25 (.load1 (.t 24)),aO 26 (.call 38 [(.t 22),(.t 25)]),aO 27 (.call 78 [(.t 26)]),aO 21 (.mv (.t 27)),aO 28 (.ext (.t 21) 0),aO 29 (.ext (.t 21) 1),aO 6 (.alloc ([.i .i64 0] ++ List.replicate 32 (.i .i64 0))),{ dst:=none,op:=.storeN 33 (.t 6) (.t 28) },aO 7 (.mv (.t 29))]
def E7m:ACode:=.ops B6Q
def B6R:List AOper:=[aO 30 (.loadN 33 (.t 6)),aO 31 (.mv (.t 7)),aO 32 (.bin .eql (.t 31) (.v (.c (.i .i64 0)))),{ dst:=none,op:=.storeN 33 (.t 4) (.t 30) },aO 5 (.mv (.t 32))]
def E7o:ACode:=.ops B6R
def E7q:ACode:=.seq [4,5] E7o .ret
def E7s:ACode:=.seq [4,6,7] E7m E7q
def E69:ACode:=.seq [2,3,4] E7k E7s
def E7b:ACode:=.seq [2,3,4] E66 E69
def A_fmap_Index:AFn:=⟨E7b,[.cellN 4 33,.tmp 5]⟩
def A1C:B4:=A9 25 A0C (A9 38 Q0 (A9 78 A3z C2))
def E67 (n:Nat):SmV:=A2 A1C B6N
def E7d (n:Nat):SmV:=A2 A1C B6O
def E7f (n:Nat):SmV:=A2 A1C B6P
def E7h (n:Nat):SmV:=A1 [4,5] (E7f n) B5
def E7j (n:Nat):SmV:=B8 (.t 19) (E7h n) B9
def E7l (n:Nat):SmV:=A1 [2,3,4,19] (E7d n) (E7j n)
def E7n (n:Nat):SmV:=A2 A1C B6Q
def E7p (n:Nat):SmV:=A2 A1C B6R
def E7r (n:Nat):SmV:=A1 [4,5] (E7p n) B5
def E7t (n:Nat):SmV:=A1 [4,6,7] (E7n n) (E7r n)
def E7a (n:Nat):SmV:=A1 [2,3,4] (E7l n) (E7t n)
def E7c (n:Nat):SmV:=A1 [2,3,4] (E67 n) (E7a n)
def A5e (n:Nat) (args:List Val) (h:A0):A6:=(E7c n) A_fmap_Index.fin (params 0 args) h
theorem C6r (n:Nat) (a0 a1:Val) (h:A0):A5e n [a0,a1] h=bnd (cells? a0) fun c1=>bnd (cells? a1) fun c2=>bnd (B7 ((.c (.p ((h ++ [some (Row.mk (c1) true)])).length 0))) 0) fun v3=>bnd (A8 ((((h ++ [some (Row.mk (c1) true)]) ++ [some (Row.mk (c2) true)]) ++ [some (Row.mk ([.i .i64 0] ++ List.replicate 32 (.i .i64 0)) true)])) v3) fun v4=>bnd (A4 .neq v4 (.c (.i .i64 2))) fun v5=>bnd (gd v5 false (bnd (B7 ((.c (.p h.length 0))) 0) fun v6=>some (v6,(((h ++ [some (Row.mk (c1) true)]) ++ [some (Row.mk (c2) true)]) ++ [some (Row.mk ([.i .i64 0] ++ List.replicate 32 (.i .i64 0)) true)]))) (some (.no,(((h ++ [some (Row.mk (c1) true)]) ++ [some (Row.mk (c2) true)]) ++ [some (Row.mk ([.i .i64 0] ++ List.replicate 32 (.i .i64 0)) true)])))) fun p7=>bnd (gd v5 false (bnd (A5 p7.2 3 p7.1) fun v8=>some (v8,p7.2)) (some (.no,p7.2))) fun p9=>bnd (gd v5 false (bnd (B7 ((.c (.p ((h ++ [some (Row.mk (c1) true)])).length 0))) 4) fun v10=>some (v10,p9.2)) (some (.no,p9.2))) fun p11=>bnd (gd v5 false (bnd (D6 6 1 p11.1 (.c (.i .i64 0))) fun v12=>some (v12,p11.2)) (some (.no,p11.2))) fun p13=>bnd (gd v5 false (bnd (A8 p13.2 p13.1) fun v14=>some (v14,p13.2)) (some (.no,p13.2))) fun p15=>bnd (gd v5 false (bnd (A0C [p9.1,p15.1] p15.2) fun p16=>some (p16.1,p16.2)) (some (.no,p15.2))) fun p17=>bnd (gd v5 false (bnd (aun .not p17.1) fun v18=>some (v18,p17.2)) (some (.no,p17.2))) fun p19=>bnd (D4 v5 (.c (.b true)) p19.1) fun v20=>cnd v20 (bnd (B0 ([.i .i64 0] ++ List.replicate 32 (.i .i64 0)) []) fun c21=>bnd (B1 p19.2 33 ((.c (.p (((h ++ [some (Row.mk (c1) true)]) ++ [some (Row.mk (c2) true)])).length 0))) ((.a c21))) fun h22=>D3 [A5 h22 33 ((.c (.p (((h ++ [some (Row.mk (c1) true)]) ++ [some (Row.mk (c2) true)])).length 0))),some (.c (.b false))] h22) (bnd (A5 p19.2 4 ((.c (.p h.length 0)))) fun v23=>bnd (B7 ((.c (.p ((h ++ [some (Row.mk (c1) true)])).length 0))) 4) fun v24=>bnd (D6 6 1 v24 (.c (.i .i64 0))) fun v25=>bnd (A8 p19.2 v25) fun v26=>bnd (Q0 [v23,v26] p19.2) fun p27=>bnd (A3z [p27.1] p27.2) fun p28=>bnd (C3 p28.1 0) fun v29=>bnd (C3 p28.1 1) fun v30=>bnd (B1 ((p28.2 ++ [some (Row.mk ([.i .i64 0] ++ List.replicate 32 (.i .i64 0)) true)])) 33 ((.c (.p p28.2.length 0))) v29) fun h31=>bnd (A5 h31 33 ((.c (.p p28.2.length 0)))) fun v32=>bnd (A4 .eql v30 (.c (.i .i64 0))) fun v33=>bnd (B1 h31 33 ((.c (.p (((h ++ [some (Row.mk (c1) true)]) ++ [some (Row.mk (c2) true)])).length 0))) v32) fun h34=>D3 [A5 h34 33 ((.c (.p (((h ++ [some (Row.mk (c1) true)]) ++ [some (Row.mk (c2) true)])).length 0))),some v33] h34):=by kernel_rfl
theorem K_fmap_Index:FnK Try.prog 42 A_fmap_Index A1C A5e:=.mk' (B3 A8Y (B3 A2M (B3 C8b C5))) Try.func42 (by kernel_rfl) (by intro n args h;kernel_rfl)
def A1M:Fun:=tidy (Lim A_fmap_Index A1C)
theorem B09:SOk Try.prog 42 A1M:=K_fmap_Index.sok
theorem C7W {n:Nat} {args:List Val} {h h2:A0} {v:Val} (he:A5e n args (ro h)=some (v,h2)) (hf:v.flat=true):A1M args h=some (v,h):=K_fmap_Index.flat he hf
def B6A:List AOper:=[aO 2 (.box (.t 0)),aO 3 (.box (.t 1)),aO 4 (.nilrow 1)]
def E56:ACode:=.ops B6A
def B6B:List AOper:=[aO 11 (.loadN 4 (.t 2)),aO 12 (.loadN 11 (.t 3)),aO 13 (.call 42 [(.t 11),(.t 12)]),aO 10 (.mv (.t 13)),aO 14 (.ext (.t 10) 0),aO 15 (.ext (.t 10) 1),aO 5 (.alloc ([.i .i64 0] ++ List.replicate 32 (.i .i64 0))),{ dst:=none,op:=.storeN 33 (.t 5) (.t 14) },aO 6 (.mv (.t 15))]
def E58:ACode:=.ops B6B
def B6E:List AOper:=[aO 16 (.mv (.t 6)),aO 17 (.un .not (.t 16))]
def E6t:ACode:=.ops B6E
def B6F:List AOper:=[aO 4 (.nilrow 1)]
def E6N:ACode:=.ops B6F
def E6T:ACode:=.seq [4] E6N .ret
def E6V:ACode:=.cond (.t 17) E6T .skip
def E6X:ACode:=.seq [2,5,17] E6t E6V
def B6G:List AOper:=[aO 7 (.nilrow 1)]
def E6Z:ACode:=.ops B6G
def B6H:List AOper:=[aO 18 (.loadN 33 (.t 5)),aO 19 (.call 82 [(.t 18)]),aO 20 (.len (.t 19)),aO 21 (.mv (.v (.c (.i .i64 0))))]
def E61:ACode:=.ops B6H
def B6I:List AOper:=[aO 22 (.bin .lss (.t 21) (.t 20))]
def E63:ACode:=.ops B6I
def E59:ACode:=.cond (.t 22) .skip (.exit 0)
def B6J:List AOper:=[aO 23 (.iAddrL 1 (.t 19) (.t 21)),aO 24 (.load1 (.t 23)),aO 9 (.mv (.t 24))]
def E6b:ACode:=.ops B6J
def B6K:List AOper:=[aO 25 (.fAddr (.t 2) 0),aO 26 (.loadN 3 (.t 25)),aO 27 (.mv (.t 9)),aO 28 (.call 25 [(.t 26),(.t 27)])]
def E6d:ACode:=.ops B6K
def B6L:List AOper:=[aO 29 (.mv (.t 7)),aO 30 (.mv (.t 9)),aO 31 (.buildSl 1 1 ([.i .i64 0]) [(0,1,(.t 30))]),aO 32 (.app 1 (.t 29) (.t 31)),aO 7 (.mv (.t 32))]
def E6f:ACode:=.ops B6L
def E6h:ACode:=.cond (.t 28) E6f .skip
def E6j:ACode:=.seq [2,7,9,19,20,21,28] E6d E6h
def E6l:ACode:=.seq [2,7,9,19,20,21] E6b E6j
def E6n:ACode:=.block 1 E6l
def B6C:List AOper:=[aO 33 (.bin .add (.t 21) (.v (.c (.i .i64 1)))),aO 21 (.mv (.t 33))]
def E6p:ACode:=.ops B6C
def E6q:ACode:=.seq [2,7,19,20,21] E6n E6p
def E6u:ACode:=.seq [2,7,19,20,21] E59 E6q
def E6w:ACode:=.seq [2,7,19,20,21,22] E63 E6u
def E6x:ACode:=.loop [2,7,19,20,21] E6w
def E6z:ACode:=.block 0 E6x
def E6B:ACode:=.seq [2,7,19,20,21] E61 E6z
def B6D:List AOper:=[aO 34 (.mv (.t 7)),aO 4 (.mv (.t 34))]
def E6D:ACode:=.ops B6D
def E6F:ACode:=.seq [4] E6D .ret
def E6G:ACode:=.seq [7] E6B E6F
def E6I:ACode:=.seq [2,5,7] E6Z E6G
def E6K:ACode:=.seq [2,5] E6X E6I
def E6O:ACode:=.seq [2,5,6] E58 E6K
def E6Q:ACode:=.seq [2,3] E56 E6O
def A_fmap_Buckets:AFn:=⟨E6Q,[.tmp 4]⟩
def R6:B4:=A9 42 A1M (A9 82 A3y (A9 25 A0C C2))
def E57 (n:Nat):SmV:=A2 R6 B6A
def E6s (n:Nat):SmV:=A2 R6 B6B
def E6M (n:Nat):SmV:=A2 R6 B6E
def E6S (n:Nat):SmV:=A2 R6 B6F
def E6U (n:Nat):SmV:=A1 [4] (E6S n) B5
def E6W (n:Nat):SmV:=B8 (.t 17) (E6U n) B9
def E6Y (n:Nat):SmV:=A1 [2,5,17] (E6M n) (E6W n)
def E60 (n:Nat):SmV:=A2 R6 B6G
def E62 (n:Nat):SmV:=A2 R6 B6H
def E64 (n:Nat):SmV:=A2 R6 B6I
def E6a (n:Nat):SmV:=B8 (.t 22) B9 (F0 0)
def E6c (n:Nat):SmV:=A2 R6 B6J
def E6e (n:Nat):SmV:=A2 R6 B6K
def E6g (n:Nat):SmV:=A2 R6 B6L
def E6i (n:Nat):SmV:=B8 (.t 28) (E6g n) B9
def E6k (n:Nat):SmV:=A1 [2,7,9,19,20,21,28] (E6e n) (E6i n)
def E6m (n:Nat):SmV:=A1 [2,7,9,19,20,21] (E6c n) (E6k n)
def E6o (n:Nat):SmV:=C4 1 (E6m n)
def B6w (n:Nat):SmV:=A2 R6 B6C
def E6r (n:Nat):SmV:=A1 [2,7,19,20,21] (E6o n) (B6w n)
def E6v (n:Nat):SmV:=A1 [2,7,19,20,21] (E6a n) (E6r n)
def A9W (n:Nat):SmV:=A1 [2,7,19,20,21,22] (E64 n) (E6v n)
def E6y (n:Nat):SmV:=F2 n [2,7,19,20,21] (A9W n)
def E6A (n:Nat):SmV:=C4 0 (E6y n)
def E6C (n:Nat):SmV:=A1 [2,7,19,20,21] (E62 n) (E6A n)
def E6E (n:Nat):SmV:=A2 R6 B6D
def B6x (n:Nat):SmV:=A1 [4] (E6E n) B5
def E6H (n:Nat):SmV:=A1 [7] (E6C n) (B6x n)
def E6J (n:Nat):SmV:=A1 [2,5,7] (E60 n) (E6H n)
def E6L (n:Nat):SmV:=A1 [2,5] (E6Y n) (E6J n)
def E6P (n:Nat):SmV:=A1 [2,5,6] (E6s n) (E6L n)
def E6R (n:Nat):SmV:=A1 [2,3] (E57 n) (E6P n)
def A6R (n:Nat):AExit → Env → A0 → A6:=fun x e h=>match x with | .normal=>hold ((B6x n) A_fmap_Buckets.fin (e.keep [7]) h) | .exit id=>A_fmap_Buckets.fin (.exit id) e h | .ret=>A_fmap_Buckets.fin .ret e h
def A6S (n:Nat):AExit → Env → A0 → A6:=fun x e h=>match x with | .exit i=>bif Nat.beq i 0 then (A6R n) .normal e h else (A6R n) (.exit i) e h | .normal=>(A6R n) .normal e h | .ret=>(A6R n) .ret e h
def A6T (n m:Nat) (x2 x7 x19 x20 x21:Val) (h:A0):A6:=E2 (A9W n) [2,7,19,20,21] (A6S n) m [(2,x2),(7,x7),(19,x19),(20,x20),(21,x21)] h
def A5d (n:Nat) (args:List Val) (h:A0):A6:=(E6R n) A_fmap_Buckets.fin (params 0 args) h
def E65 (n m:Nat):AExit → Env → A0 → A6:=fun x e h=>match x with | .normal=>E2 (A9W n) [2,7,19,20,21] (A6S n) m (e.keep [2,7,19,20,21]) h | .exit id=>(A6S n) (.exit id) e h | .ret=>(A6S n) .ret e h
def A9Y (n m:Nat) (x2 x7 x19 x20 x21:Val) (h:A0):A6:=hold ((B6w n) (E65 n m) [(2,x2),(7,x7),(19,x19),(20,x20),(21,x21)] h)
theorem C6q (n:Nat) (a0 a1:Val) (h:A0):A5d n [a0,a1] h=bnd (cells? a0) fun c1=>bnd (cells? a1) fun c2=>bnd (A5 ((((h ++ [some (Row.mk (c1) true)]) ++ [some (Row.mk (c2) true)]) ++ [some (Row.mk ([]) true)])) 4 ((.c (.p h.length 0)))) fun v3=>bnd (A5 ((((h ++ [some (Row.mk (c1) true)]) ++ [some (Row.mk (c2) true)]) ++ [some (Row.mk ([]) true)])) 11 ((.c (.p ((h ++ [some (Row.mk (c1) true)])).length 0)))) fun v4=>bnd (A1M [v3,v4] ((((h ++ [some (Row.mk (c1) true)]) ++ [some (Row.mk (c2) true)]) ++ [some (Row.mk ([]) true)]))) fun p5=>bnd (C3 p5.1 0) fun v6=>bnd (C3 p5.1 1) fun v7=>bnd (B1 ((p5.2 ++ [some (Row.mk ([.i .i64 0] ++ List.replicate 32 (.i .i64 0)) true)])) 33 ((.c (.p p5.2.length 0))) v6) fun h8=>bnd (aun .not v7) fun v9=>cnd v9 (some (((.c (.sl h8.length 0 0 1))),(h8 ++ [some (Row.mk ([]) true)]))) (bnd (A5 ((h8 ++ [some (Row.mk ([]) true)])) 33 ((.c (.p p5.2.length 0)))) fun v10=>bnd (A3y [v10] ((h8 ++ [some (Row.mk ([]) true)]))) fun p11=>bnd (F5 p11.1) fun v12=>A6T n n ((.c (.p h.length 0))) ((.c (.sl h8.length 0 0 1))) p11.1 v12 (.c (.i .i64 0)) p11.2):=by kernel_rfl
theorem B6z (n m:Nat) (x2 x7 x19 x20 x21:Val) (h:A0):A6T n (m + 1) x2 x7 x19 x20 x21 h=bnd (A4 .lss x21 x20) fun v13=>cnd v13 (bnd (D1 1 x19 x21) fun v14=>bnd (A8 h v14) fun v15=>bnd (B7 x2 0) fun v16=>bnd (A5 h 3 v16) fun v17=>bnd (A0C [v17,v15] h) fun p18=>cnd p18.1 (bnd (B0 ([.i .i64 0]) [(0,1,v15)]) fun c19=>bnd (F9 ((p18.2 ++ [some (Row.mk (c19) true)])) 1 x7 ((.c (.sl p18.2.length 0 1 1)))) fun p20=>A9Y n m x2 p20.1 x19 x20 x21 p20.2) (A9Y n m x2 x7 x19 x20 x21 p18.2)) (some (x7,h)):=by kernel_rfl
theorem B6y (n m:Nat) (x2 x7 x19 x20 x21:Val) (h:A0):A9Y n m x2 x7 x19 x20 x21 h=bnd (A4 .add x21 (.c (.i .i64 1))) fun v21=>A6T n m x2 x7 x19 x20 v21 h:=by kernel_rfl
theorem K_fmap_Buckets:FnK Try.prog 44 A_fmap_Buckets R6 A5d:=.mk' (B3 B09 (B3 C78 (B3 A8Y C5))) Try.func44 (by kernel_rfl) (by intro n args h;kernel_rfl)
def A0B:Fun:=tidy (Lim A_fmap_Buckets R6)
theorem A8X:SOk Try.prog 44 A0B:=K_fmap_Buckets.sok
theorem C7V {n:Nat} {args:List Val} {h h2:A0} {v:Val} {sz k:Nat} {cs:List Cell} (he:A5d n args (ro h)=some (v,h2)) (ho:Out h.length h2 v sz k cs) (hf:D8 cs=true):A0B args h=some (.c (.sl h.length 0 k sz),h ++ [some ⟨cs,true⟩]):=K_fmap_Buckets.out he ho hf
end Go.Proofs.Ytdgggnlbdoiloaa
end
section
namespace Go.Proofs.Ytdgggnlbdoiloaa
open Go Go.Esc
theorem B0z {h:A0} {id n sz:Nat} {cs ys:List Cell} (hr:rd h id=some ⟨cs,true⟩) (hl:cs.length=n * sz) (hy:ys.length=sz) (hsz:0 < sz) (hn:n + 1 ≤ 1073741824) :
    ∃ h',F9 (h ++ [some ⟨ys,true⟩]) sz (.c (.sl id 0 n sz)) (.c (.sl h.length 0 1 sz))=some (.c (.sl (h.length + 1) 0 (n + 1) sz),h') ∧ rd h' (h.length + 1)=some ⟨cs ++ ys,true⟩ ∧ (∀ i r,i ≠ id → rd h i=some r → rd h' i=some r) ∧ (∀ b,b ≤ id → b ≤ h.length → Low b h h'):=by
  have hlt:=D2 hr
  refine ⟨(h ++ [some (Row.mk ys true)]).set id none ++ [some (Row.mk (cs ++ ys) true)],?_,?_,fun i r hi hir=>?_,fun b hb hb2=>(((Low.refl hb2).new _).set hb none).new _⟩
  · rw [A16 (h:=h ++ [some ⟨ys,true⟩]) (m:=1) (C0 hr) hl M9 (by omega) rfl hsz hn]
    simp
  · have:=M9 (h:=(h ++ [some (Row.mk ys true)]).set id none) (r:=Row.mk (cs ++ ys) true)
    rw [List.length_set] at this
    simpa using this
  · refine C0 ?_
    rw [G3 (Ne.symm hi)]
    exact C0 hir
def C51 (h:A0) (x:Cell) (l:List Int) (b:Nat) (rs:List Nat):Prop:=(l=[] ∧ x=.ns) ∨ ∃ id,x=.sl id 0 l.length 1 ∧ rd h id=some ⟨encI l,true⟩ ∧ b ≤ id ∧ id ∉ rs
def VarI (h:A0) (r:Nat) (l:List Int) (b:Nat) (rs:List Nat):Prop:=∃ x,rd h r=some ⟨[x],true⟩ ∧ C51 h x l b rs
theorem VarI.nil {h:A0} {r b:Nat} {rs:List Nat} (hr:rd h r=some ⟨[.ns],true⟩):VarI h r [] b rs:=⟨.ns,hr,.inl ⟨rfl,rfl⟩⟩
theorem VarI.keep {h h':A0} {r b:Nat} {l:List Int} {rs:List Nat} (hv:VarI h r l b rs) (h1:rd h' r=rd h r) (h2:∀ id,id ∉ rs → ∀ x,rd h id=some x → rd h' id=some x):VarI h' r l b rs:=by
  obtain ⟨x,hx,hd⟩:=hv
  refine ⟨x,by rw [h1];exact hx,?_⟩
  rcases hd with hd | ⟨id,e,hr,hb,hn⟩
  · exact .inl hd
  · exact .inr ⟨id,e,h2 id hn _ hr,hb,hn⟩
theorem VarI.more {h:A0} {r b:Nat} {l:List Int} {rs:List Nat} (hv:VarI h r l b rs) (t:A0):VarI (h ++ t) r l b rs:=by
  obtain ⟨x,hx,hd⟩:=hv
  refine ⟨x,C0 hx,?_⟩
  rcases hd with hd | ⟨id,e,hr,hb,hn⟩
  · exact .inl hd
  · exact .inr ⟨id,e,C0 hr,hb,hn⟩
theorem B1O {h:A0} {jd m sz:Nat} {ys:List Cell} (hy:rd h jd=some ⟨ys,true⟩) (hyl:ys.length=m * sz) (hsz:0 < sz) (hn:m ≤ 1073741824) :
    F9 h sz (.c .ns) (.c (.sl jd 0 m sz))=some (.c (.sl h.length 0 m sz),h ++ [some ⟨ys,true⟩]):=by
  have h2:K4 h sz (.c (.sl jd 0 m sz))=some ys:=by
    simp only [K4,if_true,U4,hy,Option.bind_some,List.drop_zero,Nat.zero_add]
    rw [← hyl,List.take_length,if_pos ⟨Nat.le_refl _,rfl⟩]
  have e1:ys.length / sz=m:=by rw [hyl];exact Nat.mul_div_cancel _ hsz
  simp only [F9,h2,Option.bind_some]
  rw [e1,if_pos hn]
theorem VarI.push {h:A0} {r b:Nat} {l:List Int} {rs:List Nat} (hv:VarI h r l b rs) (hr:r ∈ rs) (hbr:b ≤ r) (hbh:b ≤ h.length) (hlt:∀ j ∈ rs,j < h.length) (hl:l.length ≤ 100000) (n:Int) :
    ∃ x v h2 h3,A8 h (.c (.p r 0))=some (.c x) ∧ F9 (h ++ [some ⟨[.i .i64 n],true⟩]) 1 (.c x) (.c (.sl h.length 0 1 1))=some (.c v,h2) ∧ E8 h2 (.c (.p r 0)) (.c v)=some h3 ∧
      VarI h3 r (l ++ [n]) b rs ∧ Low b h h3 ∧ (∀ j ∈ rs,j ≠ r → rd h3 j=rd h j) ∧ h.length ≤ h3.length:=by
  obtain ⟨x,hx,hd⟩:=hv
  have hrl:=D2 hx
  have l1:A8 h (.c (.p r 0))=some (.c x):=H8 hx rfl (by simp)
  rcases hd with ⟨rfl,rfl⟩ | ⟨id,rfl,hi,hb,hn⟩
  · have hA:=B1O (h:=h ++ [some ⟨[.i .i64 n],true⟩]) (jd:=h.length) (m:=1) (sz:=1) (ys:=[.i .i64 n]) (by simp) rfl (by omega) (by omega)
    have e1:(h ++ [some (Row.mk [.i .i64 n] true)]).length=h.length + 1:=by simp
    rw [e1] at hA
    have hr2:rd (h ++ [some (Row.mk [.i .i64 n] true)] ++ [some (Row.mk [.i .i64 n] true)]) r=some ⟨[.ns],true⟩:=C0 (C0 hx)
    have s1:=W6 (x:=.sl (h.length + 1) 0 1 1) (off:=0) hr2 (by simp)
    refine ⟨.ns,_,_,_,l1,hA,s1,⟨.sl (h.length + 1) 0 1 1,I6 (D2 hr2),.inr ⟨h.length + 1,rfl,?_,by omega,fun h1=>by have:=hlt _ h1;omega⟩⟩,(((Low.refl hbh).new _).new _).set hbr _,fun j hj hjr=>?_,by simp⟩
    · rw [G3 (by omega)]
      have:=M9 (h:=h ++ [some (Row.mk [.i .i64 n] true)]) (r:=⟨[.i .i64 n],true⟩)
      rw [e1] at this
      exact this
    · rw [G3 (Ne.symm hjr)]
      have:=hlt j hj
      rw [J6 (by simp;omega),J6 this]
  · have hil:=D2 hi
    have hne:id ≠ r:=fun e=>hn (e ▸ hr)
    have hA:=A16 (h:=h ++ [some ⟨[.i .i64 n],true⟩]) (id:=id) (jd:=h.length) (n:=l.length) (m:=1) (sz:=1) (cs:=encI l) (ys:=[.i .i64 n]) (rw:=true) (C0 hi) (by rw [F6,Nat.mul_one]) (by simp) rfl rfl (by omega) (by omega)
    have e1:(h ++ [some (Row.mk [.i .i64 n] true)]).length=h.length + 1:=by simp
    rw [e1] at hA
    have ee:encI l ++ [Cell.i .i64 n]=encI (l ++ [n]):=by rw [A9M];rfl
    rw [ee] at hA
    have hr2:rd ((h ++ [some (Row.mk [.i .i64 n] true)]).set id none ++ [some (Row.mk (encI (l ++ [n])) true)]) r=some ⟨[.sl id 0 l.length 1],true⟩:=by
      refine C0 ?_
      rw [G3 hne];exact C0 hx
    have s1:=W6 (x:=.sl (h.length + 1) 0 (l.length + 1) 1) (off:=0) hr2 (by simp)
    refine ⟨_,_,_,_,l1,hA,s1,⟨.sl (h.length + 1) 0 (l.length + 1) 1,I6 (D2 hr2),.inr ⟨h.length + 1,by simp,?_,by omega,fun h1=>by have:=hlt _ h1;omega⟩⟩,((((Low.refl hbh).new _).set hb _).new _).set hbr _,fun j hj hjr=>?_,by simp;omega⟩
    · rw [G3 (by omega)]
      have:=M9 (h:=(h ++ [some (Row.mk [.i .i64 n] true)]).set id none) (r:=⟨encI (l ++ [n]),true⟩)
      rw [List.length_set,e1] at this
      exact this
    · have hji:j ≠ id:=fun e=>hn (e ▸ hj)
      have:=hlt j hj
      rw [G3 (Ne.symm hjr),J6 (by simp;omega),G3 (Ne.symm hji),J6 this]
end Go.Proofs.Ytdgggnlbdoiloaa
end
section
namespace Go.Proofs.Ytdgggnlbdoiloaa
open Go Go.Esc
def O2 (d:Int):Nat:=(max 0 (min d 5)).toNat
theorem A6p (d:Int):O2 d ≤ 5:=by unfold O2;omega
theorem D6h {d:Int} (h0:0 ≤ d) (h5:d ≤ 5):((O2 d:Nat):Int)=d:=by unfold O2;omega
theorem D6g (d:Int):(max 0 (min d 5))=((O2 d:Nat):Int):=by unfold O2;omega
def H6 (d:Int):Nat:=2 ^ O2 d
theorem C3Q {n:Nat} (h:n ≤ 5):2 ^ n ≤ 32:=by
  have:=Nat.pow_le_pow_right (n:=2) (by omega) h
  simpa using this
theorem A4k (d:Int):H6 d ≤ 32:=C3Q (A6p d)
theorem A2A:[Cell.i .i64 0] ++ List.replicate 32 (Cell.i .i64 0)=encI (0 :: zI 32):=by
  simp [encI,zI]
def toX (t:List Int) (i:Nat):Int:=t.getD i 0
theorem H7K {t:List Int} {i:Nat} (h:i < t.length):t[i]? = some (toX t i):=by
  unfold toX;rw [List.getD_eq_getElem?_getD,List.getElem?_eq_getElem h];rfl
def A2l (n:Int):Bool:=decide (0 ≤ n) && decide (n ≤ 65535)
theorem F2L {n:Int} {h:A0}:A3B [.c (.i .i64 n)] h=some (.c (.b (A2l n)),h):=by
  refine C8g (n:=0) (h2:=ro h) ?_ rfl
  rw [C6E]
  unfold A2l
  by_cases c:0 ≤ n
  · simp only [esc,c,Bool.true_and]
  · simp only [esc,c,Bool.false_and]
theorem O4 {d:Int} {t:List Int} (ht:t.length=32):(encI (d :: t)).length=33:=by rw [F6];simp [ht]
theorem E5Q {d:Int} {t:List Int} {i:Nat} (ht:t.length=32) (hi:i < 32):(encI (d :: t))[1 + i]? = some (.i .i64 (toX t i)):=by
  rw [V9,Nat.add_comm 1 i,List.getElem?_cons_succ,H7K (by omega)];rfl
theorem E5R {d:Int} {t:List Int} {i:Nat} {v:Int}:(encI (d :: t)).set (1 + i) (.i .i64 v)=encI (d :: t.set i v):=by
  rw [A6K,Nat.add_comm 1 i,List.set_cons_succ]
theorem ldX {h:A0} {id:Nat} {d:Int} {t:List Int} {rw:Bool} (hr:rd h id=some ⟨encI (d :: t),rw⟩) (ht:t.length=32) {i:Nat} (hi:i < 32):A8 h (.c (.p id (1 + i)))=some (.c (.i .i64 (toX t i))) :=
  H8 hr (E5Q ht hi) (by simp [Cell.isX])
theorem adX {id i:Nat} (hi:i < 32):D6 32 1 (.c (.p id (0 + 1))) (.c (.i .i64 (i:Int)))=some (.c (.p id (1 + i))):=by rw [R0 hi];simp
theorem B0a {d:Int} {t:List Int} {h:A0}:A0E [.a (encI (d :: t))] h=some (.c (.i .i64 (O2 d:Nat)),h):=by
  have key:∀ g,∃ g',A5p 0 [.a (encI (d :: t))] g=some (.c (.i .i64 (O2 d:Nat)),g'):=by
    intro g
    have e1:A0L (.c (.i .i64 d)) (.c (.i .i64 5))=some (.c (.i .i64 (min d 5))):=by
      simp only [A0L]
      by_cases h:(5:Int) < d
      · rw [if_pos h,Int.min_eq_right (by omega)]
      · rw [if_neg h,Int.min_eq_left (by omega)]
    have e2:A2Q (.c (.i .i64 0)) (.c (.i .i64 (min d 5)))=some (.c (.i .i64 (O2 d:Nat))):=by
      rw [← D6g]
      simp only [A2Q]
      by_cases h:(min d 5:Int) > 0
      · rw [if_pos h,Int.max_eq_right (by omega)]
      · rw [if_neg h,Int.max_eq_left (by omega)]
    have e3:A8 (g ++ [some (Row.mk (encI (d :: t)) true)]) (.c (.p g.length 0))=some (.c (.i .i64 d)):=H8 (M9) rfl rfl
    rw [C6D]
    generalize hz:encI (d :: t)=z at *
    exact ⟨_,by simp only [esc,e3,e1,e2] <;> rfl⟩
  obtain ⟨g',e⟩:=key (ro h)
  exact C8f e rfl
theorem H2O {k:Nat} (hk:k ≤ 5):A4 .shl (.c (.i .i64 1)) (.c (.i .u64 (k:Int)))=some (.c (.i .i64 ((2 ^ k:Nat):Int))):=by
  rw [A84 (by omega)]
  have h1:Nat.min (k:Int).toNat (IntKind.i64).bits=k:=by
    have:(IntKind.i64).bits=64:=rfl
    rw [this,Int.toNat_natCast];exact Nat.min_eq_left (by omega)
  have h2:=C3Q hk
  rw [h1,Int.one_mul]
  have e:(2:Int) ^ k=((2 ^ k:Nat):Int):=by simp
  rw [e]
  generalize 2 ^ k=y at h2 ⊢
  rw [wrap_i64 (by omega) (by omega)]
theorem C5Y {k:Nat} (hk:k ≤ 64):IntKind.wrap .u64 (k:Int)=(k:Int):=wrap_u64 (by omega) (by omega)
theorem B8D {d:Int} {t:List Int} {h:A0} (ht:t.length=32):A1P [.a (encI (d :: t))] h=some (.c (.i .i64 (H6 d:Nat)),h):=by
  have key:∀ g,∃ g',A5r 0 [.a (encI (d :: t))] g=some (.c (.i .i64 (H6 d:Nat)),g'):=by
    intro g
    have hl:=O4 (d:=d) ht
    have hd:=fun h=>B0a (d:=d) (t:=t) (h:=h)
    have e1:=H2O (A6p d)
    have e2:=C5Y (k:=O2 d) (by have:=A6p d;omega)
    rw [C6G]
    unfold H6
    generalize encI (d :: t)=z at *
    exact ⟨_,by simp only [esc,esh,Nat.reduceAdd,Nat.reduceMul,Nat.reduceLT,hl,hd,e1,e2] <;> rfl⟩
  obtain ⟨g',e⟩:=key (ro h)
  exact C8k e rfl
def A0f (t:List Int) (i:Nat):Bool:=(List.range i).all fun k=>!decide (toX t k=toX t i)
theorem B6s {d:Int} {t:List Int} {g:A0} {i q:Nat} (ht:t.length=32) (hi:i < 32):∀ e k m:Nat,k + e=i → e < m →
    A66 q m (.c (.i .i64 (i:Int))) (.c (.p g.length 0)) (.c (.i .i64 (i:Int))) (.c (.i .i64 (k:Int))) (g ++ [some ⟨encI (d :: t),true⟩]) =
      some (.c (.b ((List.range' k e).all fun k=>!decide (toX t k=toX t i))),g ++ [some ⟨encI (d :: t),true⟩])
  | e,k,0,_,hm=>by omega
  | 0,k,m + 1,hk,hm=>by
    have c0:¬ (k:Int) < i:=by omega
    rw [B8t]
    simp only [esc,c0,List.range'_zero]
  | e + 1,k,m + 1,hk,hm=>by
    have ih:=B6s (d:=d) (g:=g) (q:=q) ht hi e (k + 1) m (by omega) (by omega)
    have c0:(k:Int) < i:=by omega
    have a1:=adX (id:=g.length) (i:=k) (by omega)
    have a2:=adX (id:=g.length) (i:=i) (by omega)
    have l1:=ldX (h:=g ++ [some (Row.mk (encI (d :: t)) true)]) (id:=g.length) M9 ht (i:=k) (by omega)
    have l2:=ldX (h:=g ++ [some (Row.mk (encI (d :: t)) true)]) (id:=g.length) M9 ht (i:=i) (by omega)
    rw [B8t,List.range'_succ,List.all_cons]
    by_cases c:toX t k=toX t i
    · rw [decide_eq_true c,Bool.not_true,Bool.false_and]
      rw [c] at l1
      simp only [esc,c0,a1,a2,l1,l2]
    · rw [decide_eq_false c,Bool.not_false,Bool.true_and]
      simp only [esc,c0,a1,a2,l1,l2,c,F4 (show k + 1 < 9223372036854775808 by omega)]
      exact ih
theorem F3u {d:Int} {t:List Int} {i:Nat} {h:A0} (ht:t.length=32) (hi:i < 32):A3C [.a (encI (d :: t)),.c (.i .i64 (i:Int))] h=some (.c (.b (A0f t i)),h):=by
  have key:∀ N,i < N → ∀ g,∃ g',A5q N [.a (encI (d :: t)),.c (.i .i64 (i:Int))] g=some (.c (.b (A0f t i)),g'):=by
    intro N hN g
    have e:=B6s (d:=d) (g:=g) (q:=N) ht hi i 0 N (by omega) hN
    rw [C6F]
    unfold A0f
    rw [List.range_eq_range']
    exact ⟨_,by simp only [esc];exact e⟩
  obtain ⟨g',e⟩:=key (i + 1) (by omega) (ro h)
  exact C8i e rfl
end Go.Proofs.Ytdgggnlbdoiloaa
end
