/- What the proof of this claim leans on, part 5. -/
import Derived.Test.YteckncopbicmcaaGreatFDreadListsp4
set_option linter.all false
section
namespace Go.Proofs.YteckncopbicmcaaGreat
open Go Go.Esc
abbrev Tld:=Plc × List UInt8
def P4 (no:Int) (l:List Slt):List Tld:=l.map fun s=>((no,s.1,s.2.2),s.2.1)
def R6 (D:Dev) (L:List Int):List Tld:=L.flatMap fun no=>P4 no (H0 (blk D no))
theorem D3y {l:List Slt}:∀ {i:Nat} {x:Slt},l[i]? = some x → ((L7 l).drop (i * 3)).take 3=slC (some x):=by
  induction l with
  | nil=>intro i x h;simp at h
  | cons y l ih =>
    intro i x h
    have e:L7 (y :: l)=slC (some y) ++ L7 l:=rfl
    cases i with
    | zero=>simp at h;subst h;rw [e];rfl
    | succ i =>
      simp at h
      rw [e,show (i + 1) * 3=3 + i * 3 by omega,← List.drop_drop,List.drop_left' (by rw [A1B])]
      exact ih h
theorem C1E {σ:Type} {L1:Nat → Val → A0 → A6} {L0:A0 → A6} {C:Val → Val → A0 → A6} {no:Int} {id c0:Nat} {l:List Slt} (P:Nat → σ → A0 → Prop) (step:σ → Tld → σ)
    (hL:∀ m x h,L1 (m + 1) x h=bnd (A2 .lss x (.c (.i .i64 (l.length:Nat)))) fun v14=>cnd v14 (bnd (B9 3 (.c (.sl id 0 l.length 3)) x) fun v15=>bnd (A3 h 3 v15) fun v16=>bnd (B6 ((h ++ [some (Row.mk ([.i .i64 0,.s [],.i .i64 0]) true)])) 3 ((.c (.p h.length 0))) v16) fun h17=>bnd (B7 ((.c (.p h.length 0))) 0) fun v18=>bnd (A5 h17 v18) fun v19=>bnd (B7 ((.c (.p h.length 0))) 1) fun v20=>bnd (B7 v20 1) fun v21=>bnd (A5 h17 v21) fun v22=>bnd (A8 ([.i .i64 0,.i .i64 0,.i .i64 0]) [(0,1,.c (.i .i64 no)),(1,1,v19),(2,1,v22)]) fun c23=>bnd (B7 ((.c (.p h.length 0))) 1) fun v24=>bnd (B7 v24 0) fun v25=>bnd (A5 h17 v25) fun v26=>bnd (C (.a c23) v26 h17) fun p27=>bnd (A2 .add x (.c (.i .i64 1))) fun v28=>L1 m v28 p27.2) (L0 h))
    (hI:∀ c s h,P c s h → rd h id=some ⟨L7 l,true⟩)
    (hM:∀ c s h t,P c s h → P c s (h ++ t))
    (hC:∀ c s h x,P c s h → c < c0 + 7 → x ∈ l → ∃ h',C (.a (F1 (some (no,x.1,x.2.2)))) (.c (.s x.2.1)) h=some (.t [],h') ∧ P (c + 1) (step s ((no,x.1,x.2.2),x.2.1)) h') (h62:l.length ≤ 7) :
    ∀ (e i M:Nat) (s:σ) (h:A0),i + e=l.length → e < M → P (c0 + i) s h → ∃ h',L1 M (.c (.i .i64 (i:Int))) h=L0 h' ∧ P (c0 + l.length) ((P4 no (l.drop i)).foldl step s) h'
  | e,i,0,s,h,_,hm,_=>by omega
  | 0,i,M + 1,s,h,hi,hm,hP=>by
    have c1:¬ (i:Int) < (l.length:Nat):=by omega
    refine ⟨h,?_,by rw [List.drop_of_length_le (by omega),show l.length=i by omega];exact hP⟩
    rw [hL]
    simp only [F2,I4,c1,decide_false,K6]
  | e + 1,i,M + 1,s,h,hi,hm,hP=>by
    have hil:i < l.length:=by omega
    have c1:(i:Int) < (l.length:Nat):=by omega
    have hx:l[i]? = some l[i]:=List.getElem?_eq_getElem hil
    have hr:=hI _ s h hP
    have ad:B9 3 (.c (.sl id 0 l.length 3)) (.c (.i .i64 (i:Int)))=some (.c (.p id (i * 3))):=by rw [G6 hil];simp
    have hmem:l[i] ∈ l:=List.getElem_mem hil
    obtain ⟨⟨kk,s',i'⟩,ex⟩:∃ x,x=l[i]:=⟨_,rfl⟩
    rw [← ex] at hx hmem
    have hsl:=D3y hx
    have hlen:=A9w (l:=l)
    have l3:A3 h 3 (.c (.p id (i * 3)))=some (.a (slC (some (kk,s',i')))):=by rw [A1r hr (by rw [hlen];omega) rfl,hsl]
    have s3:B6 (h ++ [some (Row.mk [Cell.i .i64 0,.s [],.i .i64 0] true)]) 3 (.c (.p h.length 0)) (.a (slC (some (kk,s',i'))))=some (h ++ [some ⟨slC (some (kk,s',i')),true⟩]):=by rw [T4];rfl
    have g0:A5 (h ++ [some (Row.mk (slC (some (kk,s',i'))) true)]) (.c (.p h.length 0))=some (.c (.i .i64 (kk:Int))):=by rw [A2m];rfl
    have g1:A5 (h ++ [some (Row.mk (slC (some (kk,s',i'))) true)]) (.c (.p h.length 1))=some (.c (.s s')):=by rw [A2m];rfl
    have g2:A5 (h ++ [some (Row.mk (slC (some (kk,s',i'))) true)]) (.c (.p h.length 2))=some (.c (.i .i64 i')):=by rw [A2m];rfl
    have ef:A8 [Cell.i .i64 0,.i .i64 0,.i .i64 0] [(0,1,.c (.i .i64 no)),(1,1,.c (.i .i64 (kk:Int))),(2,1,.c (.i .i64 i'))]=some (F1 (some (no,kk,i'))):=rfl
    obtain ⟨h',f1,f2⟩:=hC _ s (h ++ [some ⟨slC (some (kk,s',i')),true⟩]) (kk,s',i') (hM _ _ _ _ hP) (by omega) hmem
    obtain ⟨h'',e1,e2⟩:=C1E P step hL hI hM hC h62 e (i + 1) M _ h' (by omega) (by omega) f2
    have w1:=E6 (show i + 1 < 9223372036854775808 by omega)
    rw [hL,List.drop_eq_getElem_cons hil,← ex]
    refine ⟨h'',?_,e2⟩
    simp only [F2,I4,c1,decide_true,L9,ad,l3,s3,B1J,Nat.add_zero,Nat.zero_add,Nat.reduceAdd,g0,g1,g2,ef,f1,O0,w1]
    exact e1
theorem B1P {D:Dev} {no:Int} {L:List Int}:R6 D (no :: L)=P4 no (H0 (blk D no)) ++ R6 D L:=by simp [R6]
theorem A8X (b:List UInt8):(H0 b).length ≤ 7:=by
  have:∀ e k,(J4 b e k).length ≤ e:=by
    intro e
    induction e with
    | zero=>intro k;simp [J4]
    | succ e ih =>
      intro k
      have:=ih (k + 1)
      rw [J4]
      split <;> simp <;> omega
  exact this 7 0
theorem B1Z {σ:Type} {L0:Nat → Val → A0 → A6} {L1:Nat → Nat → Val → Val → Val → Val → Val → A0 → A6} {C:Val → Val → A0 → A6} {N:Nat} {x3:Val} {D:Dev} {n m:Int} {f:Cell} {sid:Nat} {L:List Int} (hD:okD D) (P:List Nat → Nat → σ → A0 → Prop) (step:σ → Tld → σ) (hN:8 ≤ N)
    (hL0:∀ m x h,L0 (m + 1) x h=bnd (A2 .lss x (.c (.i .i64 (L.length:Nat)))) fun v7=>cnd v7 (bnd (B9 1 (.c (.sl sid 0 L.length 1)) x) fun v8=>bnd (A5 h v8) fun v9=>bnd (A3 h 4 x3) fun v10=>bnd (S7 [v10,v9] h) fun p11=>bnd (Z2 [p11.1] p11.2) fun p12=>bnd (E3 p12.1) fun v13=>L1 m N v9 x p12.1 v13 (.c (.i .i64 0)) p12.2) (C7 [] h))
    (hL1:∀ m0 v9 x v w m y h,L1 m0 (m + 1) v9 x v w y h=bnd (A2 .lss y w) fun v14=>cnd v14 (bnd (B9 3 v y) fun v15=>bnd (A3 h 3 v15) fun v16=>bnd (B6 ((h ++ [some (Row.mk ([.i .i64 0,.s [],.i .i64 0]) true)])) 3 ((.c (.p h.length 0))) v16) fun h17=>bnd (B7 ((.c (.p h.length 0))) 0) fun v18=>bnd (A5 h17 v18) fun v19=>bnd (B7 ((.c (.p h.length 0))) 1) fun v20=>bnd (B7 v20 1) fun v21=>bnd (A5 h17 v21) fun v22=>bnd (A8 ([.i .i64 0,.i .i64 0,.i .i64 0]) [(0,1,v9),(1,1,v19),(2,1,v22)]) fun c23=>bnd (B7 ((.c (.p h.length 0))) 1) fun v24=>bnd (B7 v24 0) fun v25=>bnd (A5 h17 v25) fun v26=>bnd (C (.a c23) v26 h17) fun p27=>bnd (A2 .add y (.c (.i .i64 1))) fun v28=>L1 m0 m v9 x v w v28 p27.2) (bnd (A2 .add x (.c (.i .i64 1))) fun v29=>L0 m0 v29 h))
    (hI:∀ rs c s h,P rs c s h → A3 h 4 x3=some (.a (vwC D.length n m f)) ∧ IsView h f D ∧ rd h sid=some ⟨encI L,true⟩)
    (hR:∀ rs c s h t,P rs c s h → P rs c s (h ++ t))
    (hN1:∀ rs c s h r,P rs c s h → P (h.length :: rs) c s (h ++ [some r]))
    (hF:∀ i rs c s h,P (i :: rs) c s h → P rs c s h)
    (hW:∀ rs c c' s h,P rs c s h → c ≤ c' → P rs c' s h)
    (hC:∀ rs c s h no x,P rs c s h → c < 7 * L.length → no ∈ L → x ∈ H0 (blk D no) → ∃ h',C (.a (F1 (some (no,x.1,x.2.2)))) (.c (.s x.2.1)) h=some (.t [],h') ∧ P rs (c + 1) (step s ((no,x.1,x.2.2),x.2.1)) h' ∧ ∀ j ∈ rs,rd h' j=rd h j)
    (h62:L.length < 1000) :
    ∀ (e i M:Nat) (rs:List Nat) (s:σ) (h:A0),i + e=L.length → e < M → P rs (7 * i) s h → ∃ h',L0 M (.c (.i .i64 (i:Int))) h=some (.t [],h') ∧ P rs (7 * L.length) ((R6 D (L.drop i)).foldl step s) h'
  | e,i,0,rs,s,h,_,hm,_=>by omega
  | 0,i,M + 1,rs,s,h,hi,hm,hP=>by
    have c0:¬ (i:Int) < (L.length:Nat):=by omega
    refine ⟨h,?_,by rw [List.drop_of_length_le (by omega),show L.length=i by omega];exact hP⟩
    rw [hL0]
    simp only [F2,I4,c0,decide_false,K6]
    rfl
  | e + 1,i,M + 1,rs,s,h,hi,hm,hP=>by
    have hil:i < L.length:=by omega
    have c0:(i:Int) < (L.length:Nat):=by omega
    obtain ⟨i1,i2,i3⟩:=hI rs _ s h hP
    have hmem:L[i] ∈ L:=List.getElem_mem hil
    have ad:B9 1 (.c (.sl sid 0 L.length 1)) (.c (.i .i64 (i:Int)))=some (.c (.p sid i)):=by rw [G6 hil];simp
    have l1:A5 h (.c (.p sid i))=some (.c (.i .i64 L[i])):=H4 i3 (by rw [Q9,List.getElem?_eq_getElem hil];rfl) rfl
    have hB:=A58 (n:=n) (m:=m) (no:=L[i]) hD i2
    obtain ⟨v,t,b1,b2,b3⟩:=B5O (b:=blk D L[i]) (h:=h) (A1a hD)
    have hlen:=b2.len
    have w1:=E6 (show i + 1 < 9223372036854775808 by omega)
    have h7:=A8X (blk D L[i])
    have main:∃ h',L1 M N (.c (.i .i64 L[i])) (.c (.i .i64 (i:Int))) v (.c (.i .i64 ((H0 (blk D L[i])).length:Nat))) (.c (.i .i64 ((0:Nat):Int))) (h ++ t)=bnd (A2 .add (.c (.i .i64 (i:Int))) (.c (.i .i64 1))) (fun v29=>L0 M v29 h') ∧ P rs (7 * (i + 1)) ((P4 L[i] (H0 (blk D L[i]))).foldl step s) h':=by
      rcases b3 with ⟨rfl,rfl,b3⟩ | ⟨rfl,rfl⟩
      · refine ⟨h,?_,by rw [b3];exact hW _ _ _ _ _ hP (by omega)⟩
        obtain ⟨N',rfl⟩:∃ N',N=N' + 1:=⟨N - 1,by omega⟩
        rw [hL1,b3,List.append_nil]
        rfl
      · have hl0:(h ++ [some (Row.mk (L7 (H0 (blk D L[i]))) true)])=h ++ [some ⟨L7 (H0 (blk D L[i])),true⟩]:=rfl
        obtain ⟨h',f1,f2⟩:=C1E (L1:=fun m y h'=>L1 M m (.c (.i .i64 L[i])) (.c (.i .i64 (i:Int))) (.c (.sl h.length 0 (H0 (blk D L[i])).length 3)) (.c (.i .i64 ((H0 (blk D L[i])).length:Nat))) y h') (L0:=fun h'=>bnd (A2 .add (.c (.i .i64 (i:Int))) (.c (.i .i64 1))) (fun v29=>L0 M v29 h')) (C:=C) (no:=L[i]) (id:=h.length) (c0:=7 * i) (l:=H0 (blk D L[i]))
          (fun c s' h'=>P (h.length :: rs) c s' h' ∧ rd h' h.length=some ⟨L7 (H0 (blk D L[i])),true⟩) step (fun m y h'=>hL1 M _ _ _ _ m y h') (fun c s' h' hp=>hp.2) (fun c s' h' t hp=>⟨hR _ _ _ _ _ hp.1,C3 hp.2⟩)
          (fun c s' h' x hp hc hx=>by
            obtain ⟨h2,c1,c2,c3⟩:=hC _ _ _ _ L[i] x hp.1 (by omega) hmem hx
            exact ⟨h2,c1,c2,by rw [c3 h.length (by simp)];exact hp.2⟩) (by omega) (H0 (blk D L[i])).length 0 N s (h ++ [some ⟨L7 (H0 (blk D L[i])),true⟩]) (by omega) (by omega) ⟨hN1 _ _ _ _ _ hP,by simp⟩
        rw [List.drop_zero] at f2
        exact ⟨h',f1,hW _ _ _ _ _ (hF _ _ _ _ _ f2.1) (by omega)⟩
    obtain ⟨h1,m1,m2⟩:=main
    obtain ⟨h',f1,f2⟩:=B1Z hD P step hN hL0 hL1 hI hR hN1 hF hW hC h62 e (i + 1) M rs _ h1 (by omega) (by omega) m2
    rw [hL0,List.drop_eq_getElem_cons hil,B1P,List.foldl_append]
    refine ⟨h',?_,f2⟩
    simp only [F2,I4,c0,decide_true,L9,ad,l1,i1,hB,b1,hlen]
    refine m1.trans ?_
    simp only [O0,F2,w1]
    exact f1
end Go.Proofs.YteckncopbicmcaaGreat
end
noncomputable section
namespace Go.Proofs.YteckncopbicmcaaGreat
open Go Go.Esc
set_option maxRecDepth 100000
def B7v:ACode:=.seq [0,3] (.seq [0,3,23] (.ops [aO 20 (.mv (.t 3)),aO 21 (.mv (.t 0)),aO 22 (.lenS (.t 21)),aO 23 (.bin .lss (.t 20) (.t 22))]) (.cond (.t 23) .skip (.exit 0))) (.seq [0,3] (.block 1 (.seq [0,3,35] (.ops [aO 26 (.mv (.t 0)),aO 27 (.mv (.t 3)),aO 28 (.idxS (.t 26) (.t 27)),aO 29 (.bin .eql (.t 28) (.v (.c (.i .u8 0)))),aO 30 (.mv (.t 29)),aG 31 30 false (.mv (.t 0)),aG 32 30 false (.mv (.t 3)),aG 33 30 false (.idxS (.t 31) (.t 32)),aG 34 30 false (.bin .eql (.t 33) (.v (.c (.i .u8 47)))),aO 35 (.pick (.t 30) (.v (.c (.b true))) (.t 34))]) (.cond (.t 35) (.seq [2] (.ops [aO 2 (.mv (.v (.c (.b false))))]) .ret) .skip))) (.ops [aO 24 (.mv (.t 3)),aO 25 (.bin .add (.t 24) (.v (.c (.i .i64 1)))),aO 3 (.mv (.t 25))]))
def B7w:ACode:=.seq [2] (.ops [aO 2 (.mv (.v (.c (.b true))))]) .ret
def A_er03_Right:AFn:=⟨.seq [0] (.ops [aO 2 (.mv (.v (.c (.b false))))]) (.seq [0] (.seq [0,19] (.ops [aO 4 (.mv (.t 0)),aO 5 (.lenS (.t 4)),aO 6 (.bin .lss (.t 5) (.v (.c (.i .i64 1)))),aO 7 (.mv (.t 6)),aG 8 7 false (.mv (.t 0)),aG 9 7 false (.lenS (.t 8)),aG 10 7 false (.bin .gtr (.t 9) (.v (.c (.i .i64 24)))),aO 11 (.pick (.t 7) (.v (.c (.b true))) (.t 10)),aO 12 (.mv (.t 11)),aG 13 12 false (.mv (.t 0)),aG 14 12 false (.bin .eql (.t 13) (.v (.c (.s [46])))),aO 15 (.pick (.t 12) (.v (.c (.b true))) (.t 14)),aO 16 (.mv (.t 15)),aG 17 16 false (.mv (.t 0)),aG 18 16 false (.bin .eql (.t 17) (.v (.c (.s [46,46])))),aO 19 (.pick (.t 16) (.v (.c (.b true))) (.t 18))]) (.cond (.t 19) (.seq [2] (.ops [aO 2 (.mv (.v (.c (.b false))))]) .ret) .skip)) (.seq [] (.seq [0,3] (.ops [aO 3 (.mv (.v (.c (.i .i64 0))))]) (.block 0 (.loop [0,3] B7v))) B7w)),[.tmp 2]⟩
def A3W:B3:=B8
def C9h (n:Nat):B4 (Val × A0):=E5 [] (ax A3W n B7w) A_er03_Right.fin
def C9i (n:Nat):B4 (Val × A0):=D6 0 (C9h n)
def A8j (n m:Nat) (x0 x3:Val) (h:A0):A6:=C8 (ax A3W n B7v) [0,3] (C9i n) m [(0,x0),(3,x3)] h
def B04 (n:Nat) (args:List Val) (h:A0):A6:=ax A3W n A_er03_Right.code A_er03_Right.fin (params 0 args) h
theorem C2L (n:Nat) (a0:Val) (h:A0):B04 n [a0] h=bnd (O5 a0) fun v1=>bnd (A2 .lss v1 (.c (.i .i64 1))) fun v2=>bnd (gd v2 false (some (a0,h)) (some (.no,h))) fun p3=>bnd (gd v2 false (bnd (O5 p3.1) fun v4=>some (v4,p3.2)) (some (.no,p3.2))) fun p5=>bnd (gd v2 false (bnd (A2 .gtr p5.1 (.c (.i .i64 24))) fun v6=>some (v6,p5.2)) (some (.no,p5.2))) fun p7=>bnd (C4 v2 (.c (.b true)) p7.1) fun v8=>bnd (gd v8 false (some (a0,p7.2)) (some (.no,p7.2))) fun p9=>bnd (gd v8 false (bnd (A2 .eql p9.1 (.c (.s [46]))) fun v10=>some (v10,p9.2)) (some (.no,p9.2))) fun p11=>bnd (C4 v8 (.c (.b true)) p11.1) fun v12=>bnd (gd v12 false (some (a0,p11.2)) (some (.no,p11.2))) fun p13=>bnd (gd v12 false (bnd (A2 .eql p13.1 (.c (.s [46,46]))) fun v14=>some (v14,p13.2)) (some (.no,p13.2))) fun p15=>bnd (C4 v12 (.c (.b true)) p15.1) fun v16=>cnd v16 (some ((.c (.b false)),p15.2)) (A8j n n a0 (.c (.i .i64 0)) p15.2):=by kernel_rfl
theorem B7x (n m:Nat) (x0 x3:Val) (h:A0):A8j n (m + 1) x0 x3 h=bnd (O5 x0) fun v17=>bnd (A2 .lss x3 v17) fun v18=>cnd v18 (bnd (Q5 x0 x3) fun v19=>bnd (A2 .eql v19 (.c (.i .u8 0))) fun v20=>bnd (gd v20 false (some (x0,h)) (some (.no,h))) fun p21=>bnd (gd v20 false (some (x3,p21.2)) (some (.no,p21.2))) fun p22=>bnd (gd v20 false (bnd (Q5 p21.1 p22.1) fun v23=>some (v23,p22.2)) (some (.no,p22.2))) fun p24=>bnd (gd v20 false (bnd (A2 .eql p24.1 (.c (.i .u8 47))) fun v25=>some (v25,p24.2)) (some (.no,p24.2))) fun p26=>bnd (C4 v20 (.c (.b true)) p26.1) fun v27=>cnd v27 (some ((.c (.b false)),p26.2)) (bnd (A2 .add x3 (.c (.i .i64 1))) fun v28=>A8j n m x0 v28 p26.2)) (some ((.c (.b true)),h)):=by kernel_rfl
theorem K_er03_Right:FnK Tryz.prog 166 A_er03_Right A3W B04:=.mk' (C1) Tryz.func166 (by kernel_rfl) (fun _ _ _=>C0)
def A10:Fun:=tidy (Lim A_er03_Right A3W)
theorem B4G:SOk Tryz.prog 166 A10:=K_er03_Right.sok
theorem C4T:D1 B04 A10:=K_er03_Right.flat
def B7t:ACode:=.ops [aO 11 (.mv (.t 4)),aO 12 (.bin .add (.t 11) (.v (.c (.i .i64 1)))),aO 4 (.mv (.t 12))]
def B2A:ACode:=.seq [0,3,4] (.seq [0,3,4,10] (.ops [aO 9 (.mv (.t 4)),aO 10 (.bin .lss (.t 9) (.v (.c (.i .i64 24))))]) (.cond (.t 10) .skip (.exit 0))) (.seq [0,3,4] (.block 1 (.seq [0,3,4,16] (.ops [aO 13 (.mv (.t 4)),aO 14 (.mv (.t 0)),aO 15 (.lenS (.t 14)),aO 16 (.bin .lss (.t 13) (.t 15))]) (.cond (.t 16) (.ops [aO 17 (.mv (.t 3)),aO 18 (.mv (.t 0)),aO 19 (.mv (.t 4)),aO 20 (.idxS (.t 18) (.t 19)),aO 21 (.buildSl 1 1 ([.i .u8 0]) [(0,1,(.t 20))]),aO 22 (.app 1 (.t 17) (.t 21)),aO 3 (.mv (.t 22))]) (.ops [aO 23 (.mv (.t 3)),aO 24 (.buildSl 1 1 ([.i .u8 0]) [(0,1,(.v (.c (.i .u8 0))))]),aO 25 (.app 1 (.t 23) (.t 24)),aO 3 (.mv (.t 25))])))) B7t)
def B7s:ACode:=.seq [2] (.ops [aO 26 (.mv (.t 3)),aO 2 (.mv (.t 26))]) .ret
def A_er03_Pack:AFn:=⟨.seq [0] (.ops [aO 2 (.nilrow 1)]) (.seq [0,3] (.ops [aO 5 (.mv (.t 0)),aO 6 (.lenS (.t 5)),aO 7 (.conv .u8 (.t 6)),aO 8 (.buildSl 1 1 ([.i .u8 0]) [(0,1,(.t 7))]),aO 3 (.mv (.t 8))]) (.seq [3] (.seq [0,3,4] (.ops [aO 4 (.mv (.v (.c (.i .i64 0))))]) (.block 0 (.loop [0,3,4] B2A))) B7s)),[.tmp 2]⟩
def A1H:B3:=B8
def C9f (n:Nat):B4 (Val × A0):=E5 [3] (ax A1H n B7s) A_er03_Pack.fin
def B2B (n:Nat):B4 (Val × A0):=D6 0 (C9f n)
def A8i (n m:Nat) (x0 x3 x4:Val) (h:A0):A6:=C8 (ax A1H n B2A) [0,3,4] (B2B n) m [(0,x0),(3,x3),(4,x4)] h
def B03 (n:Nat) (args:List Val) (h:A0):A6:=ax A1H n A_er03_Pack.code A_er03_Pack.fin (params 0 args) h
def C9g (n m:Nat):B4 (Val × A0):=R1 [0,3,4] (C8 (ax A1H n B2A) [0,3,4] (B2B n) m) (B2B n)
def A8h (n m:Nat) (x0 x3 x4:Val) (h:A0):A6:=hold ((ax A1H n B7t) (C9g n m) [(0,x0),(3,x3),(4,x4)] h)
theorem C2K (n:Nat) (a0:Val) (h:A0):B03 n [a0] h=bnd (O5 a0) fun v1=>bnd (I1 .u8 v1) fun v2=>bnd (A8 ([.i .u8 0]) [(0,1,v2)]) fun c3=>A8i n n a0 (.c (.sl (h ++ [some (Row.mk ([]) true)]).length 0 1 1)) (.c (.i .i64 0)) ((h ++ [some (Row.mk ([]) true)]) ++ [some (Row.mk (c3) true)]):=by kernel_rfl
theorem B7u (n m:Nat) (x0 x3 x4:Val) (h:A0):A8i n (m + 1) x0 x3 x4 h=bnd (A2 .lss x4 (.c (.i .i64 24))) fun v4=>cnd v4 (bnd (O5 x0) fun v5=>bnd (A2 .lss x4 v5) fun v6=>cnd v6 (bnd (Q5 x0 x4) fun v7=>bnd (A8 ([.i .u8 0]) [(0,1,v7)]) fun c8=>bnd (E7 (h ++ [some (Row.mk (c8) true)]) 1 x3 (.c (.sl h.length 0 1 1))) fun p9=>A8h n m x0 p9.1 x4 p9.2) (bnd (A8 ([.i .u8 0]) [(0,1,.c (.i .u8 0))]) fun c10=>bnd (E7 (h ++ [some (Row.mk (c10) true)]) 1 x3 (.c (.sl h.length 0 1 1))) fun p11=>A8h n m x0 p11.1 x4 p11.2)) (some (x3,h)):=by kernel_rfl
theorem C9e (n m:Nat) (x0 x3 x4:Val) (h:A0):A8h n m x0 x3 x4 h=bnd (A2 .add x4 (.c (.i .i64 1))) fun v12=>A8i n m x0 x3 v12 h:=by kernel_rfl
theorem K_er03_Pack:FnK Tryz.prog 167 A_er03_Pack A1H B03:=.mk' (C1) Tryz.func167 (by kernel_rfl) (fun _ _ _=>C0)
def A1Z:Fun:=tidy (Lim A_er03_Pack A1H)
theorem B4F:SOk Tryz.prog 167 A1Z:=K_er03_Pack.sok
theorem C4S:N9 B03 A1Z:=K_er03_Pack.out
def A_er03_Unpack:AFn:=⟨.seq [0] (.ops [aO 2 (.mv (.v (.c (.s [])))),aO 3 (.mv (.v (.c (.b false))))]) (.seq [0] (.seq [0,13] (.ops [aO 5 (.mv (.t 0)),aO 6 (.len (.t 5)),aO 7 (.bin .neq (.t 6) (.v (.c (.i .i64 25)))),aO 8 (.mv (.t 7)),aG 9 8 false (.mv (.t 0)),aG 10 8 false (.iAddrL 1 (.t 9) (.v (.c (.i .i64 0)))),aG 11 8 false (.load1 (.t 10)),aG 12 8 false (.bin .gtr (.t 11) (.v (.c (.i .u8 24)))),aO 13 (.pick (.t 8) (.v (.c (.b true))) (.t 12))]) (.cond (.t 13) (.seq [2,3] (.ops [aO 2 (.mv (.v (.c (.s [])))),aO 3 (.mv (.v (.c (.b false))))]) .ret) .skip)) (.seq [0,4] (.ops [aO 14 (.mv (.t 0)),aO 15 (.mv (.t 0)),aO 16 (.iAddrL 1 (.t 15) (.v (.c (.i .i64 0)))),aO 17 (.load1 (.t 16)),aO 18 (.conv .i64 (.t 17)),aO 19 (.bin .add (.v (.c (.i .i64 1))) (.t 18)),aO 20 (.slL 1 (.t 14) (some (.v (.c (.i .i64 1)))) (some (.t 19))),aO 21 (.b2s (.t 20)),aO 4 (.mv (.t 21))]) (.seq [4] (.seq [4,31] (.ops [aO 22 (.mv (.t 4)),aO 23 (.call 166 [(.t 22)]),aO 24 (.un .not (.t 23)),aO 25 (.mv (.t 24)),aG 26 25 false (.mv (.t 4)),aG 27 25 false (.call 167 [(.t 26)]),aG 28 25 false (.mv (.t 0)),aG 29 25 false (.call 49 [(.t 27),(.t 28)]),aG 30 25 false (.un .not (.t 29)),aO 31 (.pick (.t 25) (.v (.c (.b true))) (.t 30))]) (.cond (.t 31) (.seq [2,3] (.ops [aO 2 (.mv (.v (.c (.s [])))),aO 3 (.mv (.v (.c (.b false))))]) .ret) .skip)) (.seq [2,3] (.ops [aO 32 (.mv (.t 4)),aO 2 (.mv (.t 32)),aO 3 (.mv (.v (.c (.b true))))]) .ret)))),[.tmp 2,.tmp 3]⟩
def A9Z:B3:=A7 166 A10 (A7 167 A1Z (A7 49 Z3 B8))
def A6t (n:Nat) (args:List Val) (h:A0):A6:=ax A9Z n A_er03_Unpack.code A_er03_Unpack.fin (params 0 args) h
theorem C2N (n:Nat) (a0:Val) (h:A0):A6t n [a0] h=bnd (E3 a0) fun v1=>bnd (A2 .neq v1 (.c (.i .i64 25))) fun v2=>bnd (gd v2 false (some (a0,h)) (some (.no,h))) fun p3=>bnd (gd v2 false (bnd (B9 1 p3.1 (.c (.i .i64 0))) fun v4=>some (v4,p3.2)) (some (.no,p3.2))) fun p5=>bnd (gd v2 false (bnd (A5 p5.2 p5.1) fun v6=>some (v6,p5.2)) (some (.no,p5.2))) fun p7=>bnd (gd v2 false (bnd (A2 .gtr p7.1 (.c (.i .u8 24))) fun v8=>some (v8,p7.2)) (some (.no,p7.2))) fun p9=>bnd (C4 v2 (.c (.b true)) p9.1) fun v10=>cnd v10 (C7 [some (.c (.s [])),some (.c (.b false))] p9.2) (bnd (B9 1 a0 (.c (.i .i64 0))) fun v11=>bnd (A5 p9.2 v11) fun v12=>bnd (I1 .i64 v12) fun v13=>bnd (A2 .add (.c (.i .i64 1)) v13) fun v14=>bnd (A0m 1 a0 (some (.c (.i .i64 1))) (some v14)) fun v15=>bnd (P8 p9.2 v15) fun v16=>bnd (A10 [v16] p9.2) fun p17=>bnd (aun .not p17.1) fun v18=>bnd (gd v18 false (some (v16,p17.2)) (some (.no,p17.2))) fun p19=>bnd (gd v18 false (bnd (A1Z [p19.1] p19.2) fun p20=>some (p20.1,p20.2)) (some (.no,p19.2))) fun p21=>bnd (gd v18 false (some (a0,p21.2)) (some (.no,p21.2))) fun p22=>bnd (gd v18 false (bnd (Z3 [p21.1,p22.1] p22.2) fun p23=>some (p23.1,p23.2)) (some (.no,p22.2))) fun p24=>bnd (gd v18 false (bnd (aun .not p24.1) fun v25=>some (v25,p24.2)) (some (.no,p24.2))) fun p26=>bnd (C4 v18 (.c (.b true)) p26.1) fun v27=>cnd v27 (C7 [some (.c (.s [])),some (.c (.b false))] p26.2) (C7 [some v16,some (.c (.b true))] p26.2)):=by kernel_rfl
theorem K_er03_Unpack:FnK Tryz.prog 90 A_er03_Unpack A9Z A6t:=.mk' (A9 B4G (A9 B4F (A9 A7s C1))) Tryz.func90 (by kernel_rfl) (fun _ _ _=>C0)
def A4B:Fun:=tidy (Lim A_er03_Unpack A9Z)
theorem C4X:SOk Tryz.prog 90 A4B:=K_er03_Unpack.sok
theorem C4W:D1 A6t A4B:=K_er03_Unpack.flat
def B7p:ACode:=.seq [0,1,5] (.seq [0,1,5,15] (.ops [aO 6 (.mv (.t 5)),aO 7 (.mv (.t 0)),aO 8 (.lenS (.t 7)),aO 9 (.bin .lss (.t 6) (.t 8)),aO 10 (.mv (.t 9)),aG 11 10 true (.mv (.t 5)),aG 12 10 true (.mv (.t 1)),aG 13 10 true (.lenS (.t 12)),aG 14 10 true (.bin .lss (.t 11) (.t 13)),aO 15 (.pick (.t 10) (.t 14) (.v (.c (.b false))))]) (.cond (.t 15) .skip (.exit 0))) (.seq [0,1,5] (.block 1 (.seq [0,1,5,24] (.draw 0 [aO 18 (.mv (.t 0)),aO 19 (.mv (.t 5)),aO 20 (.idxS (.t 18) (.t 19)),aO 21 (.mv (.t 1)),aO 22 (.mv (.t 5)),aO 23 (.idxS (.t 21) (.t 22))] [aO 24 (.bin .neq (.t 20) (.t 23))]) (.cond (.t 24) (.seq [4] (.draw 0 [aO 25 (.mv (.t 0)),aO 26 (.mv (.t 5)),aO 27 (.idxS (.t 25) (.t 26)),aO 28 (.mv (.t 1)),aO 29 (.mv (.t 5)),aO 30 (.idxS (.t 28) (.t 29))] [aO 31 (.bin .lss (.t 27) (.t 30)),aO 4 (.mv (.t 31))]) .ret) .skip))) (.ops [aO 16 (.mv (.t 5)),aO 17 (.bin .add (.t 16) (.v (.c (.i .i64 1)))),aO 5 (.mv (.t 17))]))
def B7q:ACode:=.seq [4] (.ops [aO 32 (.mv (.t 0)),aO 33 (.lenS (.t 32)),aO 34 (.mv (.t 1)),aO 35 (.lenS (.t 34)),aO 36 (.bin .lss (.t 33) (.t 35)),aO 4 (.mv (.t 36))]) .ret
def A_er03_Less:AFn:=⟨.seq [0,1] (.ops [aO 4 (.mv (.v (.c (.b false))))]) (.seq [0,1] (.seq [0,1,5] (.ops [aO 5 (.mv (.v (.c (.i .i64 0))))]) (.block 0 (.loop [0,1,5] B7p))) B7q),[.tmp 4]⟩
def A3V:B3:=B8
def C9c (n:Nat):B4 (Val × A0):=E5 [0,1] (ax A3V n B7q) A_er03_Less.fin
def C9d (n:Nat):B4 (Val × A0):=D6 0 (C9c n)
def A8g (n m:Nat) (x0 x1 x5:Val) (h:A0):A6:=C8 (ax A3V n B7p) [0,1,5] (C9d n) m [(0,x0),(1,x1),(5,x5)] h
def B02 (n:Nat) (args:List Val) (h:A0):A6:=ax A3V n A_er03_Less.code A_er03_Less.fin (params 0 args) h
theorem C2J (n:Nat) (a0 a1:Val) (h:A0):B02 n [a0,a1] h=A8g n n a0 a1 (.c (.i .i64 0)) h:=by kernel_rfl
theorem B7r (n m:Nat) (x0 x1 x5:Val) (h:A0):A8g n (m + 1) x0 x1 x5 h=bnd (O5 x0) fun v1=>bnd (A2 .lss x5 v1) fun v2=>bnd (gd v2 true (some (x5,h)) (some (.no,h))) fun p3=>bnd (gd v2 true (some (x1,p3.2)) (some (.no,p3.2))) fun p4=>bnd (gd v2 true (bnd (O5 p4.1) fun v5=>some (v5,p4.2)) (some (.no,p4.2))) fun p6=>bnd (gd v2 true (bnd (A2 .lss p3.1 p6.1) fun v7=>some (v7,p6.2)) (some (.no,p6.2))) fun p8=>bnd (C4 v2 p8.1 (.c (.b false))) fun v9=>cnd v9 (bnd (Q5 x0 x5) fun v10=>bnd (Q5 x1 x5) fun v11=>bnd (A2 .neq v10 v11) fun v12=>cnd v12 (bnd (Q5 x0 x5) fun v13=>bnd (Q5 x1 x5) fun v14=>bnd (A2 .lss v13 v14) fun v15=>some (v15,((p8.2 ++ []) ++ []))) (bnd (A2 .add x5 (.c (.i .i64 1))) fun v16=>A8g n m x0 x1 v16 (p8.2 ++ []))) (bnd (O5 x0) fun v17=>bnd (O5 x1) fun v18=>bnd (A2 .lss v17 v18) fun v19=>some (v19,p8.2)):=by kernel_rfl
theorem K_er03_Less:FnK Tryz.prog 160 A_er03_Less A3V B02:=.mk' (C1) Tryz.func160 (by kernel_rfl) (fun _ _ _=>C0)
def A23:Fun:=tidy (Lim A_er03_Less A3V)
theorem C4R:SOk Tryz.prog 160 A23:=K_er03_Less.sok
theorem C4Q:D1 B02 A23:=K_er03_Less.flat
def B7z:ACode:=.ops [aO 11 (.mv (.t 6)),aO 12 (.bin .add (.t 11) (.v (.c (.i .i64 1)))),aO 6 (.mv (.t 12))]
def B2D:ACode:=.seq [0,3,4,5,6] (.seq [0,3,4,5,6,10] (.ops [aO 7 (.mv (.t 6)),aO 8 (.mv (.t 0)),aO 9 (.len (.t 8)),aO 10 (.bin .lss (.t 7) (.t 9))]) (.cond (.t 10) .skip (.exit 2))) (.seq [0,3,4,5,6] (.block 3 (.seq [0,3,4,5,6] (.seq [0,3,4,5,6,29] (.draw 0 [aO 13 (.mv (.t 3)),aO 14 (.len (.t 13)),aO 15 (.bin .gtr (.t 14) (.v (.c (.i .i64 0)))),aO 16 (.mv (.t 15)),aG 17 16 true (.mv (.t 3)),aG 18 16 true (.mv (.t 3)),aG 19 16 true (.len (.t 18)),aG 20 16 true (.bin .sub (.t 19) (.v (.c (.i .i64 1)))),aG 21 16 true (.iAddrL 1 (.t 17) (.t 20)),aG 22 16 true (.load1 (.t 21)),aG 23 16 true (.mv (.t 0)),aG 24 16 true (.mv (.t 6)),aG 25 16 true (.iAddrL 1 (.t 23) (.t 24)),aG 26 16 true (.load1 (.t 25))] [aG 27 16 true (.call 160 [(.t 22),(.t 26)]),aG 28 16 true (.un .not (.t 27)),aO 29 (.pick (.t 16) (.t 28) (.v (.c (.b false))))]) (.cond (.t 29) (.exit 3) .skip)) (.seq [0,3,4,5,6,39] (.ops [aO 30 (.mv (.t 4)),aO 31 (.un .not (.t 30)),aO 32 (.mv (.t 31)),aG 33 32 false (.mv (.t 0)),aG 34 32 false (.mv (.t 6)),aG 35 32 false (.iAddrL 1 (.t 33) (.t 34)),aG 36 32 false (.load1 (.t 35)),aG 37 32 false (.mv (.t 5)),aG 38 32 false (.call 160 [(.t 36),(.t 37)]),aO 39 (.pick (.t 32) (.v (.c (.b true))) (.t 38))]) (.cond (.t 39) (.draw 0 [aO 40 (.mv (.t 0)),aO 41 (.mv (.t 6)),aO 42 (.iAddrL 1 (.t 40) (.t 41)),aO 43 (.load1 (.t 42)),aO 4 (.mv (.v (.c (.b true))))] [aO 5 (.mv (.t 43))]) .skip)))) B7z)
def B7y:ACode:=.seq [0,3,5] (.seq [0,3,5,45] (.ops [aO 44 (.mv (.t 4)),aO 45 (.un .not (.t 44))]) (.cond (.t 45) (.seq [2] (.ops [aO 46 (.mv (.t 3)),aO 2 (.mv (.t 46))]) .ret) .skip)) (.ops [aO 47 (.mv (.t 3)),aO 48 (.mv (.t 5)),aO 49 (.buildSl 1 1 ([.s []]) [(0,1,(.t 48))]),aO 50 (.app 1 (.t 47) (.t 49)),aO 3 (.mv (.t 50))])
def B2C:ACode:=.block 1 (.seq [0,3,4] (.ops [aO 4 (.mv (.v (.c (.b false))))]) (.seq [0,3,4,5] (.ops [aO 5 (.mv (.v (.c (.s []))))]) (.seq [0,3,4,5] (.seq [0,3,4,5,6] (.ops [aO 6 (.mv (.v (.c (.i .i64 0))))]) (.block 2 (.loop [0,3,4,5,6] B2D))) B7y)))
def A_er03_Sort:AFn:=⟨.seq [0] (.ops [aO 2 (.nilrow 1)]) (.seq [0,3] (.ops [aO 3 (.nilrow 1)]) (.block 0 (.loop [0,3] B2C))),[.tmp 2]⟩
def A0B:B3:=A7 160 A23 B8
def B2E (n:Nat):B4 (Val × A0):=D6 0 A_er03_Sort.fin
def A5v (n m:Nat) (x0 x3:Val) (h:A0):A6:=C8 (ax A0B n B2C) [0,3] (B2E n) m [(0,x0),(3,x3)] h
def A6s (n:Nat) (args:List Val) (h:A0):A6:=ax A0B n A_er03_Sort.code A_er03_Sort.fin (params 0 args) h
def C9j (n m:Nat):B4 (Val × A0):=R1 [0,3] (C8 (ax A0B n B2C) [0,3] (B2E n) m) (B2E n)
def C9k (n m:Nat):B4 (Val × A0):=D6 1 (C9j n m)
def C9l (n m:Nat):B4 (Val × A0):=E5 [0,3,4,5] (ax A0B n B7y) (C9k n m)
def B2F (n m:Nat):B4 (Val × A0):=D6 2 (C9l n m)
def A8l (n m m2:Nat) (x0 x3 x4 x5 x6:Val) (h:A0):A6:=C8 (ax A0B n B2D) [0,3,4,5,6] (B2F n m) m2 [(0,x0),(3,x3),(4,x4),(5,x5),(6,x6)] h
def C9m (n m m2:Nat):B4 (Val × A0):=R1 [0,3,4,5,6] (C8 (ax A0B n B2D) [0,3,4,5,6] (B2F n m) m2) (B2F n m)
def A8k (n m m2:Nat) (x0 x3 x4 x5 x6:Val) (h:A0):A6:=hold ((ax A0B n B7z) (C9m n m m2) [(0,x0),(3,x3),(4,x4),(5,x5),(6,x6)] h)
theorem C2M (n:Nat) (a0:Val) (h:A0):A6s n [a0] h=A5v n n a0 (.c (.sl (h ++ [some (Row.mk ([]) true)]).length 0 0 1)) ((h ++ [some (Row.mk ([]) true)]) ++ [some (Row.mk ([]) true)]):=by kernel_rfl
theorem C9n (n m:Nat) (x0 x3:Val) (h:A0):A5v n (m + 1) x0 x3 h=A8l n m n x0 x3 (.c (.b false)) (.c (.s [])) (.c (.i .i64 0)) h:=by kernel_rfl
theorem B7A (n m m2:Nat) (x0 x3 x4 x5 x6:Val) (h:A0):A8l n m (m2 + 1) x0 x3 x4 x5 x6 h=bnd (E3 x0) fun v1=>bnd (A2 .lss x6 v1) fun v2=>cnd v2 (bnd (E3 x3) fun v3=>bnd (A2 .gtr v3 (.c (.i .i64 0))) fun v4=>bnd (gd v4 true (some (x3,(h ++ []))) (some (.no,(h ++ [])))) fun p5=>bnd (gd v4 true (some (x3,p5.2)) (some (.no,p5.2))) fun p6=>bnd (gd v4 true (bnd (E3 p6.1) fun v7=>some (v7,p6.2)) (some (.no,p6.2))) fun p8=>bnd (gd v4 true (bnd (A2 .sub p8.1 (.c (.i .i64 1))) fun v9=>some (v9,p8.2)) (some (.no,p8.2))) fun p10=>bnd (gd v4 true (bnd (B9 1 p5.1 p10.1) fun v11=>some (v11,p10.2)) (some (.no,p10.2))) fun p12=>bnd (gd v4 true (bnd (A5 h p12.1) fun v13=>some (v13,p12.2)) (some (.no,p12.2))) fun p14=>bnd (gd v4 true (some (x0,p14.2)) (some (.no,p14.2))) fun p15=>bnd (gd v4 true (some (x6,p15.2)) (some (.no,p15.2))) fun p16=>bnd (gd v4 true (bnd (B9 1 p15.1 p16.1) fun v17=>some (v17,p16.2)) (some (.no,p16.2))) fun p18=>bnd (gd v4 true (bnd (A5 h p18.1) fun v19=>some (v19,p18.2)) (some (.no,p18.2))) fun p20=>bnd (gd v4 true (bnd (A23 [p14.1,p20.1] p20.2) fun p21=>some (p21.1,p21.2)) (some (.no,p20.2))) fun p22=>bnd (gd v4 true (bnd (aun .not p22.1) fun v23=>some (v23,p22.2)) (some (.no,p22.2))) fun p24=>bnd (C4 v4 p24.1 (.c (.b false))) fun v25=>cnd v25 (A8k n m m2 x0 x3 x4 x5 x6 p24.2) (bnd (aun .not x4) fun v26=>bnd (gd v26 false (some (x0,p24.2)) (some (.no,p24.2))) fun p27=>bnd (gd v26 false (some (x6,p27.2)) (some (.no,p27.2))) fun p28=>bnd (gd v26 false (bnd (B9 1 p27.1 p28.1) fun v29=>some (v29,p28.2)) (some (.no,p28.2))) fun p30=>bnd (gd v26 false (bnd (A5 p30.2 p30.1) fun v31=>some (v31,p30.2)) (some (.no,p30.2))) fun p32=>bnd (gd v26 false (some (x5,p32.2)) (some (.no,p32.2))) fun p33=>bnd (gd v26 false (bnd (A23 [p32.1,p33.1] p33.2) fun p34=>some (p34.1,p34.2)) (some (.no,p33.2))) fun p35=>bnd (C4 v26 (.c (.b true)) p35.1) fun v36=>cnd v36 (bnd (B9 1 x0 x6) fun v37=>bnd (A5 p35.2 v37) fun v38=>A8k n m m2 x0 x3 (.c (.b true)) v38 x6 (p35.2 ++ [])) (A8k n m m2 x0 x3 x4 x5 x6 p35.2))) (bnd (aun .not x4) fun v39=>cnd v39 (some (x3,h)) (bnd (A8 ([.s []]) [(0,1,x5)]) fun c40=>bnd (E7 (h ++ [some (Row.mk (c40) true)]) 1 x3 (.c (.sl h.length 0 1 1))) fun p41=>A5v n m x0 p41.1 p41.2)):=by kernel_rfl
theorem A2B (n m m2:Nat) (x0 x3 x4 x5 x6:Val) (h:A0):A8k n m m2 x0 x3 x4 x5 x6 h=bnd (A2 .add x6 (.c (.i .i64 1))) fun v42=>A8l n m m2 x0 x3 x4 x5 v42 h:=by kernel_rfl
theorem K_er03_Sort:FnK Tryz.prog 82 A_er03_Sort A0B A6s:=.mk' (A9 C4R C1) Tryz.func82 (by kernel_rfl) (fun _ _ _=>C0)
def A4A:Fun:=tidy (Lim A_er03_Sort A0B)
theorem C4U:SOk Tryz.prog 82 A4A:=K_er03_Sort.sok
theorem C4V:N9 A6s A4A:=K_er03_Sort.out
end Go.Proofs.YteckncopbicmcaaGreat
end
section
namespace Go.Proofs.YteckncopbicmcaaGreat
open Go Go.Esc
theorem D1h {a b:List UInt8} {h:A0}:A45 [.c (.s a),.c (.s b)] h=some (.c (.b (E8 a b)),h) :=
  C6g (n:=0) (h2:=ro h) (by rw [C3C];simp only [esc]) rfl
theorem B9v (s t:List UInt8) (hs:s.length < 9223372036854775807) (n:Nat) (h:A0):∀ d i m:Nat,i + d=s.length → d < m → i ≤ t.length →
    A8g n m (.c (.s s)) (.c (.s t)) (.c (.i .i64 i)) h=some (.c (.b (E8 (s.drop i) (t.drop i))),h)
  | d,i,0,_,hm,_=>by omega
  | 0,i,m + 1,hi,hm,ht=>by
    have h1:¬ ((i:Int) < s.length):=by omega
    have h2:s.drop i=[]:=List.drop_of_length_le (by omega)
    rw [B7r,h2]
    cases h4:t.drop i with
    | nil =>
      have:¬ (s.length:Int) < t.length:=by have:=congrArg List.length h4;simp at this;omega
      simp only [esc,h1,this,E8]
    | cons x r =>
      have:(s.length:Int) < t.length:=by have:=congrArg List.length h4;simp at this;omega
      simp only [esc,h1,this,E8]
  | d + 1,i,m + 1,hi,hm,ht=>by
    have h1:(i:Int) < s.length:=by omega
    have h2:i < s.length:=by omega
    rw [B7r,List.drop_eq_getElem_cons h2]
    by_cases h3:i < t.length
    · have h4:(i:Int) < t.length:=by omega
      have ih:=B9v s t hs n h d (i + 1) m (by omega) (by omega) (by omega)
      rw [List.drop_eq_getElem_cons h3]
      by_cases c:s[i]=t[i]
      · simp only [esc,h1,h4,V5 h2,V5 h3,c,E8,UInt8.lt_irrefl,Bool.false_or,beq_self_eq_true,Bool.true_and,E6 (show i + 1 < 9223372036854775808 by omega)]
        exact ih
      · have c':¬ (s[i].toNat:Int)=t[i].toNat:=fun e=>c (UInt8.toNat_inj.1 (by omega))
        have c2:(s[i] == t[i])=false:=by simp [c]
        have c3:((s[i].toNat:Int) < t[i].toNat)=(s[i] < t[i]):=by rw [UInt8.lt_iff_toNat_lt];simp
        simp only [esc,h1,h4,V5 h2,V5 h3,c',c2,E8,c3,Bool.false_and,Bool.or_false]
    · have h4:¬ (i:Int) < t.length:=by omega
      have h5:¬ (s.length:Int) < t.length:=by omega
      have h6:t.drop i=[]:=List.drop_of_length_le (by omega)
      rw [h6]
      simp only [esc,h1,h4,h5,E8]
theorem B3W {s t:List UInt8} (hs:s.length < 9223372036854775807) (h:A0):A23 [.c (.s s),.c (.s t)] h=some (.c (.b (E8 s t)),h):=by
  refine C4Q (n:=s.length + 1) (h2:=ro h) ?_ rfl
  rw [C2J]
  have hl:=B9v s t hs (s.length + 1) (ro h) s.length 0 (s.length + 1) (by omega) (by omega) (by omega)
  simp only [List.drop_zero] at hl
  exact hl
end Go.Proofs.YteckncopbicmcaaGreat
end
section
namespace Go.Proofs.YteckncopbicmcaaGreat
section
variable {α:Type} {lt:α → α → Prop}
theorem C1d (irr:∀ a,¬ lt a a) (tr:∀ a b c,lt a b → lt b c → lt a c):∀ {l m:List α},l.Pairwise lt → m.Pairwise lt → (∀ x,x ∈ l ↔ x ∈ m) → l=m
  | [],[],_,_,_=>rfl
  | [],y :: m,_,_,h=>absurd ((h y).2 (List.mem_cons_self ..)) (by simp)
  | x :: l,[],_,_,h=>absurd ((h x).1 (List.mem_cons_self ..)) (by simp)
  | x :: l,y :: m,hl,hm,h=>by
    rw [List.pairwise_cons] at hl hm
    have e:x=y:=by
      rcases List.mem_cons.1 ((h x).1 (List.mem_cons_self ..)) with e | h1
      · exact e
      · rcases List.mem_cons.1 ((h y).2 (List.mem_cons_self ..)) with e | h2
        · exact e.symm
        · exact absurd (tr _ _ _ (hm.1 x h1) (hl.1 y h2)) (irr y)
    subst e
    rw [C1d irr tr hl.2 hm.2 fun z=>?_]
    constructor
    · intro hz
      rcases List.mem_cons.1 ((h z).1 (List.mem_cons_of_mem _ hz)) with e | h1
      · subst e;exact absurd (hl.1 z hz) (irr z)
      · exact h1
    · intro hz
      rcases List.mem_cons.1 ((h z).2 (List.mem_cons_of_mem _ hz)) with e | h1
      · subst e;exact absurd (hm.1 z hz) (irr z)
      · exact h1
theorem D2C (tr:∀ a b c,lt a b → lt b c → lt a c) (tot:∀ a b,lt a b ∨ a=b ∨ lt b a) {l:List α} {x:α} {p:Nat} (hl:l.Pairwise lt) (hx:x ∉ l) (h1:∀ y ∈ l.take p,lt y x) (h2:∀ y ∈ l.drop p,¬ lt y x) :
    (l.take p ++ x :: l.drop p).Pairwise lt:=by
  have hl':=hl
  rw [← List.take_append_drop p l] at hl'
  rw [List.pairwise_append] at hl'
  obtain ⟨k1,k2,k3⟩:=hl'
  rw [List.pairwise_append]
  refine ⟨k1,?_,?_⟩
  · rw [List.pairwise_cons]
    refine ⟨fun y hy=>?_,k2⟩
    rcases tot x y with h | h | h
    · exact h
    · subst h;exact absurd (List.mem_of_mem_drop hy) hx
    · exact absurd h (h2 y hy)
  · intro a ha b hb
    rcases List.mem_cons.1 hb with e | hb
    · subst e;exact h1 a ha
    · exact k3 a ha b hb
theorem mem_insert {l:List α} {x y:α} {p:Nat}:y ∈ l.take p ++ x :: l.drop p ↔ y=x ∨ y ∈ l:=by
  have e:y ∈ l ↔ y ∈ l.take p ∨ y ∈ l.drop p:=by rw [← List.mem_append,List.take_append_drop]
  rw [List.mem_append,List.mem_cons,e]
  constructor
  · rintro (h | h | h)
    · exact .inr (.inl h)
    · exact .inl h
    · exact .inr (.inr h)
  · rintro (h | h | h)
    · exact .inr (.inl h)
    · exact .inl h
    · exact .inr (.inr h)
end
end Go.Proofs.YteckncopbicmcaaGreat
end
section
namespace Go.Proofs.YteckncopbicmcaaGreat
open Go Go.Esc
theorem A0S:∀ a:List UInt8,E8 a a=false
  | []=>rfl
  | x :: a=>by simp [E8,A0S a,UInt8.lt_irrefl]
theorem Z8:∀ {a b c:List UInt8},E8 a b=true → E8 b c=true → E8 a c=true
  | [],[],_,h,_=>by simp [E8] at h
  | [],_ :: _,[],_,h=>by simp [E8] at h
  | [],_ :: _,_ :: _,_,_=>rfl
  | _ :: _,[],_,h,_=>by simp [E8] at h
  | _ :: _,_ :: _,[],_,h=>by simp [E8] at h
  | x :: a,y :: b,z :: c,h1,h2=>by
    simp only [E8,Bool.or_eq_true,Bool.and_eq_true,decide_eq_true_eq,beq_iff_eq] at h1 h2 ⊢
    rcases h1 with h1 | ⟨rfl,h1⟩
    · rcases h2 with h2 | ⟨rfl,h2⟩
      · exact .inl (UInt8.lt_trans h1 h2)
      · exact .inl h1
    · rcases h2 with h2 | ⟨rfl,h2⟩
      · exact .inl h2
      · exact .inr ⟨rfl,Z8 h1 h2⟩
theorem B1V:∀ a b:List UInt8,E8 a b=true ∨ a=b ∨ E8 b a=true
  | [],[]=>.inr (.inl rfl)
  | [],_ :: _=>.inl rfl
  | _ :: _,[]=>.inr (.inr rfl)
  | x :: a,y :: b=>by
    simp only [E8,Bool.or_eq_true,Bool.and_eq_true,decide_eq_true_eq,beq_iff_eq,List.cons.injEq]
    rcases Nat.lt_trichotomy x.toNat y.toNat with h | h | h
    · exact .inl (.inl (UInt8.lt_iff_toNat_lt.2 h))
    · have e:=UInt8.toNat_inj.1 h
      subst e
      rcases B1V a b with h | h | h
      · exact .inl (.inr ⟨rfl,h⟩)
      · exact .inr (.inl ⟨rfl,h⟩)
      · exact .inr (.inr (.inr ⟨rfl,h⟩))
    · exact .inr (.inr (.inl (UInt8.lt_iff_toNat_lt.2 h)))
end Go.Proofs.YteckncopbicmcaaGreat
end
section
namespace Go.Proofs.YteckncopbicmcaaGreat
open Go Go.Esc
def plc (l:List (List UInt8)) (s:List UInt8):Nat → Nat → Nat → Nat
  | 0,lo,_=>lo
  | f + 1,lo,hi=>if lo < hi then (if E8 (l.getD (lo + (hi - lo) / 2) []) s then plc l s f (lo + (hi - lo) / 2 + 1) hi else plc l s f lo (lo + (hi - lo) / 2)) else lo
theorem B3K (l:List (List UInt8)) (s:List UInt8):∀ f lo hi,lo ≤ hi → plc l s f lo hi ≤ hi
  | 0,lo,hi,h=>h
  | f + 1,lo,hi,h=>by
    unfold plc
    split
    · split
      · exact B3K l s f _ hi (by omega)
      · exact Nat.le_trans (B3K l s f lo _ (by omega)) (by omega)
    · exact h
theorem B3L {l:List (List UInt8)} {s:List UInt8} (hl:l.Pairwise fun a b=>E8 a b=true):∀ f lo hi,lo ≤ hi → hi ≤ l.length → hi - lo ≤ f → (∀ i x,i < lo → l[i]? = some x → E8 x s=true) → (∀ i x,hi ≤ i → l[i]? = some x → E8 x s=false) →
    (∀ i x,i < plc l s f lo hi → l[i]? = some x → E8 x s=true) ∧ (∀ i x,plc l s f lo hi ≤ i → l[i]? = some x → E8 x s=false)
  | 0,lo,hi,h,_,hf,h1,h2=>by
    have:hi=lo:=by omega
    subst this
    exact ⟨h1,h2⟩
  | f + 1,lo,hi,h,hh,hf,h1,h2=>by
    unfold plc
    by_cases c:lo < hi
    · rw [if_pos c]
      have hm:lo + (hi - lo) / 2 < hi:=by omega
      have hlo:lo ≤ lo + (hi - lo) / 2:=by omega
      generalize lo + (hi - lo) / 2=mid at *
      have hg:l[mid]? = some (l.getD mid []):=by rw [List.getD_eq_getElem?_getD,List.getElem?_eq_getElem (by omega)];rfl
      have mono:∀ (i j:Nat) (x y:List UInt8),i < j → l[i]? = some x → l[j]? = some y → E8 x y=true:=by
        intro i j x y hij hi hj
        rw [List.pairwise_iff_getElem] at hl
        obtain ⟨a,rfl⟩:=List.getElem?_eq_some_iff.1 hi
        obtain ⟨b,rfl⟩:=List.getElem?_eq_some_iff.1 hj
        exact hl i j a b hij
      cases cb:E8 (l.getD mid []) s with
      | true =>
        rw [if_pos rfl]
        refine B3L hl f (mid + 1) hi (by omega) hh (by omega) (fun i x hi hx=>?_) h2
        by_cases e:i=mid
        · subst e
          rw [hg] at hx
          rw [← Option.some.inj hx];exact cb
        · exact Z8 (mono i mid x _ (by omega) hx hg) cb
      | false =>
        rw [if_neg (by simp)]
        refine B3L hl f lo mid (by omega) (by omega) (by omega) h1 (fun i x hi hx=>?_)
        by_cases e:i=mid
        · subst e
          rw [hg] at hx
          rw [← Option.some.inj hx];exact cb
        · cases cx:E8 x s with
          | false=>rfl
          | true=>rw [Z8 (mono mid i _ x (by omega) hg hx) cx] at cb;exact cb
    · rw [if_neg c]
      have:hi=lo:=by omega
      subst this
      exact ⟨h1,h2⟩
def Y0 (l:List (List UInt8)) (s:List UInt8) (n:Nat):Bool:=decide (l[n]? = some s)
theorem A1h (l:List (List UInt8)) (i:Nat):(encS l)[i]? = (l[i]?).map fun x=>.s x:=by simp [encS]
theorem B3J {v:Val} {nv q:Nat} {l:List (List UInt8)} {s:List UInt8} {h:A0} (hv:Has h v 1 nv (encS l)) (hn:l.length=nv) (h62:nv < 4611686018427387904):∀ f m lo hi:Nat,lo ≤ hi → hi ≤ nv → hi - lo ≤ f → f < m →
    A3x q m v (.c (.s s)) (.c (.i .i64 lo)) (.c (.i .i64 hi)) h=some (.t [.c (.i .i64 (plc l s f lo hi:Nat)),.c (.b (Y0 l s (plc l s f lo hi)))],h)
  | f,0,lo,hi,_,_,_,hm=>by omega
  | f,m + 1,lo,hi,h1,h2,hf,hm=>by
    have hlen:=hv.len
    have fin:lo=hi → A3x q (m + 1) v (.c (.s s)) (.c (.i .i64 lo)) (.c (.i .i64 hi)) h=some (.t [.c (.i .i64 lo),.c (.b (Y0 l s lo))],h):=by
      intro e
      subst e
      have c0:¬ (lo:Int) < lo:=by omega
      rw [B9Q]
      unfold Y0
      by_cases c1:lo < nv
      · have c1':(lo:Int) < nv:=by omega
        obtain ⟨id,off,ev,hid,k1,k2⟩:=hv.sl (by omega)
        have hx:=k1 lo (.s l[lo]) (by rw [A1h,List.getElem?_eq_getElem (by omega)];rfl)
        have eb:B9 1 v (.c (.i .i64 (lo:Int)))=some (.c (.p id (off + lo))):=by rw [ev,G6 (by omega)];simp
        have e2:l[lo]? = some l[lo]:=List.getElem?_eq_getElem (by omega)
        rw [e2]
        simp only [esc,hlen,c0,c1',eb,hx]
      · have c1':¬ (lo:Int) < nv:=by omega
        have e2:l[lo]? = none:=List.getElem?_eq_none (by omega)
        rw [e2]
        simp only [esc,hlen,c0,c1',reduceCtorEq]
    cases f with
    | zero =>
      have e:lo=hi:=by omega
      exact fin e
    | succ f =>
      unfold plc
      by_cases c:lo < hi
      · rw [if_pos c]
        have c':(lo:Int) < hi:=by omega
        obtain ⟨id,off,ev,hid,k1,k2⟩:=hv.sl (by omega)
        have w1:IntKind.wrap .i64 ((hi:Int) - lo)=((hi - lo:Nat):Int):=by rw [wrap_i64 (by omega) (by omega)];omega
        have w2:=A5T (a:=((hi - lo:Nat):Int)) (b:=2) (by omega) (by omega) (by omega)
        have w3:((hi - lo:Nat):Int) / 2=(((hi - lo) / 2:Nat):Int):=by omega
        rw [w3] at w2
        have w4:IntKind.wrap .i64 ((lo:Int) + (((hi - lo) / 2:Nat):Int))=((lo + (hi - lo) / 2:Nat):Int):=A0y (by omega)
        have hm1:lo + (hi - lo) / 2 < hi:=by omega
        have hm2:lo ≤ lo + (hi - lo) / 2:=by omega
        generalize (hi - lo) / 2=d at *
        generalize lo + d=mid at *
        have hx:=k1 mid (.s l[mid]) (by rw [A1h,List.getElem?_eq_getElem (by omega)];rfl)
        have eb:B9 1 v (.c (.i .i64 (mid:Int)))=some (.c (.p id (off + mid))):=by rw [ev,G6 (by omega)];simp
        have eg:l.getD mid []=l[mid]:=by rw [List.getD_eq_getElem?_getD,List.getElem?_eq_getElem (by omega)];rfl
        rw [eg]
        have hL:=fun h=>D1h (a:=l[mid]) (b:=s) (h:=h)
        rw [B9Q]
        cases cb:E8 l[mid] s with
        | true =>
          rw [cb] at hL
          have ih:=B3J (q:=q) (s:=s) hv hn h62 f m (mid + 1) hi (by omega) h2 (by omega) (by omega)
          rw [if_pos rfl]
          simp only [esc,hlen,c',w1,w2,w4,eb,hx,hL,E6 (show mid + 1 < 9223372036854775808 by omega)]
          exact ih
        | false =>
          rw [cb] at hL
          have ih:=B3J (q:=q) (s:=s) hv hn h62 f m lo mid hm2 (by omega) (by omega) (by omega)
          rw [if_neg (by simp)]
          simp only [esc,hlen,c',w1,w2,w4,eb,hx,hL]
          exact ih
      · rw [if_neg c]
        exact fin (by omega)
theorem D1k {v:Val} {nv:Nat} {l:List (List UInt8)} {s:List UInt8} {h:A0} (hv:Has h v 1 nv (encS l)) (h62:nv < 4611686018427387904) :
    A24 [v,.c (.s s)] h=some (.t [.c (.i .i64 (plc l s nv 0 nv:Nat)),.c (.b (Y0 l s (plc l s nv 0 nv)))],h):=by
  have hn:l.length=nv:=by simpa [X9] using hv.length
  have key:∀ N,nv < N → ∀ g,Has g v 1 nv (encS l) → ∃ g',A67 N [v,.c (.s s)] g=some (.t [.c (.i .i64 (plc l s nv 0 nv:Nat)),.c (.b (Y0 l s (plc l s nv 0 nv)))],g'):=by
    intro N hN g hv
    have e:=B3J (q:=N) (s:=s) hv hn h62 nv N 0 nv (by omega) (by omega) (by omega) hN
    rw [C3E]
    exact ⟨_,by simp only [esc,hv.len];exact e⟩
  obtain ⟨g',e⟩:=key (nv + 1) (by omega) (ro h) hv.ro
  exact C6j e rfl
end Go.Proofs.YteckncopbicmcaaGreat
end
section
namespace Go.Proofs.YteckncopbicmcaaGreat
open Go Go.Esc
theorem C1C {id n a:Nat} (ha:a ≤ n):A0m 1 (.c (.sl id 0 n 1)) (some (.c (.i .i64 (a:Int)))) none=some (.c (.sl id a (n - a) 1)):=by
  simp only [A0m,bound]
  rw [if_pos (by omega)]
  simp only [Option.bind_some,Int.toNat_natCast]
  rw [if_pos ⟨ha,Nat.le_refl _,trivial⟩]
  simp
theorem C76 {H:A0} {id k p:Nat} {out:List (List UInt8)} (hr:rd H id=some ⟨encS (out ++ [[]]),true⟩) (hk:out.length=k) (hp:p ≤ k) :
    ∃ c,A2k H 1 (.c (.sl id (p + 1) (k - p) 1)) (.c (.sl id p (k + 1 - p) 1))=some (c,H.set id (some ⟨encS ((out ++ [[]]).take (p + 1) ++ out.drop p),true⟩)):=by
  have hl:(encS (out ++ [[]])).length=k + 1:=by rw [X9];simp [hk]
  have h1:((encS (out ++ [[]])).drop p).take (k + 1 - p)=(encS (out ++ [[]])).drop p:=List.take_of_length_le (by rw [List.length_drop];omega)
  have h2:O1 H 1 (.c (.sl id p (k + 1 - p) 1))=some ((encS (out ++ [[]])).drop p):=by
    simp only [O1,if_true,X0,hr,Option.bind_some,Nat.mul_one,h1]
    rw [if_pos ⟨by omega,by simp⟩]
  have h3:((encS (out ++ [[]])).drop p).length=k + 1 - p:=by rw [List.length_drop];omega
  have h4:Nat.min (k + 1 - p) (k - p)=k - p:=Nat.min_eq_right (by omega)
  have h5:lay (encS (out ++ [[]])) (p + 1) (((encS (out ++ [[]])).drop p).take (k - p))=encS ((out ++ [[]]).take (p + 1) ++ out.drop p):=by
    unfold lay
    have e1:((encS (out ++ [[]])).drop p).take (k - p)=encS (out.drop p):=by
      unfold encS
      rw [List.map_append,List.drop_append_of_le_length (by simp;omega),List.take_append_of_le_length (by simp;omega),List.take_of_length_le (by simp;omega),List.map_drop]
    have e2:(encS (out ++ [[]])).drop (p + 1 + (encS (out.drop p)).length)=[]:=List.drop_of_length_le (by rw [hl,X9,List.length_drop];omega)
    rw [e1,e2]
    simp only [List.append_nil,encS,List.map_append,List.map_take,List.map_drop]
  refine ⟨.c (.i .i64 ((k - p:Nat):Int)),?_⟩
  simp only [A2k,h2,Option.bind_some,hr,h3,Nat.div_one,h4,Nat.mul_one,h5]
  rw [if_pos ⟨trivial,by omega,trivial⟩]
end Go.Proofs.YteckncopbicmcaaGreat
end
section
namespace Go.Proofs.YteckncopbicmcaaGreat
open Go Go.Esc
abbrev F5:=List (List UInt8)
def atS (o:F5) (s:List UInt8):Nat:=plc o s o.length 0 o.length
def O8 (o:F5) (s:List UInt8):F5:=bif Y0 o s (atS o s) then o else o.take (atS o s) ++ s :: o.drop (atS o s)
def I6 (l:F5):F5:=l.foldl O8 []
theorem B5D (o:F5) (s:List UInt8):atS o s ≤ o.length:=B3K o s _ _ _ (Nat.zero_le _)
theorem B9g (o:F5) (s:List UInt8):(O8 o s).length ≤ o.length + 1:=by
  have:=B5D o s
  unfold O8
  cases Y0 o s (atS o s) <;> simp <;> omega
theorem C93 (l:F5):∀ o:F5,(l.foldl O8 o).length ≤ o.length + l.length:=by
  induction l with
  | nil=>intro o;simp
  | cons x l ih =>
    intro o
    have h1:=ih (O8 o x)
    have h2:=B9g o x
    simp only [List.foldl_cons,List.length_cons] at h1 ⊢
    omega
theorem C1I (l:F5):(I6 l).length ≤ l.length:=by
  have:=C93 l []
  simpa [I6] using this
abbrev Up (l:F5):Prop:=l.Pairwise fun a b=>E8 a b=true
theorem B5E {o:F5} {s:List UInt8} (ho:Up o):(∀ i x,i < atS o s → o[i]? = some x → E8 x s=true) ∧ (∀ i x,atS o s ≤ i → o[i]? = some x → E8 x s=false) :=
  B3L ho o.length 0 o.length (Nat.zero_le _) (Nat.le_refl _) (by omega) (fun i x hi=>by omega) (fun i x hi hx=>by
    have:=(List.getElem?_eq_some_iff.1 hx).1;omega)
theorem B9i {o:F5} {s:List UInt8} (ho:Up o):Y0 o s (atS o s)=true ↔ s ∈ o:=by
  unfold Y0
  rw [decide_eq_true_eq]
  constructor
  · intro h;exact List.mem_of_getElem? h
  · intro h
    obtain ⟨i,hi⟩:=List.mem_iff_getElem?.1 h
    obtain ⟨h1,h2⟩:=B5E (s:=s) ho
    have hge:atS o s ≤ i:=by
      false_or_by_contra
      have:=h1 i s (by omega) hi
      rw [A0S] at this;cases this
    by_cases e:atS o s=i
    · rw [e];exact hi
    · have hil:=(List.getElem?_eq_some_iff.1 hi).1
      have hg:o[atS o s]? = some o[atS o s]:=List.getElem?_eq_getElem (by omega)
      have k1:=h2 _ _ (Nat.le_refl _) hg
      have k2:E8 o[atS o s] s=true:=by
        obtain ⟨a,ha⟩:=List.getElem?_eq_some_iff.1 hi
        have:=List.pairwise_iff_getElem.1 ho (atS o s) i (by omega) a (by omega)
        rw [ha] at this;exact this
      rw [k1] at k2;cases k2
theorem D0G {o:F5} {s:List UInt8} (ho:Up o):Up (O8 o s) ∧ ∀ x,x ∈ O8 o s ↔ x=s ∨ x ∈ o:=by
  unfold O8
  cases c:Y0 o s (atS o s) with
  | true =>
    have hm:=(B9i ho).1 c
    rw [cond_true]
    exact ⟨ho,fun x=>⟨fun h=>.inr h,fun h=>by rcases h with h | h;subst h;exact hm;exact h⟩⟩
  | false =>
    have hm:s ∉ o:=fun h=>by rw [(B9i ho).2 h] at c;cases c
    obtain ⟨h1,h2⟩:=B5E (s:=s) ho
    rw [cond_false]
    refine ⟨D2C (lt:=fun a b=>E8 a b=true) (fun a b c=>Z8) (fun a b=>B1V a b) ho hm (fun y hy=>?_) (fun y hy=>?_),fun x=>mem_insert⟩
    · obtain ⟨i,hi⟩:=List.mem_iff_getElem?.1 hy
      have hl:=(List.getElem?_eq_some_iff.1 hi).1
      rw [List.length_take] at hl
      rw [List.getElem?_take_of_lt (by omega)] at hi
      exact h1 i y (by omega) hi
    · obtain ⟨i,hi⟩:=List.mem_iff_getElem?.1 hy
      rw [List.getElem?_drop] at hi
      have:=h2 _ y (by omega) hi
      rw [this];simp
theorem B8m (l:F5):∀ o:F5,Up o → Up (l.foldl O8 o) ∧ ∀ x,x ∈ l.foldl O8 o ↔ x ∈ o ∨ x ∈ l:=by
  induction l with
  | nil=>intro o ho;exact ⟨ho,fun x=>by simp⟩
  | cons y l ih =>
    intro o ho
    obtain ⟨h1,h2⟩:=D0G (s:=y) ho
    obtain ⟨h3,h4⟩:=ih _ h1
    refine ⟨h3,fun x=>?_⟩
    rw [List.foldl_cons,h4,h2,List.mem_cons]
    constructor
    · rintro ((h | h) | h)
      · exact .inr (.inl h)
      · exact .inl h
      · exact .inr (.inr h)
    · rintro (h | h | h)
      · exact .inl (.inr h)
      · exact .inl (.inl h)
      · exact .inr h
theorem C1J (l:F5):Up (I6 l):=(B8m l [] List.Pairwise.nil).1
theorem A9y (l:F5) (x:List UInt8):x ∈ I6 l ↔ x ∈ l:=by
  have:=(B8m l [] List.Pairwise.nil).2 x
  simpa [I6] using this
theorem D37 {l m:F5} (hl:Up l) (hm:Up m) (h:∀ x,x ∈ l ↔ x ∈ m):l=m :=
  C1d (lt:=fun a b=>E8 a b=true) (fun a=>by rw [A0S];simp) (fun a b c=>Z8) hl hm h
theorem B4e {v:Val} {nv q:Nat} {l:F5} {g:A0} (hv:Has g v 1 nv (encS l)) (hn:l.length=nv) (h62:nv < 1073741824):∀ (e i m:Nat) (o:F5) (h:A0) (id:Nat),i + e=nv → e < m → o.length ≤ i → Low g.length g h → g.length ≤ id → rd h id=some ⟨encS o,true⟩ →
    ∃ v2 h2,A87 q m (.c (.sl id 0 o.length 1)) v (.c (.i .i64 nv)) (.c (.i .i64 i)) h=some (v2,h2) ∧ Out g.length h2 v2 1 ((l.drop i).foldl O8 o).length (encS ((l.drop i).foldl O8 o))
  | e,i,0,o,h,id,_,hm,_,_,_,_=>by omega
  | 0,i,m + 1,o,h,id,hi,hm,hol,hlow,hid,hr=>by
    have e0:i=nv:=by omega
    subst e0
    have c0:¬ (i:Int) < i:=by omega
    rw [B9U,List.drop_of_length_le (by omega),List.foldl_nil]
    exact ⟨_,_,by simp only [esc,c0] <;> rfl,by rw [X9];omega,_,rfl,hid,hr⟩
  | e + 1,i,m + 1,o,h,id,hi,hm,hol,hlow,hid,hr=>by
    have c0:(i:Int) < nv:=by omega
    obtain ⟨jd,off,ev,hjd,k1,k2⟩:=(hv.since hlow).sl (by omega)
    have hx:=k1 i (.s l[i]) (by rw [A1h,List.getElem?_eq_getElem (by omega)];rfl)
    have eb:B9 1 v (.c (.i .i64 (i:Int)))=some (.c (.p jd (off + i))):=by rw [ev,G6 (by omega)];simp
    have hP:=D1k (s:=l[i]) (Has.row (sz:=1) (n:=o.length) hr (by rw [X9];omega) (B3C o)) (by omega)
    rw [List.drop_eq_getElem_cons (by omega:i < l.length),List.foldl_cons]
    change A24 _ h=some (.t [.c (.i .i64 (atS o l[i]:Nat)),.c (.b (Y0 o l[i] (atS o l[i])))],h) at hP
    have hat:=B5D o l[i]
    rw [B9U]
    generalize hs:l[i]=s at *
    cases c:Y0 o s (atS o s) with
    | true =>
      have ei:O8 o s=o:=by unfold O8;rw [c,cond_true]
      rw [c] at hP
      obtain ⟨v2,h2,f1,f2⟩:=B4e (q:=q) hv hn h62 e (i + 1) m o h id (by omega) (by omega) (by omega) hlow hid hr
      rw [ei]
      refine ⟨v2,h2,?_,f2⟩
      simp only [esc,c0,eb,hx,hP,B9T,E6 (show i + 1 < 9223372036854775808 by omega)]
      exact f1
    | false =>
      have ei:O8 o s=o.take (atS o s) ++ s :: o.drop (atS o s):=by unfold O8;rw [c,cond_false]
      rw [c] at hP
      have il:=B9g o s
      generalize hp:atS o s=p at *
      obtain ⟨h1,a1,a2,a3,a4,a5⟩:=push (ys:=[.s []]) (sz:=1) (n:=o.length) hlow hr (by rw [X9];omega) hid rfl (by omega) (by omega)
      have he:encS o ++ [.s []]=encS (o ++ [[]]):=by simp [encS]
      rw [he] at a2
      have ef:A8 [Cell.s []] [(0,1,.c (.s []))]=some [.s []]:=rfl
      have w1:IntKind.wrap .i64 ((p:Int) + 1)=((p + 1:Nat):Int):=E6 (by omega)
      have t1:=C1C (id:=h.length + 1) (n:=o.length + 1) (a:=p + 1) (by omega)
      have t2:=C1C (id:=h.length + 1) (n:=o.length + 1) (a:=p) (by omega)
      rw [show o.length + 1 - (p + 1)=o.length - p by omega] at t1
      obtain ⟨cc,t3⟩:=C76 (H:=h1) (id:=h.length + 1) (k:=o.length) (p:=p) a2 rfl hat
      have t4:B9 1 (.c (.sl (h.length + 1) 0 (o.length + 1) 1)) (.c (.i .i64 (p:Int)))=some (.c (.p (h.length + 1) p)):=by rw [G6 (by omega)];simp
      have hlt:=D0 a2
      have t5:rd (h1.set (h.length + 1) (some ⟨encS ((o ++ [[]]).take (p + 1) ++ o.drop p),true⟩)) (h.length + 1)=some ⟨encS ((o ++ [[]]).take (p + 1) ++ o.drop p),true⟩:=K3 hlt
      have t6:=Z0 (x:=.s s) (off:=p) t5 (by rw [X9,List.length_append,List.length_take,List.length_append];simp;omega)
      have t7:(encS ((o ++ [[]]).take (p + 1) ++ o.drop p)).set p (.s s)=encS (O8 o s):=by
        rw [ei]
        have e1:(o ++ [[]]).take (p + 1)=o.take p ++ [(o ++ [[]])[p]'(by simp;omega)]:=by
          rw [List.take_succ_eq_append_getElem (by simp;omega),List.take_append_of_le_length hat]
        rw [e1]
        unfold encS
        rw [← List.map_set]
        congr 1
        rw [List.append_assoc,List.set_append_right _ _ (by simp;omega),List.length_take,Nat.min_eq_left hat,Nat.sub_self]
        rfl
      rw [List.set_set,t7] at t6
      obtain ⟨v2,h2,f1,f2⟩:=B4e (q:=q) hv hn h62 e (i + 1) m (O8 o s) (h1.set (h.length + 1) (some ⟨encS (O8 o s),true⟩)) (h.length + 1) (by omega) (by omega) (by omega) (a3.set a4 _) a4 (K3 hlt)
      have el:(O8 o s).length=o.length + 1:=by rw [ei];simp;omega
      rw [el] at f1
      refine ⟨v2,h2,?_,f2⟩
      simp only [esc,c0,eb,hx,hP,ef,a1,w1,t1,t2,t3,t4,t6,B9T,E6 (show i + 1 < 9223372036854775808 by omega)]
      exact f1
theorem D1n {v:Val} {nv:Nat} {l:F5} {h:A0} (hv:Has h v 1 nv (encS l)) (h62:nv < 1073741824) :
    A46 [v] h=some (.c (.sl h.length 0 (I6 l).length 1),h ++ [some ⟨encS (I6 l),true⟩]):=by
  have hn:l.length=nv:=by simpa [X9] using hv.length
  have key:∀ N,nv < N → ∀ g,Has g v 1 nv (encS l) → ∃ v2 g',A68 N [v] g=some (v2,g') ∧ Out g.length g' v2 1 (I6 l).length (encS (I6 l)):=by
    intro N hN g hv
    obtain ⟨v2,g',f1,f2⟩:=B4e (q:=N) hv hn h62 nv 0 N [] ((g ++ [some (Row.mk [] true)]) ++ [some (Row.mk [] true)]) (g.length + 1) (by omega) hN (Nat.le_refl _) (((Low.refl (Nat.le_refl _)).new _).new _) (by omega) (by simp [encS])
    rw [List.drop_zero] at f2
    rw [C3F]
    refine ⟨v2,g',?_,f2⟩
    rw [hv.len,F2]
    simpa using f1
  obtain ⟨v2,g',e,ho⟩:=key (nv + 1) (by omega) (ro h) hv.ro
  exact C6m e (by simpa [K4] using ho) (by simp)
end Go.Proofs.YteckncopbicmcaaGreat
end
section
namespace Go.Proofs.YteckncopbicmcaaGreat
open Go Go.Esc
def D5 (l:List Ent):List Cell:=(l.map fun x=>F0 (some x)).flatten
theorem B2x {l:List Ent}:(D5 l).length=l.length * 2:=by
  induction l with
  | nil=>rfl
  | cons x l ih=>simp only [D5,List.map_cons,List.flatten_cons,List.length_append,F0,List.length_cons,List.length_nil] at ih ⊢;omega
theorem C8D {k:Nat} {x:Ent} {r:List Cell}:List.drop ((k + 1) * 2) (F0 (some x) ++ r)=List.drop (k * 2) r:=by
  rw [show (k + 1) * 2=k * 2 + 2 by omega]
  rfl
theorem A2z:∀ (l:List Ent) (k:Nat) (hk:k < l.length),((D5 l).drop (k * 2)).take 2=F0 (some l[k])
  | [],k,hk=>by simp at hk
  | x :: l,0,_=>rfl
  | x :: l,k + 1,hk=>by
    have e:D5 (x :: l)=F0 (some x) ++ D5 l:=rfl
    rw [e,C8D,List.getElem_cons_succ]
    exact A2z l k (by simpa using hk)
def G9 (l:List Ent) (k:Nat):Ent:=l.getD k ([],0)
theorem A76 {l:List Ent} {k:Nat} (hk:k < l.length):G9 l k=l[k]:=by simp [G9,List.getD,hk]
def H5 (l:List Ent):Nat → List UInt8
  | 0=>hdB
  | k + 1=>D3 (H5 l k) (G3 k) (J1 (G9 l k).1 (G9 l k).2)
theorem A1v {l:List Ent}:∀ k,k ≤ 7 → (H5 l k).length=256
  | 0,_=>B3c
  | k + 1,hk=>by rw [H5,A0c (by rw [A1v k (by omega),A1i];unfold G3;omega)];exact A1v k (by omega)
def atX (b nm:List UInt8):Nat:=match J2 b nm with
  | some x=>x.1
  | none=>0
theorem D3x {o:Option Slt}:(slC o)[0]? = some (.i .i64 ((match o with | some x=>x.1 | none=>0:Nat):Int)):=by cases o <;> rfl
def A3z (l:List Ent) (k:Nat):Bool:=decide (atX (H5 l l.length) (G9 l k).1=k)
def A0Z (l:List Ent):Bool:=(List.range' 0 l.length).all (A3z l)
def A0t (l:List Ent):Bool:=l.all fun x=>U3 x.1 x.2
theorem B9Z {v:Val} {nv q:Nat} {l:List Ent} {B:A0} {g:Nat} (hv:Has B v 2 nv (D5 l)) (hn:l.length=nv) (h7:nv ≤ 7) (hg:rd B g=some ⟨A1 (zeros 256),true⟩):∀ (e k m:Nat) (h:A0),k + e=nv → e < m → Low B.length B h → rd h B.length=some ⟨A1 (H5 l nv),true⟩ →
    ∃ h',A7L q m (.c (.p g 0)) (.c (.p B.length 0)) v (.c (.i .i64 (nv:Int))) (.c (.i .i64 (k:Int))) h=some (.t [.a (A1 (bif (List.range' k e).all (A3z l) then H5 l nv else zeros 256)),.c (.i .i64 (bif (List.range' k e).all (A3z l) then 0 else 5))],h')
  | e,k,0,h,_,hm,_,_=>by omega
  | 0,k,m + 1,h,hk,hm,hlow,hr=>by
    have e0:k=nv:=by omega
    subst e0
    have c0:¬ (k:Int) < k:=by omega
    have hL:(A1 (H5 l k)).length=256:=by rw [B1];exact A1v k h7
    have hz:(A1 (zeros 256)).length=256:=by rw [B1];exact zeros_length
    have hrg:=hlow.rd hg
    have s1:=G5 hr hL
    have s2:=storeAll (xs:=A1 (H5 l k)) hrg hz hL
    have s3:=G5 (h:=h.set g (some ⟨A1 (H5 l k),true⟩)) (id:=g) (K3 (D0 hrg)) hL
    rw [B5V,List.range'_zero,List.all_nil,cond_true,cond_true]
    generalize A1 (H5 l k)=y at *
    exact ⟨_,by simp only [esc,c0,s1,s2,s3] <;> rfl⟩
  | e + 1,k,m + 1,h,hk,hm,hlow,hr=>by
    have c0:(k:Int) < nv:=by omega
    have hL:(A1 (H5 l nv)).length=256:=by rw [B1];exact A1v nv h7
    have hvB:Has h v 2 nv (D5 l):=by
      refine hv.low hlow fun id off m he=>?_
      rcases hv with ⟨rfl,_⟩ | ⟨id',off',r',rfl,hrd,_⟩
      · cases he
      · cases he;exact D0 hrd
    obtain ⟨id,off,ev,hid,k1,k2⟩:=hvB.sl (by omega)
    have eb:B9 2 v (.c (.i .i64 (k:Int)))=some (.c (.p id (off + k * 2))):=by rw [ev,G6 (by omega)]
    have hld:=k2 (k * 2) 2 (by rw [B2x];omega)
    rw [A2z l k (by omega),← A76 (by omega)] at hld
    have w1:=E6 (show k + 1 < 9223372036854775808 by omega)
    have hF:=fun h=>B5N (b:=H5 l nv) (nm:=(G9 l k).1) (h:=h) (A1v nv h7)
    have s1:=fun t=>G5 (h:=h ++ t) (C3 hr) hL
    have hat:(slC (J2 (H5 l nv) (G9 l k).1))[0]? = some (.i .i64 (atX (H5 l nv) (G9 l k).1:Nat)):=D3x
    have hSl:=A1B (o:=J2 (H5 l nv) (G9 l k).1)
    rw [B5V,List.range'_succ,List.all_cons]
    have hon:A3z l k=decide (atX (H5 l nv) (G9 l k).1=k):=by unfold A3z;rw [hn]
    rw [hon]
    generalize slC (J2 (H5 l nv) (G9 l k).1)=S at *
    generalize atX (H5 l nv) (G9 l k).1=A at *
    obtain ⟨h',ih⟩:=B9Z (q:=q) hv hn h7 hg e (k + 1) m (h ++ [some (Row.mk (F0 (some (G9 l k))) true),some (Row.mk S true)]) (by omega) (by omega) (hlow.new _) (C3 hr)
    simp only [F0] at *
    by_cases c:A=k
    · subst c
      rw [decide_eq_true rfl,Bool.true_and]
      refine ⟨h',?_⟩
      generalize A1 (H5 l nv)=y at *
      simp only [esc,esh,Nat.reduceAdd,Nat.reduceMul,Nat.reduceLT,c0,eb,hld,s1,hF,hat,hSl,w1]
      exact ih
    · rw [decide_eq_false c,Bool.false_and,cond_false,cond_false]
      have c':¬ (A:Int)=k:=by omega
      have hz:(A1 (zeros 256)).length=256:=by rw [B1];exact zeros_length
      have hrg:=fun t:A0=>C3 (g:=t) (hlow.rd hg)
      have haf:A8 (List.replicate 256 (Cell.i .u8 0)) []=some (List.replicate 256 (Cell.i .u8 0)):=rfl
      rw [N8] at haf
      have s2:=fun t=>storeAll (xs:=A1 (zeros 256)) (hrg t) hz hz
      have s3:=fun t=>G5 (h:=(h ++ t).set g (some ⟨A1 (zeros 256),true⟩)) (id:=g) (K3 (D0 (hrg t))) hz
      rw [N8]
      generalize zeros 256=z at *
      generalize A1 (H5 l nv)=y at *
      exact ⟨_,by simp only [esc,esh,Nat.reduceAdd,Nat.reduceMul,Nat.reduceLT,c0,eb,hld,s1,hF,hat,hSl,c',haf,s2,s3] <;> rfl⟩
theorem B9Y {v:Val} {nv q:Nat} {l:List Ent} {B:A0} {g:Nat} (hv:Has B v 2 nv (D5 l)) (hn:l.length=nv) (h7:nv ≤ 7) (hs:∀ x ∈ l,x.1.length ≤ 60) (hg:rd B g=some ⟨A1 (zeros 256),true⟩) (hq:nv < q):∀ (e k m:Nat) (h:A0),k + e=nv → e < m → Low B.length B h → rd h B.length=some ⟨A1 (H5 l k),true⟩ →
    ∃ h',A7K q m v (.c (.p g 0)) (.c (.p B.length 0)) v (.c (.i .i64 (nv:Int))) (.c (.i .i64 (k:Int))) h=some (.t [.a (A1 (bif A0t (l.drop k) && A0Z l then H5 l nv else zeros 256)),.c (.i .i64 (bif A0t (l.drop k) then (bif A0Z l then 0 else 5) else 1))],h')
  | e,k,0,h,_,hm,_,_=>by omega
  | 0,k,m + 1,h,hk,hm,hlow,hr=>by
    have e0:k=nv:=by omega
    subst e0
    have c0:¬ (k:Int) < k:=by omega
    have hvB:Has h v 2 k (D5 l):=by
      refine hv.low hlow fun id off m he=>?_
      rcases hv with ⟨rfl,_⟩ | ⟨id',off',r',rfl,hrd,_⟩
      · cases he
      · cases he;exact D0 hrd
    obtain ⟨h',e⟩:=B9Z (q:=q) hv hn h7 hg k 0 q h (by omega) hq hlow hr
    have em:A0t (l.drop k)=true:=by rw [List.drop_of_length_le (by omega)];rfl
    have eo:(List.range' 0 k).all (A3z l)=A0Z l:=by unfold A0Z;rw [hn]
    rw [eo] at e
    rw [B5U,em,Bool.true_and,cond_true]
    exact ⟨h',by simp only [esc,c0,hvB.len];exact e⟩
  | e + 1,k,m + 1,h,hk,hm,hlow,hr=>by
    have c0:(k:Int) < nv:=by omega
    have hNl:=A1v (l:=l) k (by omega)
    have hL:(A1 (H5 l k)).length=256:=by rw [B1];exact hNl
    have hvB:Has h v 2 nv (D5 l):=by
      refine hv.low hlow fun id off m he=>?_
      rcases hv with ⟨rfl,_⟩ | ⟨id',off',r',rfl,hrd,_⟩
      · cases he
      · cases he;exact D0 hrd
    obtain ⟨id,off,ev,hid,k1,k2⟩:=hvB.sl (by omega)
    have eb:B9 2 v (.c (.i .i64 (k:Int)))=some (.c (.p id (off + k * 2))):=by rw [ev,G6 (by omega)]
    have hld:=k2 (k * 2) 2 (by rw [B2x];omega)
    rw [A2z l k (by omega),← A76 (by omega)] at hld
    have w1:=E6 (show k + 1 < 9223372036854775808 by omega)
    have hsk:(G9 l k).1.length ≤ 60:=by rw [A76 (by omega)];exact hs _ (List.getElem_mem _)
    have hM:=fun h=>B50 (s:=(G9 l k).1) (n:=(G9 l k).2) (h:=h) (by omega)
    have hW:=fun h=>B55 (s:=(G9 l k).1) (n:=(G9 l k).2) (h:=h) (by omega)
    have hF:=fun h=>B1Y (k:=k) (h:=h) (by omega)
    have hmd:A0t (l.drop k)=(U3 (G9 l k).1 (G9 l k).2 && A0t (l.drop (k + 1))):=by
      rw [List.drop_eq_getElem_cons (by omega:k < l.length),A76 (by omega)];rfl
    have hEl:(J1 (G9 l k).1 (G9 l k).2).length=32:=A1i
    have hLy:=B3F (v:=.c (.sl (h.length + 1) 0 32 1)) (nv:=32) (data:=J1 (G9 l k).1 (G9 l k).2) (l:=H5 l k) (h:=h ++ [some (Row.mk (F0 (some (G9 l k))) true),some (Row.mk (A1 (J1 (G9 l k).1 (G9 l k).2)) true)]) (Has.row (rw:=true) (by simp) (by rw [B1,A1i]) (K1 _)) hNl (by rw [hEl];omega) (a:=(G3 k:Nat))
    have elay:S4 (H5 l k) (G3 k:Nat) (J1 (G9 l k).1 (G9 l k).2)=H5 l (k + 1):=by
      unfold S4
      have:G3 k < 256:=by unfold G3;omega
      rw [if_pos ⟨by omega,by omega⟩,Int.toNat_natCast,List.take_of_length_le (by rw [hEl];unfold G3;omega)]
      rfl
    rw [elay] at hLy
    have hq2:quiet (h ++ [some (Row.mk (F0 (some (G9 l k))) true)]) (some (.c (.sl (h.length + 1) 0 32 1),h ++ [some (Row.mk (F0 (some (G9 l k))) true),some (Row.mk (A1 (J1 (G9 l k).1 (G9 l k).2)) true)]))=_:=D2c
    have hrk:∀ t:A0,rd (h ++ t) B.length=some ⟨A1 (H5 l k),true⟩:=fun t=>C3 hr
    have s1:=fun t=>G5 (h:=h ++ t) (hrk t) hL
    have hN1:(A1 (H5 l (k + 1))).length=256:=by rw [B1];exact A1v (k + 1) (by omega)
    have s2:=fun t=>storeAll (h:=h ++ t) (xs:=A1 (H5 l (k + 1))) (hrk t) hL hN1
    obtain ⟨h',ih⟩:=B9Y (q:=q) hv hn h7 hs hg hq e (k + 1) m ((h ++ [some (Row.mk (F0 (some (G9 l k))) true),some (Row.mk (A1 (J1 (G9 l k).1 (G9 l k).2)) true)]).set B.length (some ⟨A1 (H5 l (k + 1)),true⟩)) (by omega) (by omega) ((hlow.new _).set (Nat.le_refl _) _) (K3 (D0 (hrk _)))
    rw [B5U,hmd]
    generalize J1 (G9 l k).1 (G9 l k).2=E at *
    simp only [F0] at *
    cases cm:U3 (G9 l k).1 (G9 l k).2 with
    | true =>
      rw [cm] at hM
      rw [Bool.true_and]
      refine ⟨h',?_⟩
      generalize A1 (H5 l (k + 1))=y1 at *
      generalize A1 (H5 l k)=y at *
      simp only [esc,esh,Nat.reduceAdd,Nat.reduceMul,Nat.reduceLT,c0,eb,hld,hM,hF,hW,hq2,s1,hLy,s2,w1]
      exact ih
    | false =>
      rw [cm] at hM
      rw [Bool.false_and,Bool.false_and,cond_false,cond_false]
      have hz:(A1 (zeros 256)).length=256:=by rw [B1];exact zeros_length
      have hrg:=fun t:A0=>C3 (g:=t) (hlow.rd hg)
      have haf:A8 (List.replicate 256 (Cell.i .u8 0)) []=some (List.replicate 256 (Cell.i .u8 0)):=rfl
      rw [N8] at haf
      have s2:=fun t=>storeAll (xs:=A1 (zeros 256)) (hrg t) hz hz
      have s3:=fun t=>G5 (h:=(h ++ t).set g (some ⟨A1 (zeros 256),true⟩)) (id:=g) (K3 (D0 (hrg t))) hz
      rw [N8]
      generalize zeros 256=z at *
      exact ⟨_,by simp only [esc,esh,Nat.reduceAdd,Nat.reduceMul,Nat.reduceLT,c0,eb,hld,hM,haf,s2,s3] <;> rfl⟩
def A1u (l:List Ent):Int:=if 7 < l.length then 11 else if A0t l=true then (if A0Z l=true then 0 else 5) else 1
def W9 (l:List Ent):List UInt8:=if A1u l=0 then H5 l l.length else zeros 256
theorem A88 {l:List Ent}:(W9 l).length=256:=by
  unfold W9
  split
  · rename_i h
    refine A1v _ ?_
    false_or_by_contra
    unfold A1u at h
    rw [if_pos (by omega)] at h
    omega
  · exact zeros_length
theorem B5T {v:Val} {nv:Nat} {l:List Ent} {h:A0} (hv:Has h v 2 nv (D5 l)) (hs:∀ x ∈ l,x.1.length ≤ 60):A21 [v] h=some (.t [.a (A1 (W9 l)),.c (.i .i64 (A1u l))],h):=by
  have hn:l.length=nv:=by have:=hv.length;rw [B2x] at this;omega
  have key:∀ g,Has g v 2 nv (D5 l) → ∃ g',A6c 8 [v] g=some (.t [.a (A1 (W9 l)),.c (.i .i64 (A1u l))],g'):=by
    intro g hv
    have hz:(A1 (zeros 256)).length=256:=by rw [B1];exact zeros_length
    have hd:(A1 hdB).length=256:=by rw [B1];exact B3c
    have hl:=hv.len
    have hH:=fun h=>C7M (h:=h)
    rw [C2h,N8]
    by_cases c:7 < nv
    · have c0:(7:Int) < nv:=by omega
      have e1:A1u l=11:=by unfold A1u;rw [if_pos (by omega)]
      have e2:W9 l=zeros 256:=by unfold W9;rw [e1,if_neg (by omega)]
      have haf:A8 (List.replicate 256 (Cell.i .u8 0)) []=some (List.replicate 256 (Cell.i .u8 0)):=rfl
      rw [N8] at haf
      rw [e1,e2]
      generalize zeros 256=z at *
      exact ⟨_,by simp only [esc,esh,Nat.reduceAdd,Nat.reduceMul,Nat.reduceLT,hl,c0,haf,hz] <;> rfl⟩
    · have c0:¬ (7:Int) < nv:=by omega
      obtain ⟨h',e⟩:=B9Y (q:=8) (B:=g ++ [some (Row.mk (A1 (zeros 256)) true)]) (g:=g.length) (hv.more _) hn (by omega) hs (by simp) (by omega) nv 0 8 (g ++ [some (Row.mk (A1 (zeros 256)) true),some (Row.mk (A1 (H5 l 0)) true)]) (by omega) (by omega)
        (by have:=(Low.refl (h:=g ++ [some (Row.mk (A1 (zeros 256)) true)]) (Nat.le_refl _)).new [some (Row.mk (A1 (H5 l 0)) true)]
            simpa using this) (by simp)
      have e1:A1u l=(bif A0t l then (bif A0Z l then 0 else 5) else 1):=by
        unfold A1u
        rw [if_neg (by omega)]
        cases A0t l <;> cases A0Z l <;> simp
      have e2:W9 l=(bif A0t l && A0Z l then H5 l nv else zeros 256):=by
        unfold W9
        rw [e1,← hn]
        cases A0t l <;> cases A0Z l <;> simp
      rw [List.drop_zero,← e1,← e2] at e
      rw [show H5 l 0=hdB from rfl] at e
      simp only [List.length_append,List.length_cons,List.length_nil,Nat.zero_add] at e
      refine ⟨h',?_⟩
      generalize W9 l=R at *
      generalize hdB=H at *
      generalize zeros 256=z at *
      simp only [esc,esh,Nat.reduceAdd,Nat.reduceMul,Nat.reduceLT,hl,c0,hH,hz,hd]
      exact e
  obtain ⟨g',e⟩:=key (ro h) hv.ro
  exact C36 e (by simp)
end Go.Proofs.YteckncopbicmcaaGreat
end
section
namespace Go.Proofs.YteckncopbicmcaaGreat
open Go Go.Esc
def isL (D:Dev) (n k:Int) (d:List Int) (t:Tld):Bool:=decide (Y3 D n k d t.2=some t.1)
def E2 (D:Dev) (n k:Int) (d:List Int):List Tld:=R6 D (E4 D n k d)
def G7 (D:Dev) (n k:Int) (d:List Int) (l:List Tld):F5:=(l.filter (isL D n k d)).map (·.2)
def A1n (D:Dev) (n k:Int) (d:List Int) (s:List UInt8):Int:=((Y3 D n k d s).getD (0,0,0)).2.2
def N5 (D:Dev) (n k:Int) (d:List Int):List Ent:=(I6 (G7 D n k d (E2 D n k d))).map fun s=>(s,A1n D n k d s)
def N7 (D:Dev) (n k:Int) (d:List Int) (l:List Tld):List Plc:=(l.filter fun t=>!isL D n k d t).map (·.1)
def G8 (l:List Plc):List Cell:=(l.map fun p=>F1 (some p)).flatten
theorem A3f {D:Dev} {n k:Int} {d:List Int}:(E4 D n k d).length ≤ 32:=by
  have hml:=A0X (getD (blk D (d.getD 0 0)))
  have hBl:=A5l (C9 (blk D (d.getD 0 0)) 32) (F3 (getD (blk D (d.getD 0 0))))
  unfold E4
  cases M3 D n k d with
  | false=>simp
  | true=>exact Nat.le_trans (List.length_filter_le _ _) (by omega)
def MapN (es:H6) (f:List UInt8 → Int) (l:F5):Prop:=(∀ e ∈ es,∃ s,e.1=.s s) ∧ ∀ s ∈ l,∃ i,Y7 (.s s) es=some (i,.c (.i .i64 (f s)))
theorem B9k {es:H6} {s:List UInt8} (h:∀ e ∈ es,∃ s,e.1=Cell.s s):A1p none (.s s) es=true:=by
  simp only [A1p,S3,Bool.true_and,List.all_eq_true]
  intro e he
  obtain ⟨x,hx⟩:=h e he
  rw [hx]
theorem B9A {k:Cell} {p:Part}:∀ {es:H6} {i j:Nat} {q:Part},mgo k es i=some (j,q) → (es.set (j - i) (k,p)).length=es.length ∧ mgo k (es.set (j - i) (k,p)) i=some (j,p) ∧ i ≤ j ∧ ∀ k' ≠ k,((mgo k' (es.set (j - i) (k,p)) i)=mgo k' es i)
  | [],i,j,q,h=>by simp [mgo] at h
  | e :: es,i,j,q,h=>by
    unfold mgo at h
    by_cases c:e.1=k
    · rw [if_pos c] at h
      cases h
      simp only [Nat.sub_self,List.set_cons_zero]
      refine ⟨rfl,by simp [mgo],Nat.le_refl _,fun k' hk'=>?_⟩
      have:¬ e.1=k':=fun h=>hk' (by rw [← h,c])
      simp [mgo,this,Ne.symm hk']
    · rw [if_neg c] at h
      obtain ⟨h1,h2,h3,h4⟩:=B9A (p:=p) h
      have e1:j - i=(j - (i + 1)) + 1:=by omega
      rw [e1,List.set_cons_succ]
      refine ⟨by simp,?_,by omega,fun k' hk'=>?_⟩
      · simp only [mgo];rw [if_neg c];exact h2
      · simp only [mgo];rw [h4 k' hk']
theorem B9B {k k':Cell} {p:Part}:∀ {es:H6} {i:Nat},mgo k es i=none → mgo k' (es ++ [(k,p)]) i=if k'=k then some (i + es.length,p) else mgo k' es i
  | [],i,_=>by
    by_cases c:k'=k
    · subst c;simp [mgo]
    · simp [mgo,c,Ne.symm c]
  | e :: es,i,h=>by
    unfold mgo at h
    by_cases c:e.1=k
    · rw [if_pos c] at h;cases h
    · rw [if_neg c] at h
      have ih:=B9B (k':=k') (p:=p) h
      simp only [List.cons_append,mgo,ih]
      by_cases c2:k'=k
      · subst c2
        rw [if_neg c,if_pos rfl,if_pos rfl,List.length_cons]
        congr 2;omega
      · simp only [if_neg c2]
theorem B9z {k k':Cell} {p:Part} {es:H6}:Y7 k (A0u k p es)=some (((Y7 k es).map (·.1)).getD es.length,p) ∧ (k' ≠ k → Y7 k' (A0u k p es)=Y7 k' es):=by
  unfold A0u Y7
  cases c:mgo k es 0 with
  | none =>
    simp only [B9B c]
    exact ⟨by simp,fun h=>by rw [if_neg h]⟩
  | some jq =>
    obtain ⟨j,q⟩:=jq
    obtain ⟨_,h2,_,h4⟩:=B9A (p:=p) c
    simp only [Nat.sub_zero] at h2 h4
    exact ⟨by simp [h2],fun h=>h4 k' h⟩
theorem D09 {k:Cell} {p:Part} {es:H6} {Q:Cell → Prop} (hk:Q k) (h:∀ e ∈ es,Q e.1):∀ e ∈ A0u k p es,Q e.1:=by
  intro e he
  unfold A0u at he
  split at he
  · rcases List.mem_or_eq_of_mem_set he with he | rfl
    · exact h e he
    · exact hk
  · rcases List.mem_append.1 he with he | he
    · exact h e he
    · simp at he;subst he;exact hk
theorem MapN.nil (f:List UInt8 → Int):MapN [] f []:=⟨fun e he=>by simp at he,fun s hs=>by simp at hs⟩
theorem MapN.put {es:H6} {f:List UInt8 → Int} {l:F5} (hm:MapN es f l) (s:List UInt8):MapN (A0u (.s s) (.c (.i .i64 (f s))) es) f (l ++ [s]):=by
  refine ⟨D09 (Q:=fun c=>∃ s,c=.s s) ⟨s,rfl⟩ hm.1,fun x hx=>?_⟩
  by_cases c:x=s
  · subst c;exact ⟨_,(B9z (k':=.mh)).1⟩
  · rcases List.mem_append.1 hx with hx | hx
    · obtain ⟨i,hi⟩:=hm.2 x hx
      refine ⟨i,?_⟩
      rw [(B9z (k:=.s s) (k':=.s x)).2 (by simpa using c)];exact hi
    · simp at hx;exact absurd hx c
theorem D02 {h:A0} {mid:Nat} {es:H6} {f:List UInt8 → Int} {l:F5} {s:List UInt8} (hr:rd h mid=some (I5 es)) (hm:MapN es f l) (hs:s ∈ l):A3a h none (.c (.i .i64 0)) false (.c (.m mid)) (.c (.s s))=some (.c (.i .i64 (f s))):=by
  obtain ⟨i,hi⟩:=hm.2 s hs
  simp only [A3a,A2C,A8Z,hr,Option.bind_some,B9x]
  rw [if_pos (B9k hm.1),hi];rfl
theorem D2b {h:A0} {mid:Nat} {es:H6} {f:List UInt8 → Int} {l:F5} {s:List UInt8} {x:Int} (hr:rd h mid=some (I5 es)) (hm:MapN es f l):A2o h none (.c (.m mid)) (.c (.s s)) (.c (.i .i64 x))=some (h.set mid (some (I5 (A0u (.s s) (.c (.i .i64 x)) es)))):=by
  simp only [A2o,A2C,A5S,hr,Option.bind_some,B9x]
  rw [if_pos (B9k hm.1)]
end Go.Proofs.YteckncopbicmcaaGreat
end
section
namespace Go.Proofs.YteckncopbicmcaaGreat
open Go Go.Esc
theorem A5R {neg:Bool} (p q:Plc):aeq neg [.i .i64,.i .i64,.i .i64] (.a (F1 (some p))) (.a (F1 (some q)))=some (.c (.b (bif neg then !(decide (some p=some q)) else decide (some p=some q)))):=by
  simp only [aeq]
  rw [if_pos ⟨rfl,rfl⟩]
  have:decide (F1 (some p)=F1 (some q))=decide (some p=some q):=by
    apply Bool.eq_iff_iff.2
    simp only [decide_eq_true_eq,F1,List.cons.injEq,Cell.i.injEq,true_and,and_true,Option.some.injEq]
    obtain ⟨p1,p2,p3⟩:=p
    obtain ⟨q1,q2,q3⟩:=q
    simp only [Prod.mk.injEq]
    constructor
    · rintro ⟨h1,h2,h3⟩;exact ⟨h1,by omega,h3⟩
    · rintro ⟨h1,h2,h3⟩;exact ⟨h1,by omega,h3⟩
  rw [this]
theorem A9t {b:List UInt8} {k:Nat} {x:Ent} (h:I3 b k=some x):x.1.length ≤ 24:=by
  unfold I3 at h
  cases hu:T0 (nameB b k) with
  | none=>rw [hu] at h;cases h
  | some s =>
    rw [hu,Option.bind_some] at h
    split at h
    · cases h;exact (A3p (B4j hu)).2
    · cases h
theorem A8W {b:List UInt8}:∀ {e k:Nat} {x:Slt},x ∈ J4 b e k → I3 b x.1=some x.2 ∧ k ≤ x.1 ∧ x.1 < k + e
  | 0,k,x,h=>by simp [J4] at h
  | e + 1,k,x,h=>by
    cases hr:I3 b k with
    | none =>
      rw [A5J hr] at h
      have:=A8W h
      exact ⟨this.1,by omega,by omega⟩
    | some y =>
      rw [A5K hr] at h
      rcases List.mem_cons.1 h with rfl | h
      · exact ⟨hr,Nat.le_refl _,by dsimp only;omega⟩
      · have:=A8W h
        exact ⟨this.1,by omega,by omega⟩
theorem B3t {b:List UInt8} {x:Slt} (h:x ∈ H0 b):I3 b x.1=some x.2 ∧ x.1 < 7:=by
  have:=A8W h
  exact ⟨this.1,by omega⟩
theorem B9V {D:Dev} {n k:Int} {d:List Int} {s:List Tld} {t:Tld}:G7 D n k d (s ++ [t])=G7 D n k d s ++ (if isL D n k d t=true then [t.2] else []):=by
  unfold G7
  rw [List.filter_append,List.map_append]
  by_cases c:isL D n k d t=true
  · rw [if_pos c,List.filter_cons_of_pos c];rfl
  · rw [if_neg c,List.filter_cons_of_neg c];rfl
theorem B3B {D:Dev} {n k:Int} {d:List Int} {s:List Tld}:(G7 D n k d s).length ≤ s.length:=by
  unfold G7
  rw [List.length_map];exact List.length_filter_le _ _
def RDs (b:Nat):List Nat:=[b,b + 1,b + 3,b + 4,b + 5,b + 6,b + 8]
structure ListP (D:Dev) (n k:Int) (d:List Int) (V I:List Cell) (L:List Int) (g:A0) (rs:List Nat) (c:Nat) (s:List Tld) (h:A0):Prop where
  var:VarC h (g.length + 3) (encS (G7 D n k d s)) (G7 D n k d s).length 1 g.length (rs ++ RDs g.length)
  len:s.length ≤ c
  low:Low g.length g h
  r0:rd h g.length=some ⟨V,true⟩
  r1:rd h (g.length + 1)=some ⟨I,true⟩
  r6:rd h (g.length + 6)=some ⟨V,true⟩
  r8:rd h (g.length + 8)=some ⟨encI L,true⟩
  r5:rd h (g.length + 5)=some ⟨[.m (g.length + 4)],true⟩
  r4:∃ es,rd h (g.length + 4)=some (I5 es) ∧ MapN es (A1n D n k d) (G7 D n k d s)
  rs:∀ j ∈ rs,g.length + 9 ≤ j ∧ j < h.length
section
variable {D:Dev} {n k:Int} {d:List Int} {V I:List Cell} {L:List Int} {g h:A0} {rs:List Nat} {c:Nat} {s:List Tld}
theorem ListP.more (P:ListP D n k d V I L g rs c s h) (t:A0):ListP D n k d V I L g rs c s (h ++ t) where
  var:=P.var.more t fun j hj=>.inl hj
  len:=P.len
  low:=P.low.new _
  r0:=C3 P.r0
  r1:=C3 P.r1
  r6:=C3 P.r6
  r8:=C3 P.r8
  r5:=C3 P.r5
  r4:=by obtain ⟨es,h1,h2⟩:=P.r4;exact ⟨es,C3 h1,h2⟩
  rs:=fun j hj=>by have:=P.rs j hj;simp;omega
theorem ListP.one (P:ListP D n k d V I L g rs c s h) (r:Option Row):ListP D n k d V I L g (h.length :: rs) c s (h ++ [r]) where
  var:=P.var.more _ fun j hj=>by
    rcases List.mem_cons.1 hj with rfl | hj
    · exact .inr (Nat.le_refl _)
    · exact .inl hj
  len:=P.len
  low:=P.low.new _
  r0:=C3 P.r0
  r1:=C3 P.r1
  r6:=C3 P.r6
  r8:=C3 P.r8
  r5:=C3 P.r5
  r4:=by obtain ⟨es,h1,h2⟩:=P.r4;exact ⟨es,C3 h1,h2⟩
  rs:=fun j hj=>by
    have h8:=D0 P.r8
    rcases List.mem_cons.1 hj with rfl | hj
    · simp;omega
    · have:=P.rs j hj;simp;omega
theorem ListP.less {i:Nat} (P:ListP D n k d V I L g (i :: rs) c s h):ListP D n k d V I L g rs c s h :=
  { P with var:=P.var.fewer fun j hj=>List.mem_cons_of_mem _ hj,rs:=fun j hj=>P.rs j (List.mem_cons_of_mem _ hj) }
theorem ListP.wide {c':Nat} (P:ListP D n k d V I L g rs c s h) (hc:c ≤ c'):ListP D n k d V I L g rs c' s h :=
  { P with len:=Nat.le_trans P.len hc }
end
theorem D0W {D:Dev} {n m k l s0 p:Int} {d:List Int} {f:Cell} {L:List Int} {g h:A0} {rs:List Nat} {c:Nat} {s:List Tld} {t:Tld} (hD:okD D) (hd:d.length=7) (hv:IsView g f D) (hc:c ≤ 90000) (ht:t.2.length ≤ 24)
    (P:ListP D n k d (vwC D.length n m f) (A4 k l s0 p d) L g rs c s h) :
    ∃ h',A4q [.a (F1 (some t.1)),.c (.s t.2),.c (.p g.length 0),.c (.p (g.length + 1) 0),.c (.p (g.length + 3) 0),.c (.p (g.length + 5) 0)] h=some (.t [],h') ∧ ListP D n k d (vwC D.length n m f) (A4 k l s0 p d) L g rs (c + 1) (s ++ [t]) h' ∧ ∀ j ∈ rs,rd h' j=rd h j:=by
  obtain ⟨⟨p1,p2,p3⟩,nm⟩:=t
  have hIl:(A4 k l s0 p d).length=11:=by simp [A4,F7,hd]
  obtain ⟨h1,e1⟩:∃ h1,h1=h ++ [some (Row.mk (F1 (some (p1,p2,p3))) true)]:=⟨_,rfl⟩
  have n1:h1.length=h.length + 1:=by rw [e1];simp
  have P1:ListP D n k d (vwC D.length n m f) (A4 k l s0 p d) L g (h.length :: rs) c s h1:=e1 ▸ P.one _
  have l4:A3 h1 4 (.c (.p g.length 0))=some (.a (vwC D.length n m f)):=G5 P1.r0 rfl
  have l11:A3 h1 11 (.c (.p (g.length + 1) 0))=some (.a (A4 k l s0 p d)):=G5 P1.r1 hIl
  have hL:=B2k (n:=n) (m:=m) (k:=k) (l:=l) (s:=s0) (p:=p) (nm:=nm) (h:=h1) hD hd (hv.since P1.low) (by dsimp only at ht;omega)
  have hl:=D0 P.r8
  have keep:∀ (h':A0),(∀ j ∈ h.length :: rs,rd h' j=rd h1 j) → ∀ j ∈ rs,rd h' j=rd h j:=by
    intro h' hk j hj
    rw [hk j (List.mem_cons_of_mem _ hj),e1,N1 (P.rs j hj).2]
  obtain ⟨o,eo⟩:∃ o,o=Y3 D n k d nm:=⟨_,rfl⟩
  rw [← eo] at hL
  obtain ⟨h2,e2⟩:∃ h2,h2=h1 ++ [some (Row.mk (F1 o) true)]:=⟨_,rfl⟩
  have s3:B6 (h1 ++ [some (Row.mk [Cell.i .i64 0,.i .i64 0,.i .i64 0] true)]) 3 (.c (.p h1.length 0)) (.a (F1 o))=some h2:=by
    rw [T4,e2];cases o <;> rfl
  have P2:ListP D n k d (vwC D.length n m f) (A4 k l s0 p d) L g (h.length :: rs) c s h2:=e2 ▸ P1.more _
  have q1:A3 h2 3 (.c (.p h1.length 0))=some (.a (F1 o)):=by rw [e2,T1];cases o <;> rfl
  have rp:rd h2 h.length=some ⟨F1 (some (p1,p2,p3)),true⟩:=by rw [e2,e1];simp
  have q2:A3 h2 3 (.c (.p h.length 0))=some (.a (F1 (some (p1,p2,p3)))):=G5 rp rfl
  have no:isL D n k d ((p1,p2,p3),nm)=false → G7 D n k d (s ++ [((p1,p2,p3),nm)])=G7 D n k d s:=fun hn=>by
    rw [B9V,hn];simp
  have stay:G7 D n k d (s ++ [((p1,p2,p3),nm)])=G7 D n k d s → ListP D n k d (vwC D.length n m f) (A4 k l s0 p d) L g rs (c + 1) (s ++ [((p1,p2,p3),nm)]) h2:=fun hn=>by
    have:=P2.less
    exact { this with var:=by rw [hn];exact this.var,len:=by have:=P.len;simp;omega,r4:=by rw [hn];exact this.r4 }
  have k2:∀ j ∈ h.length :: rs,rd h2 j=rd h1 j:=fun j hj=>by
    rw [e2,N1]
    rcases List.mem_cons.1 hj with rfl | hj
    · omega
    · have:=P.rs j hj;omega
  cases o with
  | none =>
    have hn:isL D n k d ((p1,p2,p3),nm)=false:=by unfold isL;rw [← eo];simp
    refine ⟨h2,B1n (n:=0) ?_,stay (no hn),keep h2 k2⟩
    rw [B0Q]
    generalize hV:vwC D.length n m f=V at *
    generalize hI:A4 k l s0 p d=I at *
    simp only [X6,F2,← e1,l4,l11,hL,U8,List.getElem?_cons_zero,List.getElem?_cons_succ,Option.map_some,V7,V6,s3,Option.isSome_none,B29,A8A,W5,cond_false,K6]
    rfl
  | some q =>
    have ea:=A5R (neg:=false) q (p1,p2,p3)
    by_cases c1:q=(p1,p2,p3)
    · have hn:isL D n k d ((p1,p2,p3),nm)=true:=by unfold isL;rw [← eo,c1];simp
      have hns:G7 D n k d (s ++ [((p1,p2,p3),nm)])=G7 D n k d s ++ [nm]:=by rw [B9V,if_pos hn]
      have hin:A1n D n k d nm=p3:=by unfold A1n;rw [← eo,c1];rfl
      subst c1
      have h2l:h2.length=h.length + 2:=by rw [e2];simp;omega
      obtain ⟨x,v,h3,h4,a1,a2,a3,a4,a5,a6,a7⟩:=P2.var.push (ys:=[.s nm]) (by simp [RDs]) (by omega) (by omega) (by
        intro j hj
        rcases List.mem_append.1 hj with hj | hj
        · exact (P2.rs j hj).2
        · simp only [RDs,List.mem_cons,List.not_mem_nil,or_false] at hj;omega) (by have:=B3B (D:=D) (n:=n) (k:=k) (d:=d) (s:=s);have:=P.len;omega) rfl (by omega)
      have ef:A8 [Cell.s []] [(0,1,.c (.s nm))]=some [.s nm]:=rfl
      have mem:∀ j,j ∈ RDs g.length → j ≠ g.length + 3 → rd h4 j=rd h2 j:=fun j hj hne=>a6 j (List.mem_append_right _ hj) hne
      have m5:A5 h4 (.c (.p (g.length + 5) 0))=some (.c (.m (g.length + 4))):=H4 (by rw [mem _ (by simp [RDs]) (by omega)];exact P2.r5) rfl rfl
      have m2:A5 h4 (.c (.p h.length 2))=some (.c (.i .i64 p3)):=H4 (by rw [a6 h.length (by simp) (by omega)];exact rp) rfl rfl
      obtain ⟨es,r4,hm⟩:=P2.r4
      have r4':rd h4 (g.length + 4)=some (I5 es):=by rw [mem _ (by simp [RDs]) (by omega)];exact r4
      have mp:=D2b (s:=nm) (x:=p3) r4' hm
      have hm':=hm.put nm
      rw [hin] at hm'
      have lt4:=D0 r4'
      obtain ⟨h5,e5⟩:∃ h5,h5=h4.set (g.length + 4) (some (I5 (A0u (.s nm) (.c (.i .i64 p3)) es))):=⟨_,rfl⟩
      rw [← e5] at mp
      have oth:∀ j,j ≠ g.length + 4 → rd h5 j=rd h4 j:=fun j hj=>by rw [e5,H8 (Ne.symm hj)]
      have back:∀ j ∈ RDs g.length,j ≠ g.length + 3 → j ≠ g.length + 4 → rd h5 j=rd h2 j:=fun j hj h3 h4=>by rw [oth j h4,mem j hj h3]
      refine ⟨h5,B1n (n:=0) ?_,⟨?_,?_,?_,?_,?_,?_,?_,?_,?_,?_⟩,keep h5 fun j hj=>?_⟩
      · rw [B0Q]
        rw [decide_eq_true rfl] at ea
        generalize hV:vwC D.length n m f=V at *
        generalize hI:A4 k l s0 p d=I at *
        simp only [X6,F2,← e1,l4,l11,hL,U8,List.getElem?_cons_zero,List.getElem?_cons_succ,Option.map_some,V7,V6,s3,Option.isSome_some,A5z,q1,q2,ea,W5,cond_true,cond_false,L9,a1,ef,a2,a3,m5,B1J,Nat.zero_add,m2,mp]
        rfl
      · rw [hns]
        have e6:encS (G7 D n k d s ++ [nm])=encS (G7 D n k d s) ++ [.s nm]:=by simp [encS]
        rw [e6,List.length_append]
        have:=a4.keep (h':=h5) (oth _ (by omega)) (fun id hid y hy=>by
          rw [oth id (fun e=>hid (List.mem_append_right _ (by rw [e];simp [RDs])))];exact hy)
        exact this.fewer fun j hj=>by
          rcases List.mem_append.1 hj with hj | hj
          · exact List.mem_append_left _ (List.mem_cons_of_mem _ hj)
          · exact List.mem_append_right _ hj
      · have:=P.len;simp;omega
      · rw [e5];exact (P2.low.trans a5).set (by omega) _
      · rw [back _ (by simp [RDs]) (by omega) (by omega)];exact P2.r0
      · rw [back _ (by simp [RDs]) (by omega) (by omega)];exact P2.r1
      · rw [back _ (by simp [RDs]) (by omega) (by omega)];exact P2.r6
      · rw [back _ (by simp [RDs]) (by omega) (by omega)];exact P2.r8
      · rw [back _ (by simp [RDs]) (by omega) (by omega)];exact P2.r5
      · exact ⟨_,by rw [e5];exact K3 lt4,by rw [hns];exact hm'⟩
      · intro j hj
        have:=P.rs j hj
        have e6:h5.length=h4.length:=by rw [e5];simp
        omega
      · have hj9:g.length + 9 ≤ j:=by
          rcases List.mem_cons.1 hj with rfl | hj
          · omega
          · exact (P.rs j hj).1
        rw [oth j (by omega),a6 j (List.mem_append_left _ hj) (by omega),k2 j hj]
    · have hn:isL D n k d ((p1,p2,p3),nm)=false:=by unfold isL;rw [← eo];simpa using c1
      refine ⟨h2,B1n (n:=0) ?_,stay (no hn),keep h2 k2⟩
      rw [B0Q]
      rw [decide_eq_false (by simpa using c1)] at ea
      generalize hV:vwC D.length n m f=V at *
      generalize hI:A4 k l s0 p d=I at *
      simp only [X6,F2,← e1,l4,l11,hL,U8,List.getElem?_cons_zero,List.getElem?_cons_succ,Option.map_some,V7,V6,s3,Option.isSome_some,A5z,q1,q2,ea,W5,cond_true,cond_false,K6]
      rfl
end Go.Proofs.YteckncopbicmcaaGreat
end
section
namespace Go.Proofs.YteckncopbicmcaaGreat
open Go Go.Esc
theorem C8U {l:List Ent} {x:Ent}:D5 (l ++ [x])=D5 l ++ F0 (some x):=by simp [D5]
theorem A5t {l:List Ent}:(D5 l).length=l.length * 2:=by
  induction l with
  | nil=>rfl
  | cons x l ih=>simp only [D5,List.map_cons,List.flatten_cons,List.length_append,List.length_cons,F0,List.length_nil] at ih ⊢;omega
theorem B60 {l:List Ent}:F4 (D5 l)=true:=by
  induction l with
  | nil=>rfl
  | cons x l ih =>
    have:D5 (x :: l)=F0 (some x) ++ D5 l:=rfl
    rw [this,A8y,ih];rfl
theorem B61 {l:List Ent}:noX (D5 l)=true:=by
  induction l with
  | nil=>rfl
  | cons x l ih =>
    have:D5 (x :: l)=[.s x.1,.i .i64 x.2] ++ D5 l:=rfl
    rw [this]
    simp [noX,Cell.isX] at ih ⊢
    exact ih
theorem C0u {F:List UInt8 → Int} {B:A0} {b q mid sid:Nat} {S:F5} {es:H6} (hm:MapN es F S) (hb:b + 5 < B.length) (hs:rd B sid=some ⟨encS S,true⟩) (h5:rd B (b + 5)=some ⟨[.m mid],true⟩) (h4:rd B mid=some (I5 es)) (h62:S.length < 1000000) :
    ∀ (e i M id:Nat) (h:A0),i + e=S.length → e < M → Low b B h → id ≠ b + 5 → id ≠ sid → id ≠ mid → b ≤ id → (∀ j r,j=b + 5 ∨ j=sid ∨ j=mid → rd B j=some r → rd h j=some r) → rd h id=some ⟨D5 ((S.take i).map fun s=>(s,F s)),true⟩ → B.length ≤ h.length →
      ∃ v' h',A7V q M (.c (.p (b + 5) 0)) (.c (.sl id 0 i 2)) (.c (.sl sid 0 S.length 1)) (.c (.i .i64 (S.length:Int))) (.c (.i .i64 (i:Int))) h=some (v',h') ∧ Out b h' v' 2 S.length (D5 (S.map fun s=>(s,F s)))
  | e,i,0,id,h,_,hm,_,_,_,_,_,_,_,_=>by omega
  | 0,i,M + 1,id,h,hi,hm0,hlow,n5,ns,n4,hbi,hk,hr,hl=>by
    have c0:¬ (i:Int) < (S.length:Nat):=by omega
    have ei:i=S.length:=by omega
    subst ei
    rw [B6w]
    rw [List.take_length] at hr
    refine ⟨.c (.sl id 0 S.length 2),h,by simp only [F2,I4,c0,decide_false,K6],by rw [A5t];simp,id,rfl,hbi,hr⟩
  | e + 1,i,M + 1,id,h,hi,hm0,hlow,n5,ns,n4,hbi,hk,hr,hl=>by
    have hil:i < S.length:=by omega
    have c0:(i:Int) < (S.length:Nat):=by omega
    have ad:B9 1 (.c (.sl sid 0 S.length 1)) (.c (.i .i64 (i:Int)))=some (.c (.p sid i)):=by rw [G6 hil];simp
    have l1:A5 h (.c (.p sid i))=some (.c (.s S[i])):=H4 (hk sid _ (.inr (.inl rfl)) hs) (by rw [A1h,List.getElem?_eq_getElem hil];rfl) rfl
    have l5:A5 h (.c (.p (b + 5) 0))=some (.c (.m mid)):=H4 (hk _ _ (.inl rfl) h5) rfl rfl
    have lk:=D02 (s:=S[i]) (hk _ _ (.inr (.inr rfl)) h4) hm (List.getElem_mem hil)
    have ef:A8 [Cell.s [],.i .i64 0] [(0,1,.c (.s S[i])),(1,1,.c (.i .i64 (F S[i])))]=some (F0 (some (S[i],F S[i]))):=rfl
    have ef2:A8 [Cell.s [],.i .i64 0] [(0,2,.a (F0 (some (S[i],F S[i]))))]=some (F0 (some (S[i],F S[i]))):=rfl
    have el:((S.take i).map fun s=>(s,F s)).length=i:=by simp;omega
    obtain ⟨h2,a1,a2,a3,a4⟩:=A2L (n:=i) (sz:=2) (ys:=F0 (some (S[i],F S[i]))) hr (by rw [A5t,el]) rfl (by omega) (by omega)
    have et:D5 ((S.take i).map fun s=>(s,F s)) ++ F0 (some (S[i],F S[i]))=D5 ((S.take (i + 1)).map fun s=>(s,F s)):=by
      rw [List.take_add_one,List.getElem?_eq_getElem hil,List.map_append,D5]
      simp [D5]
    rw [et] at a2
    have w1:=E6 (show i + 1 < 9223372036854775808 by omega)
    have hlt2:=D0 a2
    obtain ⟨v',h',f1,f2⟩:=C0u (q:=q) hm hb hs h5 h4 h62 e (i + 1) M (h.length + 1) h2 (by omega) (by omega) (hlow.trans (a4 _ hbi (by have:=hlow.1;omega))) (by omega)
      (fun e1=>by have:=D0 hs;omega) (fun e1=>by have:=D0 h4;omega) (by omega) (fun j r hj hjr=>a3 _ _ (by rcases hj with rfl | rfl | rfl <;> omega) (hk j r hj hjr)) a2 (by omega)
    rw [B6w]
    refine ⟨v',h',?_,f2⟩
    simp only [F2,I4,c0,decide_true,L9,ad,l1,l5,lk,ef,ef2,a1,O0,w1]
    exact f1
theorem B2j {D:Dev} {n m k l s p:Int} {d:List Int} {f:Cell} {h:A0} (hD:okD D) (hd:d.length=7) (hv:IsView h f D) :
    A0E [.a (vwC D.length n m f),.a (A4 k l s p d)] h=some (.c (.sl h.length 0 (N5 D n k d).length 2),h ++ [some ⟨D5 (N5 D n k d),true⟩]):=by
  have key:∀ g,IsView g f D → ∃ v g',A6j 300 [.a (vwC D.length n m f),.a (A4 k l s p d)] g=some (v,g') ∧ Out g.length g' v 2 (N5 D n k d).length (D5 (N5 D n k d)):=by
    intro g hv
    have hIl:(A4 k l s p d).length=11:=by simp [A4,F7,hd]
    have hbl:=A3f (D:=D) (n:=n) (k:=k) (d:=d)
    obtain ⟨V,hV⟩:∃ V,V=vwC D.length n m f:=⟨_,rfl⟩
    obtain ⟨I,hI⟩:∃ I,I=A4 k l s p d:=⟨_,rfl⟩
    have hVl:V.length=4:=by rw [hV];rfl
    have hIl':I.length=11:=by rw [hI];exact hIl
    obtain ⟨G,hG⟩:∃ G,G=g ++ [some (Row.mk V true),some (Row.mk I true),some (Row.mk [] true),some (Row.mk [.ns] true),some (I5 []),some (Row.mk [.m (g.length + 4)] true)]:=⟨_,rfl⟩
    obtain ⟨G2,hG2⟩:∃ G2,G2=G ++ [some (Row.mk V true),some (Row.mk I true),some (Row.mk (encI (E4 D n k d)) true)]:=⟨_,rfl⟩
    have lG:G.length=g.length + 6:=by rw [hG];simp
    have lG2:G2.length=g.length + 9:=by rw [hG2];simp [lG]
    have hB:=B26 (n:=n) (m:=m) (k:=k) (l:=l) (s:=s) (p:=p) (h:=G ++ [some (Row.mk V true),some (Row.mk I true)]) hD hd (by rw [hG];exact (hv.more _).more _)
    rw [← hV,← hI] at hB
    have hB2:(G ++ [some (Row.mk V true),some (Row.mk I true)]) ++ [some (Row.mk (encI (E4 D n k d)) true)]=G2:=by rw [hG2];simp
    rw [hB2] at hB
    have lB:(G ++ [some (Row.mk V true),some (Row.mk I true)]).length=g.length + 8:=by simp [lG]
    rw [lB] at hB
    have emk:X5 85 [.c (.p g.length 0),.c (.p (g.length + 1) 0),.c (.p (g.length + 3) 0),.c (.p (g.length + 5) 0)]=some (.c (.f 85 [(g.length,0),(g.length + 1,0),(g.length + 3,0),(g.length + 5,0)])):=rfl
    have hcv:∀ (x y:Val) (h:A0),O7 A0g (.c (.f 85 [(g.length,0),(g.length + 1,0),(g.length + 3,0),(g.length + 5,0)])) [x,y] h=A4q [x,y,.c (.p g.length 0),.c (.p (g.length + 1) 0),.c (.p (g.length + 3) 0),.c (.p (g.length + 5) 0)] h:=fun _ _ _=>Eq.trans rfl rfl
    have P0:ListP D n k d V I (E4 D n k d) g [] 0 [] G2:=by
      refine ⟨VarC.nil ?_,Nat.le_refl _,?_,?_,?_,?_,?_,?_,⟨[],?_,MapN.nil _⟩,fun j hj=>by simp at hj⟩
      · rw [hG2,hG];simp
      · rw [hG2,hG];exact ((Low.refl (Nat.le_refl _)).new _).new _
      · rw [hG2,hG];simp
      · rw [hG2,hG];simp
      · rw [hG2,← lG];simp
      · rw [hG2,show g.length + 8=G.length + 2 by omega];simp
      · rw [hG2,hG];simp
      · rw [hG2,hG];simp
    obtain ⟨h',f1,f2⟩:=B1Z (σ:=List Tld) (L0:=fun M x h=>A7X 300 M (.c (.f 85 [(g.length,0),(g.length + 1,0),(g.length + 3,0),(g.length + 5,0)])) (.c (.p (g.length + 6) 0)) (.c (.sl (g.length + 8) 0 (E4 D n k d).length 1)) (.c (.i .i64 ((E4 D n k d).length:Nat))) x h)
      (L1:=fun M m2 x7 x14 x21 x22 x23 h=>A7Y 300 M m2 (.c (.f 85 [(g.length,0),(g.length + 1,0),(g.length + 3,0),(g.length + 5,0)])) (.c (.p (g.length + 6) 0)) x7 (.c (.sl (g.length + 8) 0 (E4 D n k d).length 1)) (.c (.i .i64 ((E4 D n k d).length:Nat))) x14 x21 x22 x23 h)
      (C:=fun x y h=>O7 A0g (.c (.f 85 [(g.length,0),(g.length + 1,0),(g.length + 3,0),(g.length + 5,0)])) [x,y] h)
      (N:=300) (x3:=.c (.p (g.length + 6) 0)) (n:=n) (m:=m) (f:=f) (sid:=g.length + 8) (L:=E4 D n k d) hD (fun rs c s h=>ListP D n k d V I (E4 D n k d) g rs c s h) (fun s t=>s ++ [t]) (by omega)
      (fun M x h=>by rw [C8v])
      (fun M v9 x v w M2 y h=>by rw [C8w])
      (fun rs c s h P=>⟨by rw [← hV];exact G5 P.r6 hVl,hv.since P.low,P.r8⟩)
      (fun rs c s h t P=>P.more t) (fun rs c s h r P=>P.one r) (fun i rs c s h P=>P.less) (fun rs c c' s h P hc=>P.wide hc)
      (fun rs c st h1 no x P hc hno hx=>by
        obtain ⟨h2,e1,e2,e3⟩:=D0W (t:=((no,x.1,x.2.2),x.2.1)) (n:=n) (m:=m) (k:=k) (l:=l) (s0:=s) (p:=p) (c:=c) hD hd hv (by omega) (by have:=A9t (B3t hx).1;exact this) (by rw [← hV,← hI];exact P)
        rw [← hV,← hI] at e2
        exact ⟨h2,by rw [hcv];exact e1,e2,e3⟩)
      (by omega) (E4 D n k d).length 0 300 [] [] G2 (by omega) (by omega) P0
    rw [List.drop_zero] at f2
    have efold:∀ (L:List Tld) (s0:List Tld),L.foldl (fun s t=>s ++ [t]) s0=s0 ++ L:=by
      intro L
      induction L with
      | nil=>intro s0;simp
      | cons t L ih=>intro s0;rw [List.foldl_cons,ih];simp
    rw [efold,List.nil_append] at f2
    change ListP D n k d V I (E4 D n k d) g [] (7 * (E4 D n k d).length) (E2 D n k d) h' at f2
    have hS:A4u [.a V,.a I,.c (.f 85 [(g.length,0),(g.length + 1,0),(g.length + 3,0),(g.length + 5,0)])] G=some (.t [],h'):=by
      refine C4t (n:=300) ?_
      rw [C2v]
      have g4:A3 (G ++ [some (Row.mk V true),some (Row.mk I true)]) 4 (.c (.p G.length 0))=some (.a V):=by rw [T1];exact Q3 hVl
      have g11:A3 (G ++ [some (Row.mk V true),some (Row.mk I true)]) 11 (.c (.p (G.length + 1) 0))=some (.a I):=by rw [X4];exact Q3 hIl'
      simp only [X6,F2,List.append_assoc,List.cons_append,List.nil_append,List.length_append,List.length_cons,List.length_nil,Nat.zero_add,g4,g11,hB,O2]
      rw [lG]
      exact f1
    obtain ⟨x,hx,hdx⟩:=f2.var
    have hN:=B3B (D:=D) (n:=n) (k:=k) (d:=d) (s:=E2 D n k d)
    have hlen:=f2.len
    have hlt:=D0 f2.r8
    have hH:Has (h' ++ [some (Row.mk [] true)]) (.c x) 1 (G7 D n k d (E2 D n k d)).length (encS (G7 D n k d (E2 D n k d))):=by
      rcases hdx with ⟨e1,e2,rfl⟩ | ⟨id,rfl,hr,hl,_,_⟩
      · exact .inl ⟨rfl,e1,e2⟩
      · exact Has.row (rw:=true) (C3 hr) hl (B3C _)
    have hSo:=D1n hH (by omega)
    obtain ⟨es,r4,hm⟩:=f2.r4
    have hm2:MapN es (A1n D n k d) (I6 (G7 D n k d (E2 D n k d))):=⟨hm.1,fun s hs=>hm.2 s ((A9y _ _).1 hs)⟩
    have hsl:=C1I (G7 D n k d (E2 D n k d))
    have lh:(h' ++ [some (Row.mk [] true)]).length=h'.length + 1:=by simp
    rw [lh] at hSo
    obtain ⟨v',g',o1,o2⟩:=C0u (F:=A1n D n k d) (B:=h' ++ [some (Row.mk [] true)] ++ [some (Row.mk (encS (I6 (G7 D n k d (E2 D n k d)))) true)]) (b:=g.length) (q:=300) (mid:=g.length + 4) (sid:=h'.length + 1) (S:=I6 (G7 D n k d (E2 D n k d))) hm2 (by simp;omega) (by rw [← lh];exact N6) (C3 (C3 f2.r5)) (C3 (C3 r4)) (by omega)
      (I6 (G7 D n k d (E2 D n k d))).length 0 300 h'.length (h' ++ [some (Row.mk [] true)] ++ [some (Row.mk (encS (I6 (G7 D n k d (E2 D n k d)))) true)]) (by omega) (by omega) (Low.refl (by simp;omega)) (by omega) (by omega) (by omega) (by omega) (fun j r _ hj=>hj) (by simp [D5]) (Nat.le_refl _)
    have eL:(N5 D n k d).length=(I6 (G7 D n k d (E2 D n k d))).length:=by simp [N5]
    refine ⟨v',g',?_,by rw [eL];exact o2⟩
    have t1:A5 (h' ++ [some (Row.mk [] true)]) (.c (.p (g.length + 3) 0))=some (.c x):=H4 (C3 hx) rfl (by
      rcases hdx with ⟨_,_,rfl⟩ | ⟨id,rfl,_⟩ <;> rfl)
    have s5:F9 (g ++ [some (Row.mk V true),some (Row.mk I true),some (Row.mk [] true),some (Row.mk [.ns] true),some (I5 []),some (Row.mk [.nm] true)]) (.c (.p (g.length + 5) 0)) (.c (.m (g.length + 4)))=some G:=by
      rw [A3d,hG];rfl
    have g4:A3 G 4 (.c (.p g.length 0))=some (.a V):=by rw [hG,T1];exact Q3 hVl
    have g11:A3 G 11 (.c (.p (g.length + 1) 0))=some (.a I):=by rw [hG,X4];exact Q3 hIl'
    rw [C2q,← hV,← hI]
    simp only [X6,F2,List.append_assoc,List.cons_append,List.nil_append,List.length_append,List.length_cons,List.length_nil,Nat.zero_add,Nat.reduceAdd,s5,g4,g11,emk,hS,t1]
    rw [hSo]
    simp only [F2,O2]
    exact o1
  obtain ⟨v,g',e,ho⟩:=key (ro h) hv.ro
  exact C4k e (by simpa [K4] using ho) B60
theorem B6t {D:Dev} {n m k l s p:Int} {d:List Int} {f:Cell} {h:A0} (hD:okD D) (hd:d.length=7) (hv:IsView h f D) :
    A1U [.a (vwC D.length n m f),.a (A4 k l s p d)] h=some (.c (.b (decide ((N5 D n k d).length=0))),h):=by
  have key:∀ g,IsView g f D → ∃ g',A6i 0 [.a (vwC D.length n m f),.a (A4 k l s p d)] g=some (.c (.b (decide ((N5 D n k d).length=0))),g'):=by
    intro g hv
    have hIl:(A4 k l s p d).length=11:=by simp [A4,F7,hd]
    have l11:ldN (some (Row.mk (A4 k l s p d) true)) 0 11=some (.a (A4 k l s p d)):=Q3 hIl
    have l4:=A2S (b:=D.length) (n:=n) (m:=m) (f:=f)
    have hL:=B2j (n:=n) (m:=m) (k:=k) (l:=l) (s:=s) (p:=p) (h:=g ++ [some (Row.mk (vwC D.length n m f) true),some (Row.mk (A4 k l s p d) true)]) hD hd (hv.more _)
    have ez:decide ((((N5 D n k d).length:Nat):Int)=0)=decide ((N5 D n k d).length=0):=by
      apply Bool.eq_iff_iff.2;simp
    rw [C2p]
    generalize N5 D n k d=Ls at *
    generalize vwC D.length n m f=V at *
    generalize A4 k l s p d=I at *
    refine ⟨g ++ [some (Row.mk V true),some (Row.mk I true),some (Row.mk (D5 Ls) true)],?_⟩
    rw [← ez]
    simp only [esc] at hL
    simp only [esc,X4,T1,l4,l11,hL] <;> rfl
  obtain ⟨g',e⟩:=key (ro h) hv.ro
  exact C4i e rfl
end Go.Proofs.YteckncopbicmcaaGreat
end
section
namespace Go.Proofs.YteckncopbicmcaaGreat
open Go Go.Esc
theorem C0E {l:List Plc} {x:Plc}:G8 (l ++ [x])=G8 l ++ F1 (some x):=by simp [G8]
theorem C0D {l:List Plc}:(G8 l).length=l.length * 3:=by
  induction l with
  | nil=>rfl
  | cons x l ih=>simp only [G8,List.map_cons,List.flatten_cons,List.length_append,List.length_cons,F1,List.length_nil] at ih ⊢;omega
theorem C0C {l:List Plc}:F4 (G8 l)=true:=by
  induction l with
  | nil=>rfl
  | cons x l ih =>
    have:G8 (x :: l)=F1 (some x) ++ G8 l:=rfl
    rw [this,A8y,ih];rfl
theorem D17 {l:List Plc}:noX (G8 l)=true:=by
  induction l with
  | nil=>rfl
  | cons x l ih =>
    have:G8 (x :: l)=[.i .i64 x.1,.i .i64 (x.2.1:Int),.i .i64 x.2.2] ++ G8 l:=rfl
    rw [this]
    simp [noX,Cell.isX] at ih ⊢
    exact ih
theorem C1P {D:Dev} {n k:Int} {d:List Int} {s:List Tld} {t:Tld}:N7 D n k d (s ++ [t])=N7 D n k d s ++ (if isL D n k d t=true then [] else [t.1]):=by
  unfold N7
  rw [List.filter_append,List.map_append]
  by_cases c:isL D n k d t=true
  · rw [if_pos c,List.filter_cons_of_neg (by simp [c])];rfl
  · rw [if_neg c,List.filter_cons_of_pos (by simp [c])];rfl
theorem C1O {D:Dev} {n k:Int} {d:List Int} {s:List Tld}:(N7 D n k d s).length ≤ s.length:=by
  unfold N7
  rw [List.length_map];exact List.length_filter_le _ _
def RSs (b:Nat):List Nat:=[b,b + 1,b + 3,b + 4,b + 6]
structure StrP (D:Dev) (n k:Int) (d:List Int) (V I:List Cell) (L:List Int) (g:A0) (rs:List Nat) (c:Nat) (s:List Tld) (h:A0):Prop where
  var:VarC h (g.length + 3) (G8 (N7 D n k d s)) (N7 D n k d s).length 3 g.length (rs ++ RSs g.length)
  len:s.length ≤ c
  low:Low g.length g h
  r0:rd h g.length=some ⟨V,true⟩
  r1:rd h (g.length + 1)=some ⟨I,true⟩
  r4:rd h (g.length + 4)=some ⟨V,true⟩
  r6:rd h (g.length + 6)=some ⟨encI L,true⟩
  rs:∀ j ∈ rs,g.length + 7 ≤ j ∧ j < h.length
section
variable {D:Dev} {n k:Int} {d:List Int} {V I:List Cell} {L:List Int} {g h:A0} {rs:List Nat} {c:Nat} {s:List Tld}
theorem StrP.more (P:StrP D n k d V I L g rs c s h) (t:A0):StrP D n k d V I L g rs c s (h ++ t) where
  var:=P.var.more t fun j hj=>.inl hj
  len:=P.len
  low:=P.low.new _
  r0:=C3 P.r0
  r1:=C3 P.r1
  r4:=C3 P.r4
  r6:=C3 P.r6
  rs:=fun j hj=>by have:=P.rs j hj;simp;omega
theorem StrP.one (P:StrP D n k d V I L g rs c s h) (r:Option Row):StrP D n k d V I L g (h.length :: rs) c s (h ++ [r]) where
  var:=P.var.more _ fun j hj=>by
    rcases List.mem_cons.1 hj with rfl | hj
    · exact .inr (Nat.le_refl _)
    · exact .inl hj
  len:=P.len
  low:=P.low.new _
  r0:=C3 P.r0
  r1:=C3 P.r1
  r4:=C3 P.r4
  r6:=C3 P.r6
  rs:=fun j hj=>by
    have h8:=D0 P.r6
    rcases List.mem_cons.1 hj with rfl | hj
    · simp;omega
    · have:=P.rs j hj;simp;omega
theorem StrP.less {i:Nat} (P:StrP D n k d V I L g (i :: rs) c s h):StrP D n k d V I L g rs c s h :=
  { P with var:=P.var.fewer fun j hj=>List.mem_cons_of_mem _ hj,rs:=fun j hj=>P.rs j (List.mem_cons_of_mem _ hj) }
theorem StrP.wide {c':Nat} (P:StrP D n k d V I L g rs c s h) (hc:c ≤ c'):StrP D n k d V I L g rs c' s h :=
  { P with len:=Nat.le_trans P.len hc }
end
theorem D3M {D:Dev} {n m k l s0 p:Int} {d:List Int} {f:Cell} {L:List Int} {g h:A0} {rs:List Nat} {c:Nat} {s:List Tld} {t:Tld} (hD:okD D) (hd:d.length=7) (hv:IsView g f D) (hc:c ≤ 90000) (ht:t.2.length ≤ 24)
    (P:StrP D n k d (vwC D.length n m f) (A4 k l s0 p d) L g rs c s h) :
    ∃ h',A4t [.a (F1 (some t.1)),.c (.s t.2),.c (.p g.length 0),.c (.p (g.length + 1) 0),.c (.p (g.length + 3) 0)] h=some (.t [],h') ∧ StrP D n k d (vwC D.length n m f) (A4 k l s0 p d) L g rs (c + 1) (s ++ [t]) h' ∧ ∀ j ∈ rs,rd h' j=rd h j:=by
  obtain ⟨⟨p1,p2,p3⟩,nm⟩:=t
  have hIl:(A4 k l s0 p d).length=11:=by simp [A4,F7,hd]
  obtain ⟨h1,e1⟩:∃ h1,h1=h ++ [some (Row.mk (F1 (some (p1,p2,p3))) true)]:=⟨_,rfl⟩
  have n1:h1.length=h.length + 1:=by rw [e1];simp
  have P1:StrP D n k d (vwC D.length n m f) (A4 k l s0 p d) L g (h.length :: rs) c s h1:=e1 ▸ P.one _
  have l4:A3 h1 4 (.c (.p g.length 0))=some (.a (vwC D.length n m f)):=G5 P1.r0 rfl
  have l11:A3 h1 11 (.c (.p (g.length + 1) 0))=some (.a (A4 k l s0 p d)):=G5 P1.r1 hIl
  have hL:=B2k (n:=n) (m:=m) (k:=k) (l:=l) (s:=s0) (p:=p) (nm:=nm) (h:=h1) hD hd (hv.since P1.low) (by dsimp only at ht;omega)
  have hl:=D0 P.r6
  have keep:∀ (h':A0),(∀ j ∈ h.length :: rs,rd h' j=rd h1 j) → ∀ j ∈ rs,rd h' j=rd h j:=by
    intro h' hk j hj
    rw [hk j (List.mem_cons_of_mem _ hj),e1,N1 (P.rs j hj).2]
  obtain ⟨o,eo⟩:∃ o,o=Y3 D n k d nm:=⟨_,rfl⟩
  rw [← eo] at hL
  obtain ⟨h2,e2⟩:∃ h2,h2=h1 ++ [some (Row.mk (F1 o) true)]:=⟨_,rfl⟩
  have s3:B6 (h1 ++ [some (Row.mk [Cell.i .i64 0,.i .i64 0,.i .i64 0] true)]) 3 (.c (.p h1.length 0)) (.a (F1 o))=some h2:=by
    rw [T4,e2];cases o <;> rfl
  have P2:StrP D n k d (vwC D.length n m f) (A4 k l s0 p d) L g (h.length :: rs) c s h2:=e2 ▸ P1.more _
  have q1:A3 h2 3 (.c (.p h1.length 0))=some (.a (F1 o)):=by rw [e2,T1];cases o <;> rfl
  have rp:rd h2 h.length=some ⟨F1 (some (p1,p2,p3)),true⟩:=by rw [e2,e1];simp
  have q2:A3 h2 3 (.c (.p h.length 0))=some (.a (F1 (some (p1,p2,p3)))):=G5 rp rfl
  have k2:∀ j ∈ h.length :: rs,rd h2 j=rd h1 j:=fun j hj=>by
    rw [e2,N1]
    rcases List.mem_cons.1 hj with rfl | hj
    · omega
    · have:=P.rs j hj;omega
  by_cases hn:isL D n k d ((p1,p2,p3),nm)=true
  · have ho:o=some (p1,p2,p3):=by
      have:=hn
      unfold isL at this
      rw [← eo] at this
      simpa using this
    subst ho
    have hst:N7 D n k d (s ++ [((p1,p2,p3),nm)])=N7 D n k d s:=by rw [C1P,if_pos hn];simp
    have ea:=A5R (neg:=true) (p1,p2,p3) (p1,p2,p3)
    rw [decide_eq_true rfl] at ea
    have P3:=P2.less
    refine ⟨h2,B4z (n:=0) ?_,{ P3 with var:=by rw [hst];exact P3.var,len:=by have:=P.len;simp;omega },keep h2 k2⟩
    rw [B4o]
    generalize hV:vwC D.length n m f=V at *
    generalize hI:A4 k l s0 p d=I at *
    simp only [X6,F2,← e1,l4,l11,hL,U8,List.getElem?_cons_zero,List.getElem?_cons_succ,Option.map_some,V7,V6,s3,Option.isSome_some,A09,Bool.not_true,A3r,q1,q2,ea,W5,cond_true,cond_false,K6]
    rfl
  · have hst:N7 D n k d (s ++ [((p1,p2,p3),nm)])=N7 D n k d s ++ [(p1,p2,p3)]:=by rw [C1P,if_neg hn]
    have h2l:h2.length=h.length + 2:=by rw [e2];simp;omega
    obtain ⟨x,v,h3,h4,a1,a2,a3,a4,a5,a6,a7⟩:=P2.var.push (ys:=F1 (some (p1,p2,p3))) (by simp [RSs]) (by omega) (by omega) (by
      intro j hj
      rcases List.mem_append.1 hj with hj | hj
      · exact (P2.rs j hj).2
      · simp only [RSs,List.mem_cons,List.not_mem_nil,or_false] at hj;omega) (by have:=C1O (D:=D) (n:=n) (k:=k) (d:=d) (s:=s);have:=P.len;omega) rfl (by omega)
    have ef:A8 [Cell.i .i64 0,.i .i64 0,.i .i64 0] [(0,3,.a (F1 (some (p1,p2,p3))))]=some (F1 (some (p1,p2,p3))):=rfl
    have mem:∀ j,j ∈ RSs g.length → j ≠ g.length + 3 → rd h4 j=rd h2 j:=fun j hj hne=>a6 j (List.mem_append_right _ hj) hne
    have fin:StrP D n k d (vwC D.length n m f) (A4 k l s0 p d) L g rs (c + 1) (s ++ [((p1,p2,p3),nm)]) h4:=by
      refine ⟨?_,?_,P2.low.trans a5,?_,?_,?_,?_,?_⟩
      · rw [hst,C0E,List.length_append]
        exact a4.fewer fun j hj=>by
          rcases List.mem_append.1 hj with hj | hj
          · exact List.mem_append_left _ (List.mem_cons_of_mem _ hj)
          · exact List.mem_append_right _ hj
      · have:=P.len;simp;omega
      · rw [mem _ (by simp [RSs]) (by omega)];exact P2.r0
      · rw [mem _ (by simp [RSs]) (by omega)];exact P2.r1
      · rw [mem _ (by simp [RSs]) (by omega)];exact P2.r4
      · rw [mem _ (by simp [RSs]) (by omega)];exact P2.r6
      · intro j hj
        have:=P.rs j hj
        omega
    have kp:∀ j ∈ rs,rd h4 j=rd h j:=keep h4 fun j hj=>by
      have hj9:g.length + 7 ≤ j:=by
        rcases List.mem_cons.1 hj with rfl | hj
        · omega
        · exact (P.rs j hj).1
      rw [a6 j (List.mem_append_left _ hj) (by omega),k2 j hj]
    refine ⟨h4,B4z (n:=0) ?_,fin,kp⟩
    rw [B4o]
    cases o with
    | none =>
      generalize hV:vwC D.length n m f=V at *
      generalize hI:A4 k l s0 p d=I at *
      simp only [X6,F2,← e1,l4,l11,hL,U8,List.getElem?_cons_zero,List.getElem?_cons_succ,Option.map_some,V7,V6,s3,Option.isSome_none,A09,Bool.not_false,B8o,A8A,W5,cond_true,cond_false,L9,a1,q2,ef,a2,a3]
      rfl
    | some q =>
      have hq:q ≠ (p1,p2,p3):=by
        intro e
        apply hn
        unfold isL
        rw [← eo,e];simp
      have ea:=A5R (neg:=true) q (p1,p2,p3)
      rw [decide_eq_false (by simpa using hq)] at ea
      generalize hV:vwC D.length n m f=V at *
      generalize hI:A4 k l s0 p d=I at *
      simp only [X6,F2,← e1,l4,l11,hL,U8,List.getElem?_cons_zero,List.getElem?_cons_succ,Option.map_some,V7,V6,s3,Option.isSome_some,A09,Bool.not_true,Bool.not_false,A3r,q1,q2,ea,W5,cond_true,cond_false,L9,a1,ef,a2,a3]
      rfl
theorem B6A {D:Dev} {n m k l s p:Int} {d:List Int} {f:Cell} {h:A0} (hD:okD D) (hd:d.length=7) (hv:IsView h f D) :
    B4l h (A0G [.a (vwC D.length n m f),.a (A4 k l s p d)] h) (G8 (N7 D n k d (E2 D n k d))) (N7 D n k d (E2 D n k d)).length 3:=by
  have key:∀ g,IsView g f D → ∃ x g',A2Z 0 [.a (vwC D.length n m f),.a (A4 k l s p d)] g=some (.c x,g') ∧ B0J g' x (G8 (N7 D n k d (E2 D n k d))) (N7 D n k d (E2 D n k d)).length 3 g.length ([] ++ RSs g.length):=by
    intro g hv
    have hIl:(A4 k l s p d).length=11:=by simp [A4,F7,hd]
    have hbl:=A3f (D:=D) (n:=n) (k:=k) (d:=d)
    obtain ⟨V,hV⟩:∃ V,V=vwC D.length n m f:=⟨_,rfl⟩
    obtain ⟨I,hI⟩:∃ I,I=A4 k l s p d:=⟨_,rfl⟩
    have hVl:V.length=4:=by rw [hV];rfl
    have hIl':I.length=11:=by rw [hI];exact hIl
    obtain ⟨G,hG⟩:∃ G,G=g ++ [some (Row.mk V true),some (Row.mk I true),some (Row.mk [] true),some (Row.mk [.ns] true)]:=⟨_,rfl⟩
    obtain ⟨G2,hG2⟩:∃ G2,G2=G ++ [some (Row.mk V true),some (Row.mk I true),some (Row.mk (encI (E4 D n k d)) true)]:=⟨_,rfl⟩
    have lG:G.length=g.length + 4:=by rw [hG];simp
    have lG2:G2.length=g.length + 7:=by rw [hG2];simp [lG]
    have hB:=B26 (n:=n) (m:=m) (k:=k) (l:=l) (s:=s) (p:=p) (h:=G ++ [some (Row.mk V true),some (Row.mk I true)]) hD hd (by rw [hG];exact (hv.more _).more _)
    rw [← hV,← hI] at hB
    have hB2:(G ++ [some (Row.mk V true),some (Row.mk I true)]) ++ [some (Row.mk (encI (E4 D n k d)) true)]=G2:=by rw [hG2];simp
    rw [hB2] at hB
    have lB:(G ++ [some (Row.mk V true),some (Row.mk I true)]).length=g.length + 6:=by simp [lG]
    rw [lB] at hB
    have emk:X5 84 [.c (.p g.length 0),.c (.p (g.length + 1) 0),.c (.p (g.length + 3) 0)]=some (.c (.f 84 [(g.length,0),(g.length + 1,0),(g.length + 3,0)])):=rfl
    have hcv:∀ (x y:Val) (h:A0),O7 A0h (.c (.f 84 [(g.length,0),(g.length + 1,0),(g.length + 3,0)])) [x,y] h=A4t [x,y,.c (.p g.length 0),.c (.p (g.length + 1) 0),.c (.p (g.length + 3) 0)] h:=fun _ _ _=>Eq.trans rfl rfl
    have P0:StrP D n k d V I (E4 D n k d) g [] 0 [] G2:=by
      refine ⟨VarC.nil ?_,Nat.le_refl _,?_,?_,?_,?_,?_,fun j hj=>by simp at hj⟩
      · rw [hG2,hG];simp
      · rw [hG2,hG];exact ((Low.refl (Nat.le_refl _)).new _).new _
      · rw [hG2,hG];simp
      · rw [hG2,hG];simp
      · rw [hG2,← lG];simp
      · rw [hG2,show g.length + 6=G.length + 2 by omega];simp
    obtain ⟨h',f1,f2⟩:=B1Z (σ:=List Tld) (L0:=fun M x h=>A7Z 300 M (.c (.f 84 [(g.length,0),(g.length + 1,0),(g.length + 3,0)])) (.c (.p (g.length + 4) 0)) (.c (.sl (g.length + 6) 0 (E4 D n k d).length 1)) (.c (.i .i64 ((E4 D n k d).length:Nat))) x h)
      (L1:=fun M m2 x7 x14 x21 x22 x23 h=>A70 300 M m2 (.c (.f 84 [(g.length,0),(g.length + 1,0),(g.length + 3,0)])) (.c (.p (g.length + 4) 0)) x7 (.c (.sl (g.length + 6) 0 (E4 D n k d).length 1)) (.c (.i .i64 ((E4 D n k d).length:Nat))) x14 x21 x22 x23 h)
      (C:=fun x y h=>O7 A0h (.c (.f 84 [(g.length,0),(g.length + 1,0),(g.length + 3,0)])) [x,y] h)
      (N:=300) (x3:=.c (.p (g.length + 4) 0)) (n:=n) (m:=m) (f:=f) (sid:=g.length + 6) (L:=E4 D n k d) hD (fun rs c s h=>StrP D n k d V I (E4 D n k d) g rs c s h) (fun s t=>s ++ [t]) (by omega)
      (fun M x h=>by rw [C8B])
      (fun M v9 x v w M2 y h=>by rw [C8C])
      (fun rs c s h P=>⟨by rw [← hV];exact G5 P.r4 hVl,hv.since P.low,P.r6⟩)
      (fun rs c s h t P=>P.more t) (fun rs c s h r P=>P.one r) (fun i rs c s h P=>P.less) (fun rs c c' s h P hc=>P.wide hc)
      (fun rs c st h1 no x P hc hno hx=>by
        obtain ⟨h2,e1,e2,e3⟩:=D3M (t:=((no,x.1,x.2.2),x.2.1)) (n:=n) (m:=m) (k:=k) (l:=l) (s0:=s) (p:=p) (c:=c) hD hd hv (by omega) (by have:=A9t (B3t hx).1;exact this) (by rw [← hV,← hI];exact P)
        rw [← hV,← hI] at e2
        exact ⟨h2,by rw [hcv];exact e1,e2,e3⟩)
      (by omega) (E4 D n k d).length 0 300 [] [] G2 (by omega) (by omega) P0
    rw [List.drop_zero] at f2
    have efold:∀ (L:List Tld) (s0:List Tld),L.foldl (fun s t=>s ++ [t]) s0=s0 ++ L:=by
      intro L
      induction L with
      | nil=>intro s0;simp
      | cons t L ih=>intro s0;rw [List.foldl_cons,ih];simp
    rw [efold,List.nil_append] at f2
    change StrP D n k d V I (E4 D n k d) g [] (7 * (E4 D n k d).length) (E2 D n k d) h' at f2
    have hS:A4v [.a V,.a I,.c (.f 84 [(g.length,0),(g.length + 1,0),(g.length + 3,0)])] G=some (.t [],h'):=by
      refine C4v (n:=300) ?_
      rw [C2w]
      have g4:A3 (G ++ [some (Row.mk V true),some (Row.mk I true)]) 4 (.c (.p G.length 0))=some (.a V):=by rw [T1];exact Q3 hVl
      have g11:A3 (G ++ [some (Row.mk V true),some (Row.mk I true)]) 11 (.c (.p (G.length + 1) 0))=some (.a I):=by rw [X4];exact Q3 hIl'
      simp only [X6,F2,List.append_assoc,List.cons_append,List.nil_append,List.length_append,List.length_cons,List.length_nil,Nat.zero_add,g4,g11,hB,O2]
      rw [lG]
      exact f1
    obtain ⟨x,hx,hdx⟩:=f2.var
    refine ⟨x,h',?_,hdx⟩
    have t1:A5 h' (.c (.p (g.length + 3) 0))=some (.c x):=H4 hx rfl (by
      rcases hdx with ⟨_,_,rfl⟩ | ⟨id,rfl,_⟩ <;> rfl)
    have g4:A3 G 4 (.c (.p g.length 0))=some (.a V):=by rw [hG,T1];exact Q3 hVl
    have g11:A3 G 11 (.c (.p (g.length + 1) 0))=some (.a I):=by rw [hG,X4];exact Q3 hIl'
    rw [C2u,← hV,← hI]
    simp only [X6,F2,List.append_assoc,List.cons_append,List.nil_append,List.length_append,List.length_cons,List.length_nil,Nat.zero_add,Nat.reduceAdd,← hG,g4,g11,emk,hS,t1]
  obtain ⟨x,g',e,hdx⟩:=key (ro h) hv.ro
  rw [K4] at hdx
  exact C7l (S:=A0G) (R:=A2Z) C4r C4s e hdx C0C D17
def A5L (D:Dev) (n k:Int) (d:List Int):List Int:=(E4 D n k d).map fun no=>((H0 (blk D no)).length:Int)
theorem B9w {D:Dev} {n m:Int} {f:Cell} {g:A0} {p q sid:Nat} {L:List Int} (hD:okD D) (hv:IsView g f D) (h1:rd g p=some ⟨vwC D.length n m f,true⟩) (hL:L.length ≤ 32):∀ (e i M id:Nat) (h:A0),i + e=L.length → e < M → Low g.length g h → g.length ≤ id → id ≠ sid → rd h sid=some ⟨encI L,true⟩ → rd h id=some ⟨encI ((L.take i).map fun no=>((H0 (blk D no)).length:Int)),true⟩ →
    ∃ v' h',A7W q M (.c (.p p 0)) (.c (.sl id 0 i 1)) (.c (.sl sid 0 L.length 1)) (.c (.i .i64 (L.length:Int))) (.c (.i .i64 (i:Int))) h=some (v',h') ∧ Out g.length h' v' 1 L.length (encI (L.map fun no=>((H0 (blk D no)).length:Int)))
  | e,i,0,id,h,_,hm,_,_,_,_,_=>by omega
  | 0,i,M + 1,id,h,hi,hm,hlow,hid,hne,hs,hr=>by
    have e0:i=L.length:=by omega
    subst e0
    have c0:¬ ((L.length:Nat):Int) < (L.length:Nat):=by omega
    rw [List.take_length] at hr
    rw [B6z]
    exact ⟨_,_,by simp only [esc,c0] <;> rfl,by rw [F7,List.length_map,Nat.mul_one],id,rfl,hid,hr⟩
  | e + 1,i,M + 1,id,h,hi,hm,hlow,hid,hne,hs,hr=>by
    have hil:i < L.length:=by omega
    have c0:(i:Int) < (L.length:Nat):=by omega
    have ad:B9 1 (.c (.sl sid 0 L.length 1)) (.c (.i .i64 (i:Int)))=some (.c (.p sid i)):=by rw [G6 hil];simp
    have l1:A5 h (.c (.p sid i))=some (.c (.i .i64 L[i])):=H4 hs (by rw [Q9,List.getElem?_eq_getElem hil];rfl) rfl
    have l4:A3 h 4 (.c (.p p 0))=some (.a (vwC D.length n m f)):=G5 (hlow.rd h1) rfl
    have hB:=A58 (n:=n) (m:=m) (no:=L[i]) hD (hv.since hlow)
    obtain ⟨v,t,b1,b2,b3⟩:=B5O (b:=blk D L[i]) (h:=h) (A1a hD)
    have hlen:=b2.len
    have w1:=E6 (show i + 1 < 9223372036854775808 by omega)
    have ef:A8 [Cell.i .i64 0] [(0,1,.c (.i .i64 ((H0 (blk D L[i])).length:Nat)))]=some (encI [((H0 (blk D L[i])).length:Int)]):=rfl
    have el:((L.take i).map fun no=>((H0 (blk D no)).length:Int)).length=i:=by simp;omega
    obtain ⟨h2,a1,a2,a3,a4⟩:=A2L (n:=i) (sz:=1) (ys:=encI [((H0 (blk D L[i])).length:Int)]) (C3 (g:=t) hr) (by rw [F7,el,Nat.mul_one]) rfl (by omega) (by omega)
    have et:encI ((L.take i).map fun no=>((H0 (blk D no)).length:Int)) ++ encI [((H0 (blk D L[i])).length:Int)]=encI ((L.take (i + 1)).map fun no=>((H0 (blk D no)).length:Int)):=by
      rw [← A73,List.take_add_one,List.getElem?_eq_getElem hil,List.map_append];rfl
    rw [et] at a2
    have hlt:=D0 hs
    have hll:=hlow.2.1
    obtain ⟨v',h',f1,f2⟩:=B9w (q:=q) hD hv h1 hL e (i + 1) M ((h ++ t).length + 1) h2 (by omega) (by omega) ((hlow.new t).trans (a4 _ hid (by simp;omega))) (by simp;omega) (by simp;omega) (a3 _ _ (Ne.symm hne) (C3 hs)) a2
    rw [B6z]
    refine ⟨v',h',?_,f2⟩
    simp only [F2,I4,c0,decide_true,L9,ad,l1,l4,hB,b1,hlen,ef,a1,O0,w1]
    exact f1
theorem C8n {D:Dev} {n m k l s p:Int} {d:List Int} {f:Cell} {h:A0} (hD:okD D) (hd:d.length=7) (hv:IsView h f D) :
    A4r [.a (vwC D.length n m f),.a (A4 k l s p d)] h=some (.c (.sl h.length 0 (E4 D n k d).length 1),h ++ [some ⟨encI (A5L D n k d),true⟩]):=by
  have key:∀ g,IsView g f D → ∃ v g',A6k 33 [.a (vwC D.length n m f),.a (A4 k l s p d)] g=some (v,g') ∧ Out g.length g' v 1 (E4 D n k d).length (encI (A5L D n k d)):=by
    intro g hv
    have hIl:(A4 k l s p d).length=11:=by simp [A4,F7,hd]
    have l11:ldN (some (Row.mk (A4 k l s p d) true)) 0 11=some (.a (A4 k l s p d)):=Q3 hIl
    have l4:=A2S (b:=D.length) (n:=n) (m:=m) (f:=f)
    have hbl:=A3f (D:=D) (n:=n) (k:=k) (d:=d)
    have hB:=B26 (n:=n) (m:=m) (k:=k) (l:=l) (s:=s) (p:=p) (h:=g ++ [some (Row.mk (vwC D.length n m f) true),some (Row.mk (A4 k l s p d) true),some (Row.mk [] true),some (Row.mk [] true)]) hD hd (hv.more _)
    unfold A5L
    generalize E4 D n k d=L at *
    obtain ⟨v',h',f1,f2⟩:=B9w (D:=D) (n:=n) (m:=m) (f:=f) (g:=g ++ [some (Row.mk (vwC D.length n m f) true)]) (p:=g.length) (q:=33) (sid:=g.length + 4) (L:=L) hD (hv.more _) (by simp) hbl L.length 0 33 (g.length + 3) (g ++ [some (Row.mk (vwC D.length n m f) true),some (Row.mk (A4 k l s p d) true),some (Row.mk [] true),some (Row.mk [] true),some (Row.mk (encI L) true)]) (by omega) (by omega)
      (by
        have:=(Low.refl (h:=g ++ [some (Row.mk (vwC D.length n m f) true)]) (Nat.le_refl _)).new [some (Row.mk (A4 k l s p d) true),some (Row.mk [] true),some (Row.mk [] true),some (Row.mk (encI L) true)]
        simpa using this) (by simp) (by omega) (by simp) (by simp [encI])
    rw [C2r]
    refine ⟨v',h',?_,f2.1,?_⟩
    · generalize vwC D.length n m f=V at *
      generalize A4 k l s p d=I at *
      simp only [esc,Nat.reduceAdd] at hB
      simp only [esc,X4,T1,l4,l11,hB,Nat.reduceAdd]
      exact f1
    · obtain ⟨id,e,hb,hr⟩:=f2.2
      exact ⟨id,e,by simp at hb;omega,hr⟩
  obtain ⟨v,g',e,ho⟩:=key (ro h) hv.ro
  exact C4m e (by simpa [K4] using ho) (by simp)
end Go.Proofs.YteckncopbicmcaaGreat
end
section
namespace Go.Proofs.YteckncopbicmcaaGreat
open Go Go.Esc
theorem D13 {x:Cell} {a n:Nat} {cs:List Cell} {h:A0} (hv:Has h (.c x) 1 n cs) (hn:1 ≤ n) (han:a + n ≤ 256) :
    A5a [.a [.i .i64 a,x]] h=some (.c (.i .i64 0),h):=by
  have key:∀ g,Has g (.c x) 1 n cs → ∃ g',A7f 0 [.a [.i .i64 a,x]] g=some (.c (.i .i64 0),g'):=by
    intro g hv
    have c1:¬ (n:Int) < 1:=by omega
    have c2:¬ (256:Int) < n:=by omega
    have c3:¬ (a:Int) < 0:=by omega
    have e1:IntKind.wrap .i64 (256 - (n:Int))=256 - n:=wrap_i64 (by omega) (by omega)
    have c4:¬ (256:Int) - n < a:=by omega
    rw [C3P]
    exact ⟨_,by simp only [esc,esh,Nat.reduceAdd,Nat.reduceMul,Nat.reduceLT,hv.len,c1,c2,c3,e1,c4] <;> rfl⟩
  obtain ⟨g',e⟩:=key (ro h) hv.ro
  exact C6z e rfl
theorem C0B {x:Cell} {n:Nat} {data l:List UInt8} {z:List Cell} {g:A0} (hv:Has g (.c x) 1 n (A1 data)) {a q:Nat} (han:a + n ≤ 256) (hl:l.length=256) (hz:z.length=256) (hn:data.length=n):∀ d i m,i + d=n → d < m →
    A9o q m (.c (.p g.length 0)) (.c (.p (g.length + 1) 0)) (.c (.p (g.length + 2) 0)) (.c x) (.c (.i .i64 n)) (.c (.i .i64 i)) (g ++ [some ⟨A1 (D3 l a (data.take i)),true⟩,some ⟨[.i .i64 a,x],true⟩,some ⟨z,true⟩]) =
      some (.a (A1 (D3 l a data)),g ++ [some ⟨A1 (D3 l a data),true⟩,some ⟨[.i .i64 a,x],true⟩,some ⟨A1 (D3 l a data),true⟩])
  | d,i,0,_,hm=>by omega
  | 0,i,m + 1,hi,hm=>by
    have e0:i=n:=by omega
    subst e0
    have c0:¬ (i:Int) < i:=by omega
    have hE:(A1 (D3 l a data)).length=256:=by rw [B1,A0c (by omega),hl]
    rw [C0A,List.take_of_length_le (by omega)]
    simp only [esc,esh,Nat.reduceAdd,Nat.reduceMul,Nat.reduceLT,c0,hE,hz]
  | d + 1,i,m + 1,hi,hm=>by
    have ih:=C0B hv (z:=z) (q:=q) han hl hz hn d (i + 1) m (by omega) (by omega)
    obtain ⟨id,off,e,hid,h1,h2⟩:=(hv.more [some ⟨A1 (D3 l a (data.take i)),true⟩,some ⟨[.i .i64 a,x],true⟩,some ⟨z,true⟩]).sl (by omega)
    cases e
    have c0:(i:Int) < n:=by omega
    have hx:=h1 i (.i .u8 data[i].toNat) (by rw [W8,List.getElem?_eq_getElem (by omega)];rfl)
    have eb:B9 1 (.c (.sl id off n 1)) (.c (.i .i64 (i:Int)))=some (.c (.p id (off + i))):=by rw [G6 (by omega)];simp
    have ea:D8 256 1 (.c (.p g.length 0)) (.c (.i .i64 ((a + i:Nat):Int)))=some (.c (.p g.length (a + i))):=by rw [T9 (by omega)];simp
    have hE:(A1 (D3 l a (data.take i))).length=256:=by rw [B1,A0c (by simp;omega),hl]
    have ho:a + i < 256:=by omega
    have e5:(D3 l a (data.take i)).set (a + i) data[i]=D3 l a (data.take (i + 1)):=by
      have:=A8S (l:=l) (xs:=data.take i) (a:=a) (x:=data[i]) (by simp;omega)
      rw [List.length_take,Nat.min_eq_left (by omega)] at this
      rw [this,List.take_succ_eq_append_getElem (by omega)]
    have es:(A1 (D3 l a (data.take i))).set (a + i) (.i .u8 data[i].toNat)=A1 (D3 l a (data.take (i + 1))):=by rw [A0q,e5]
    rw [C0A]
    simp only [esc,esh,Nat.reduceAdd,Nat.reduceMul,Nat.reduceLT,c0,eb,hx,A0y (show a + i < 9223372036854775808 by omega),ea,hE,ho,es,E6 (show i + 1 < 9223372036854775808 by omega)]
    exact ih
theorem D14 {x:Cell} {n a:Nat} {data l:List UInt8} {h:A0} (hv:Has h (.c x) 1 n (A1 data)) (hn:1 ≤ n) (han:a + n ≤ 256) (hl:l.length=256) :
    A5b [.a (A1 l),.a [.i .i64 a,x]] h=some (.a (A1 (D3 l a data)),h):=by
  have hd:data.length=n:=by simpa [B1] using hv.length
  have key:∀ N,n < N → ∀ g,Has g (.c x) 1 n (A1 data) → ∃ g',A7g N [.a (A1 l),.a [.i .i64 a,x]] g=some (.a (A1 (D3 l a data)),g'):=by
    intro N hN g hv
    have hz:(List.replicate 256 (Cell.i .u8 0)).length=256:=List.length_replicate
    have hE:(A1 l).length=256:=by rw [B1,hl]
    rw [C3Q]
    generalize List.replicate 256 (Cell.i .u8 0)=z at *
    have e:=C0B hv (l:=l) (z:=z) (q:=N) han hl hz hd n 0 N (by omega) (by omega)
    simp only [List.take_zero,A8R] at e
    have hc:=D13 (hv.more [some ⟨A1 l,true⟩,some ⟨[.i .i64 a,x],true⟩,some ⟨z,true⟩]) hn han
    exact ⟨_,by simp only [esc,esh,Nat.reduceAdd,Nat.reduceMul,Nat.reduceLT,hE,hz,hc,hv.len];exact e⟩
  obtain ⟨g',e⟩:=key (n + 1) (by omega) (ro h) hv.ro
  exact C6B e (by simp)
end Go.Proofs.YteckncopbicmcaaGreat
end
section
namespace Go.Proofs.YteckncopbicmcaaGreat
open Go Go.Esc
theorem C7e {a:Int} {x:Cell}:A8 [Cell.i .i64 0,.ns] [(0,1,.c (.i .i64 a)),(1,1,.c x)]=some [.i .i64 a,x]:=rfl
theorem C7d:A8 ([]:List Cell) []=some []:=rfl
theorem D3R {j:Nat} {k l s p:Int} {d:List Int} {h:A0} (hd:d.length=7) (h8:j < 8) (c:Y5 k l s p d=true) :
    A5e [.c (.i .i64 j),.a (A4 k l s p d)] h=some (.t [.a [.i .i64 ((32 * j:Nat):Int),.sl h.length 0 32 1],.c (.i .i64 0)],h ++ [some ⟨A1 (K9 k l s p d),true⟩]):=by
  have key:∀ g,∃ g',A7l 0 [.c (.i .i64 j),.a (A4 k l s p d)] g=some (.t [.a [.i .i64 ((32 * j:Nat):Int),.sl (g.length + 4) 0 32 1],.c (.i .i64 0)],g') ∧ rd g' (g.length + 4)=some ⟨A1 (K9 k l s p d),true⟩:=by
    intro g
    have c1:¬ (j:Int) < 0:=by omega
    have c2:¬ (8:Int) ≤ j:=by omega
    have hP:=fun h=>B9d (k:=k) (l:=l) (s:=s) (p:=p) (h:=h) hd
    simp only [c,cond_true] at hP
    have hE:(encI d).length=7:=by rw [F7,hd]
    have hz:(List.replicate 32 (Cell.i .u8 0)).length=32:=List.length_replicate
    have hB:(A1 (K9 k l s p d)).length=32:=by rw [B1,A5E hd]
    have w1:IntKind.wrap .i64 ((j:Int) * 32)=((32 * j:Nat):Int):=by rw [wrap_i64 (by omega) (by omega)];omega
    have p1:=T2 (h:=g ++ [some ⟨A4 k l s p d,true⟩,some ⟨[.i .i64 0,.ns],true⟩,some ⟨A1 (K9 k l s p d),true⟩,some ⟨[],true⟩]) (id:=g.length + 3) (jd:=g.length + 2) (n:=0) (m:=32) (sz:=1) (cs:=[]) (ys:=A1 (K9 k l s p d)) (rw:=true) (by simp) (by simp) (by simp) (by rw [hB]) rfl (by omega) (by omega)
    generalize A1 (K9 k l s p d)=B at *
    simp only [esc] at p1
    rw [C3V]
    generalize List.replicate 32 (Cell.i .u8 0)=z at *
    exact ⟨_,by simp only [esc,esh,Nat.reduceAdd,Nat.reduceMul,Nat.reduceLT,c1,c2,hE,hP,hz,hB,w1,C7d,p1,C7e,Int.cast_ofNat_Int] <;> rfl,by simp⟩
  obtain ⟨g',e,hr⟩:=key (ro h)
  have hr':=hr
  rw [K4] at hr'
  have hc1:J5 g' h.length [] [.i .i64 ((32 * j:Nat):Int),.sl ((ro h).length + 4) 0 32 1]=some ([.i .i64 ((32 * j:Nat):Int),.sl h.length 0 32 1],[h.length + 4]):=by
    rw [K4]
    simp [J5,Cell.low,Cell.flat,A89 hr' (by simp:F4 (A1 (K9 k l s p d))=true)]
  have hc2:J5 g' h.length [h.length + 4] [.i .i64 0]=some ([.i .i64 0],[h.length + 4]):=A1b (by simp)
  have:=C6K e (v2:=.t [.a [.i .i64 ((32 * j:Nat):Int),.sl h.length 0 32 1],.c (.i .i64 0)]) (ids:=[h.length + 4]) (by
    simp only [L8,Q0,hc1,hc2,Option.bind_some,Option.map_some])
  rw [this]
  simp [hr']
end Go.Proofs.YteckncopbicmcaaGreat
end
section
namespace Go.Proofs.YteckncopbicmcaaGreat
open Go Go.Esc
theorem D3V {j:Nat} {k l s p:Int} {d:List Int} {b:List UInt8} {h:A0} (hb:b.length=256) (hd:d.length=7) (h8:j < 8) (c:Y5 k l s p d=true) :
    A25 [.a (A1 b),.c (.i .i64 j),.a (A4 k l s p d)] h=some (.t [.a (A1 (D3 b (32 * j) (K9 k l s p d))),.c (.i .i64 0)],h):=by
  have key:∀ g,∃ g',A7n 0 [.a (A1 b),.c (.i .i64 j),.a (A4 k l s p d)] g=some (.t [.a (A1 (D3 b (32 * j) (K9 k l s p d))),.c (.i .i64 0)],g'):=by
    intro g
    have hB:(A1 b).length=256:=by rw [B1,hb]
    have hE:(encI d).length=7:=by rw [F7,hd]
    have hI:(A1 (K9 k l s p d)).length=32:=by rw [B1,A5E hd]
    have hz:(List.replicate 256 (Cell.i .u8 0)).length=256:=List.length_replicate
    have hP:=fun h=>D3R (h:=h) hd h8 c
    rw [C3X]
    generalize List.replicate 256 (Cell.i .u8 0)=z at *
    have hL:=D14 (h:=g ++ [some (Row.mk (A1 b) true),some (Row.mk (A4 k l s p d) true),some (Row.mk z true),some (Row.mk (A1 (K9 k l s p d)) true),some (Row.mk [.i .i64 ((32 * j:Nat):Int),.sl (g.length + 3) 0 32 1] true)]) (x:=.sl (g.length + 3) 0 32 1) (n:=32) (a:=32 * j) (data:=K9 k l s p d) (l:=b) (Has.tr (by simp) (by rw [hI]) (K1 _)) (by omega) (by omega) hb
    have hR:(A1 (D3 b (32 * j) (K9 k l s p d))).length=256:=by rw [B1,A0c (by rw [A5E hd];omega),hb]
    exact ⟨_,by simp only [esc,esh,Nat.reduceAdd,Nat.reduceMul,Nat.reduceLT,hB,hE,hz,hP,hL,hR] <;> rfl⟩
  obtain ⟨g',e⟩:=key (ro h)
  exact C6N e (by simp)
def K5 (b:List UInt8) (j:Nat):List UInt8:=(b.drop (32 * j)).take 32
theorem B3P {b:List UInt8} {j:Nat} (hb:b.length=256) (hj:j < 8):(K5 b j).length=32:=by unfold K5;simp;omega
theorem C0N {g:A0} {b:List UInt8} {z:List Cell} {j q:Nat} (hb:b.length=256) (hz:z.length=32) (hj:j < 8):∀ e i m:Nat,i + e=32 → e < m →
    A9D q m (.c (.i .i64 j)) (.c (.p g.length 0)) (.c (.p (g.length + 1) 0)) (.c (.p (g.length + 2) 0)) (.c (.i .i64 i)) (g ++ [some ⟨A1 b,true⟩,some ⟨z,true⟩,some ⟨A1 ((K5 b j).take i ++ zeros (32 - i)),true⟩]) =
      some (.a (A1 (K5 b j)),g ++ [some ⟨A1 b,true⟩,some ⟨A1 (K5 b j),true⟩,some ⟨A1 (K5 b j),true⟩])
  | e,i,0,_,hm=>by omega
  | 0,i,m + 1,hi,hm=>by
    have e0:i=32:=by omega
    subst e0
    have h1':¬ ((32:Nat):Int) < 32:=by omega
    have hR:=B3P hb hj
    have hl:(A1 (K5 b j)).length=32:=by rw [B1,hR]
    have e1:A1 ((K5 b j).take 32 ++ zeros (32 - 32))=A1 (K5 b j):=by rw [List.take_of_length_le (by omega)];simp [zeros]
    rw [C11,e1]
    simp only [esc,esh,Nat.reduceAdd,Nat.reduceMul,Nat.reduceLT,h1',hl,hz]
  | e + 1,i,m + 1,hi,hm=>by
    have ih:=C0N (g:=g) (q:=q) hb hz hj e (i + 1) m (by omega) (by omega)
    have hR:=B3P hb hj
    have h1':(i:Int) < 32:=by omega
    have w1:IntKind.wrap .i64 ((j:Int) * 32)=((32 * j:Nat):Int):=by rw [wrap_i64 (by omega) (by omega)];omega
    have a1:D8 256 1 (.c (.p g.length 0)) (.c (.i .i64 ((32 * j + i:Nat):Int)))=some (.c (.p g.length (32 * j + i))):=by rw [T9 (by omega)];simp
    have a2:D8 32 1 (.c (.p (g.length + 2) 0)) (.c (.i .i64 (i:Int)))=some (.c (.p (g.length + 2) i)):=by rw [T9 (by omega)];simp
    have l1:(A1 b)[32 * j + i]? = some (.i .u8 (K5 b j)[i].toNat):=by
      rw [W8,List.getElem?_eq_getElem (by omega)]
      have:(K5 b j)[i]=b[32 * j + i]'(by omega):=by simp [K5]
      rw [this];rfl
    have ho:i < (A1 ((K5 b j).take i ++ zeros (32 - i))).length:=by rw [B1,List.length_append,zeros_length,List.length_take];omega
    have es:(A1 ((K5 b j).take i ++ zeros (32 - i))).set i (.i .u8 (K5 b j)[i].toNat)=A1 ((K5 b j).take (i + 1) ++ zeros (32 - (i + 1))):=by
      rw [A0q]
      refine congrArg A1 ?_
      have h6:((K5 b j).take i).length=i:=by simp;omega
      rw [List.set_append_right _ _ (by omega),h6,Nat.sub_self,List.take_succ_eq_append_getElem (by omega),List.append_assoc]
      refine congrArg ((K5 b j).take i ++ ·) ?_
      rw [show 32 - i=32 - (i + 1) + 1 by omega]
      unfold zeros
      rw [List.replicate_succ,List.set_cons_zero];rfl
    rw [C11]
    simp only [esc,esh,Nat.reduceAdd,Nat.reduceMul,Nat.reduceLT,h1',w1,A0y (show 32 * j + i < 9223372036854775808 by omega),a1,a2,l1,ho,es,E6 (show i + 1 < 9223372036854775808 by omega)]
    exact ih
theorem D3S {b:List UInt8} {j:Nat} {h:A0} (hb:b.length=256) (hj:j < 8):A5f [.a (A1 b),.c (.i .i64 j)] h=some (.a (A1 (K5 b j)),h):=by
  have key:∀ N,32 < N → ∀ g,∃ g',A7m N [.a (A1 b),.c (.i .i64 j)] g=some (.a (A1 (K5 b j)),g'):=by
    intro N hN g
    have c1:¬ (j:Int) < 0:=by omega
    have c2:¬ (8:Int) ≤ j:=by omega
    have hz:(A1 (zeros 32)).length=32:=by rw [B1];exact zeros_length
    have e:=C0N (g:=g) (z:=A1 (zeros 32)) (q:=N) hb hz hj 32 0 N (by omega) (by omega)
    simp only [List.take_zero,List.nil_append,Nat.sub_zero] at e
    rw [C3W,N8]
    generalize zeros 32=zz at *
    exact ⟨_,by simp only [esc,esh,Nat.reduceAdd,Nat.reduceMul,Nat.reduceLT,c1,c2];exact e⟩
  obtain ⟨g',e⟩:=key (h.length + 33) (by omega) (ro h)
  exact C6L e (by simp)
end Go.Proofs.YteckncopbicmcaaGreat
end
section
namespace Go.Proofs.YteckncopbicmcaaGreat
open Go Go.Esc
theorem B3j:(A4 0 0 0 0 (zI 7)).length=11:=rfl
theorem A8H:[Cell.i .i64 0,.i .i64 0,.i .i64 0,.i .i64 0,.i .i64 0,.i .i64 0,.i .i64 0,.i .i64 0,.i .i64 0,.i .i64 0,.i .i64 0]=A4 0 0 0 0 (zI 7):=rfl
theorem B5d:A8 (A4 0 0 0 0 (zI 7)) []=some (A4 0 0 0 0 (zI 7)):=rfl
theorem D3Q {b:List UInt8} {j:Nat} {h:A0} (hb:b.length=256) (hj:j < 8):A5d [.a (A1 b),.c (.i .i64 j)] h=some (.t [.a (W6 (K5 b j)),.c (.b (A0p (K5 b j)))],h):=by
  have key:∀ g,∃ g',A7k 0 [.a (A1 b),.c (.i .i64 j)] g=some (.t [.a (W6 (K5 b j)),.c (.b (A0p (K5 b j)))],g'):=by
    intro g
    have c1:¬ (j:Int) < 0:=by omega
    have c2:¬ (8:Int) ≤ j:=by omega
    have hB:(A1 b).length=256:=by rw [B1,hb]
    have hR:=fun h=>D3S (h:=h) hb hj
    have hC:=fun h=>D0x (b:=K5 b j) (h:=h) (B3P hb hj)
    have hl:=B3j
    have hcl:=B6o (b:=K5 b j)
    rw [C3U,A8H]
    generalize A4 0 0 0 0 (zI 7)=z at *
    exact ⟨_,by simp only [esc,esh,Nat.reduceAdd,Nat.reduceMul,Nat.reduceLT,c1,c2,hB,hR,hC,hl,hcl] <;> rfl⟩
  obtain ⟨g',e⟩:=key (ro h)
  exact C6H e (by simp [B8e])
end Go.Proofs.YteckncopbicmcaaGreat
end
section
namespace Go.Proofs.YteckncopbicmcaaGreat
open Go Go.Esc
def A01 (D:Dev) (n i:Int):List UInt8:=K5 (blk D (A2T D.length n i)) (A2U D.length n i).toNat
def A0W (D:Dev) (n i:Int):List Cell:=bif U1 D.length n i then W6 (A01 D n i) else A4 0 0 0 0 (zI 7)
def kdV (D:Dev) (n i:Int):Int:=bif U1 D.length n i then (bif A0p (A01 D n i) then T8 (A01 D n i) else 0) else 0
theorem B8Y (D:Dev) (n i:Int):∃ l s p d,A0W D n i=A4 (kdV D n i) l s p d ∧ d.length=7:=by
  unfold A0W kdV
  cases U1 D.length n i with
  | false=>exact ⟨0,0,0,zI 7,rfl,M8⟩
  | true =>
    unfold W6
    cases A0p (A01 D n i) with
    | false=>exact ⟨0,0,0,zI 7,rfl,M8⟩
    | true=>exact ⟨_,_,_,_,rfl,R0⟩
theorem C9Y (D:Dev) (n i:Int):F4 (A0W D n i)=true:=by
  obtain ⟨l,s,p,d,e,hd⟩:=B8Y D n i
  rw [e]
  exact C9X (l:=_ :: _ :: _ :: _ :: d)
theorem D39 {b n m i:Int} {f:Cell} {h:A0} (hi:U1 b n i=false):A06 [.a (vwC b n m f),.c (.i .i64 i)] h=some (.a (A4 0 0 0 0 (zI 7)),h):=by
  have key:∀ g,∃ g',A4l 0 [.a (vwC b n m f),.c (.i .i64 i)] g=some (.a (A4 0 0 0 0 (zI 7)),g'):=by
    intro g
    have l3:=A9F (b:=b) (n:=n) (m:=m) (f:=f)
    have hW:=fun h=>B8s (b:=b) (n:=n) (m:=m) (i:=i) (h:=h)
    simp only [hi] at hW
    have hf:=B5d
    have hl:=B3j
    rw [B4q,A8H]
    generalize vwC b n m f=V at *
    generalize A4 0 0 0 0 (zI 7)=z at *
    exact ⟨_,by simp only [esc,esh,Nat.reduceAdd,Nat.reduceMul,Nat.reduceLT,l3,hW,hf,hl] <;> rfl⟩
  obtain ⟨g',e⟩:=key (ro h)
  exact B4Z e rfl
theorem C15 {n m i:Int} {f:Cell} {D:Dev} {h:A0} (hD:okD D) (hv:IsView h f D):A06 [.a (vwC D.length n m f),.c (.i .i64 i)] h=some (.a (A0W D n i),h):=by
  cases hi:U1 D.length n i with
  | false =>
    rw [D39 hi]
    unfold A0W
    rw [hi];rfl
  | true =>
    have key:∀ g,IsView g f D → ∃ g',A4l 0 [.a (vwC D.length n m f),.c (.i .i64 i)] g=some (.a (A0W D n i),g'):=by
      intro g hv
      have l3:=A9F (b:=D.length) (n:=n) (m:=m) (f:=f)
      have l4:=A2S (b:=D.length) (n:=n) (m:=m) (f:=f)
      have hW:=fun h=>B8s (b:=D.length) (n:=n) (m:=m) (i:=i) (h:=h)
      simp only [hi] at hW
      have hf:=B5d
      have hl:=B3j
      have hK:∃ j:Nat,A2U D.length n i=j ∧ j < 8:=by
        refine ⟨(A2U D.length n i).toNat,?_,?_⟩ <;> unfold A2U <;> rw [hi,cond_true] <;> omega
      obtain ⟨j,hj,hj8⟩:=hK
      have hB:=A58 (n:=n) (m:=m) (no:=A2T D.length n i) (h:=g ++ [some (Row.mk (vwC D.length n m f) true),some (Row.mk (A4 0 0 0 0 (zI 7)) true)]) hD (hv.more _)
      have hG:=fun h=>D3Q (b:=blk D (A2T D.length n i)) (j:=j) (h:=h) (A1a hD) hj8
      have er:K5 (blk D (A2T D.length n i)) j=A01 D n i:=by unfold A01;rw [hj,Int.toNat_natCast]
      simp only [er] at hG
      simp only [hj] at hW
      have hcl:=B6o (b:=A01 D n i)
      have ei:A0W D n i=W6 (A01 D n i):=by unfold A0W;rw [hi];rfl
      rw [B4q,A8H,ei]
      generalize vwC D.length n m f=V at *
      generalize A4 0 0 0 0 (zI 7)=z at *
      generalize W6 (A01 D n i)=y at *
      exact ⟨_,by simp only [esc,esh,Nat.reduceAdd,Nat.reduceMul,Nat.reduceLT,l3,l4,hW,hB,hG,hf,hl,hcl] <;> rfl⟩
    obtain ⟨g',e⟩:=key (ro h) hv.ro
    exact B4Z e (C9Y D n i)
end Go.Proofs.YteckncopbicmcaaGreat
end
noncomputable section
namespace Go.Proofs.YteckncopbicmcaaGreat
open Go Go.Esc
set_option maxRecDepth 100000
def A_el24_small:AFn:=⟨.seq [] (.ops [aO 0 (.nilrow 256)]) (.seq [1] (.ops [aO 4 (.mkSl 256 (List.replicate 256 (.i .u8 0)) (.v (.c (.i .i64 16))) (.v (.c (.i .i64 16)))),aO 1 (.mv (.t 4))]) (.seq [1] (.ops [aO 6 (.mv (.t 1)),aO 7 (.build ([.i .i64 0,.i .i64 0,.i .u64 0]) [(0,1,(.v (.c (.i .i64 16)))),(1,1,(.v (.c (.i .i64 8))))]),aO 8 (.call 137 [(.t 7)]),aO 5 (.mv (.t 8)),aO 9 (.ext (.t 5) 0),aO 10 (.ext (.t 5) 1),aO 11 (.iAddrL 256 (.t 6) (.v (.c (.i .i64 0)))),aN (.storeN 256 (.t 11) (.t 9))]) (.seq [1,2] (.ops [aO 12 (.build ([.i .i64 0,.i .i64 0,.i .i64 0,.i .i64 0,.i .i64 0,.i .i64 0,.i .i64 0,.i .i64 0,.i .i64 0,.i .i64 0,.i .i64 0]) [(0,1,(.v (.c (.i .i64 2)))),(1,1,(.v (.c (.i .i64 1)))),(3,1,(.v (.c (.i .i64 1))))]),aO 2 (.alloc ([.i .i64 0,.i .i64 0,.i .i64 0,.i .i64 0,.i .i64 0,.i .i64 0,.i .i64 0,.i .i64 0,.i .i64 0,.i .i64 0,.i .i64 0])),aN (.storeN 11 (.t 2) (.t 12))]) (.seq [1,2] (.ops [aO 13 (.fAddr (.t 2) 4),aO 14 (.iAddrA 6 1 (.t 13) (.v (.c (.i .i64 0)))),aN (.store1 (.t 14) (.v (.c (.i .i64 5))))]) (.seq [1] (.drawS 0 [aO 16 (.mv (.t 1)),aO 17 (.mv (.t 1)),aO 18 (.iAddrL 256 (.t 17) (.v (.c (.i .i64 2)))),aO 19 (.loadN 256 (.t 18)),aO 20 (.loadN 11 (.t 2)),aO 21 (.call 115 [(.t 19),(.v (.c (.i .i64 0))),(.t 20)]),aO 15 (.mv (.t 21)),aO 22 (.ext (.t 15) 0),aO 23 (.ext (.t 15) 1),aO 24 (.iAddrL 256 (.t 16) (.v (.c (.i .i64 2))))] (aN (.storeN 256 (.t 24) (.t 22))) [] []) (.seq [1,3] (.ops [aO 25 (.build ([.i .i64 0] ++ List.replicate 32 (.i .i64 0)) [(0,1,(.v (.c (.i .i64 1))))]),aO 3 (.alloc ([.i .i64 0] ++ List.replicate 32 (.i .i64 0))),aN (.storeN 33 (.t 3) (.t 25))]) (.seq [1,3] (.ops [aO 26 (.fAddr (.t 3) 1),aO 27 (.iAddrA 32 1 (.t 26) (.v (.c (.i .i64 0)))),aN (.store1 (.t 27) (.v (.c (.i .i64 6)))),aO 28 (.fAddr (.t 3) 1),aO 29 (.iAddrA 32 1 (.t 28) (.v (.c (.i .i64 1)))),aN (.store1 (.t 29) (.v (.c (.i .i64 7))))]) (.seq [1] (.ops [aO 31 (.mv (.t 1)),aO 32 (.loadN 33 (.t 3)),aO 33 (.call 138 [(.t 32)]),aO 30 (.mv (.t 33)),aO 34 (.ext (.t 30) 0),aO 35 (.ext (.t 30) 1),aO 36 (.iAddrL 256 (.t 31) (.v (.c (.i .i64 5)))),aN (.storeN 256 (.t 36) (.t 34))]) (.seq [1] (.ops [aO 38 (.mv (.t 1)),aO 39 (.build ([.s [],.i .i64 0]) [(0,1,(.v (.c (.s [97])))),(1,1,(.v (.c (.i .i64 2))))]),aO 40 (.build ([.s [],.i .i64 0]) [(0,1,(.v (.c (.s [98])))),(1,1,(.v (.c (.i .i64 3))))]),aO 41 (.buildSl 2 2 (([.s [],.i .i64 0]) ++ ([.s [],.i .i64 0])) [(0,2,(.t 39)),(2,2,(.t 40))]),aO 42 (.call 139 [(.t 41)]),aO 37 (.mv (.t 42)),aO 43 (.ext (.t 37) 0),aO 44 (.ext (.t 37) 1),aO 45 (.iAddrL 256 (.t 38) (.v (.c (.i .i64 6)))),aN (.storeN 256 (.t 45) (.t 43))]) (.seq [1] (.ops [aO 47 (.mv (.t 1)),aO 48 (.build ([.s [],.i .i64 0]) [(0,1,(.v (.c (.s [98])))),(1,1,(.v (.c (.i .i64 4))))]),aO 49 (.buildSl 2 1 (([.s [],.i .i64 0])) [(0,2,(.t 48))]),aO 50 (.call 139 [(.t 49)]),aO 46 (.mv (.t 50)),aO 51 (.ext (.t 46) 0),aO 52 (.ext (.t 46) 1),aO 53 (.iAddrL 256 (.t 47) (.v (.c (.i .i64 7)))),aN (.storeN 256 (.t 53) (.t 51))]) (.seq [0] (.ops [aO 54 (.mv (.t 1)),aO 0 (.mv (.t 54))]) .ret))))))))))),[.tmp 0]⟩
def A9V:B3:=A7 137 A2h (A7 115 A25 (A7 138 A18 (A7 139 A21 B8)))
def A6p (n:Nat) (args:List Val) (h:A0):A6:=ax A9V n A_el24_small.code A_el24_small.fin (params 0 args) h
theorem C2z (n:Nat) (h:A0):A6p n [] h=bnd (U9 (.c (.i .i64 16)) (.c (.i .i64 16))) fun n1=>bnd (A8 ([.i .i64 0,.i .i64 0,.i .u64 0]) [(0,1,.c (.i .i64 16)),(1,1,.c (.i .i64 8))]) fun c2=>bnd (A2h [(.a c2)] ((h ++ [some (Row.mk ([]) true)]) ++ [some (Row.mk (rows (List.replicate 256 (.i .u8 0)) n1) true)])) fun p3=>bnd (C5 p3.1 0) fun v4=>bnd (C5 p3.1 1) fun v5=>bnd (B9 256 (.c (.sl (h ++ [some (Row.mk ([]) true)]).length 0 n1 256)) (.c (.i .i64 0))) fun v6=>bnd (B6 p3.2 256 v6 v4) fun h7=>bnd (A8 ([.i .i64 0,.i .i64 0,.i .i64 0,.i .i64 0,.i .i64 0,.i .i64 0,.i .i64 0,.i .i64 0,.i .i64 0,.i .i64 0,.i .i64 0]) [(0,1,.c (.i .i64 2)),(1,1,.c (.i .i64 1)),(3,1,.c (.i .i64 1))]) fun c8=>bnd (B6 (h7 ++ [some (Row.mk ([.i .i64 0,.i .i64 0,.i .i64 0,.i .i64 0,.i .i64 0,.i .i64 0,.i .i64 0,.i .i64 0,.i .i64 0,.i .i64 0,.i .i64 0]) true)]) 11 (.c (.p h7.length 0)) (.a c8)) fun h9=>bnd (B7 (.c (.p h7.length 0)) 4) fun v10=>bnd (D8 6 1 v10 (.c (.i .i64 0))) fun v11=>bnd (F9 h9 v11 (.c (.i .i64 5))) fun h12=>bnd (B9 256 (.c (.sl (h ++ [some (Row.mk ([]) true)]).length 0 n1 256)) (.c (.i .i64 2))) fun v13=>bnd (A3 h12 256 v13) fun v14=>bnd (A3 h12 11 (.c (.p h7.length 0))) fun v15=>bnd (quiet (h12 ++ []) (A25 [v14,.c (.i .i64 0),v15] (h12 ++ []))) fun p16=>bnd (C5 p16.1 0) fun v17=>bnd (C5 p16.1 1) fun v18=>bnd (B9 256 (.c (.sl (h ++ [some (Row.mk ([]) true)]).length 0 n1 256)) (.c (.i .i64 2))) fun v19=>bnd (B6 p16.2 256 v19 v17) fun h20=>bnd (A8 ([.i .i64 0] ++ List.replicate 32 (.i .i64 0)) [(0,1,.c (.i .i64 1))]) fun c21=>bnd (B6 (h20 ++ [some (Row.mk ([.i .i64 0] ++ List.replicate 32 (.i .i64 0)) true)]) 33 (.c (.p h20.length 0)) (.a c21)) fun h22=>bnd (B7 (.c (.p h20.length 0)) 1) fun v23=>bnd (D8 32 1 v23 (.c (.i .i64 0))) fun v24=>bnd (F9 h22 v24 (.c (.i .i64 6))) fun h25=>bnd (B7 (.c (.p h20.length 0)) 1) fun v26=>bnd (D8 32 1 v26 (.c (.i .i64 1))) fun v27=>bnd (F9 h25 v27 (.c (.i .i64 7))) fun h28=>bnd (A3 h28 33 (.c (.p h20.length 0))) fun v29=>bnd (A18 [v29] h28) fun p30=>bnd (C5 p30.1 0) fun v31=>bnd (C5 p30.1 1) fun v32=>bnd (B9 256 (.c (.sl (h ++ [some (Row.mk ([]) true)]).length 0 n1 256)) (.c (.i .i64 5))) fun v33=>bnd (B6 p30.2 256 v33 v31) fun h34=>bnd (A8 ([.s [],.i .i64 0]) [(0,1,.c (.s [97])),(1,1,.c (.i .i64 2))]) fun c35=>bnd (A8 ([.s [],.i .i64 0]) [(0,1,.c (.s [98])),(1,1,.c (.i .i64 3))]) fun c36=>bnd (A8 (([.s [],.i .i64 0]) ++ ([.s [],.i .i64 0])) [(0,2,(.a c35)),(2,2,(.a c36))]) fun c37=>bnd (A21 [(.c (.sl h34.length 0 2 2))] (h34 ++ [some (Row.mk (c37) true)])) fun p38=>bnd (C5 p38.1 0) fun v39=>bnd (C5 p38.1 1) fun v40=>bnd (B9 256 (.c (.sl (h ++ [some (Row.mk ([]) true)]).length 0 n1 256)) (.c (.i .i64 6))) fun v41=>bnd (B6 p38.2 256 v41 v39) fun h42=>bnd (A8 ([.s [],.i .i64 0]) [(0,1,.c (.s [98])),(1,1,.c (.i .i64 4))]) fun c43=>bnd (A8 (([.s [],.i .i64 0])) [(0,2,(.a c43))]) fun c44=>bnd (A21 [(.c (.sl h42.length 0 1 2))] (h42 ++ [some (Row.mk (c44) true)])) fun p45=>bnd (C5 p45.1 0) fun v46=>bnd (C5 p45.1 1) fun v47=>bnd (B9 256 (.c (.sl (h ++ [some (Row.mk ([]) true)]).length 0 n1 256)) (.c (.i .i64 7))) fun v48=>bnd (B6 p45.2 256 v48 v46) fun h49=>some ((.c (.sl (h ++ [some (Row.mk ([]) true)]).length 0 n1 256)),h49):=by kernel_rfl
theorem K_el24_small:FnK Tryz.prog 65 A_el24_small A9V A6p:=.mk' (A9 B4X (A9 C6O (A9 B4P (A9 C37 C1)))) Tryz.func65 (by kernel_rfl) (fun _ _ _=>C0)
def A4x:Fun:=tidy (Lim A_el24_small A9V)
theorem C4B:SOk Tryz.prog 65 A4x:=K_el24_small.sok
theorem C4C:N9 A6p A4x:=K_el24_small.out
def A_el24_works:AFn:=⟨.seq [] (.ops [aO 0 (.mv (.v (.c (.b false))))]) (.seq [1,2] (.ops [aO 9 (.call 65 []),aO 10 (.call 16 [(.t 9)]),aO 8 (.mv (.t 10)),aO 11 (.ext (.t 8) 0),aO 12 (.ext (.t 8) 1),aO 1 (.alloc ([.i .i64 0,.i .i64 0,.i .u64 0,.nf])),aN (.storeN 4 (.t 1) (.t 11)),aO 2 (.mv (.t 12))]) (.seq [1,2,3] (.ops [aO 13 (.loadN 4 (.t 1)),aO 14 (.call 19 [(.t 13),(.v (.c (.i .i64 1)))]),aO 3 (.alloc ([.i .i64 0,.i .i64 0,.i .i64 0,.i .i64 0,.i .i64 0,.i .i64 0,.i .i64 0,.i .i64 0,.i .i64 0,.i .i64 0,.i .i64 0])),aN (.storeN 11 (.t 3) (.t 14))]) (.seq [1,2,3,4,5] (.ops [aO 16 (.loadN 4 (.t 1)),aO 17 (.loadN 11 (.t 3)),aO 18 (.call 20 [(.t 16),(.t 17),(.v (.c (.s [98])))]),aO 15 (.mv (.t 18)),aO 19 (.ext (.t 15) 0),aO 20 (.ext (.t 15) 1),aO 4 (.alloc ([.i .i64 0,.i .i64 0,.i .i64 0])),aN (.storeN 3 (.t 4) (.t 19)),aO 5 (.mv (.t 20))]) (.seq [1,2,3,4,5,6] (.ops [aO 21 (.loadN 4 (.t 1)),aO 22 (.loadN 11 (.t 3)),aO 23 (.call 28 [(.t 21),(.t 22)]),aO 6 (.mv (.t 23))]) (.seq [1,2,4,5,6,7] (.ops [aO 24 (.loadN 4 (.t 1)),aO 25 (.loadN 11 (.t 3)),aO 26 (.call 26 [(.t 24),(.t 25)]),aO 7 (.mv (.t 26))]) (.seq [0] (.ops [aO 27 (.mv (.t 2)),aO 28 (.bin .eql (.t 27) (.v (.c (.i .i64 0)))),aO 29 (.mv (.t 28)),aG 30 29 true (.mv (.t 5)),aO 31 (.pick (.t 29) (.t 30) (.v (.c (.b false)))),aO 32 (.mv (.t 31)),aG 33 32 true (.loadN 3 (.t 4)),aG 34 32 true (.build ([.i .i64 0,.i .i64 0,.i .i64 0]) [(0,1,(.v (.c (.i .i64 7)))),(1,1,(.v (.c (.i .i64 0)))),(2,1,(.v (.c (.i .i64 4))))]),aG 35 32 true (.eqA false ([.i .i64,.i .i64,.i .i64]) (.t 33) (.t 34)),aO 36 (.pick (.t 32) (.t 35) (.v (.c (.b false)))),aO 37 (.mv (.t 36)),aG 38 37 true (.mv (.t 6)),aG 39 37 true (.len (.t 38)),aG 40 37 true (.bin .eql (.t 39) (.v (.c (.i .i64 2)))),aO 41 (.pick (.t 37) (.t 40) (.v (.c (.b false)))),aO 42 (.mv (.t 41)),aG 43 42 true (.mv (.t 6)),aG 44 42 true (.iAddrL 2 (.t 43) (.v (.c (.i .i64 0)))),aG 45 42 true (.fAddr (.t 44) 1),aG 46 42 true (.load1 (.t 45)),aG 47 42 true (.bin .eql (.t 46) (.v (.c (.i .i64 2)))),aO 48 (.pick (.t 42) (.t 47) (.v (.c (.b false)))),aO 49 (.mv (.t 48)),aG 50 49 true (.mv (.t 7)),aG 51 49 true (.len (.t 50)),aG 52 49 true (.bin .eql (.t 51) (.v (.c (.i .i64 1)))),aO 53 (.pick (.t 49) (.t 52) (.v (.c (.b false)))),aO 54 (.mv (.t 53)),aG 55 54 true (.mv (.t 7)),aG 56 54 true (.iAddrL 3 (.t 55) (.v (.c (.i .i64 0)))),aG 57 54 true (.fAddr (.t 56) 0),aG 58 54 true (.load1 (.t 57)),aG 59 54 true (.bin .eql (.t 58) (.v (.c (.i .i64 6)))),aO 60 (.pick (.t 54) (.t 59) (.v (.c (.b false)))),aO 61 (.mv (.t 60)),aG 62 61 true (.loadN 4 (.t 1)),aG 63 61 true (.build ([.i .i64 0,.i .i64 0,.i .i64 0,.i .i64 0,.i .i64 0,.i .i64 0,.i .i64 0,.i .i64 0,.i .i64 0,.i .i64 0,.i .i64 0]) [(0,1,(.v (.c (.i .i64 2))))]),aG 64 61 true (.call 29 [(.t 62),(.t 63)]),aO 65 (.pick (.t 61) (.t 64) (.v (.c (.b false)))),aO 0 (.mv (.t 65))]) .ret)))))),[.tmp 0]⟩
def A9W:B3:=A7 65 A4x (A7 16 A0k (A7 19 A06 (A7 20 A0F (A7 28 A0E (A7 26 A0G (A7 29 A1U B8))))))
def A6q (n:Nat) (args:List Val) (h:A0):A6:=ax A9W n A_el24_works.code A_el24_works.fin (params 0 args) h
theorem C2A (n:Nat) (h:A0):A6q n [] h=bnd (A4x [] h) fun p1=>bnd (A0k [p1.1] p1.2) fun p2=>bnd (C5 p2.1 0) fun v3=>bnd (C5 p2.1 1) fun v4=>bnd (B6 (p2.2 ++ [some (Row.mk ([.i .i64 0,.i .i64 0,.i .u64 0,.nf]) true)]) 4 (.c (.p p2.2.length 0)) v3) fun h5=>bnd (A3 h5 4 (.c (.p p2.2.length 0))) fun v6=>bnd (A06 [v6,.c (.i .i64 1)] h5) fun p7=>bnd (B6 (p7.2 ++ [some (Row.mk ([.i .i64 0,.i .i64 0,.i .i64 0,.i .i64 0,.i .i64 0,.i .i64 0,.i .i64 0,.i .i64 0,.i .i64 0,.i .i64 0,.i .i64 0]) true)]) 11 (.c (.p p7.2.length 0)) p7.1) fun h8=>bnd (A3 h8 4 (.c (.p p2.2.length 0))) fun v9=>bnd (A3 h8 11 (.c (.p p7.2.length 0))) fun v10=>bnd (A0F [v9,v10,.c (.s [98])] h8) fun p11=>bnd (C5 p11.1 0) fun v12=>bnd (C5 p11.1 1) fun v13=>bnd (B6 (p11.2 ++ [some (Row.mk ([.i .i64 0,.i .i64 0,.i .i64 0]) true)]) 3 (.c (.p p11.2.length 0)) v12) fun h14=>bnd (A3 h14 4 (.c (.p p2.2.length 0))) fun v15=>bnd (A3 h14 11 (.c (.p p7.2.length 0))) fun v16=>bnd (A0E [v15,v16] h14) fun p17=>bnd (A3 p17.2 4 (.c (.p p2.2.length 0))) fun v18=>bnd (A3 p17.2 11 (.c (.p p7.2.length 0))) fun v19=>bnd (A0G [v18,v19] p17.2) fun p20=>bnd (A2 .eql v4 (.c (.i .i64 0))) fun v21=>bnd (gd v21 true (some (v13,p20.2)) (some (.no,p20.2))) fun p22=>bnd (C4 v21 p22.1 (.c (.b false))) fun v23=>bnd (gd v23 true (bnd (A3 p22.2 3 (.c (.p p11.2.length 0))) fun v24=>some (v24,p22.2)) (some (.no,p22.2))) fun p25=>bnd (gd v23 true (bnd (A8 ([.i .i64 0,.i .i64 0,.i .i64 0]) [(0,1,.c (.i .i64 7)),(1,1,.c (.i .i64 0)),(2,1,.c (.i .i64 4))]) fun c26=>some ((.a c26),p25.2)) (some (.no,p25.2))) fun p27=>bnd (gd v23 true (bnd (aeq false ([.i .i64,.i .i64,.i .i64]) p25.1 p27.1) fun v28=>some (v28,p27.2)) (some (.no,p27.2))) fun p29=>bnd (C4 v23 p29.1 (.c (.b false))) fun v30=>bnd (gd v30 true (some (p17.1,p29.2)) (some (.no,p29.2))) fun p31=>bnd (gd v30 true (bnd (E3 p31.1) fun v32=>some (v32,p31.2)) (some (.no,p31.2))) fun p33=>bnd (gd v30 true (bnd (A2 .eql p33.1 (.c (.i .i64 2))) fun v34=>some (v34,p33.2)) (some (.no,p33.2))) fun p35=>bnd (C4 v30 p35.1 (.c (.b false))) fun v36=>bnd (gd v36 true (some (p17.1,p35.2)) (some (.no,p35.2))) fun p37=>bnd (gd v36 true (bnd (B9 2 p37.1 (.c (.i .i64 0))) fun v38=>some (v38,p37.2)) (some (.no,p37.2))) fun p39=>bnd (gd v36 true (bnd (B7 p39.1 1) fun v40=>some (v40,p39.2)) (some (.no,p39.2))) fun p41=>bnd (gd v36 true (bnd (A5 p41.2 p41.1) fun v42=>some (v42,p41.2)) (some (.no,p41.2))) fun p43=>bnd (gd v36 true (bnd (A2 .eql p43.1 (.c (.i .i64 2))) fun v44=>some (v44,p43.2)) (some (.no,p43.2))) fun p45=>bnd (C4 v36 p45.1 (.c (.b false))) fun v46=>bnd (gd v46 true (some (p20.1,p45.2)) (some (.no,p45.2))) fun p47=>bnd (gd v46 true (bnd (E3 p47.1) fun v48=>some (v48,p47.2)) (some (.no,p47.2))) fun p49=>bnd (gd v46 true (bnd (A2 .eql p49.1 (.c (.i .i64 1))) fun v50=>some (v50,p49.2)) (some (.no,p49.2))) fun p51=>bnd (C4 v46 p51.1 (.c (.b false))) fun v52=>bnd (gd v52 true (some (p20.1,p51.2)) (some (.no,p51.2))) fun p53=>bnd (gd v52 true (bnd (B9 3 p53.1 (.c (.i .i64 0))) fun v54=>some (v54,p53.2)) (some (.no,p53.2))) fun p55=>bnd (gd v52 true (bnd (B7 p55.1 0) fun v56=>some (v56,p55.2)) (some (.no,p55.2))) fun p57=>bnd (gd v52 true (bnd (A5 p57.2 p57.1) fun v58=>some (v58,p57.2)) (some (.no,p57.2))) fun p59=>bnd (gd v52 true (bnd (A2 .eql p59.1 (.c (.i .i64 6))) fun v60=>some (v60,p59.2)) (some (.no,p59.2))) fun p61=>bnd (C4 v52 p61.1 (.c (.b false))) fun v62=>bnd (gd v62 true (bnd (A3 p61.2 4 (.c (.p p2.2.length 0))) fun v63=>some (v63,p61.2)) (some (.no,p61.2))) fun p64=>bnd (gd v62 true (bnd (A8 ([.i .i64 0,.i .i64 0,.i .i64 0,.i .i64 0,.i .i64 0,.i .i64 0,.i .i64 0,.i .i64 0,.i .i64 0,.i .i64 0,.i .i64 0]) [(0,1,.c (.i .i64 2))]) fun c65=>some ((.a c65),p64.2)) (some (.no,p64.2))) fun p66=>bnd (gd v62 true (bnd (A1U [p64.1,p66.1] p66.2) fun p67=>some (p67.1,p67.2)) (some (.no,p66.2))) fun p68=>bnd (C4 v62 p68.1 (.c (.b false))) fun v69=>some (v69,p68.2):=by kernel_rfl
theorem K_el24_works:FnK Tryz.prog 15 A_el24_works A9W A6q:=.mk' (A9 C4B (A9 B4Y (A9 B40 (A9 B1p (A9 B1o (A9 B4A (A9 B4y C1))))))) Tryz.func15 (by kernel_rfl) (fun _ _ _=>C0)
def A1V:Fun:=tidy (Lim A_el24_works A9W)
theorem C4E:SOk Tryz.prog 15 A1V:=K_el24_works.sok
theorem C4D:D1 A6q A1V:=K_el24_works.flat
end Go.Proofs.YteckncopbicmcaaGreat
end
section
namespace Go.Proofs.YteckncopbicmcaaGreat
open Go Go.Esc
def d24:List Int:=[5,0,0,0,0,0,0]
def ino24:List UInt8:=D3 (zeros 256) (32 * 0) (K9 2 1 0 1 d24)
def idx24:List UInt8:=J9 1 (6 :: 7 :: zI 30)
def A7H:List UInt8:=W9 [([97],2),([98],3)]
def A7I:List UInt8:=W9 [([98],4)]
def D24a:Dev:=(List.replicate 16 (zeros 256)).set 0 (R4 16 8 0)
def D24b:Dev:=D24a.set 2 ino24
def D24c:Dev:=D24b.set 5 idx24
def D24d:Dev:=D24c.set 6 A7H
def D24:Dev:=D24d.set 7 A7I
theorem B8W:ino24.length=256:=by decide +kernel
theorem B8A:idx24.length=256:=A5C rfl
theorem okD24a:okD D24a:=(C0q 16).set A1D
theorem okD24b:okD D24b:=okD24a.set B8W
theorem okD24c:okD D24c:=okD24b.set B8A
theorem okD24d:okD D24d:=okD24c.set A88
theorem A1x:okD D24:=okD24d.set A88
theorem A8V:D24a.length=16:=by unfold D24a;rw [List.length_set,List.length_replicate]
theorem B9s:D24b.length=16:=by unfold D24b;rw [List.length_set,A8V]
theorem B9t:D24c.length=16:=by unfold D24c;rw [List.length_set,B9s]
theorem B9u:D24d.length=16:=by unfold D24d;rw [List.length_set,B9t]
theorem B9r:D24.length=16:=by unfold D24;rw [List.length_set,B9u]
theorem C8d:T5 D24=true:=by decide +kernel
theorem C8g:A1g D24=8:=by decide +kernel
theorem C8f:A1f D24=0:=by decide +kernel
theorem D0r:A0W D24 8 1=A4 2 1 0 1 d24:=by decide +kernel
theorem D01:Y3 D24 8 2 d24 [98]=some (7,0,4):=by decide +kernel
theorem D0Y:N5 D24 8 2 d24=[([97],2),([98],4)]:=by decide +kernel
theorem D3N:N7 D24 8 2 d24 (E2 D24 8 2 d24)=[(6,1,3)]:=by decide +kernel
theorem C8O:N5 D24 8 2 (zI 7)=[]:=by decide +kernel
theorem A53 {g:A0} {D D':Dev} {i q:Nat} {b:List UInt8} {l:List (Option Row)} (hD:okD D) (hb:b.length=256) (hi:i < D.length) (hq:q=i * 256) (he:D.set i b=D') :
    B6 (g ++ some (Row.mk (C6 D) true) :: l) 256 (.c (.p g.length q)) (.a (A1 b))=some (g ++ some (Row.mk (C6 D') true) :: l):=by
  subst hq;subst he
  have s1:=D3I (D:=D) (i:=i) hD hb hi
  rw [T4]
  simp only [List.getElem?_cons_zero,Option.join_some,s1,B9H,List.set_cons_zero]
set_option maxHeartbeats 2000000 in
theorem D3D (h:A0):A4x [] h=some (.c (.sl h.length 0 16 256),h ++ [some ⟨C6 D24,true⟩]):=by
  have key:∀ g,∃ v g',A6p 0 [] g=some (v,g') ∧ Out g.length g' v 256 16 (C6 D24):=by
    intro g
    obtain ⟨G,hG⟩:∃ G,G=g ++ [some (Row.mk [] true)]:=⟨_,rfl⟩
    have lG:G.length=g.length + 1:=by rw [hG];simp
    have mk:U9 (.c (.i .i64 16)) (.c (.i .i64 16))=some 16:=rfl
    have ef1:A8 [Cell.i .i64 0,.i .i64 0,.i .u64 0] [(0,1,.c (.i .i64 16)),(1,1,.c (.i .i64 8))]=some (C2 16 8 0):=rfl
    have hp:=fun h=>C1Y (b:=16) (n:=8) (m:=0) (h:=h) (by omega) (by omega)
    have hm:I0 16 8=true:=by decide
    simp only [hm,cond_true] at hp
    have a0:B9 256 (.c (.sl G.length 0 16 256)) (.c (.i .i64 0))=some (.c (.p G.length 0)):=rfl
    have a2:B9 256 (.c (.sl G.length 0 16 256)) (.c (.i .i64 2))=some (.c (.p G.length 512)):=rfl
    have a5:B9 256 (.c (.sl G.length 0 16 256)) (.c (.i .i64 5))=some (.c (.p G.length 1280)):=rfl
    have a6:B9 256 (.c (.sl G.length 0 16 256)) (.c (.i .i64 6))=some (.c (.p G.length 1536)):=rfl
    have a7:B9 256 (.c (.sl G.length 0 16 256)) (.c (.i .i64 7))=some (.c (.p G.length 1792)):=rfl
    have s0:=A53 (g:=G) (D:=List.replicate 16 (zeros 256)) (i:=0) (q:=0) (l:=[]) (C0q 16) (A1D (b:=16) (n:=8) (m:=0)) (by simp) rfl (show _=D24a from rfl)
    have ef2:A8 [Cell.i .i64 0,.i .i64 0,.i .i64 0,.i .i64 0,.i .i64 0,.i .i64 0,.i .i64 0,.i .i64 0,.i .i64 0,.i .i64 0,.i .i64 0] [(0,1,.c (.i .i64 2)),(1,1,.c (.i .i64 1)),(3,1,.c (.i .i64 1))]=some (A4 2 1 0 1 (zI 7)):=rfl
    have r2:B6 (G ++ [some (Row.mk (C6 D24a) true),some (Row.mk [Cell.i .i64 0,.i .i64 0,.i .i64 0,.i .i64 0,.i .i64 0,.i .i64 0,.i .i64 0,.i .i64 0,.i .i64 0,.i .i64 0,.i .i64 0] true)]) 11 (.c (.p (G.length + 1) 0)) (.a (A4 2 1 0 1 (zI 7)))=some (G ++ [some (Row.mk (C6 D24a) true),some (Row.mk (A4 2 1 0 1 (zI 7)) true)]):=by rw [A0R];rfl
    have fa4:∀ q,B7 (.c (.p q 0)) 4=some (.c (.p q 4)):=fun q=>by simp [B7]
    have ad:∀ q,D8 6 1 (.c (.p q 4)) (.c (.i .i64 0))=some (.c (.p q 4)):=fun q=>rfl
    have r3:F9 (G ++ [some (Row.mk (C6 D24a) true),some (Row.mk (A4 2 1 0 1 (zI 7)) true)]) (.c (.p (G.length + 1) 4)) (.c (.i .i64 5))=some (G ++ [some (Row.mk (C6 D24a) true),some (Row.mk (A4 2 1 0 1 d24) true)]):=by rw [A3d];rfl
    have l2:A3 (G ++ [some (Row.mk (C6 D24a) true),some (Row.mk (A4 2 1 0 1 d24) true)]) 256 (.c (.p G.length 512))=some (.a (A1 (zeros 256))):=by
      rw [T1]
      have hi:2 < D24a.length:=by rw [A8V];omega
      have hc:=A0U okD24a hi
      have e2:D24a[2]=zeros 256:=rfl
      simp only [List.getElem?_cons_zero,Option.join_some,ldN,Option.bind_some]
      rw [if_pos ⟨by rw [X7 okD24a,A8V];omega,by simp⟩,← e2,← hc]
    have l11:A3 (G ++ [some (Row.mk (C6 D24a) true),some (Row.mk (A4 2 1 0 1 d24) true)]) 11 (.c (.p (G.length + 1) 0))=some (.a (A4 2 1 0 1 d24)):=by rw [X4];rfl
    have hT:∀ h,A25 [.a (A1 (zeros 256)),.c (.i .i64 0),.a (A4 2 1 0 1 d24)] h=some (.t [.a (A1 ino24),.c (.i .i64 0)],h):=fun h=>D3V (j:=0) (k:=2) (l:=1) (s:=0) (p:=1) (d:=d24) (b:=zeros 256) (h:=h) zeros_length rfl (by omega) (by decide)
    have s2:=A53 (g:=G) (D:=D24a) (i:=2) (q:=512) (l:=[some (Row.mk (A4 2 1 0 1 d24) true)]) okD24a B8W (by rw [A8V];omega) rfl (show _=D24b from rfl)
    have ez:[Cell.i .i64 0] ++ List.replicate 32 (Cell.i .i64 0)=encI (0 :: zI 32):=X1
    have ef3:A8 (encI (0 :: zI 32)) [(0,1,.c (.i .i64 1))]=some (encI (1 :: zI 32)):=rfl
    have r4:B6 (G ++ [some (Row.mk (C6 D24b) true),some (Row.mk (A4 2 1 0 1 d24) true),some (Row.mk (encI (0 :: zI 32)) true)]) 33 (.c (.p (G.length + 2) 0)) (.a (encI (1 :: zI 32)))=some (G ++ [some (Row.mk (C6 D24b) true),some (Row.mk (A4 2 1 0 1 d24) true),some (Row.mk (encI (1 :: zI 32)) true)]):=by rw [A0R];rfl
    have fa1:∀ q,B7 (.c (.p q 0)) 1=some (.c (.p q 1)):=fun q=>by simp [B7]
    have ad0:∀ q,D8 32 1 (.c (.p q 1)) (.c (.i .i64 0))=some (.c (.p q 1)):=fun q=>rfl
    have ad1:∀ q,D8 32 1 (.c (.p q 1)) (.c (.i .i64 1))=some (.c (.p q 2)):=fun q=>rfl
    have r5:F9 (G ++ [some (Row.mk (C6 D24b) true),some (Row.mk (A4 2 1 0 1 d24) true),some (Row.mk (encI (1 :: zI 32)) true)]) (.c (.p (G.length + 2) 1)) (.c (.i .i64 6))=some (G ++ [some (Row.mk (C6 D24b) true),some (Row.mk (A4 2 1 0 1 d24) true),some (Row.mk (encI (1 :: 6 :: zI 31)) true)]):=by rw [A3d];rfl
    have r6:F9 (G ++ [some (Row.mk (C6 D24b) true),some (Row.mk (A4 2 1 0 1 d24) true),some (Row.mk (encI (1 :: 6 :: zI 31)) true)]) (.c (.p (G.length + 2) 2)) (.c (.i .i64 7))=some (G ++ [some (Row.mk (C6 D24b) true),some (Row.mk (A4 2 1 0 1 d24) true),some (Row.mk (encI (1 :: 6 :: 7 :: zI 30)) true)]):=by rw [A3d];rfl
    have l33:A3 (G ++ [some (Row.mk (C6 D24b) true),some (Row.mk (A4 2 1 0 1 d24) true),some (Row.mk (encI (1 :: 6 :: 7 :: zI 30)) true)]) 33 (.c (.p (G.length + 2) 0))=some (.a (encI (1 :: 6 :: 7 :: zI 30))):=by rw [X4];rfl
    have hX:=fun h=>B8Q (d:=1) (t:=6 :: 7 :: zI 30) (h:=h) rfl
    have hok:okX 1 (6 :: 7 :: zI 30)=true:=by decide +kernel
    rw [hok,cond_true,cond_true] at hX
    have eX:J9 1 (6 :: 7 :: zI 30)=idx24:=rfl
    rw [eX] at hX
    have s5:=A53 (g:=G) (D:=D24b) (i:=5) (q:=1280) (l:=[some (Row.mk (A4 2 1 0 1 d24) true),some (Row.mk (encI (1 :: 6 :: 7 :: zI 30)) true)]) okD24b B8A (by rw [B9s];omega) rfl (show _=D24c from rfl)
    have ef4:A8 [Cell.s [],.i .i64 0] [(0,1,.c (.s [97])),(1,1,.c (.i .i64 2))]=some [.s [97],.i .i64 2]:=rfl
    have ef5:A8 [Cell.s [],.i .i64 0] [(0,1,.c (.s [98])),(1,1,.c (.i .i64 3))]=some [.s [98],.i .i64 3]:=rfl
    have ef6:A8 [Cell.s [],.i .i64 0,.s [],.i .i64 0] [(0,2,.a [.s [97],.i .i64 2]),(2,2,.a [.s [98],.i .i64 3])]=some (D5 [([97],2),([98],3)]):=rfl
    have ef7:A8 [Cell.s [],.i .i64 0] [(0,1,.c (.s [98])),(1,1,.c (.i .i64 4))]=some [.s [98],.i .i64 4]:=rfl
    have ef8:A8 [Cell.s [],.i .i64 0] [(0,2,.a [.s [98],.i .i64 4])]=some (D5 [([98],4)]):=rfl
    have hN1:=B5T (h:=G ++ [some (Row.mk (C6 D24c) true),some (Row.mk (A4 2 1 0 1 d24) true),some (Row.mk (encI (1 :: 6 :: 7 :: zI 30)) true),some (Row.mk (D5 [([97],2),([98],3)]) true)]) (v:=.c (.sl (G.length + 3) 0 2 2)) (nv:=2) (l:=[([97],2),([98],3)]) (Has.tr (by simp) rfl rfl) (by simp)
    have eN1:W9 [([97],2),([98],3)]=A7H:=rfl
    rw [eN1] at hN1
    have s6:=A53 (g:=G) (D:=D24c) (i:=6) (q:=1536) (l:=[some (Row.mk (A4 2 1 0 1 d24) true),some (Row.mk (encI (1 :: 6 :: 7 :: zI 30)) true),some (Row.mk (D5 [([97],2),([98],3)]) true)]) okD24c (b:=A7H) A88 (by rw [B9t];omega) rfl (show D24c.set 6 A7H=D24d from rfl)
    have hN2:=B5T (h:=G ++ [some (Row.mk (C6 D24d) true),some (Row.mk (A4 2 1 0 1 d24) true),some (Row.mk (encI (1 :: 6 :: 7 :: zI 30)) true),some (Row.mk (D5 [([97],2),([98],3)]) true),some (Row.mk (D5 [([98],4)]) true)]) (v:=.c (.sl (G.length + 4) 0 1 2)) (nv:=1) (l:=[([98],4)]) (Has.tr (by simp) rfl rfl) (by simp)
    have eN2:W9 [([98],4)]=A7I:=rfl
    rw [eN2] at hN2
    have s7:=A53 (g:=G) (D:=D24d) (i:=7) (q:=1792) (l:=[some (Row.mk (A4 2 1 0 1 d24) true),some (Row.mk (encI (1 :: 6 :: 7 :: zI 30)) true),some (Row.mk (D5 [([97],2),([98],3)]) true),some (Row.mk (D5 [([98],4)]) true)]) okD24d (b:=A7I) A88 (by rw [B9u];omega) rfl (show D24d.set 7 A7I=D24 from rfl)
    rw [C2z]
    simp only [D2G,ez]
    refine ⟨.c (.sl G.length 0 16 256),G ++ [some (Row.mk (C6 D24) true),some (Row.mk (A4 2 1 0 1 d24) true),some (Row.mk (encI (1 :: 6 :: 7 :: zI 30)) true),some (Row.mk (D5 [([97],2),([98],3)]) true),some (Row.mk (D5 [([98],4)]) true)],?_,by rw [X7 A1x,B9r],G.length,rfl,by omega,by simp⟩
    generalize C6 D24=q1 at *
    generalize C6 D24a=q2 at *
    generalize C6 D24b=q3 at *
    generalize C6 D24c=q4 at *
    generalize C6 D24d=q5 at *
    generalize encI (0 :: zI 32)=x0 at *
    generalize encI (1 :: zI 32)=x1 at *
    generalize encI (1 :: 6 :: zI 31)=x2 at *
    generalize encI (1 :: 6 :: 7 :: zI 30)=x3 at *
    generalize A4 2 1 0 1 (zI 7)=i0 at *
    generalize A4 2 1 0 1 d24=i1 at *
    generalize D5 [([97],2),([98],3)]=e1 at *
    generalize D5 [([98],4)]=e2 at *
    generalize A1 (zeros 256)=z at *
    simp only [F2,U8,List.getElem?_cons_zero,List.getElem?_cons_succ,Option.map_some,V7,V6,mk,ef1,hp,← hG,a0,s0,ef2,List.append_assoc,List.cons_append,List.nil_append,List.append_nil,List.length_append,List.length_cons,List.length_nil,Nat.zero_add,Nat.reduceAdd,r2,fa4,ad,r3,a2,l2,l11,hT,A9r,s2,ef3,r4,fa1,ad0,r5,ad1,r6,l33,hX,a5,s5,ef4,ef5,ef6,hN1,a6,s6,ef7,ef8,hN2,a7,s7]
  obtain ⟨v,g',e,ho⟩:=key (ro h)
  exact C4C e (by simpa [K4] using ho) (B24)
set_option maxHeartbeats 2000000 in
theorem B4k (h:A0):A1V [] h=some (.c (.b true),h):=by
  have key:∀ g,∃ g',A6q 0 [] g=some (.c (.b true),g'):=by
    intro g
    have l16:=B9r
    have hS:=D3D g
    obtain ⟨f,t,hO,hv⟩:=C16 (v:=.c (.sl g.length 0 16 256)) (h:=g ++ [some (Row.mk (C6 D24) true)]) (D:=D24) (by rw [l16];exact Has.tr (by simp) (by rw [X7 A1x,l16]) (A5O _)) A1x C8d (by rw [l16];omega)
    rw [C8g,C8f] at hO
    obtain ⟨H,hH⟩:∃ H,H=g ++ [some (Row.mk (C6 D24) true)] ++ t:=⟨_,rfl⟩
    rw [← hH] at hO hv
    obtain ⟨V,hV⟩:∃ V,V=vwC D24.length 8 0 f:=⟨_,rfl⟩
    have hVl:V.length=4:=by rw [hV];rfl
    have hS4:B6 (H ++ [some (Row.mk [.i .i64 0,.i .i64 0,.i .u64 0,.nf] true)]) 4 (.c (.p H.length 0)) (.a V)=some (H ++ [some (Row.mk V true)]):=by rw [hV,T4];rfl
    have hI:=C15 (n:=8) (m:=0) (i:=1) (h:=H ++ [some (Row.mk V true)]) A1x (hv.more _)
    rw [D0r,← hV] at hI
    obtain ⟨I,hIe⟩:∃ I,I=A4 2 1 0 1 d24:=⟨_,rfl⟩
    have hIl:I.length=11:=by rw [hIe];rfl
    have hL:=B2k (n:=8) (m:=0) (k:=2) (l:=1) (s:=0) (p:=1) (d:=d24) (nm:=[98]) (h:=H ++ [some (Row.mk V true),some (Row.mk I true)]) A1x rfl (hv.more _) (by decide)
    rw [D01,← hV,← hIe] at hL
    have hLi:=B2j (n:=8) (m:=0) (k:=2) (l:=1) (s:=0) (p:=1) (d:=d24) (h:=H ++ [some (Row.mk V true),some (Row.mk I true),some (Row.mk (F1 (some (7,0,4))) true)]) A1x rfl (hv.more _)
    rw [D0Y,← hV,← hIe] at hLi
    have hSt:=B6A (n:=8) (m:=0) (k:=2) (l:=1) (s:=0) (p:=1) (d:=d24) (h:=H ++ [some (Row.mk V true),some (Row.mk I true),some (Row.mk (F1 (some (7,0,4))) true),some (Row.mk (D5 [([97],2),([98],4)]) true)]) A1x rfl (hv.more _)
    rw [D3N,← hV,← hIe] at hSt
    obtain ⟨v,t3,b1,b2,b3⟩:=hSt
    obtain ⟨rfl,rfl⟩:t3=[some ⟨G8 [(6,1,3)],true⟩] ∧ v=.c (.sl (H ++ [some (Row.mk V true),some (Row.mk I true),some (Row.mk (F1 (some (7,0,4))) true),some (Row.mk (D5 [([97],2),([98],4)]) true)]).length 0 1 3):=by
      rcases b3 with ⟨_,_,h0,_⟩ | b3
      · cases h0
      · exact b3
    have hE:=B6t (n:=8) (m:=0) (k:=2) (l:=0) (s:=0) (p:=0) (d:=zI 7) (h:=H ++ [some (Row.mk V true),some (Row.mk I true),some (Row.mk (F1 (some (7,0,4))) true),some (Row.mk (D5 [([97],2),([98],4)]) true),some (Row.mk (G8 [(6,1,3)]) true)]) A1x rfl (hv.more _)
    rw [C8O,← hV] at hE
    have ez:A4 0 0 0 0 (zI 7)=[Cell.i .i64 0,.i .i64 0,.i .i64 0,.i .i64 0,.i .i64 0,.i .i64 0,.i .i64 0,.i .i64 0,.i .i64 0,.i .i64 0,.i .i64 0]:=rfl
    have lz:[Cell.i .i64 0,.i .i64 0,.i .i64 0,.i .i64 0,.i .i64 0,.i .i64 0,.i .i64 0,.i .i64 0,.i .i64 0,.i .i64 0,.i .i64 0].length=11:=rfl
    have ef1:A8 [Cell.i .i64 0,.i .i64 0,.i .i64 0] [(0,1,.c (.i .i64 7)),(1,1,.c (.i .i64 0)),(2,1,.c (.i .i64 4))]=some (F1 (some (7,0,4))):=rfl
    have ef2:A8 [Cell.i .i64 0,.i .i64 0,.i .i64 0,.i .i64 0,.i .i64 0,.i .i64 0,.i .i64 0,.i .i64 0,.i .i64 0,.i .i64 0,.i .i64 0] [(0,1,.c (.i .i64 2))]=some (A4 2 0 0 0 (zI 7)):=rfl
    have ea:=A5R (neg:=false) (7,0,4) (7,0,4)
    rw [decide_eq_true rfl,cond_false] at ea
    have pl:(F1 (some (7,0,4))).length=3:=rfl
    have z3:[Cell.i .i64 0,.i .i64 0,.i .i64 0].length=3:=rfl
    have ad2:∀ q,B9 2 (.c (.sl q 0 2 2)) (.c (.i .i64 0))=some (.c (.p q 0)):=fun q=>rfl
    have ad3:∀ q,B9 3 (.c (.sl q 0 1 3)) (.c (.i .i64 0))=some (.c (.p q 0)):=fun q=>rfl
    have g1:ld1 (some (Row.mk (D5 [([97],2),([98],4)]) true)) 1=some (.c (.i .i64 2)):=rfl
    have g2:ld1 (some (Row.mk (G8 [(6,1,3)]) true)) 0=some (.c (.i .i64 6)):=rfl
    have e21:[(([97]:List UInt8),(2:Int)),([98],4)].length=2:=rfl
    have e11:[((6:Int),(1:Nat),(3:Int))].length=1:=rfl
    have c2:((2:Nat):Int)=2:=rfl
    have c1:((1:Nat):Int)=1:=rfl
    rw [← hV] at hO
    rw [C2A]
    generalize A4 2 0 0 0 (zI 7)=I2 at *
    generalize F1 (some (7,0,4))=pc at *
    generalize D5 [([97],2),([98],4)]=en at *
    generalize G8 [(6,1,3)]=ps at *
    rw [← hIe] at hI
    refine ⟨H ++ [some (Row.mk V true),some (Row.mk I true),some (Row.mk pc true),some (Row.mk en true),some (Row.mk ps true)],?_⟩
    simp only [e21,e11,List.length_append,List.length_cons,List.length_nil,Nat.zero_add,Nat.reduceAdd,List.append_assoc,List.cons_append,List.nil_append] at hLi b1
    simp only [esc,Nat.reduceAdd,X4,T1,A7A,A2m,A0R,T4,Q3,A3K,eq_self,hS,hO,hS4,hVl,hI,hIl,lz,hL,z3,pl,hLi,b1,Option.isSome_some,ef1,ea,e21,c2,ad2,g1,c1,ad3,g2,ef2,hE,beq_self_eq_true]
  obtain ⟨g',e⟩:=key (ro h)
  exact C4D e rfl
end Go.Proofs.YteckncopbicmcaaGreat
end
section
namespace Go.Proofs.YteckncopbicmcaaGreat
open Go Go.Esc
def RS (b:Nat):List Nat:=[b + 3,b + 4,b + 5,b,b + 1,b + 6,b + 7]
def fO (b:Nat):Cell:=.f 267 [(b + 4,0),(b + 1,0),(b,0),(b + 3,0)]
structure OwnP (g h:A0) (V I:List Cell) (told:Bool) (ls:List Int):Prop where
  var:VarI h (g.length + 3) ls g.length (RS g.length)
  low:Low g.length g h
  len:g.length + 8 ≤ h.length
  t:rd h (g.length + 4)=some ⟨[.b told],true⟩
  f:rd h (g.length + 5)=some ⟨[fO g.length],true⟩
  v:rd h g.length=some ⟨V,true⟩
  i:rd h (g.length + 1)=some ⟨I,true⟩
  v2:rd h (g.length + 6)=some ⟨V,true⟩
  i2:rd h (g.length + 7)=some ⟨I,true⟩
theorem OwnP.push {g h:A0} {V I:List Cell} {told:Bool} {ls:List Int} (P:OwnP g h V I told ls) (hl:ls.length ≤ 1000) (n:Int) :
    ∃ x v h2 h3,A5 h (.c (.p (g.length + 3) 0))=some (.c x) ∧ E7 (h ++ [some ⟨[.i .i64 n],true⟩]) 1 (.c x) (.c (.sl h.length 0 1 1))=some (.c v,h2) ∧ F9 h2 (.c (.p (g.length + 3) 0)) (.c v)=some h3 ∧ OwnP g h3 V I told (ls ++ [n]):=by
  have hlen:=P.len
  have hm:∀ j ∈ RS g.length,j < h.length:=by intro j hj;simp only [RS,List.mem_cons,List.not_mem_nil,or_false] at hj;omega
  obtain ⟨x,v,h2,h3,a1,a2,a3,a4,a5,a6,a7⟩:=P.var.push (by simp [RS]) (by omega) (by omega) hm (by omega) n
  exact ⟨x,v,h2,h3,a1,a2,a3,a4,P.low.trans a5,by omega,by rw [a6 _ (by simp [RS]) (by omega)];exact P.t,by rw [a6 _ (by simp [RS]) (by omega)];exact P.f,by rw [a6 _ (by simp [RS]) (by omega)];exact P.v,by rw [a6 _ (by simp [RS]) (by omega)];exact P.i,by rw [a6 _ (by simp [RS]) (by omega)];exact P.v2,by rw [a6 _ (by simp [RS]) (by omega)];exact P.i2⟩
end Go.Proofs.YteckncopbicmcaaGreat
end
noncomputable section
namespace Go.Proofs.YteckncopbicmcaaGreat
open Go Go.Esc
set_option maxRecDepth 100000
def B6F:ACode:=.seq [0,3,4] (.seq [0,3,4,8] (.ops [aO 5 (.mv (.t 4)),aO 6 (.mv (.t 0)),aO 7 (.len (.t 6)),aO 8 (.bin .lss (.t 5) (.t 7))]) (.cond (.t 8) .skip (.exit 0))) (.seq [0,3,4] (.block 1 (.ops [aO 11 (.mv (.t 3)),aO 12 (.mv (.t 0)),aO 13 (.mv (.t 4)),aO 14 (.iAddrL 256 (.t 12) (.t 13)),aO 15 (.loadN 256 (.t 14)),aO 16 (.buildSl 256 1 (List.replicate 256 (.i .u8 0)) [(0,256,(.t 15))]),aO 17 (.app 256 (.t 11) (.t 16)),aO 3 (.mv (.t 17))])) (.ops [aO 9 (.mv (.t 4)),aO 10 (.bin .add (.t 9) (.v (.c (.i .i64 1)))),aO 4 (.mv (.t 10))]))
def B6G:ACode:=.seq [2] (.ops [aO 18 (.mv (.t 3)),aO 2 (.mv (.t 18))]) .ret
def A_el21_To:AFn:=⟨.seq [0] (.ops [aO 2 (.nilrow 256)]) (.seq [0,3] (.ops [aO 3 (.nilrow 256)]) (.seq [3] (.seq [0,3,4] (.ops [aO 4 (.mv (.v (.c (.i .i64 0))))]) (.block 0 (.loop [0,3,4] B6F))) B6G)),[.tmp 2]⟩
def A3O:B3:=B8
def C8E (n:Nat):B4 (Val × A0):=E5 [3] (ax A3O n B6G) A_el21_To.fin
def C8F (n:Nat):B4 (Val × A0):=D6 0 (C8E n)
def A71 (n m:Nat) (x0 x3 x4:Val) (h:A0):A6:=C8 (ax A3O n B6F) [0,3,4] (C8F n) m [(0,x0),(3,x3),(4,x4)] h
def A6n (n:Nat) (args:List Val) (h:A0):A6:=ax A3O n A_el21_To.code A_el21_To.fin (params 0 args) h
theorem C2x (n:Nat) (a0:Val) (h:A0):A6n n [a0] h=A71 n n a0 (.c (.sl (h ++ [some (Row.mk ([]) true)]).length 0 0 256)) (.c (.i .i64 0)) ((h ++ [some (Row.mk ([]) true)]) ++ [some (Row.mk ([]) true)]):=by kernel_rfl
theorem B6H (n m:Nat) (x0 x3 x4:Val) (h:A0):A71 n (m + 1) x0 x3 x4 h=bnd (E3 x0) fun v1=>bnd (A2 .lss x4 v1) fun v2=>cnd v2 (bnd (B9 256 x0 x4) fun v3=>bnd (A3 h 256 v3) fun v4=>bnd (A8 (List.replicate 256 (.i .u8 0)) [(0,256,v4)]) fun c5=>bnd (E7 (h ++ [some (Row.mk (c5) true)]) 256 x3 (.c (.sl h.length 0 1 256))) fun p6=>bnd (A2 .add x4 (.c (.i .i64 1))) fun v7=>A71 n m x0 p6.1 v7 p6.2) (some (x3,h)):=by kernel_rfl
theorem K_el21_To:FnK Tryz.prog 17 A_el21_To A3O A6n:=.mk' (C1) Tryz.func17 (by kernel_rfl) (fun _ _ _=>C0)
def A4w:Fun:=tidy (Lim A_el21_To A3O)
theorem C4x:SOk Tryz.prog 17 A4w:=K_el21_To.sok
theorem C4y:N9 A6n A4w:=K_el21_To.out
end Go.Proofs.YteckncopbicmcaaGreat
end
section
namespace Go.Proofs.YteckncopbicmcaaGreat
open Go Go.Esc
theorem C97 {h:A0} {v:Val} {D:Dev} (hv:Has h v 256 D.length (C6 D)) (hD:okD D) {i:Nat} (hi:i < D.length) :
    ∃ id off,v=.c (.sl id off D.length 256) ∧ id < h.length ∧ B9 256 v (.c (.i .i64 (i:Int)))=some (.c (.p id (off + i * 256))) ∧ A3 h 256 (.c (.p id (off + i * 256)))=some (.a (A1 D[i])):=by
  obtain ⟨id,off,rfl,hid,_,h2⟩:=hv.sl (by omega)
  refine ⟨id,off,rfl,hid,G6 hi,?_⟩
  rw [h2 (i * 256) 256 (by rw [X7 hD];omega),A0U hD hi]
theorem C7c {b:List UInt8} (hb:b.length=256):A8 (List.replicate 256 (Cell.i .u8 0)) [(0,256,.a (A1 b))]=some (A1 b):=by
  have hl:(A1 b).length=256:=by rw [B1,hb]
  have hz:(List.replicate 256 (Cell.i .u8 0)).length=256:=List.length_replicate
  generalize List.replicate 256 (Cell.i .u8 0)=z at *
  generalize A1 b=y at *
  simp only [A8,X6,Option.bind_some]
  rw [if_pos ⟨hl,by omega⟩]
  simp only [lay_all (by omega:y.length=z.length)]
theorem C13 {g:A0} {D:Dev} {v:Val} {q:Nat} (hv:Has g v 256 D.length (C6 D)) (hD:okD D) (h60:D.length ≤ 1073741823):∀ (e i m id:Nat) (h:A0),i + e=D.length → e < m → Low g.length g h → g.length ≤ id → rd h id=some ⟨C6 (D.take i),true⟩ →
    ∃ v' h',A71 q m v (.c (.sl id 0 i 256)) (.c (.i .i64 (i:Int))) h=some (v',h') ∧ Out g.length h' v' 256 D.length (C6 D)
  | e,i,0,id,h,_,hm,_,_,_=>by omega
  | 0,i,m + 1,id,h,hi,hm,hlow,hid,hr=>by
    have e0:i=D.length:=by omega
    have c0:¬ (i:Int) < (D.length:Nat):=by omega
    have hl:=(hv.since hlow).len
    rw [e0,List.take_length] at hr
    rw [B6H]
    exact ⟨_,_,by simp only [esc,hl,c0] <;> rfl,X7 hD,id,by rw [e0],hid,hr⟩
  | e + 1,i,m + 1,id,h,hi,hm,hlow,hid,hr=>by
    have hil:i < D.length:=by omega
    have c0:(i:Int) < (D.length:Nat):=by omega
    have hvh:=hv.since hlow
    have hl:=hvh.len
    obtain ⟨jd,off,e1,hj,a1,l1⟩:=C97 hvh hD hil
    have ef:=C7c (hD.at hil)
    have htl:(D.take i).length=i:=by rw [List.length_take];omega
    obtain ⟨h',p1,p2,p3,p4,p5⟩:=push (ys:=A1 D[i]) hlow hr (by rw [X7 (hD.take i),htl]) hid (by rw [B1,hD.at hil]) (by omega) (by omega)
    have et:C6 (D.take i) ++ A1 D[i]=C6 (D.take (i + 1)):=by
      rw [List.take_succ_eq_append_getElem hil,C71,C72]
    rw [et] at p2
    obtain ⟨v',h'',f1,f2⟩:=C13 (q:=q) hv hD h60 e (i + 1) m (h.length + 1) h' (by omega) (by omega) p3 p4 p2
    refine ⟨v',h'',?_,f2⟩
    rw [B6H]
    generalize A1 D[i]=y at *
    simp only [esc,hl,c0,a1,l1,ef,p1,E6 (show i + 1 < 9223372036854775808 by omega)]
    exact f1
theorem D33 {v:Val} {D:Dev} {h:A0} (hv:Has h v 256 D.length (C6 D)) (hD:okD D) (h60:D.length ≤ 1073741823):A4w [v] h=some (.c (.sl h.length 0 D.length 256),h ++ [some ⟨C6 D,true⟩]):=by
  have key:∀ g,Has g v 256 D.length (C6 D) → ∃ v' g',A6n (D.length + 1) [v] g=some (v',g') ∧ Out g.length g' v' 256 D.length (C6 D):=by
    intro g hv
    obtain ⟨v',h',f1,f2⟩:=C13 (q:=D.length + 1) hv hD h60 D.length 0 (D.length + 1) (g.length + 1) (g ++ [some (Row.mk [] true),some (Row.mk [] true)]) (by omega) (by omega) ((Low.refl (Nat.le_refl _)).new _) (by omega) (by simp [C6])
    rw [C2x]
    exact ⟨v',h',by simp only [esc];exact f1,f2⟩
  obtain ⟨v',g',e,ho⟩:=key (ro h) hv.ro
  exact C4y e (by simpa [K4] using ho) B24
end Go.Proofs.YteckncopbicmcaaGreat
end
section
namespace Go.Proofs.YteckncopbicmcaaGreat
open Go Go.Esc
theorem D2n {b n m:Int} {h:A0} (hm0:0 ≤ m) (hm1:m < 18446744073709551616):A4E [.a (C2 b n m)] h=some (.c (.sl h.length 0 256 1),h ++ [some ⟨A1 (R4 b n m),true⟩]):=by
  have key:∀ g,∃ v g',A6w 0 [.a (C2 b n m)] g=some (v,g') ∧ Out g.length g' v 1 256 (A1 (R4 b n m)):=by
    intro g
    have e7:A8 [Cell.i .u8 0,.i .u8 0,.i .u8 0,.i .u8 0,.i .u8 0,.i .u8 0,.i .u8 0,.i .u8 0] [(0,1,.c (.i .u8 101)),(1,1,.c (.i .u8 115)),(2,1,.c (.i .u8 99)),(3,1,.c (.i .u8 104)),(4,1,.c (.i .u8 101)),(5,1,.c (.i .u8 97)),(6,1,.c (.i .u8 116)),(7,1,.c (.i .u8 49))]=some (A1 magicB):=rfl
    have lm:magicB.length=8:=rfl
    obtain ⟨c0,hc0⟩:∃ c0:Option Row,c0=some ⟨C2 b n m,true⟩:=⟨_,rfl⟩
    have hmk:=B5k (h:=g ++ [some ⟨C2 b n m,true⟩,some ⟨[],true⟩,some ⟨A1 magicB,true⟩]) (id:=g.length + 2) (off:=0) (len:=8) (sz:=1) (cs:=A1 magicB) (by simp) (by omega)
    have b1:=fun h=>A7P (w:=2) (v:=b) (h:=h) (by omega)
    have b2:=fun h=>A7P (w:=2) (v:=n) (h:=h) (by omega)
    have b3:=fun h=>B3T (w:=8) (v:=m) (h:=h) (by omega) hm0 hm1
    have hmlt:=A82 (s:=F8 b n m)
    have b4:=fun h=>B3T (w:=4) (v:=(M5 (F8 b n m):Nat)) (h:=h) (by omega) (by omega) (by omega)
    have p1:=T2 (h:=g ++ [some ⟨C2 b n m,true⟩,some ⟨[],true⟩,some ⟨A1 magicB,true⟩,some ⟨A1 (B5 2 b),true⟩]) (id:=g.length + 2) (jd:=g.length + 3) (n:=8) (m:=2) (sz:=1) (cs:=A1 magicB) (ys:=A1 (B5 2 b)) (rw:=true) (by simp) (by simp [B1,lm]) (by simp) (by simp [B1]) rfl (by omega) (by omega)
    have p2:=T2 (h:=g ++ [some ⟨C2 b n m,true⟩,some ⟨[],true⟩,none,some ⟨A1 (B5 2 b),true⟩,some ⟨A1 magicB ++ A1 (B5 2 b),true⟩,some ⟨A1 (B5 2 n),true⟩]) (id:=g.length + 4) (jd:=g.length + 5) (n:=10) (m:=2) (sz:=1) (cs:=A1 magicB ++ A1 (B5 2 b)) (ys:=A1 (B5 2 n)) (rw:=true) (by simp) (by simp [B1,lm]) (by simp) (by simp [B1]) rfl (by omega) (by omega)
    have p3:=T2 (h:=g ++ [some ⟨C2 b n m,true⟩,some ⟨[],true⟩,none,some ⟨A1 (B5 2 b),true⟩,none,some ⟨A1 (B5 2 n),true⟩,some ⟨A1 magicB ++ A1 (B5 2 b) ++ A1 (B5 2 n),true⟩,some ⟨A1 (B5 8 m),true⟩]) (id:=g.length + 6) (jd:=g.length + 7) (n:=12) (m:=8) (sz:=1) (cs:=A1 magicB ++ A1 (B5 2 b) ++ A1 (B5 2 n)) (ys:=A1 (B5 8 m)) (rw:=true) (by simp) (by simp [B1,lm]) (by simp) (by simp [B1]) rfl (by omega) (by omega)
    have eS:A1 magicB ++ A1 (B5 2 b) ++ A1 (B5 2 n) ++ A1 (B5 8 m)=A1 (F8 b n m):=by unfold F8;simp only [W7]
    rw [eS] at p3
    have hstr:=(Has.tr (h:=g ++ [some ⟨C2 b n m,true⟩,some ⟨[],true⟩,none,some ⟨A1 (B5 2 b),true⟩,none,some ⟨A1 (B5 2 n),true⟩,none,some ⟨A1 (B5 8 m),true⟩,some ⟨A1 (F8 b n m),true⟩]) (id:=g.length + 8) (sz:=1) (n:=20) (cs:=A1 (F8 b n m)) (by simp) (by rw [B1,V9]) (K1 _)).str
    have hmx:=fun h=>C0Y (s:=F8 b n m) (h:=h) (by rw [V9];omega)
    have p4:=T2 (h:=g ++ [some ⟨C2 b n m,true⟩,some ⟨[],true⟩,none,some ⟨A1 (B5 2 b),true⟩,none,some ⟨A1 (B5 2 n),true⟩,none,some ⟨A1 (B5 8 m),true⟩,some ⟨A1 (F8 b n m),true⟩,some ⟨A1 (B5 4 (M5 (F8 b n m):Nat)),true⟩]) (id:=g.length + 8) (jd:=g.length + 9) (n:=20) (m:=4) (sz:=1) (cs:=A1 (F8 b n m)) (ys:=A1 (B5 4 (M5 (F8 b n m):Nat))) (rw:=true) (by simp) (by rw [B1,V9]) (by simp) (by simp [B1]) rfl (by omega) (by omega)
    rw [← W7] at p4
    have mk:U9 (.c (.i .i64 256)) (.c (.i .i64 256))=some 256:=rfl
    have rz:=A5W 256
    have l24:(F8 b n m ++ B5 4 (M5 (F8 b n m):Nat)).length=24:=by rw [List.length_append,V9,A0T]
    have hL:=C0U (h:=g ++ [some ⟨C2 b n m,true⟩,some ⟨[],true⟩,none,some ⟨A1 (B5 2 b),true⟩,none,some ⟨A1 (B5 2 n),true⟩,none,some ⟨A1 (B5 8 m),true⟩,none,some ⟨A1 (B5 4 (M5 (F8 b n m):Nat)),true⟩,some ⟨A1 (F8 b n m ++ B5 4 (M5 (F8 b n m):Nat)),true⟩,some ⟨A1 (zeros 256),true⟩]) (v:=.c (.sl (g.length + 11) 0 256 1)) (nv:=256) (l:=zeros 256) (u:=.c (.sl (g.length + 10) 0 24 1)) (nu:=24) (data:=F8 b n m ++ B5 4 (M5 (F8 b n m):Nat)) (Has.tr (by simp) (by rw [B1];exact zeros_length) (K1 _)) (Has.tr (by simp) (by rw [B1,l24]) (K1 _)) (a:=0) (by omega) (by rw [zeros_length];omega)
    have eL:U2 (zeros 256) 0 (F8 b n m ++ B5 4 (M5 (F8 b n m):Nat))=R4 b n m:=by
      have h1:=B9l (l:=zeros 256) (xs:=F8 b n m ++ B5 4 (M5 (F8 b n m):Nat)) (a:=0) (by rw [l24,zeros_length];omega)
      have h2:=A9m (l:=[]) (xs:=F8 b n m ++ B5 4 (M5 (F8 b n m):Nat)) (a:=0) (by simp) (by rw [l24];omega)
      rw [show ((0:Nat):Int)=0 from rfl] at h1
      rw [h1,← B3I,h2,List.length_nil,Nat.sub_self,show zeros 0=[] from rfl,List.append_nil,List.nil_append,R4]
    have zl:(zeros 256).length=256:=zeros_length
    rw [eL,zl] at hL
    simp only [esc,Int.cast_ofNat_Int] at p1 p2 p3 p4 hL b1 b2 b3 b4
    rw [C2R]
    generalize zeros 256=z at *
    exact ⟨_,_,by simp only [esc,esh,Nat.reduceAdd,Nat.reduceMul,Nat.reduceLT,e7,hmk,b1,p1,b2,p2,b3,p3,hstr,hmx,b4,p4,mk,rz,hL] <;> rfl,by rw [B1,A1D],_,rfl,by omega,by simp⟩
  obtain ⟨v,g',e,ho⟩:=key (ro h)
  exact C44 e (by simpa [K4] using ho) (by simp)
end Go.Proofs.YteckncopbicmcaaGreat
end
section
namespace Go.Proofs.YteckncopbicmcaaGreat
open Go Go.Esc
theorem D2m {v:Val} {nv:Nat} {b:List UInt8} {h:A0} (hv:Has h v 1 nv (A1 b)) (hb:b.length=256):A4D [v] h=some (.t [.a (Y2 b),.c (.b (okS b))],h):=by
  have key:∀ g,Has g v 1 nv (A1 b) → ∃ g',A6u 0 [v] g=some (.t [.a (Y2 b),.c (.b (okS b))],g'):=by
    intro g hv
    have hv1:=hv.more [some ⟨C2 0 0 0,true⟩]
    have hg:=C0S hv1 (a:=12) (w:=8) (by omega)
    have gN:A0a b 12 8=some (le ((b.drop 12).take 8)):=by
      unfold A0a
      rw [hb,if_pos ⟨by omega,by decide⟩];rfl
    rw [gN] at hg
    simp only [Option.getD_some,Option.isSome_some] at hg
    have e12:((le ((b.drop 12).take 8):Nat):Int)=fieldN b 12 8:=rfl
    rw [e12] at hg
    have a1:=A5U hv1 (a:=8) (w:=2) hb
    have a2:=A5U hv1 (a:=10) (w:=2) hb
    have f1:=A7F (a:=8) (w:=2) hb (by omega) (by omega) (by omega)
    have f2:=A7F (a:=10) (w:=2) hb (by omega) (by omega) (by omega)
    simp only [Int.cast_ofNat_Int] at f1 f2
    rw [f1] at a1
    rw [f2] at a2
    have ef:∀ x y z:Int,A8 (C2 0 0 0) [(0,1,.c (.i .i64 x)),(1,1,.c (.i .i64 y)),(2,1,.c (.i .u64 z))]=some (C2 x y z):=fun _ _ _=>rfl
    have ef0:A8 (C2 0 0 0) []=some (C2 0 0 0):=rfl
    have hm:=fun h=>A2O (b:=fieldN b 8 2) (n:=fieldN b 10 2) (m:=fieldN b 12 8) (h:=h)
    have hp:=fun h=>D2n (b:=fieldN b 8 2) (n:=fieldN b 10 2) (m:=fieldN b 12 8) (h:=h) (A8w b).1 (A8w b).2
    have hS:=A9u (h:=g ++ [some ⟨C2 0 0 0,true⟩,some ⟨C2 (fieldN b 8 2) (fieldN b 10 2) (fieldN b 12 8),true⟩,some ⟨A1 (R4 (fieldN b 8 2) (fieldN b 10 2) (fieldN b 12 8)),true⟩]) (v:=.c (.sl (g.length + 2) 0 256 1)) (nv:=256) (u:=v) (nu:=nv) (l:=R4 (fieldN b 8 2) (fieldN b 10 2) (fieldN b 12 8)) (r:=b)
      (Has.tr (by simp) (by rw [B1,A1D]) (K1 _)) (hv.more _) (by rw [A1D];omega)
    rw [C2P]
    unfold Y2 okS
    cases c:I0 (fieldN b 8 2) (fieldN b 10 2) with
    | false =>
      simp only [c] at hm
      exact ⟨_,by simp only [esc,esh,Nat.reduceAdd,Nat.reduceMul,Nat.reduceLT,hg,a1,a2,ef,ef0,hm,Bool.false_and] <;> rfl⟩
    | true =>
      simp only [c] at hm
      cases c2:decide (R4 (fieldN b 8 2) (fieldN b 10 2) (fieldN b 12 8)=b) with
      | false =>
        rw [c2] at hS
        exact ⟨_,by simp only [esc,esh,Nat.reduceAdd,Nat.reduceMul,Nat.reduceLT,hg,a1,a2,ef,ef0,hm,hp,hS,Bool.and_false] <;> rfl⟩
      | true =>
        rw [c2] at hS
        exact ⟨_,by simp only [esc,esh,Nat.reduceAdd,Nat.reduceMul,Nat.reduceLT,hg,a1,a2,ef,ef0,hm,hp,hS,Bool.and_true] <;> rfl⟩
  obtain ⟨g',e⟩:=key (ro h) hv.ro
  refine C40 e ?_
  unfold Y2
  cases okS b <;> simp
end Go.Proofs.YteckncopbicmcaaGreat
end
noncomputable section
namespace Go.Proofs.YteckncopbicmcaaGreat
open Go Go.Esc
set_option maxRecDepth 100000
def A_er21_Layout:AFn:=⟨.seq [0,2] (.ops [aO 2 (.alloc ([.i .i64 0,.i .i64 0,.i .u64 0])),aO 3 (.mv (.v (.c (.b false))))]) (.seq [0,2] (.seq [0,2,8] (.ops [aO 6 (.mv (.t 0)),aO 7 (.len (.t 6)),aO 8 (.bin .eql (.t 7) (.v (.c (.i .i64 0))))]) (.cond (.t 8) (.seq [2,3] (.ops [aO 9 (.build ([.i .i64 0,.i .i64 0,.i .u64 0]) []),aN (.storeN 3 (.t 2) (.t 9)),aO 3 (.mv (.v (.c (.b false))))]) .ret) .skip)) (.seq [0,2,4,5] (.ops [aO 11 (.mv (.t 0)),aO 12 (.iAddrL 256 (.t 11) (.v (.c (.i .i64 0)))),aO 13 (.slA 256 1 (.t 12) none none),aO 14 (.call 68 [(.t 13)]),aO 10 (.mv (.t 14)),aO 15 (.ext (.t 10) 0),aO 16 (.ext (.t 10) 1),aO 4 (.alloc ([.i .i64 0,.i .i64 0,.i .u64 0])),aN (.storeN 3 (.t 4) (.t 15)),aO 5 (.mv (.t 16))]) (.seq [2,4] (.seq [2,4,25] (.ops [aO 17 (.mv (.t 5)),aO 18 (.un .not (.t 17)),aO 19 (.mv (.t 18)),aG 20 19 false (.fAddr (.t 4) 0),aG 21 19 false (.load1 (.t 20)),aG 22 19 false (.mv (.t 0)),aG 23 19 false (.len (.t 22)),aG 24 19 false (.bin .neq (.t 21) (.t 23)),aO 25 (.pick (.t 19) (.v (.c (.b true))) (.t 24))]) (.cond (.t 25) (.seq [2,3] (.ops [aO 26 (.build ([.i .i64 0,.i .i64 0,.i .u64 0]) []),aN (.storeN 3 (.t 2) (.t 26)),aO 3 (.mv (.v (.c (.b false))))]) .ret) .skip)) (.seq [2,3] (.ops [aO 27 (.loadN 3 (.t 4)),aN (.storeN 3 (.t 2) (.t 27)),aO 3 (.mv (.v (.c (.b true))))]) .ret)))),[.cellN 2 3,.tmp 3]⟩
def B0a:B3:=A7 68 A4D B8
def A6G (n:Nat) (args:List Val) (h:A0):A6:=ax B0a n A_er21_Layout.code A_er21_Layout.fin (params 0 args) h
theorem C24 (n:Nat) (a0:Val) (h:A0):A6G n [a0] h=bnd (E3 a0) fun v1=>bnd (A2 .eql v1 (.c (.i .i64 0))) fun v2=>cnd v2 (bnd (A8 ([.i .i64 0,.i .i64 0,.i .u64 0]) []) fun c3=>bnd (B6 (h ++ [some (Row.mk ([.i .i64 0,.i .i64 0,.i .u64 0]) true)]) 3 (.c (.p h.length 0)) (.a c3)) fun h4=>C7 [A3 h4 3 (.c (.p h.length 0)),some (.c (.b false))] h4) (bnd (B9 256 a0 (.c (.i .i64 0))) fun v5=>bnd (Q7 (h ++ [some (Row.mk ([.i .i64 0,.i .i64 0,.i .u64 0]) true)]) 256 1 v5 none none) fun v6=>bnd (A4D [v6] (h ++ [some (Row.mk ([.i .i64 0,.i .i64 0,.i .u64 0]) true)])) fun p7=>bnd (C5 p7.1 0) fun v8=>bnd (C5 p7.1 1) fun v9=>bnd (B6 (p7.2 ++ [some (Row.mk ([.i .i64 0,.i .i64 0,.i .u64 0]) true)]) 3 (.c (.p p7.2.length 0)) v8) fun h10=>bnd (aun .not v9) fun v11=>bnd (gd v11 false (bnd (B7 (.c (.p p7.2.length 0)) 0) fun v12=>some (v12,h10)) (some (.no,h10))) fun p13=>bnd (gd v11 false (bnd (A5 p13.2 p13.1) fun v14=>some (v14,p13.2)) (some (.no,p13.2))) fun p15=>bnd (gd v11 false (some (a0,p15.2)) (some (.no,p15.2))) fun p16=>bnd (gd v11 false (bnd (E3 p16.1) fun v17=>some (v17,p16.2)) (some (.no,p16.2))) fun p18=>bnd (gd v11 false (bnd (A2 .neq p15.1 p18.1) fun v19=>some (v19,p18.2)) (some (.no,p18.2))) fun p20=>bnd (C4 v11 (.c (.b true)) p20.1) fun v21=>cnd v21 (bnd (A8 ([.i .i64 0,.i .i64 0,.i .u64 0]) []) fun c22=>bnd (B6 p20.2 3 (.c (.p h.length 0)) (.a c22)) fun h23=>C7 [A3 h23 3 (.c (.p h.length 0)),some (.c (.b false))] h23) (bnd (A3 p20.2 3 (.c (.p p7.2.length 0))) fun v24=>bnd (B6 p20.2 3 (.c (.p h.length 0)) v24) fun h25=>C7 [A3 h25 3 (.c (.p h.length 0)),some (.c (.b true))] h25)):=by kernel_rfl
theorem K_er21_Layout:FnK Tryz.prog 18 A_er21_Layout B0a A6G:=.mk' (A9 C41 C1) Tryz.func18 (by kernel_rfl) (fun _ _ _=>C0)
def A4O:Fun:=tidy (Lim A_er21_Layout B0a)
theorem C5r:SOk Tryz.prog 18 A4O:=K_er21_Layout.sok
theorem C5q:D1 A6G A4O:=K_er21_Layout.flat
def A_er21_Data:AFn:=⟨.seq [1,2] (.ops [aO 2 (.box (.t 0)),aO 4 (.mv (.v (.c (.b false))))]) (.seq [4] (.ops [aO 5 (.loadN 3 (.t 2)),aO 6 (.mv (.t 1)),aO 7 (.call 108 [(.t 5),(.t 6)]),aO 8 (.bin .eql (.t 7) (.v (.c (.i .i64 4)))),aO 4 (.mv (.t 8))]) .ret),[.tmp 4]⟩
def A99:B3:=A7 108 A4F B8
def A6F (n:Nat) (args:List Val) (h:A0):A6:=ax A99 n A_er21_Data.code A_er21_Data.fin (params 0 args) h
theorem C23 (n:Nat) (a0 a1:Val) (h:A0):A6F n [a0,a1] h=bnd (cells? a0) fun c1=>bnd (A3 (h ++ [some (Row.mk (c1) true)]) 3 (.c (.p h.length 0))) fun v2=>bnd (A4F [v2,a1] (h ++ [some (Row.mk (c1) true)])) fun p3=>bnd (A2 .eql p3.1 (.c (.i .i64 4))) fun v4=>some (v4,p3.2):=by kernel_rfl
theorem K_er21_Data:FnK Tryz.prog 74 A_er21_Data A99 A6F:=.mk' (A9 C46 C1) Tryz.func74 (by kernel_rfl) (fun _ _ _=>C0)
def A12:Fun:=tidy (Lim A_er21_Data A99)
theorem B4J:SOk Tryz.prog 74 A12:=K_er21_Data.sok
theorem C5p:D1 A6F A12:=K_er21_Data.flat
end Go.Proofs.YteckncopbicmcaaGreat
end
section
namespace Go.Proofs.YteckncopbicmcaaGreat
open Go Go.Esc
theorem C98 {h:A0} {v:Val} {D:Dev} (hv:Has h v 256 D.length (C6 D)) (hD:okD D) {i:Nat} (hi:i < D.length) :
    ∃ a u,B9 256 v (.c (.i .i64 (i:Int)))=some a ∧ Q7 h 256 1 a none none=some u ∧ Has h u 1 256 (A1 D[i]):=by
  rcases hv with ⟨_,h0,_⟩ | ⟨id,off,r,rfl,hr,h1,h2,h3,h4⟩
  · omega
  · have hle:off + i * 256 + 256 * 1 ≤ r.cells.length:=by omega
    refine ⟨.c (.p id (off + i * 256)),.c (.sl id (off + i * 256) 256 1),G6 hi,?_,?_⟩
    · simp only [Q7,hr,Option.bind_some,bound]
      rw [if_pos ⟨by omega,by omega,hle,C1s h3 h4 (show i * 256 < D.length * 256 by omega) h2⟩];simp
    · refine Has.part (cs:=r.cells) (rw:=r.rw) hr hle ?_ (K1 _)
      rw [← A0U hD hi,← h3,List.drop_take,List.take_take,List.drop_drop]
      congr 1
      omega
theorem C8e:T5 []=false:=by decide +kernel
theorem C03 {v:Val} {D:Dev} {h:A0} (hv:Has h v 256 D.length (C6 D)) (hD:okD D) :
    A4O [v] h=some (.t [.a (bif T5 D then C2 D.length (A1g D) (A1f D) else C2 0 0 0),.c (.b (T5 D))],h):=by
  have key:∀ g,Has g v 256 D.length (C6 D) → ∃ g',A6G 0 [v] g=some (.t [.a (bif T5 D then C2 D.length (A1g D) (A1f D) else C2 0 0 0),.c (.b (T5 D))],g'):=by
    intro g hv
    have hl:=hv.len
    have ef:A8 [Cell.i .i64 0,.i .i64 0,.i .u64 0] []=some [Cell.i .i64 0,.i .i64 0,.i .u64 0]:=rfl
    rw [C24]
    cases D with
    | nil =>
      rw [C8e]
      have z0:((([]:Dev).length:Nat):Int)=0:=rfl
      exact ⟨_,by simp only [esc,esh,Nat.reduceAdd,Nat.reduceMul,Nat.reduceLT,hl,z0,eq_self,ef,C2] <;> rfl⟩
    | cons b E =>
      have h0:0 < (b :: E).length:=by simp
      have c0:¬ (((b :: E).length:Nat):Int)=0:=by omega
      have hv2:=hv.more [some (Row.mk [.i .i64 0,.i .i64 0,.i .u64 0] true)]
      obtain ⟨a,u,a1,s1,hu⟩:=C98 hv2 hD h0
      have z0:((0:Nat):Int)=0:=rfl
      rw [z0] at a1
      have hG:=D2m (h:=g ++ [some (Row.mk [.i .i64 0,.i .i64 0,.i .u64 0] true)]) hu (hD.at h0)
      rw [List.getElem_cons_zero] at hG
      clear hu
      have ed:T5 (b :: E)=(okS b && decide (fieldN b 8 2=(((b :: E).length:Nat):Int))):=rfl
      have en:A1g (b :: E)=fieldN b 10 2:=rfl
      have em:A1f (b :: E)=fieldN b 12 8:=rfl
      rw [ed,en,em]
      generalize hN:(b :: E).length=N at *
      cases ho:okS b with
      | false =>
        rw [ho,B9m ho] at hG
        unfold C2 at *
        exact ⟨_,by simp only [esc,esh,Nat.reduceAdd,Nat.reduceMul,Nat.reduceLT,hl,c0,a1,s1,hG,ef,Bool.false_and] <;> rfl⟩
      | true =>
        rw [ho,B3r ho] at hG
        by_cases c1:fieldN b 8 2=(N:Int)
        · unfold C2 at *
          rw [c1] at hG ⊢
          exact ⟨_,by simp only [esc,esh,Nat.reduceAdd,Nat.reduceMul,Nat.reduceLT,hl,c0,a1,s1,hG,ef,eq_self] <;> rfl⟩
        · unfold C2 at *
          exact ⟨_,by simp only [esc,esh,Nat.reduceAdd,Nat.reduceMul,Nat.reduceLT,hl,c0,a1,s1,hG,ef,c1,Bool.true_and] <;> rfl⟩
  obtain ⟨g',e⟩:=key (ro h) hv.ro
  refine C5q e ?_
  cases T5 D <;> rfl
end Go.Proofs.YteckncopbicmcaaGreat
end
section
namespace Go.Proofs.YteckncopbicmcaaGreat
open Go Go.Esc
theorem B23 {t:List Int} {i:Nat}:Z9 t i=true ↔ ∀ k,k < i → toX t k ≠ toX t i:=by
  unfold Z9
  simp only [List.all_eq_true,List.mem_range,Bool.not_eq_true',decide_eq_false_iff_not]
end Go.Proofs.YteckncopbicmcaaGreat
end
noncomputable section
namespace Go.Proofs.YteckncopbicmcaaGreat
open Go Go.Esc
set_option maxRecDepth 100000
def B7B:ACode:=.seq [0,1,5] (.seq [0,1,5,9] (.ops [aO 6 (.mv (.t 5)),aO 7 (.mv (.t 0)),aO 8 (.len (.t 7)),aO 9 (.bin .lss (.t 6) (.t 8))]) (.cond (.t 9) .skip (.exit 0))) (.seq [0,1,5] (.block 1 (.seq [0,1,5,17] (.ops [aO 12 (.mv (.t 0)),aO 13 (.mv (.t 5)),aO 14 (.iAddrL 1 (.t 12) (.t 13)),aO 15 (.load1 (.t 14)),aO 16 (.mv (.t 1)),aO 17 (.bin .eql (.t 15) (.t 16))]) (.cond (.t 17) (.seq [4] (.ops [aO 4 (.mv (.v (.c (.b true))))]) .ret) .skip))) (.ops [aO 10 (.mv (.t 5)),aO 11 (.bin .add (.t 10) (.v (.c (.i .i64 1)))),aO 5 (.mv (.t 11))]))
def B7C:ACode:=.seq [4] (.ops [aO 4 (.mv (.v (.c (.b false))))]) .ret
def A_er09_In:AFn:=⟨.seq [0,1] (.ops [aO 4 (.mv (.v (.c (.b false))))]) (.seq [] (.seq [0,1,5] (.ops [aO 5 (.mv (.v (.c (.i .i64 0))))]) (.block 0 (.loop [0,1,5] B7B))) B7C),[.tmp 4]⟩
def A3X:B3:=B8
def C9o (n:Nat):B4 (Val × A0):=E5 [] (ax A3X n B7C) A_er09_In.fin
def C9p (n:Nat):B4 (Val × A0):=D6 0 (C9o n)
def A8m (n m:Nat) (x0 x1 x5:Val) (h:A0):A6:=C8 (ax A3X n B7B) [0,1,5] (C9p n) m [(0,x0),(1,x1),(5,x5)] h
def B05 (n:Nat) (args:List Val) (h:A0):A6:=ax A3X n A_er09_In.code A_er09_In.fin (params 0 args) h
theorem C2O (n:Nat) (a0 a1:Val) (h:A0):B05 n [a0,a1] h=A8m n n a0 a1 (.c (.i .i64 0)) h:=by kernel_rfl
theorem B7D (n m:Nat) (x0 x1 x5:Val) (h:A0):A8m n (m + 1) x0 x1 x5 h=bnd (E3 x0) fun v1=>bnd (A2 .lss x5 v1) fun v2=>cnd v2 (bnd (B9 1 x0 x5) fun v3=>bnd (A5 h v3) fun v4=>bnd (A2 .eql v4 x1) fun v5=>cnd v5 (some ((.c (.b true)),h)) (bnd (A2 .add x5 (.c (.i .i64 1))) fun v6=>A8m n m x0 x1 v6 h)) (some ((.c (.b false)),h)):=by kernel_rfl
theorem K_er09_In:FnK Tryz.prog 48 A_er09_In A3X B05:=.mk' (C1) Tryz.func48 (by kernel_rfl) (fun _ _ _=>C0)
def A4C:Fun:=tidy (Lim A_er09_In A3X)
theorem C4Z:SOk Tryz.prog 48 A4C:=K_er09_In.sok
theorem C4Y:D1 B05 A4C:=K_er09_In.flat
end Go.Proofs.YteckncopbicmcaaGreat
end
noncomputable section
namespace Go.Proofs.YteckncopbicmcaaGreat
open Go Go.Esc
set_option maxRecDepth 100000
def A_er19_Fine:AFn:=⟨.seq [0] (.ops [aO 2 (.mv (.v (.c (.b false))))]) (.seq [2] (.ops [aO 3 (.mv (.t 0)),aO 4 (.bin .geq (.t 3) (.v (.c (.i .i64 0)))),aO 5 (.mv (.t 4)),aG 6 5 true (.mv (.t 0)),aG 7 5 true (.bin .leq (.t 6) (.v (.c (.i .i64 65535)))),aO 8 (.pick (.t 5) (.t 7) (.v (.c (.b false)))),aO 2 (.mv (.t 8))]) .ret),[.tmp 2]⟩
def A98:B3:=B8
def B07 (n:Nat) (args:List Val) (h:A0):A6:=ax A98 n A_er19_Fine.code A_er19_Fine.fin (params 0 args) h
theorem C2Z (n:Nat) (a0:Val) (h:A0):B07 n [a0] h=bnd (A2 .geq a0 (.c (.i .i64 0))) fun v1=>bnd (gd v1 true (some (a0,h)) (some (.no,h))) fun p2=>bnd (gd v1 true (bnd (A2 .leq p2.1 (.c (.i .i64 65535))) fun v3=>some (v3,p2.2)) (some (.no,p2.2))) fun p4=>bnd (C4 v1 p4.1 (.c (.b false))) fun v5=>some (v5,p4.2):=by kernel_rfl
theorem K_er19_Fine:FnK Tryz.prog 238 A_er19_Fine A98 B07:=.mk' (C1) Tryz.func238 (by kernel_rfl) (fun _ _ _=>C0)
def A4L:Fun:=tidy (Lim A_er19_Fine A98)
theorem C5j:SOk Tryz.prog 238 A4L:=K_er19_Fine.sok
theorem C5i:D1 B07 A4L:=K_er19_Fine.flat
def B7T:ACode:=.seq [1,4,5] (.seq [1,4,5,24] (.ops [aO 23 (.mv (.t 5)),aO 24 (.bin .lss (.t 23) (.v (.c (.i .i64 32))))]) (.cond (.t 24) .skip (.exit 0))) (.seq [1,4,5] (.block 1 (.seq [1,4,5] (.seq [1,4,5,32] (.ops [aO 27 (.mv (.t 5)),aO 28 (.fAddr (.t 1) 1),aO 29 (.iAddrA 32 1 (.t 28) (.t 27)),aO 30 (.load1 (.t 29)),aO 31 (.call 238 [(.t 30)]),aO 32 (.un .not (.t 31))]) (.cond (.t 32) (.seq [2,3] (.ops [aO 2 (.nilrow 1),aO 3 (.mv (.v (.c (.b false))))]) .ret) .skip)) (.ops [aO 33 (.mv (.t 4)),aO 34 (.mv (.t 5)),aO 35 (.fAddr (.t 1) 1),aO 36 (.iAddrA 32 1 (.t 35) (.t 34)),aO 37 (.load1 (.t 36)),aO 38 (.conv .u64 (.t 37)),aO 39 (.call 168 [(.v (.c (.i .i64 2))),(.t 38)]),aO 40 (.app 1 (.t 33) (.t 39)),aO 4 (.mv (.t 40))]))) (.ops [aO 25 (.mv (.t 5)),aO 26 (.bin .add (.t 25) (.v (.c (.i .i64 1)))),aO 5 (.mv (.t 26))]))
def B7U:ACode:=.seq [2,3] (.ops [aO 41 (.mkSl 1 ([.i .u8 0]) (.v (.c (.i .i64 256))) (.v (.c (.i .i64 256)))),aO 42 (.mv (.t 4)),aO 43 (.call 118 [(.t 41),(.v (.c (.i .i64 0))),(.t 42)]),aO 2 (.mv (.t 43)),aO 3 (.mv (.v (.c (.b true))))]) .ret
def A_er19_Put:AFn:=⟨.seq [1] (.ops [aO 1 (.box (.t 0)),aO 2 (.nilrow 1),aO 3 (.mv (.v (.c (.b false))))]) (.seq [1] (.seq [1,13] (.ops [aO 6 (.fAddr (.t 1) 0),aO 7 (.load1 (.t 6)),aO 8 (.bin .lss (.t 7) (.v (.c (.i .i64 0)))),aO 9 (.mv (.t 8)),aG 10 9 false (.fAddr (.t 1) 0),aG 11 9 false (.load1 (.t 10)),aG 12 9 false (.bin .gtr (.t 11) (.v (.c (.i .i64 5)))),aO 13 (.pick (.t 9) (.v (.c (.b true))) (.t 12))]) (.cond (.t 13) (.seq [2,3] (.ops [aO 2 (.nilrow 1),aO 3 (.mv (.v (.c (.b false))))]) .ret) .skip)) (.seq [1,4] (.ops [aO 14 (.buildSl 1 4 ([.i .u8 0,.i .u8 0,.i .u8 0,.i .u8 0]) [(0,1,(.v (.c (.i .u8 105)))),(1,1,(.v (.c (.i .u8 100)))),(2,1,(.v (.c (.i .u8 120)))),(3,1,(.v (.c (.i .u8 33))))]),aO 15 (.mark (.t 14)),aO 16 (.fAddr (.t 1) 0),aO 17 (.load1 (.t 16)),aO 18 (.conv .u8 (.t 17)),aO 19 (.buildSl 1 1 ([.i .u8 0]) [(0,1,(.t 18))]),aO 20 (.app 1 (.t 15) (.t 19)),aO 4 (.mv (.t 20))]) (.seq [1,4] (.ops [aO 21 (.mv (.t 4)),aO 22 (.appZ 1 ([.i .u8 0]) (.t 21) (.v (.c (.i .i64 27)))),aO 4 (.mv (.t 22))]) (.seq [4] (.seq [1,4,5] (.ops [aO 5 (.mv (.v (.c (.i .i64 0))))]) (.block 0 (.loop [1,4,5] B7T))) B7U)))),[.tmp 2,.tmp 3]⟩
def A30:B3:=A7 238 A4L (A7 168 W2 (A7 118 A1X B8))
def C9A (n:Nat):B4 (Val × A0):=E5 [4] (ax A30 n B7U) A_er19_Put.fin
def C9B (n:Nat):B4 (Val × A0):=D6 0 (C9A n)
def A8r (n m:Nat) (x1 x4 x5:Val) (h:A0):A6:=C8 (ax A30 n B7T) [1,4,5] (C9B n) m [(1,x1),(4,x4),(5,x5)] h
def A6E (n:Nat) (args:List Val) (h:A0):A6:=ax A30 n A_er19_Put.code A_er19_Put.fin (params 0 args) h
theorem C22 (n:Nat) (a0:Val) (h:A0):A6E n [a0] h=bnd (cells? a0) fun c1=>bnd (B7 (.c (.p h.length 0)) 0) fun v2=>bnd (A5 ((h ++ [some (Row.mk (c1) true)]) ++ [some (Row.mk ([]) true)]) v2) fun v3=>bnd (A2 .lss v3 (.c (.i .i64 0))) fun v4=>bnd (gd v4 false (bnd (B7 (.c (.p h.length 0)) 0) fun v5=>some (v5,((h ++ [some (Row.mk (c1) true)]) ++ [some (Row.mk ([]) true)]))) (some (.no,((h ++ [some (Row.mk (c1) true)]) ++ [some (Row.mk ([]) true)])))) fun p6=>bnd (gd v4 false (bnd (A5 p6.2 p6.1) fun v7=>some (v7,p6.2)) (some (.no,p6.2))) fun p8=>bnd (gd v4 false (bnd (A2 .gtr p8.1 (.c (.i .i64 5))) fun v9=>some (v9,p8.2)) (some (.no,p8.2))) fun p10=>bnd (C4 v4 (.c (.b true)) p10.1) fun v11=>cnd v11 (C7 [some (.c (.sl p10.2.length 0 0 1)),some (.c (.b false))] (p10.2 ++ [some (Row.mk ([]) true)])) (bnd (A8 ([.i .u8 0,.i .u8 0,.i .u8 0,.i .u8 0]) [(0,1,.c (.i .u8 105)),(1,1,.c (.i .u8 100)),(2,1,.c (.i .u8 120)),(3,1,.c (.i .u8 33))]) fun c12=>bnd (Q6 (p10.2 ++ [some (Row.mk (c12) true)]) (.c (.sl p10.2.length 0 4 1))) fun v13=>bnd (B7 (.c (.p h.length 0)) 0) fun v14=>bnd (A5 (p10.2 ++ [some (Row.mk (c12) true)]) v14) fun v15=>bnd (I1 .u8 v15) fun v16=>bnd (A8 ([.i .u8 0]) [(0,1,v16)]) fun c17=>bnd (E7 ((p10.2 ++ [some (Row.mk (c12) true)]) ++ [some (Row.mk (c17) true)]) 1 v13 (.c (.sl (p10.2 ++ [some (Row.mk (c12) true)]).length 0 1 1))) fun p18=>bnd (A2i p18.2 1 ([.i .u8 0]) p18.1 (.c (.i .i64 27))) fun p19=>A8r n n (.c (.p h.length 0)) p19.1 (.c (.i .i64 0)) p19.2):=by kernel_rfl
theorem B7V (n m:Nat) (x1 x4 x5:Val) (h:A0):A8r n (m + 1) x1 x4 x5 h=bnd (A2 .lss x5 (.c (.i .i64 32))) fun v20=>cnd v20 (bnd (B7 x1 1) fun v21=>bnd (D8 32 1 v21 x5) fun v22=>bnd (A5 h v22) fun v23=>bnd (A4L [v23] h) fun p24=>bnd (aun .not p24.1) fun v25=>cnd v25 (C7 [some (.c (.sl p24.2.length 0 0 1)),some (.c (.b false))] (p24.2 ++ [some (Row.mk ([]) true)])) (bnd (B7 x1 1) fun v26=>bnd (D8 32 1 v26 x5) fun v27=>bnd (A5 p24.2 v27) fun v28=>bnd (I1 .u64 v28) fun v29=>bnd (W2 [.c (.i .i64 2),v29] p24.2) fun p30=>bnd (E7 p30.2 1 x4 p30.1) fun p31=>bnd (A2 .add x5 (.c (.i .i64 1))) fun v32=>A8r n m x1 p31.1 v32 p31.2)) (bnd (U9 (.c (.i .i64 256)) (.c (.i .i64 256))) fun n33=>bnd (A1X [(.c (.sl h.length 0 n33 1)),.c (.i .i64 0),x4] (h ++ [some (Row.mk (rows ([.i .u8 0]) n33) true)])) fun p34=>C7 [some p34.1,some (.c (.b true))] p34.2):=by kernel_rfl
theorem K_er19_Put:FnK Tryz.prog 226 A_er19_Put A30 A6E:=.mk' (A9 C5j (A9 B1s (A9 B4D C1))) Tryz.func226 (by kernel_rfl) (fun _ _ _=>C0)
def A4N:Fun:=tidy (Lim A_er19_Put A30)
theorem C5n:SOk Tryz.prog 226 A4N:=K_er19_Put.sok
theorem C5o:C2e A6E A4N:=K_er19_Put.out2
def B7Q:ACode:=.seq [0,3,4] (.seq [0,3,4,7] (.ops [aO 5 (.mv (.t 4)),aO 6 (.mv (.t 0)),aO 7 (.bin .lss (.t 5) (.t 6))]) (.cond (.t 7) .skip (.exit 0))) (.seq [0,3,4] (.block 1 (.ops [aO 10 (.mv (.t 3)),aO 11 (.bin .mul (.t 10) (.v (.c (.i .i64 2)))),aO 3 (.mv (.t 11))])) (.ops [aO 8 (.mv (.t 4)),aO 9 (.bin .add (.t 8) (.v (.c (.i .i64 1)))),aO 4 (.mv (.t 9))]))
def B7R:ACode:=.seq [2] (.ops [aO 12 (.mv (.t 3)),aO 2 (.mv (.t 12))]) .ret
def A_er19_Pow:AFn:=⟨.seq [0] (.ops [aO 2 (.mv (.v (.c (.i .i64 0))))]) (.seq [0,3] (.ops [aO 3 (.mv (.v (.c (.i .i64 1))))]) (.seq [3] (.seq [0,3,4] (.ops [aO 4 (.mv (.v (.c (.i .i64 0))))]) (.block 0 (.loop [0,3,4] B7Q))) B7R)),[.tmp 2]⟩
def A3Z:B3:=B8
def C9y (n:Nat):B4 (Val × A0):=E5 [3] (ax A3Z n B7R) A_er19_Pow.fin
def C9z (n:Nat):B4 (Val × A0):=D6 0 (C9y n)
def A8q (n m:Nat) (x0 x3 x4:Val) (h:A0):A6:=C8 (ax A3Z n B7Q) [0,3,4] (C9z n) m [(0,x0),(3,x3),(4,x4)] h
def B08 (n:Nat) (args:List Val) (h:A0):A6:=ax A3Z n A_er19_Pow.code A_er19_Pow.fin (params 0 args) h
theorem C21 (n:Nat) (a0:Val) (h:A0):B08 n [a0] h=A8q n n a0 (.c (.i .i64 1)) (.c (.i .i64 0)) h:=by kernel_rfl
theorem B7S (n m:Nat) (x0 x3 x4:Val) (h:A0):A8q n (m + 1) x0 x3 x4 h=bnd (A2 .lss x4 x0) fun v1=>cnd v1 (bnd (A2 .mul x3 (.c (.i .i64 2))) fun v2=>bnd (A2 .add x4 (.c (.i .i64 1))) fun v3=>A8q n m x0 v2 v3 h) (some (x3,h)):=by kernel_rfl
theorem K_er19_Pow:FnK Tryz.prog 164 A_er19_Pow A3Z B08:=.mk' (C1) Tryz.func164 (by kernel_rfl) (fun _ _ _=>C0)
def A05:Fun:=tidy (Lim A_er19_Pow A3Z)
theorem B4I:SOk Tryz.prog 164 A05:=K_er19_Pow.sok
theorem C5m:D1 B08 A05:=K_er19_Pow.flat
def B7K:ACode:=.seq [0,2,4,5] (.seq [0,2,4,5,13] (.ops [aO 12 (.mv (.t 5)),aO 13 (.bin .lss (.t 12) (.v (.c (.i .i64 32))))]) (.cond (.t 13) .skip (.exit 0))) (.seq [0,2,4,5] (.block 1 (.ops [aO 16 (.mv (.t 5)),aO 17 (.mv (.t 0)),aO 18 (.mv (.t 5)),aO 19 (.bin .mul (.v (.c (.i .i64 2))) (.t 18)),aO 20 (.bin .add (.v (.c (.i .i64 32))) (.t 19)),aO 21 (.call 92 [(.t 17),(.t 20),(.v (.c (.i .i64 2)))]),aO 22 (.fAddr (.t 4) 1),aO 23 (.iAddrA 32 1 (.t 22) (.t 16)),aN (.store1 (.t 23) (.t 21))])) (.ops [aO 14 (.mv (.t 5)),aO 15 (.bin .add (.t 14) (.v (.c (.i .i64 1)))),aO 5 (.mv (.t 15))]))
def B7M:ACode:=.seq [2,4,8] (.seq [2,4,8,42] (.ops [aO 41 (.mv (.t 8)),aO 42 (.bin .lss (.t 41) (.v (.c (.i .i64 32))))]) (.cond (.t 42) .skip (.exit 2))) (.seq [2,4,8] (.block 3 (.seq [2,4,8,49] (.ops [aO 45 (.mv (.t 8)),aO 46 (.fAddr (.t 4) 1),aO 47 (.iAddrA 32 1 (.t 46) (.t 45)),aO 48 (.load1 (.t 47)),aO 49 (.bin .neq (.t 48) (.v (.c (.i .i64 0))))]) (.cond (.t 49) (.seq [2,3] (.ops [aO 50 (.build ([.i .i64 0] ++ List.replicate 32 (.i .i64 0)) []),aN (.storeN 33 (.t 2) (.t 50)),aO 3 (.mv (.v (.c (.b false))))]) .ret) .skip))) (.ops [aO 43 (.mv (.t 8)),aO 44 (.bin .add (.t 43) (.v (.c (.i .i64 1)))),aO 8 (.mv (.t 44))]))
def B7N:ACode:=.seq [2,3] (.ops [aO 51 (.loadN 33 (.t 4)),aN (.storeN 33 (.t 2) (.t 51)),aO 3 (.mv (.v (.c (.b true))))]) .ret
def B7L:ACode:=.seq [0,2,4,6,7] (.ops [aO 25 (.loadN 33 (.t 4)),aO 26 (.call 226 [(.t 25)]),aO 24 (.mv (.t 26)),aO 27 (.ext (.t 24) 0),aO 28 (.ext (.t 24) 1),aO 6 (.mv (.t 27)),aO 7 (.mv (.t 28))]) (.seq [2,4] (.seq [2,4,36] (.ops [aO 29 (.mv (.t 7)),aO 30 (.un .not (.t 29)),aO 31 (.mv (.t 30)),aG 32 31 false (.mv (.t 6)),aG 33 31 false (.mv (.t 0)),aG 34 31 false (.call 49 [(.t 32),(.t 33)]),aG 35 31 false (.un .not (.t 34)),aO 36 (.pick (.t 31) (.v (.c (.b true))) (.t 35))]) (.cond (.t 36) (.seq [2,3] (.ops [aO 37 (.build ([.i .i64 0] ++ List.replicate 32 (.i .i64 0)) []),aN (.storeN 33 (.t 2) (.t 37)),aO 3 (.mv (.v (.c (.b false))))]) .ret) .skip)) (.seq [2,4] (.seq [2,4,8] (.ops [aO 38 (.fAddr (.t 4) 0),aO 39 (.load1 (.t 38)),aO 40 (.call 164 [(.t 39)]),aO 8 (.mv (.t 40))]) (.block 2 (.loop [2,4,8] B7M))) B7N))
def A_er19_Get:AFn:=⟨.seq [0,2] (.ops [aO 2 (.alloc ([.i .i64 0] ++ List.replicate 32 (.i .i64 0))),aO 3 (.mv (.v (.c (.b false))))]) (.seq [0,2,4] (.ops [aO 9 (.mv (.t 0)),aO 10 (.call 92 [(.t 9),(.v (.c (.i .i64 4))),(.v (.c (.i .i64 1)))]),aO 11 (.build ([.i .i64 0] ++ List.replicate 32 (.i .i64 0)) [(0,1,(.t 10))]),aO 4 (.alloc ([.i .i64 0] ++ List.replicate 32 (.i .i64 0))),aN (.storeN 33 (.t 4) (.t 11))]) (.seq [0,2,4] (.seq [0,2,4,5] (.ops [aO 5 (.mv (.v (.c (.i .i64 0))))]) (.block 0 (.loop [0,2,4,5] B7K))) B7L)),[.cellN 2 33,.tmp 3]⟩
def A1J:B3:=A7 92 X2 (A7 226 A4N (A7 49 Z3 (A7 164 A05 B8)))
def C9u (n:Nat):B4 (Val × A0):=E5 [0,2,4] (ax A1J n B7L) A_er19_Get.fin
def C9v (n:Nat):B4 (Val × A0):=D6 0 (C9u n)
def A8o (n m:Nat) (x0 x2 x4 x5:Val) (h:A0):A6:=C8 (ax A1J n B7K) [0,2,4,5] (C9v n) m [(0,x0),(2,x2),(4,x4),(5,x5)] h
def A6D (n:Nat) (args:List Val) (h:A0):A6:=ax A1J n A_er19_Get.code A_er19_Get.fin (params 0 args) h
def C9w (n:Nat):B4 (Val × A0):=E5 [2,4] (ax A1J n B7N) A_er19_Get.fin
def C9x (n:Nat):B4 (Val × A0):=D6 2 (C9w n)
def A8p (n m:Nat) (x2 x4 x8:Val) (h:A0):A6:=C8 (ax A1J n B7M) [2,4,8] (C9x n) m [(2,x2),(4,x4),(8,x8)] h
theorem C20 (n:Nat) (a0:Val) (h:A0):A6D n [a0] h=bnd (X2 [a0,.c (.i .i64 4),.c (.i .i64 1)] (h ++ [some (Row.mk ([.i .i64 0] ++ List.replicate 32 (.i .i64 0)) true)])) fun p1=>bnd (A8 ([.i .i64 0] ++ List.replicate 32 (.i .i64 0)) [(0,1,p1.1)]) fun c2=>bnd (B6 (p1.2 ++ [some (Row.mk ([.i .i64 0] ++ List.replicate 32 (.i .i64 0)) true)]) 33 (.c (.p p1.2.length 0)) (.a c2)) fun h3=>A8o n n a0 (.c (.p h.length 0)) (.c (.p p1.2.length 0)) (.c (.i .i64 0)) h3:=by kernel_rfl
theorem B7O (n m:Nat) (x0 x2 x4 x5:Val) (h:A0):A8o n (m + 1) x0 x2 x4 x5 h=bnd (A2 .lss x5 (.c (.i .i64 32))) fun v4=>cnd v4 (bnd (A2 .mul (.c (.i .i64 2)) x5) fun v5=>bnd (A2 .add (.c (.i .i64 32)) v5) fun v6=>bnd (X2 [x0,v6,.c (.i .i64 2)] h) fun p7=>bnd (B7 x4 1) fun v8=>bnd (D8 32 1 v8 x5) fun v9=>bnd (F9 p7.2 v9 p7.1) fun h10=>bnd (A2 .add x5 (.c (.i .i64 1))) fun v11=>A8o n m x0 x2 x4 v11 h10) (bnd (A3 h 33 x4) fun v12=>bnd (A4N [v12] h) fun p13=>bnd (C5 p13.1 0) fun v14=>bnd (C5 p13.1 1) fun v15=>bnd (aun .not v15) fun v16=>bnd (gd v16 false (some (v14,p13.2)) (some (.no,p13.2))) fun p17=>bnd (gd v16 false (some (x0,p17.2)) (some (.no,p17.2))) fun p18=>bnd (gd v16 false (bnd (Z3 [p17.1,p18.1] p18.2) fun p19=>some (p19.1,p19.2)) (some (.no,p18.2))) fun p20=>bnd (gd v16 false (bnd (aun .not p20.1) fun v21=>some (v21,p20.2)) (some (.no,p20.2))) fun p22=>bnd (C4 v16 (.c (.b true)) p22.1) fun v23=>cnd v23 (bnd (A8 ([.i .i64 0] ++ List.replicate 32 (.i .i64 0)) []) fun c24=>bnd (B6 p22.2 33 x2 (.a c24)) fun h25=>C7 [A3 h25 33 x2,some (.c (.b false))] h25) (bnd (B7 x4 0) fun v26=>bnd (A5 p22.2 v26) fun v27=>bnd (A05 [v27] p22.2) fun p28=>A8p n n x2 x4 p28.1 p28.2)):=by kernel_rfl
theorem B7P (n m:Nat) (x2 x4 x8:Val) (h:A0):A8p n (m + 1) x2 x4 x8 h=bnd (A2 .lss x8 (.c (.i .i64 32))) fun v29=>cnd v29 (bnd (B7 x4 1) fun v30=>bnd (D8 32 1 v30 x8) fun v31=>bnd (A5 h v31) fun v32=>bnd (A2 .neq v32 (.c (.i .i64 0))) fun v33=>cnd v33 (bnd (A8 ([.i .i64 0] ++ List.replicate 32 (.i .i64 0)) []) fun c34=>bnd (B6 h 33 x2 (.a c34)) fun h35=>C7 [A3 h35 33 x2,some (.c (.b false))] h35) (bnd (A2 .add x8 (.c (.i .i64 1))) fun v36=>A8p n m x2 x4 v36 h)) (bnd (A3 h 33 x4) fun v37=>bnd (B6 h 33 x2 v37) fun h38=>C7 [A3 h38 33 x2,some (.c (.b true))] h38):=by kernel_rfl
theorem K_er19_Get:FnK Tryz.prog 158 A_er19_Get A1J A6D:=.mk' (A9 B1r (A9 C5n (A9 A7s (A9 B4I C1)))) Tryz.func158 (by kernel_rfl) (fun _ _ _=>C0)
def A4M:Fun:=tidy (Lim A_er19_Get A1J)
theorem C5l:SOk Tryz.prog 158 A4M:=K_er19_Get.sok
theorem C5k:D1 A6D A4M:=K_er19_Get.flat
def A_er19_Deep:AFn:=⟨.seq [1] (.ops [aO 1 (.box (.t 0)),aO 2 (.mv (.v (.c (.i .i64 0))))]) (.seq [1] (.seq [1,5] (.ops [aO 3 (.fAddr (.t 1) 0),aO 4 (.load1 (.t 3)),aO 5 (.bin .lss (.t 4) (.v (.c (.i .i64 0))))]) (.cond (.t 5) (.seq [2] (.ops [aO 2 (.mv (.v (.c (.i .i64 0))))]) .ret) .skip)) (.seq [1] (.seq [1,8] (.ops [aO 6 (.fAddr (.t 1) 0),aO 7 (.load1 (.t 6)),aO 8 (.bin .gtr (.t 7) (.v (.c (.i .i64 5))))]) (.cond (.t 8) (.seq [2] (.ops [aO 2 (.mv (.v (.c (.i .i64 5))))]) .ret) .skip)) (.seq [2] (.ops [aO 9 (.fAddr (.t 1) 0),aO 10 (.load1 (.t 9)),aO 2 (.mv (.t 10))]) .ret))),[.tmp 2]⟩
def A97:B3:=B8
def A6C (n:Nat) (args:List Val) (h:A0):A6:=ax A97 n A_er19_Deep.code A_er19_Deep.fin (params 0 args) h
theorem C2Y (n:Nat) (a0:Val) (h:A0):A6C n [a0] h=bnd (cells? a0) fun c1=>bnd (B7 (.c (.p h.length 0)) 0) fun v2=>bnd (A5 (h ++ [some (Row.mk (c1) true)]) v2) fun v3=>bnd (A2 .lss v3 (.c (.i .i64 0))) fun v4=>cnd v4 (some ((.c (.i .i64 0)),(h ++ [some (Row.mk (c1) true)]))) (bnd (B7 (.c (.p h.length 0)) 0) fun v5=>bnd (A5 (h ++ [some (Row.mk (c1) true)]) v5) fun v6=>bnd (A2 .gtr v6 (.c (.i .i64 5))) fun v7=>cnd v7 (some ((.c (.i .i64 5)),(h ++ [some (Row.mk (c1) true)]))) (bnd (B7 (.c (.p h.length 0)) 0) fun v8=>bnd (A5 (h ++ [some (Row.mk (c1) true)]) v8) fun v9=>some (v9,(h ++ [some (Row.mk (c1) true)])))):=by kernel_rfl
theorem K_er19_Deep:FnK Tryz.prog 165 A_er19_Deep A97 A6C:=.mk' (C1) Tryz.func165 (by kernel_rfl) (fun _ _ _=>C0)
def A4K:Fun:=tidy (Lim A_er19_Deep A97)
theorem C5h:SOk Tryz.prog 165 A4K:=K_er19_Deep.sok
theorem C5g:D1 A6C A4K:=K_er19_Deep.flat
def B7I:ACode:=.ops [aO 10 (.mv (.t 4)),aO 11 (.bin .add (.t 10) (.v (.c (.i .i64 1)))),aO 4 (.mv (.t 11))]
def B2G:ACode:=.seq [1,3,4] (.seq [1,3,4,9] (.ops [aO 5 (.mv (.t 4)),aO 6 (.loadN 33 (.t 1)),aO 7 (.call 165 [(.t 6)]),aO 8 (.call 164 [(.t 7)]),aO 9 (.bin .lss (.t 5) (.t 8))]) (.cond (.t 9) .skip (.exit 0))) (.seq [1,3,4] (.block 1 (.seq [1,3,4,25] (.ops [aO 12 (.mv (.t 4)),aO 13 (.fAddr (.t 1) 1),aO 14 (.iAddrA 32 1 (.t 13) (.t 12)),aO 15 (.load1 (.t 14)),aO 16 (.bin .neq (.t 15) (.v (.c (.i .i64 0)))),aO 17 (.mv (.t 16)),aG 18 17 true (.mv (.t 3)),aG 19 17 true (.mv (.t 4)),aG 20 17 true (.fAddr (.t 1) 1),aG 21 17 true (.iAddrA 32 1 (.t 20) (.t 19)),aG 22 17 true (.load1 (.t 21)),aG 23 17 true (.call 48 [(.t 18),(.t 22)]),aG 24 17 true (.un .not (.t 23)),aO 25 (.pick (.t 17) (.t 24) (.v (.c (.b false))))]) (.cond (.t 25) (.ops [aO 26 (.mv (.t 3)),aO 27 (.mv (.t 4)),aO 28 (.fAddr (.t 1) 1),aO 29 (.iAddrA 32 1 (.t 28) (.t 27)),aO 30 (.load1 (.t 29)),aO 31 (.buildSl 1 1 ([.i .i64 0]) [(0,1,(.t 30))]),aO 32 (.app 1 (.t 26) (.t 31)),aO 3 (.mv (.t 32))]) .skip))) B7I)
def B7H:ACode:=.seq [2] (.ops [aO 33 (.mv (.t 3)),aO 2 (.mv (.t 33))]) .ret
def A_er19_Buckets:AFn:=⟨.seq [1] (.ops [aO 1 (.box (.t 0)),aO 2 (.nilrow 1)]) (.seq [1,3] (.ops [aO 3 (.nilrow 1)]) (.seq [3] (.seq [1,3,4] (.ops [aO 4 (.mv (.v (.c (.i .i64 0))))]) (.block 0 (.loop [1,3,4] B2G))) B7H)),[.tmp 2]⟩
def A1I:B3:=A7 165 A4K (A7 164 A05 (A7 48 A4C B8))
def C9s (n:Nat):B4 (Val × A0):=E5 [3] (ax A1I n B7H) A_er19_Buckets.fin
def B2J (n:Nat):B4 (Val × A0):=D6 0 (C9s n)
def A5w (n m:Nat) (x1 x3 x4:Val) (h:A0):A6:=C8 (ax A1I n B2G) [1,3,4] (B2J n) m [(1,x1),(3,x3),(4,x4)] h
def A6B (n:Nat) (args:List Val) (h:A0):A6:=ax A1I n A_er19_Buckets.code A_er19_Buckets.fin (params 0 args) h
def C9t (n m:Nat):B4 (Val × A0):=R1 [1,3,4] (C8 (ax A1I n B2G) [1,3,4] (B2J n) m) (B2J n)
def B2H (n m:Nat) (x1 x3 x4:Val) (h:A0):A6:=hold ((ax A1I n B7I) (C9t n m) [(1,x1),(3,x3),(4,x4)] h)
theorem C2X (n:Nat) (a0:Val) (h:A0):A6B n [a0] h=bnd (cells? a0) fun c1=>A5w n n (.c (.p h.length 0)) (.c (.sl ((h ++ [some (Row.mk (c1) true)]) ++ [some (Row.mk ([]) true)]).length 0 0 1)) (.c (.i .i64 0)) (((h ++ [some (Row.mk (c1) true)]) ++ [some (Row.mk ([]) true)]) ++ [some (Row.mk ([]) true)]):=by kernel_rfl
theorem B7J (n m:Nat) (x1 x3 x4:Val) (h:A0):A5w n (m + 1) x1 x3 x4 h=bnd (A3 h 33 x1) fun v2=>bnd (A4K [v2] h) fun p3=>bnd (A05 [p3.1] p3.2) fun p4=>bnd (A2 .lss x4 p4.1) fun v5=>cnd v5 (bnd (B7 x1 1) fun v6=>bnd (D8 32 1 v6 x4) fun v7=>bnd (A5 p4.2 v7) fun v8=>bnd (A2 .neq v8 (.c (.i .i64 0))) fun v9=>bnd (gd v9 true (some (x3,p4.2)) (some (.no,p4.2))) fun p10=>bnd (gd v9 true (some (x4,p10.2)) (some (.no,p10.2))) fun p11=>bnd (gd v9 true (bnd (B7 x1 1) fun v12=>some (v12,p11.2)) (some (.no,p11.2))) fun p13=>bnd (gd v9 true (bnd (D8 32 1 p13.1 p11.1) fun v14=>some (v14,p13.2)) (some (.no,p13.2))) fun p15=>bnd (gd v9 true (bnd (A5 p15.2 p15.1) fun v16=>some (v16,p15.2)) (some (.no,p15.2))) fun p17=>bnd (gd v9 true (bnd (A4C [p10.1,p17.1] p17.2) fun p18=>some (p18.1,p18.2)) (some (.no,p17.2))) fun p19=>bnd (gd v9 true (bnd (aun .not p19.1) fun v20=>some (v20,p19.2)) (some (.no,p19.2))) fun p21=>bnd (C4 v9 p21.1 (.c (.b false))) fun v22=>cnd v22 (bnd (B7 x1 1) fun v23=>bnd (D8 32 1 v23 x4) fun v24=>bnd (A5 p21.2 v24) fun v25=>bnd (A8 ([.i .i64 0]) [(0,1,v25)]) fun c26=>bnd (E7 (p21.2 ++ [some (Row.mk (c26) true)]) 1 x3 (.c (.sl p21.2.length 0 1 1))) fun p27=>B2H n m x1 p27.1 x4 p27.2) (B2H n m x1 x3 x4 p21.2)) (some (x3,p4.2)):=by kernel_rfl
theorem B2I (n m:Nat) (x1 x3 x4:Val) (h:A0):B2H n m x1 x3 x4 h=bnd (A2 .add x4 (.c (.i .i64 1))) fun v28=>A5w n m x1 x3 v28 h:=by kernel_rfl
theorem K_er19_Buckets:FnK Tryz.prog 89 A_er19_Buckets A1I A6B:=.mk' (A9 C5h (A9 B4I (A9 C4Z C1))) Tryz.func89 (by kernel_rfl) (fun _ _ _=>C0)
def A4J:Fun:=tidy (Lim A_er19_Buckets A1I)
theorem C5e:SOk Tryz.prog 89 A4J:=K_er19_Buckets.sok
theorem C5f:N9 A6B A4J:=K_er19_Buckets.out
end Go.Proofs.YteckncopbicmcaaGreat
end
section
namespace Go.Proofs.YteckncopbicmcaaGreat
open Go Go.Esc
theorem C0Z {d:Int} {t:List Int} {h:A0}:A4K [.a (encI (d :: t))] h=some (.c (.i .i64 (K7 d:Nat)),h):=by
  have key:∀ g,∃ g',A6C 0 [.a (encI (d :: t))] g=some (.c (.i .i64 (K7 d:Nat)),g'):=by
    intro g
    have l0:(encI (d :: t))[0]? = some (.i .i64 d):=rfl
    rw [C2Y]
    generalize encI (d :: t)=y at *
    by_cases c1:d < 0
    · have e:((K7 d:Nat):Int)=0:=by unfold K7;omega
      rw [e]
      exact ⟨_,by simp only [esc,esh,Nat.reduceAdd,Nat.reduceMul,Nat.reduceLT,l0,c1] <;> rfl⟩
    · by_cases c2:5 < d
      · have e:((K7 d:Nat):Int)=5:=by unfold K7;omega
        rw [e]
        exact ⟨_,by simp only [esc,esh,Nat.reduceAdd,Nat.reduceMul,Nat.reduceLT,l0,c1,c2] <;> rfl⟩
      · rw [B2i (by omega) (by omega)]
        exact ⟨_,by simp only [esc,esh,Nat.reduceAdd,Nat.reduceMul,Nat.reduceLT,l0,c1,c2] <;> rfl⟩
  obtain ⟨g',e⟩:=key (ro h)
  exact C5g e rfl
theorem C0H {k q:Nat} {h:A0} (hk:k ≤ 32):∀ e i m:Nat,i + e=k → e < m → A8q q m (.c (.i .i64 (k:Int))) (.c (.i .i64 ((2 ^ i:Nat):Int))) (.c (.i .i64 (i:Int))) h=some (.c (.i .i64 ((2 ^ k:Nat):Int)),h)
  | e,i,0,_,hm=>by omega
  | 0,i,m + 1,hi,hm=>by
    have e0:i=k:=by omega
    subst e0
    have c0:¬ (i:Int) < i:=by omega
    rw [B7S]
    simp only [esc,c0]
  | e + 1,i,m + 1,hi,hm=>by
    have ih:=C0H (q:=q) (h:=h) hk e (i + 1) m (by omega) (by omega)
    have c0:(i:Int) < k:=by omega
    have hp:2 ^ i ≤ 2 ^ 32:=Nat.pow_le_pow_right (by omega) (by omega)
    have w1:IntKind.wrap .i64 (((2 ^ i:Nat):Int) * 2)=((2 ^ (i + 1):Nat):Int):=by
      rw [Nat.pow_succ]
      generalize 2 ^ i=y at hp ⊢
      rw [wrap_i64 (by omega) (by omega)];omega
    rw [B7S]
    generalize ((2 ^ (i + 1):Nat):Int)=y1 at *
    generalize ((2 ^ i:Nat):Int)=y at *
    simp only [esc,c0,w1,E6 (show i + 1 < 9223372036854775808 by omega)]
    exact ih
theorem C00 {k:Nat} {h:A0} (hk:k ≤ 32):A05 [.c (.i .i64 (k:Int))] h=some (.c (.i .i64 ((2 ^ k:Nat):Int)),h):=by
  have e:=C0H (q:=k + 1) (h:=ro h) hk k 0 (k + 1) (by omega) (by omega)
  exact C5m (n:=k + 1) (h2:=ro h) (by rw [C21];exact e) rfl
theorem C01 {d:Int} {h:A0}:A05 [.c (.i .i64 (K7 d:Nat))] h=some (.c (.i .i64 (F3 d:Nat)),h):=C00 (by have:=A3l d;omega)
end Go.Proofs.YteckncopbicmcaaGreat
end
section
namespace Go.Proofs.YteckncopbicmcaaGreat
open Go Go.Esc
theorem D2t {n:Int} {h:A0}:A4L [.c (.i .i64 n)] h=some (.c (.b (T6 n)),h):=by
  refine C5i (n:=0) (h2:=ro h) ?_ rfl
  rw [C2Z]
  unfold T6
  by_cases c:0 ≤ n
  · simp only [esc,c,Bool.true_and]
  · simp only [esc,c,Bool.false_and]
theorem C7q {h:A0} {id n m:Nat} {cs:List Cell} (hr:rd h id=some ⟨cs,true⟩) (hl:cs.length=n) (hn:n + m ≤ 1073741824) :
    A2i h 1 [.i .u8 0] (.c (.sl id 0 n 1)) (.c (.i .i64 (m:Int)))=some (.c (.sl h.length 0 (n + m) 1),h.set id none ++ [some ⟨cs ++ A1 (zeros m),true⟩]):=by
  have hm:Y8 (.c (.i .i64 (m:Int)))=some m:=by simp only [Y8];rw [if_pos (by omega)];simp
  have hz:=A5W m
  simp only [A2i,hm,Option.bind_some,hr,hz]
  rw [if_pos ⟨trivial,trivial,by omega,trivial,hn⟩]
theorem C1h {d:Int} {t:List Int} {g:A0} {q:Nat} (ht:t.length=32):∀ (e i m:Nat) (h:A0) (id:Nat),i + e=32 → e < m → Low (g ++ [some (Row.mk (encI (d :: t)) true)]).length (g ++ [some (Row.mk (encI (d :: t)) true)]) h → (g ++ [some (Row.mk (encI (d :: t)) true)]).length ≤ id → rd h id=some ⟨A1 (M1 d ++ K2 (t.take i)),true⟩ →
    ∃ j h',A8r q m (.c (.p g.length 0)) (.c (.sl id 0 (32 + 2 * i) 1)) (.c (.i .i64 (i:Int))) h=some (.t [.c (.sl j 0 (bif (t.drop i).all T6 then 256 else 0) 1),.c (.b ((t.drop i).all T6))],h') ∧
      Out g.length h' (.c (.sl j 0 (bif (t.drop i).all T6 then 256 else 0) 1)) 1 (bif (t.drop i).all T6 then 256 else 0) (A1 (bif (t.drop i).all T6 then J9 d t else []))
  | e,i,0,h,id,_,hm,_,_,_=>by omega
  | 0,i,m + 1,h,id,hi,hm,hlow,hid,hr=>by
    have e0:i=32:=by omega
    subst e0
    have c0:¬ ((32:Nat):Int) < 32:=by omega
    have mk:U9 (.c (.i .i64 256)) (.c (.i .i64 256))=some 256:=rfl
    have rz:=A5W 256
    have zl:(zeros 256).length=256:=zeros_length
    rw [List.take_of_length_le (by omega)] at hr
    have hnl:(M1 d ++ K2 t).length=96:=by rw [List.length_append,A3t,A3y];omega
    have hL:=C0U (h:=h ++ [some (Row.mk (A1 (zeros 256)) true)]) (v:=.c (.sl h.length 0 256 1)) (nv:=256) (l:=zeros 256) (u:=.c (.sl id 0 (32 + 2 * 32) 1)) (nu:=32 + 2 * 32) (data:=M1 d ++ K2 t) (Has.tr (by simp) (by rw [B1];exact zeros_length) (K1 _)) (Has.tr (C3 hr) (by rw [B1,hnl]) (K1 _)) (a:=0) (by omega) (by omega)
    have eL:U2 (zeros 256) 0 (M1 d ++ K2 t)=J9 d t:=by
      have h1:=B9l (l:=zeros 256) (xs:=M1 d ++ K2 t) (a:=0) (by omega)
      have h2:=A9m (l:=[]) (xs:=M1 d ++ K2 t) (a:=0) (by simp) (by omega)
      rw [show ((0:Nat):Int)=0 from rfl] at h1
      rw [h1,← B3I,h2,List.length_nil,Nat.sub_self,show zeros 0=[] from rfl,List.append_nil,List.nil_append];rfl
    rw [eL,zl] at hL
    have hil:=A5C (d:=d) ht
    rw [B7V,List.drop_of_length_le (by omega),List.all_nil]
    simp only [cond_true]
    rw [List.length_append] at hid
    have hll:=hlow.2.1
    rw [List.length_append] at hll
    simp only [List.length_cons,List.length_nil] at hll hid
    refine ⟨h.length + 1,h ++ [some (Row.mk (A1 (zeros 256)) true),some (Row.mk (A1 (J9 d t)) true)],?_,by rw [B1,hil],_,rfl,by omega,by simp⟩
    generalize J9 d t=P at *
    generalize zeros 256=z at *
    simp only [esc] at hL
    simp only [esc,esh,Nat.reduceAdd,Nat.reduceMul,Nat.reduceLT,c0,mk,rz,hL]
  | e + 1,i,m + 1,h,id,hi,hm,hlow,hid,hr=>by
    have c0:(i:Int) < 32:=by omega
    have hrd:rd h g.length=some ⟨encI (d :: t),true⟩:=hlow.rd (by simp)
    have a1:=adX (id:=g.length) (i:=i) (by omega)
    have l1:=ldX (h:=h) (id:=g.length) hrd ht (i:=i) (by omega)
    have et:toX t i=t[i]:=by unfold toX;rw [List.getD_eq_getElem?_getD,List.getElem?_eq_getElem (by omega)];rfl
    rw [et] at l1
    have hF:=fun h=>D2t (n:=t[i]) (h:=h)
    rw [B7V,List.drop_eq_getElem_cons (by omega:i < t.length),List.all_cons]
    have hll:=hlow.2.1
    rw [List.length_append] at hll
    simp only [List.length_cons,List.length_nil] at hll
    cases c:T6 t[i] with
    | false =>
      rw [c] at hF
      rw [Bool.false_and]
      simp only [cond_false]
      refine ⟨h.length,h ++ [some (Row.mk [] true)],?_,rfl,_,rfl,by omega,by simp [A1]⟩
      generalize encI (d :: t)=y at *
      simp only [esc,c0,a1,l1,hF]
    | true =>
      rw [c] at hF
      rw [Bool.true_and]
      have hnl:(M1 d ++ K2 (t.take i)).length=32 + 2 * i:=by rw [List.length_append,A3t,A3y,List.length_take];omega
      have hb:=fun h=>A7P (w:=2) (v:=t[i]) (h:=h) (by omega)
      simp only [Int.cast_ofNat_Int] at hb
      obtain ⟨h1',b1,b2,b3,b4,b5⟩:=D2a (ys:=A1 (B5 2 t[i])) (m:=2) (sz:=1) (n:=32 + 2 * i) hlow hr (by rw [B1,hnl];omega) hid (by simp [B1]) (by omega) (by omega)
      rw [← W7,List.append_assoc,← B92,← List.take_succ_eq_append_getElem (by omega)] at b2
      obtain ⟨j,h',f1,f2⟩:=C1h (q:=q) ht e (i + 1) m h1' (h.length + 1) (by omega) (by omega) b3 b4 b2
      rw [show 32 + 2 * (i + 1)=32 + 2 * i + 2 by omega] at f1
      refine ⟨j,h',?_,f2⟩
      generalize encI (d :: t)=y at *
      simp only [esc,c0,a1,l1,hF,hb,b1,E6 (show i + 1 < 9223372036854775808 by omega)]
      exact f1
theorem D2v {d:Int} {t:List Int} {h:A0} (ht:t.length=32):A4N [.a (encI (d :: t))] h=some (.t [.c (.sl h.length 0 (bif okX d t then 256 else 0) 1),.c (.b (okX d t))],h ++ [some ⟨A1 (bif okX d t then J9 d t else []),true⟩]):=by
  have key:∀ N,32 < N → ∀ g,∃ j g',A6E N [.a (encI (d :: t))] g=some (.t [.c (.sl j 0 (bif okX d t then 256 else 0) 1),.c (.b (okX d t))],g') ∧ Out g.length g' (.c (.sl j 0 (bif okX d t then 256 else 0) 1)) 1 (bif okX d t then 256 else 0) (A1 (bif okX d t then J9 d t else [])):=by
    intro N hN g
    have l0:(encI (d :: t))[0]? = some (.i .i64 d):=rfl
    rw [C22]
    unfold okX
    by_cases c1:d < 0
    · rw [decide_eq_false (show ¬ 0 ≤ d by omega),Bool.false_and]
      simp only [cond_false]
      refine ⟨g.length + 2,g ++ [some (Row.mk (encI (d :: t)) true),some (Row.mk [] true),some (Row.mk [] true)],?_,rfl,_,rfl,by omega,by simp [A1]⟩
      generalize encI (d :: t)=y at *
      simp only [esc,esh,Nat.reduceAdd,Nat.reduceMul,Nat.reduceLT,l0,c1]
    · rw [decide_eq_true (show 0 ≤ d by omega),Bool.true_and]
      by_cases c2:5 < d
      · rw [decide_eq_false (show ¬ d ≤ 5 by omega),Bool.false_and]
        simp only [cond_false]
        refine ⟨g.length + 2,g ++ [some (Row.mk (encI (d :: t)) true),some (Row.mk [] true),some (Row.mk [] true)],?_,rfl,_,rfl,by omega,by simp [A1]⟩
        generalize encI (d :: t)=y at *
        simp only [esc,esh,Nat.reduceAdd,Nat.reduceMul,Nat.reduceLT,l0,c1,c2]
      · rw [decide_eq_true (show d ≤ 5 by omega),Bool.true_and]
        have ef:A8 [Cell.i .u8 0,.i .u8 0,.i .u8 0,.i .u8 0] [(0,1,.c (.i .u8 105)),(1,1,.c (.i .u8 100)),(2,1,.c (.i .u8 120)),(3,1,.c (.i .u8 33))]=some (A1 magX):=rfl
        have b0:IntKind.wrap .u8 d=((byI d 0).toNat:Int):=by rw [A9G,A2u];simp
        have ef1:A8 [Cell.i .u8 0] [(0,1,.c (.i .u8 ((byI d 0).toNat:Int)))]=some (A1 (B5 1 d)):=rfl
        have hM:Q6 (g ++ [some (Row.mk (encI (d :: t)) true),some (Row.mk [] true),some (Row.mk (A1 magX) true)]) (.c (.sl (g.length + 2) 0 4 1))=some (.c (.sl (g.length + 2) 0 4 1)):=by simp [Q6]
        have hA:=T2 (h:=g ++ [some (Row.mk (encI (d :: t)) true),some (Row.mk [] true),some (Row.mk (A1 magX) true),some (Row.mk (A1 (B5 1 d)) true)]) (id:=g.length + 2) (jd:=g.length + 3) (n:=4) (m:=1) (sz:=1) (cs:=A1 magX) (ys:=A1 (B5 1 d)) (rw:=true) (by simp) rfl (by simp) (by simp [B1]) rfl (by omega) (by omega)
        simp only [List.length_append,List.length_cons,List.length_nil,Nat.zero_add,List.append_assoc,List.cons_append,List.nil_append,A1A,List.set_cons_succ,List.set_cons_zero,Nat.reduceAdd,← W7] at hA
        have hZ:=C7q (h:=g ++ [some (Row.mk (encI (d :: t)) true),some (Row.mk [] true),none,some (Row.mk (A1 (B5 1 d)) true),some (Row.mk (A1 (magX ++ B5 1 d)) true)]) (id:=g.length + 4) (n:=5) (m:=27) (cs:=A1 (magX ++ B5 1 d)) (by simp) (by rw [B1];simp [magX]) (by omega)
        simp only [List.length_append,List.length_cons,List.length_nil,Nat.zero_add,List.append_assoc,List.cons_append,List.nil_append,A1A,List.set_cons_succ,List.set_cons_zero,Nat.reduceAdd,← W7] at hZ
        rw [show ((27:Nat):Int)=27 from rfl] at hZ
        obtain ⟨j,g',f1,f2⟩:=C1h (g:=g) (d:=d) (t:=t) (q:=N) ht 32 0 N (g ++ [some (Row.mk (encI (d :: t)) true),some (Row.mk [] true),none,some (Row.mk (A1 (B5 1 d)) true),none,some (Row.mk (A1 (magX ++ (B5 1 d ++ zeros 27))) true)]) (g.length + 5) (by omega) hN
          (by have:=(Low.refl (h:=g ++ [some (Row.mk (encI (d :: t)) true)]) (Nat.le_refl _)).new [some (Row.mk [] true),none,some (Row.mk (A1 (B5 1 d)) true),none,some (Row.mk (A1 (magX ++ (B5 1 d ++ zeros 27))) true)]
              simpa using this) (by simp) (by simp [M1,K2])
        rw [List.drop_zero] at f1 f2
        refine ⟨j,g',?_,f2⟩
        generalize magX ++ (B5 1 d ++ zeros 27)=P3 at *
        generalize magX ++ B5 1 d=P2 at *
        generalize A1 (B5 1 d)=P1 at *
        generalize A1 magX=mg at *
        generalize encI (d :: t)=y at *
        simp only [esc,esh,Nat.reduceAdd,Nat.reduceMul,Nat.reduceLT,l0,c1,c2,ef,hM,b0,ef1,hA,hZ]
        exact f1
  obtain ⟨j,g',e,ho⟩:=key (h.length + 33) (by omega) (ro h)
  exact C5o e (by simpa [K4] using ho) (by simp) rfl
theorem C1b {d:Int} {t:List Int} {ix iz q:Nat} {h:A0} (ht:t.length=32) (hx:rd h ix=some ⟨encI (d :: t),true⟩) (hz:rd h iz=some ⟨encI (0 :: zI 32),true⟩):∀ e i m:Nat,i + e=32 → e < m →
    ∃ h',A8p q m (.c (.p iz 0)) (.c (.p ix 0)) (.c (.i .i64 (i:Int))) h=some (.t [.a (encI (bif U4 t i e then d :: t else 0 :: zI 32)),.c (.b (U4 t i e))],h')
  | e,i,0,_,hm=>by omega
  | 0,i,m + 1,hi,hm=>by
    have e0:i=32:=by omega
    subst e0
    have c0:¬ ((32:Nat):Int) < 32:=by omega
    have hX:=J0 (d:=d) ht
    have hZ:(encI (0 :: zI 32)).length=33:=J0 (d:=0) M8
    have s1:=G5 (h:=h) (id:=ix) hx hX
    have s2:=storeAll (h:=h) (id:=iz) (xs:=encI (d :: t)) hz hZ hX
    have s3:=G5 (h:=h.set iz (some ⟨encI (d :: t),true⟩)) (id:=iz) (K3 (D0 hz)) hX
    have er:U4 t 32 0=true:=rfl
    rw [B7P,er,cond_true]
    generalize encI (d :: t)=y at *
    exact ⟨_,by simp only [esc,c0,s1,s2,s3] <;> rfl⟩
  | e + 1,i,m + 1,hi,hm=>by
    obtain ⟨h',ih⟩:=C1b (q:=q) ht hx hz e (i + 1) m (by omega) (by omega)
    have c0:(i:Int) < 32:=by omega
    have hZ:(encI (0 :: zI 32)).length=33:=J0 (d:=0) M8
    have a1:=adX (id:=ix) (i:=i) (by omega)
    have l1:=ldX (h:=h) (id:=ix) hx ht (i:=i) (by omega)
    have haf:A8 (encI (0 :: zI 32)) []=some (encI (0 :: zI 32)):=rfl
    have s2:=storeAll (h:=h) (id:=iz) (xs:=encI (0 :: zI 32)) hz hZ hZ
    have s3:=G5 (h:=h.set iz (some ⟨encI (0 :: zI 32),true⟩)) (id:=iz) (K3 (D0 hz)) hZ
    have er:U4 t i (e + 1)=(decide (toX t i=0) && U4 t (i + 1) e):=by unfold U4;rw [List.range'_succ,List.all_cons]
    rw [B7P,er,X1]
    by_cases c:toX t i=0
    · rw [decide_eq_true c,Bool.true_and]
      rw [c] at l1
      generalize encI (0 :: zI 32)=z at *
      exact ⟨h',by simp only [esc,c0,a1,l1,E6 (show i + 1 < 9223372036854775808 by omega)];exact ih⟩
    · rw [decide_eq_false c,Bool.false_and,cond_false]
      generalize encI (0 :: zI 32)=z at *
      exact ⟨_,by simp only [esc,c0,a1,l1,c,haf,s2,s3] <;> rfl⟩
theorem D1M {d:Int} {t:List Int} (h:okX d t=true):0 ≤ d ∧ d ≤ 5:=by
  unfold okX at h
  simp only [Bool.and_eq_true,decide_eq_true_eq] at h
  exact ⟨h.1,h.2.1⟩
theorem C1a {v:Val} {nv:Nat} {b:List UInt8} {g:A0} {q:Nat} (hb:b.length=256) (hv:Has g v 1 nv (A1 b)) (hq:32 < q):∀ e i m:Nat,i + e=32 → e < m →
    ∃ h',A8o q m v (.c (.p g.length 0)) (.c (.p (g.length + 1) 0)) (.c (.i .i64 (i:Int))) (g ++ [some (Row.mk (encI (0 :: zI 32)) true),some (Row.mk (encI (getD b :: C9 b i)) true)]) =
      some (.t [.a (encI (bif K8 b then getD b :: C9 b 32 else 0 :: zI 32)),.c (.b (K8 b))],h')
  | e,i,0,_,hm=>by omega
  | 0,i,m + 1,hi,hm=>by
    have e0:i=32:=by omega
    subst e0
    have c0:¬ ((32:Nat):Int) < 32:=by omega
    have ht:=A3s (b:=b) (n:=32) (Nat.le_refl _)
    have hX:=J0 (d:=getD b) ht
    have hZ:(encI (0 :: zI 32)).length=33:=J0 (d:=0) M8
    have hP:=D2v (d:=getD b) (t:=C9 b 32) (h:=g ++ [some (Row.mk (encI (0 :: zI 32)) true),some (Row.mk (encI (getD b :: C9 b 32)) true)]) ht
    simp only [List.length_append,List.length_cons,List.length_nil,Nat.zero_add,List.append_assoc,List.cons_append,List.nil_append] at hP
    have haf:A8 (encI (0 :: zI 32)) []=some (encI (0 :: zI 32)):=rfl
    have hm32:=A0X (getD b)
    unfold K8
    rw [B7O,X1]
    cases co:okX (getD b) (C9 b 32) with
    | false =>
      rw [co] at hP
      simp only [cond_false] at hP
      rw [Bool.false_and,cond_false]
      generalize encI (0 :: zI 32)=z at *
      generalize encI (getD b :: C9 b 32)=y at *
      exact ⟨_,by simp only [esc,esh,Nat.reduceAdd,Nat.reduceMul,Nat.reduceLT,c0,hX,hP,haf,hZ] <;> rfl⟩
    | true =>
      rw [co] at hP
      simp only [cond_true] at hP
      rw [Bool.true_and]
      have hil:=A5C (d:=getD b) ht
      have l0:(encI (getD b :: C9 b 32))[0]? = some (.i .i64 (getD b)):=rfl
      have hS:=A9u (l:=J9 (getD b) (C9 b 32)) (r:=b) (h:=g ++ [some (Row.mk (encI (0 :: zI 32)) true),some (Row.mk (encI (getD b :: C9 b 32)) true),some (Row.mk (A1 (J9 (getD b) (C9 b 32))) true)]) (v:=.c (.sl (g.length + 2) 0 256 1)) (u:=v) (nv:=256) (nu:=nv) (Has.row (rw:=true) (by simp) (by rw [B1,hil]) (K1 _)) (hv.more _) (by omega)
      by_cases ce:J9 (getD b) (C9 b 32)=b
      · rw [decide_eq_true ce,Bool.true_and]
        rw [decide_eq_true ce] at hS
        have hd:=D1M co
        have hPw:=fun h=>C00 (k:=K7 (getD b)) (h:=h) (by have:=A3l (getD b);omega)
        rw [B2i hd.1 hd.2] at hPw
        rw [show 2 ^ K7 (getD b)=F3 (getD b) from rfl] at hPw
        obtain ⟨h',e⟩:=C1b (d:=getD b) (t:=C9 b 32) (ix:=g.length + 1) (iz:=g.length) (q:=q) (h:=g ++ [some (Row.mk (encI (0 :: zI 32)) true),some (Row.mk (encI (getD b :: C9 b 32)) true),some (Row.mk (A1 (J9 (getD b) (C9 b 32))) true)]) ht (by simp) (by simp) (32 - F3 (getD b)) (F3 (getD b)) q (by omega) (by omega)
        refine ⟨h',?_⟩
        generalize U4 (C9 b 32) (F3 (getD b)) (32 - F3 (getD b))=R at *
        generalize encI (getD b :: C9 b 32)=Y at *
        generalize J9 (getD b) (C9 b 32)=I at *
        generalize encI (0 :: zI 32)=z at *
        simp only [esc,esh,Nat.reduceAdd,Nat.reduceMul,Nat.reduceLT,c0,hX,hP,hS,l0,hPw]
        exact e
      · rw [decide_eq_false ce,Bool.false_and,cond_false]
        rw [decide_eq_false ce] at hS
        generalize J9 (getD b) (C9 b 32)=I at *
        generalize encI (0 :: zI 32)=z at *
        generalize encI (getD b :: C9 b 32)=y at *
        exact ⟨_,by simp only [esc,esh,Nat.reduceAdd,Nat.reduceMul,Nat.reduceLT,c0,hX,hP,hS,haf,hZ] <;> rfl⟩
  | e + 1,i,m + 1,hi,hm=>by
    obtain ⟨h',ih⟩:=C1a (q:=q) hb hv hq e (i + 1) m (by omega) (by omega)
    have c0:(i:Int) < 32:=by omega
    have ht:=A3s (b:=b) (n:=i) (by omega)
    have hX:=J0 (d:=getD b) ht
    have hA:=fun l=>A5U (hv.more l) hb (a:=((32 + 2 * i:Nat):Int)) (w:=2)
    have ea:=A7G (b:=b) (a:=32 + 2 * i) (w:=2) (by omega) (by omega) (by omega)
    rw [show ((2:Nat):Int)=2 from rfl] at ea
    rw [ea] at hA
    have w1:IntKind.wrap .i64 (2 * (i:Int))=((2 * i:Nat):Int):=by rw [wrap_i64 (by omega) (by omega)];omega
    have w2:IntKind.wrap .i64 (32 + ((2 * i:Nat):Int))=((32 + 2 * i:Nat):Int):=by rw [wrap_i64 (by omega) (by omega)];omega
    have a1:=adX (id:=g.length + 1) (i:=i) (by omega)
    have hs:(encI (getD b :: C9 b i)).set (1 + i) (.i .i64 (fieldN b (32 + 2 * i) 2))=encI (getD b :: C9 b (i + 1)):=by rw [B6X,B8v (by omega)];rfl
    have hlt:1 + i < (encI (getD b :: C9 b i)).length:=by rw [hX];omega
    rw [B7O]
    generalize K8 b=G at *
    generalize getD b :: C9 b 32=Y at *
    generalize encI (getD b :: C9 b (i + 1))=y1 at *
    generalize encI (getD b :: C9 b i)=y at *
    generalize encI (0 :: zI 32)=z at *
    refine ⟨h',?_⟩
    simp only [esc,esh,Nat.reduceAdd,Nat.reduceMul,Nat.reduceLT,c0,w1,w2,hA,a1,hlt,hs,E6 (show i + 1 < 9223372036854775808 by omega)]
    exact ih
theorem D2u {v:Val} {nv:Nat} {b:List UInt8} {h:A0} (hb:b.length=256) (hv:Has h v 1 nv (A1 b)):A4M [v] h=some (.t [.a (encI (bif K8 b then getD b :: C9 b 32 else 0 :: zI 32)),.c (.b (K8 b))],h):=by
  have key:∀ N,32 < N → ∀ g,Has g v 1 nv (A1 b) → ∃ g',A6D N [v] g=some (.t [.a (encI (bif K8 b then getD b :: C9 b 32 else 0 :: zI 32)),.c (.b (K8 b))],g'):=by
    intro N hN g hv
    have hZ:(encI (0 :: zI 32)).length=33:=J0 (d:=0) M8
    have hA:=fun l=>A5U (hv.more l) hb (a:=4) (w:=1)
    have ea:=A7G (b:=b) (a:=4) (w:=1) (by omega) (by omega) (by omega)
    rw [show ((4:Nat):Int)=4 from rfl,show ((1:Nat):Int)=1 from rfl] at ea
    rw [ea] at hA
    have ef:A8 (encI (0 :: zI 32)) [(0,1,.c (.i .i64 (fieldN b 4 1)))]=some (encI (getD b :: C9 b 0)):=by
      have e1:(0 + 1 ≤ (encI (0 :: zI 32)).length):=by rw [hZ];omega
      simp only [A8,cells?]
      rw [if_pos ⟨rfl,e1⟩]
      rfl
    have hX:=J0 (d:=getD b) (A3s (b:=b) (n:=0) (by omega))
    obtain ⟨h',e⟩:=C1a (g:=g) (q:=N) hb hv hN 32 0 N (by omega) hN
    rw [C20,X1]
    generalize K8 b=G at *
    generalize getD b :: C9 b 32=Y at *
    generalize encI (getD b :: C9 b 0)=y at *
    generalize encI (0 :: zI 32)=z at *
    exact ⟨h',by simp only [esc,esh,Nat.reduceAdd,Nat.reduceMul,Nat.reduceLT,hZ,hA,ef,hX];exact e⟩
  obtain ⟨g',e⟩:=key (h.length + 33) (by omega) (ro h) hv.ro
  refine C5k e ?_
  cases K8 b <;> simp
end Go.Proofs.YteckncopbicmcaaGreat
end
section
namespace Go.Proofs.YteckncopbicmcaaGreat
open Go Go.Esc
theorem B8E {v:Val} {nv q:Nat} {l:List Int} {x:Int} {h:A0} (hv:Has h v 1 nv (encI l)) (hn:l.length=nv) (h62:nv < 9223372036854775808):∀ e i m:Nat,i + e=nv → e < m →
    A8m q m v (.c (.i .i64 x)) (.c (.i .i64 (i:Int))) h=some (.c (.b (decide (x ∈ l.drop i))),h)
  | e,i,0,_,hm=>by omega
  | 0,i,m + 1,hi,hm=>by
    have e0:i=nv:=by omega
    subst e0
    have c0:¬ (i:Int) < i:=by omega
    rw [B7D,List.drop_of_length_le (by omega)]
    simp only [esc,hv.len,c0,List.not_mem_nil]
  | e + 1,i,m + 1,hi,hm=>by
    have ih:=B8E (q:=q) (x:=x) hv hn h62 e (i + 1) m (by omega) (by omega)
    have hlen:=hv.len
    have c0:(i:Int) < nv:=by omega
    obtain ⟨id,off,ev,hid,k1,k2⟩:=hv.sl (by omega)
    have hx:=k1 i (.i .i64 l[i]) (by rw [Q9,List.getElem?_eq_getElem (by omega)];rfl)
    have eb:B9 1 v (.c (.i .i64 (i:Int)))=some (.c (.p id (off + i))):=by rw [ev,G6 (by omega)];simp
    rw [B7D,List.drop_eq_getElem_cons (by omega:i < l.length)]
    by_cases c:l[i]=x
    · have:decide (x ∈ l[i] :: l.drop (i + 1))=true:=decide_eq_true (by rw [c];exact List.mem_cons_self ..)
      rw [this]
      simp only [esc,hlen,c0,eb,hx,c]
    · have:decide (x ∈ l[i] :: l.drop (i + 1))=decide (x ∈ l.drop (i + 1)):=by
        refine decide_eq_decide.2 ?_
        rw [List.mem_cons]
        exact ⟨fun h=>by rcases h with h | h;exact absurd h.symm c;exact h,fun h=>.inr h⟩
      rw [this]
      simp only [esc,hlen,c0,eb,hx,c,E6 (show i + 1 < 9223372036854775808 by omega)]
      exact ih
theorem D2l {v:Val} {nv:Nat} {l:List Int} {x:Int} {h:A0} (hv:Has h v 1 nv (encI l)) (h62:nv < 9223372036854775808):A4C [v,.c (.i .i64 x)] h=some (.c (.b (decide (x ∈ l))),h):=by
  have hn:l.length=nv:=by simpa [F7] using hv.length
  have e:=B8E (q:=nv + 1) (x:=x) hv.ro hn h62 nv 0 (nv + 1) (by omega) (by omega)
  exact C4Y (n:=nv + 1) (h2:=ro h) (by rw [C2O];exact e) rfl
theorem B3u {t:List Int} {x:Int} (hx:x ≠ 0):∀ k,x ∈ E9 t k ↔ ∃ j,j < k ∧ toX t j=x
  | 0=>by simp [E9]
  | k + 1=>by
    rw [A3e,List.mem_append,B3u hx k]
    constructor
    · rintro (⟨j,h1,h2⟩ | h)
      · exact ⟨j,by omega,h2⟩
      · split at h
        · simp at h;exact ⟨k,by omega,h.symm⟩
        · cases h
    · rintro ⟨j,h1,h2⟩
      by_cases c:∃ j,j < k ∧ toX t j=x
      · exact .inl c
      · right
        have:j=k:=by
          by_cases e:j=k
          · exact e
          · exact absurd ⟨j,by omega,h2⟩ c
        subst this
        have hb:R7 t j=true:=by
          unfold R7
          rw [Bool.and_eq_true]
          refine ⟨by rw [h2];simp [hx],?_⟩
          rw [B23]
          intro k hk he
          exact c ⟨k,hk,he.trans h2⟩
        rw [if_pos hb,h2];simp
theorem B8D {t:List Int} {i:Nat} (h:toX t i ≠ 0):decide (toX t i ∈ E9 t i) = !Z9 t i:=by
  cases c:Z9 t i with
  | true =>
    rw [Bool.not_true,decide_eq_false]
    rw [B3u h]
    rintro ⟨j,h1,h2⟩
    exact B23.1 c j h1 h2
  | false =>
    rw [Bool.not_false,decide_eq_true]
    rw [B3u h]
    false_or_by_contra
    rename_i hn
    have:Z9 t i=true:=B23.2 fun k hk he=>hn ⟨k,hk,he⟩
    rw [c] at this;cases this
theorem B3Q {d:Int} {t:List Int} {g:A0} {q:Nat} (ht:t.length=32):∀ (e i m:Nat) (h:A0) (id:Nat),i + e=F3 d → e < m → Low (g ++ [some (Row.mk (encI (d :: t)) true)]).length (g ++ [some (Row.mk (encI (d :: t)) true)]) h → (g ++ [some (Row.mk (encI (d :: t)) true)]).length ≤ id → rd h id=some ⟨encI (E9 t i),true⟩ →
    ∃ v h',A5w q m (.c (.p g.length 0)) (.c (.sl id 0 (E9 t i).length 1)) (.c (.i .i64 (i:Int))) h=some (v,h') ∧ Out g.length h' v 1 (E9 t (F3 d)).length (encI (E9 t (F3 d)))
  | e,i,0,h,id,_,hm,_,_,_=>by omega
  | 0,i,m + 1,h,id,hi,hm,hlow,hid,hr=>by
    have e0:i=F3 d:=by omega
    subst e0
    have c0:¬ ((F3 d:Nat):Int) < (F3 d:Nat):=by omega
    have hB:=J0 (d:=d) ht
    have s1:=G5 (h:=h) (id:=g.length) (cs:=encI (d :: t)) (hlow.rd (by simp)) hB
    have hD:=fun h=>C0Z (d:=d) (t:=t) (h:=h)
    have hP:=fun h=>C01 (d:=d) (h:=h)
    rw [List.length_append] at hid
    rw [B7J]
    generalize encI (d :: t)=y at *
    exact ⟨_,_,by simp only [esc,s1,hD,hP,c0] <;> rfl,by rw [F7];omega,_,rfl,by omega,hr⟩
  | e + 1,i,m + 1,h,id,hi,hm,hlow,hid,hr=>by
    have c0:(i:Int) < (F3 d:Nat):=by omega
    have hm32:=A0X d
    have hB:=J0 (d:=d) ht
    have hrd:rd h g.length=some ⟨encI (d :: t),true⟩:=hlow.rd (by simp)
    have s1:=G5 (h:=h) (id:=g.length) (cs:=encI (d :: t)) hrd hB
    have hD:=fun h=>C0Z (d:=d) (t:=t) (h:=h)
    have hP:=fun h=>C01 (d:=d) (h:=h)
    have a1:=adX (id:=g.length) (i:=i) (by omega)
    have l1:=ldX (h:=h) (id:=g.length) hrd ht (i:=i) (by omega)
    have w1:=E6 (show i + 1 < 9223372036854775808 by omega)
    have hul:=A5l t i
    have hIn:=D2l (x:=toX t i) (Has.row (sz:=1) (n:=(E9 t i).length) hr (by rw [F7];omega) (D1r _)) (by omega)
    rw [B7J]
    have skip:R7 t i=false → ∃ v h',A5w q m (.c (.p g.length 0)) (.c (.sl id 0 (E9 t i).length 1)) (.c (.i .i64 ((i + 1:Nat):Int))) h=some (v,h') ∧ Out g.length h' v 1 (E9 t (F3 d)).length (encI (E9 t (F3 d))):=by
      intro c
      have hu:E9 t (i + 1)=E9 t i:=by rw [A3e,c];simp
      have:=B3Q (d:=d) (q:=q) ht e (i + 1) m h id (by omega) (by omega) hlow hid (by rw [hu];exact hr)
      rw [hu] at this;exact this
    by_cases cz:toX t i=0
    · obtain ⟨v,h',f1,f2⟩:=skip (by unfold R7;rw [decide_eq_true cz];rfl)
      rw [cz] at l1
      refine ⟨v,h',?_,f2⟩
      generalize encI (d :: t)=z at *
      simp only [esc,s1,hD,hP,c0,a1,l1,B2I,w1]
      exact f1
    · rw [B8D cz] at hIn
      cases cs:Z9 t i with
      | false =>
        obtain ⟨v,h',f1,f2⟩:=skip (by unfold R7;rw [cs,Bool.and_false])
        rw [cs] at hIn
        refine ⟨v,h',?_,f2⟩
        generalize encI (d :: t)=z at *
        simp only [esc,s1,hD,hP,c0,a1,l1,cz,hIn,B2I,w1]
        exact f1
      | true =>
        rw [cs] at hIn
        have cb:R7 t i=true:=by unfold R7;rw [cs,decide_eq_false cz];rfl
        have hu:E9 t (i + 1)=E9 t i ++ [toX t i]:=by rw [A3e,if_pos cb]
        obtain ⟨h1,b1,b2,b3,b4,b5⟩:=push (ys:=[.i .i64 (toX t i)]) (sz:=1) (n:=(E9 t i).length) hlow hr (by rw [F7];omega) hid rfl (by omega) (by omega)
        have he:encI (E9 t i) ++ [.i .i64 (toX t i)]=encI (E9 t (i + 1)):=by rw [hu];simp [encI]
        rw [he] at b2
        obtain ⟨v,h',f1,f2⟩:=B3Q (d:=d) (q:=q) ht e (i + 1) m h1 (h.length + 1) (by omega) (by omega) b3 b4 b2
        have hl1:(E9 t (i + 1)).length=(E9 t i).length + 1:=by rw [hu];simp
        rw [hl1] at f1
        have ef:A8 [Cell.i .i64 0] [(0,1,.c (.i .i64 (toX t i)))]=some [.i .i64 (toX t i)]:=rfl
        refine ⟨v,h',?_,f2⟩
        generalize encI (d :: t)=z at *
        simp only [esc,s1,hD,hP,c0,a1,l1,cz,hIn,ef,b1,B2I,w1]
        exact f1
theorem D2s {d:Int} {t:List Int} {h:A0} (ht:t.length=32):A4J [.a (encI (d :: t))] h=some (.c (.sl h.length 0 (E9 t (F3 d)).length 1),h ++ [some ⟨encI (E9 t (F3 d)),true⟩]):=by
  have key:∀ N,32 < N → ∀ g,∃ v g',A6B N [.a (encI (d :: t))] g=some (v,g') ∧ Out g.length g' v 1 (E9 t (F3 d)).length (encI (E9 t (F3 d))):=by
    intro N hN g
    have hm:=A0X d
    obtain ⟨v,g',f1,f2⟩:=B3Q (g:=g) (d:=d) (q:=N) ht (F3 d) 0 N (g ++ [some (Row.mk (encI (d :: t)) true),some (Row.mk [] true),some (Row.mk [] true)]) (g.length + 2) (by omega) (by omega)
      (by have:=(Low.refl (h:=g ++ [some (Row.mk (encI (d :: t)) true)]) (Nat.le_refl _)).new [some ⟨[],true⟩,some ⟨[],true⟩]
          simpa using this) (by simp) (by simp [E9,encI])
    rw [show E9 t 0=[] from rfl] at f1
    rw [C2X]
    refine ⟨v,g',?_,f2⟩
    generalize encI (d :: t)=z at *
    simp only [esc] at f1 ⊢
    exact f1
  obtain ⟨v,g',e,ho⟩:=key (h.length + 33) (by omega) (ro h)
  exact C5f e (by simpa [K4] using ho) (by simp)
theorem C1f {x k q:Nat} {b:Int} {h:A0} (hx:x < 4294967296) (hk:(k:Int)=max 0 (min b 32)):∀ e i m:Nat,i + e=k → e < m →
    A8e q m (.c (.i .u64 (x:Int))) (.c (.i .i64 b)) (.c (.i .u64 ((2 ^ i:Nat):Int))) (.c (.i .i64 (i:Int))) h=some (.c (.i .i64 ((x % 2 ^ k:Nat):Int)),h)
  | e,i,0,_,hm=>by omega
  | 0,i,m + 1,hi,hm=>by
    have e0:i=k:=by omega
    subst e0
    have hp0:0 < 2 ^ i:=Nat.pow_pos (by omega)
    have hm2:x % 2 ^ i ≤ x:=Nat.mod_le _ _
    rw [B7l]
    generalize 2 ^ i=s at *
    have e1:A2 .rem (.c (.i .u64 (x:Int))) (.c (.i .u64 (s:Int)))=some (.c (.i .u64 ((x % s:Nat):Int))):=by rw [A3I (a:=(x:Int)) (b:=(s:Int)) (by omega) (by omega)];simp
    have w1:IntKind.wrap .i64 ((x % s:Nat):Int)=((x % s:Nat):Int):=wrap_i64 (by omega) (by omega)
    generalize x % s=y at *
    by_cases c1:(i:Int) < b
    · have c2:¬ (i:Int) < 32:=by omega
      simp only [esc,c1,c2,e1,w1]
    · simp only [esc,c1,e1,w1]
  | e + 1,i,m + 1,hi,hm=>by
    have ih:=C1f (q:=q) (h:=h) hx hk e (i + 1) m (by omega) (by omega)
    have c1:(i:Int) < b:=by omega
    have c2:(i:Int) < 32:=by omega
    have hp:2 ^ i ≤ 2 ^ 32:=Nat.pow_le_pow_right (by omega) (by omega)
    have w1:IntKind.wrap .u64 (((2 ^ i:Nat):Int) * 2)=((2 ^ (i + 1):Nat):Int):=by
      rw [Nat.pow_succ]
      generalize 2 ^ i=y at hp ⊢
      rw [wrap_u64 (by omega) (by omega)];omega
    rw [B7l]
    generalize ((2 ^ (i + 1):Nat):Int)=y1 at *
    generalize ((2 ^ i:Nat):Int)=y at *
    simp only [esc,c1,c2,w1,E6 (show i + 1 < 9223372036854775808 by omega)]
    exact ih
theorem D2j {x:Nat} {b:Int} {h:A0} (hx:x < 4294967296):A4y [.c (.i .u64 (x:Int)),.c (.i .i64 b)] h=some (.c (.i .i64 (A0s x b:Nat)),h):=by
  have e:=C1f (q:=33) (b:=b) (h:=ro h) (k:=(max 0 (min b 32)).toNat) hx (by omega) (max 0 (min b 32)).toNat 0 33 (by omega) (by omega)
  have e2:x % 2 ^ (max 0 (min b 32)).toNat=A0s x b:=by
    unfold A0s
    by_cases c1:b < 1
    · have:(max 0 (min b 32)).toNat=0:=by omega
      rw [if_pos c1,this];simp [Nat.mod_one]
    · rw [if_neg c1]
      by_cases c2:32 ≤ b
      · have:(max 0 (min b 32)).toNat=32:=by omega
        rw [if_pos c2,this]
        exact Nat.mod_eq_of_lt (by omega)
      · have:(max 0 (min b 32)).toNat=b.toNat:=by omega
        rw [if_neg c2,this]
  rw [e2] at e
  exact C4L (n:=33) (h2:=ro h) (by rw [C2G];exact e) rfl
end Go.Proofs.YteckncopbicmcaaGreat
end
section
namespace Go.Proofs.YteckncopbicmcaaGreat
open Go Go.Esc
theorem A9G {a:Int}:IntKind.wrap .u8 a=a % 256:=by
  simp only [IntKind.wrap,IntKind.bits,IntKind.signed,Bool.false_and]
  rfl
end Go.Proofs.YteckncopbicmcaaGreat
end
noncomputable section
namespace Go.Proofs.YteckncopbicmcaaGreat
open Go Go.Esc
set_option maxRecDepth 100000
def A_er22_Block:AFn:=⟨.seq [0,1] (.ops [aO 4 (.nilrow 1)]) (.seq [0,1] (.seq [0,1,12] (.ops [aO 5 (.mv (.t 1)),aO 6 (.bin .lss (.t 5) (.v (.c (.i .i64 0)))),aO 7 (.mv (.t 6)),aG 8 7 false (.mv (.t 1)),aG 9 7 false (.mv (.t 0)),aG 10 7 false (.len (.t 9)),aG 11 7 false (.bin .geq (.t 8) (.t 10)),aO 12 (.pick (.t 7) (.v (.c (.b true))) (.t 11))]) (.cond (.t 12) (.seq [4] (.ops [aO 13 (.mkSl 1 ([.i .u8 0]) (.v (.c (.i .i64 256))) (.v (.c (.i .i64 256)))),aO 4 (.mv (.t 13))]) .ret) .skip)) (.seq [4] (.ops [aO 14 (.mv (.t 0)),aO 15 (.mv (.t 1)),aO 16 (.iAddrL 256 (.t 14) (.t 15)),aO 17 (.slA 256 1 (.t 16) none none),aO 4 (.mv (.t 17))]) .ret)),[.tmp 4]⟩
def B0b:B3:=B8
def B09 (n:Nat) (args:List Val) (h:A0):A6:=ax B0b n A_er22_Block.code A_er22_Block.fin (params 0 args) h
theorem C25 (n:Nat) (a0 a1:Val) (h:A0):B09 n [a0,a1] h=bnd (A2 .lss a1 (.c (.i .i64 0))) fun v1=>bnd (gd v1 false (some (a1,(h ++ [some (Row.mk ([]) true)]))) (some (.no,(h ++ [some (Row.mk ([]) true)])))) fun p2=>bnd (gd v1 false (some (a0,p2.2)) (some (.no,p2.2))) fun p3=>bnd (gd v1 false (bnd (E3 p3.1) fun v4=>some (v4,p3.2)) (some (.no,p3.2))) fun p5=>bnd (gd v1 false (bnd (A2 .geq p2.1 p5.1) fun v6=>some (v6,p5.2)) (some (.no,p5.2))) fun p7=>bnd (C4 v1 (.c (.b true)) p7.1) fun v8=>cnd v8 (bnd (U9 (.c (.i .i64 256)) (.c (.i .i64 256))) fun n9=>some ((.c (.sl p7.2.length 0 n9 1)),(p7.2 ++ [some (Row.mk (rows ([.i .u8 0]) n9) true)]))) (bnd (B9 256 a0 a1) fun v10=>bnd (Q7 p7.2 256 1 v10 none none) fun v11=>some (v11,p7.2)):=by kernel_rfl
theorem K_er22_Block:FnK Tryz.prog 33 A_er22_Block B0b B09:=.mk' (C1) Tryz.func33 (by kernel_rfl) (fun _ _ _=>C0)
def X3:Fun:=tidy (Lim A_er22_Block B0b)
theorem B1u:SOk Tryz.prog 33 X3:=K_er22_Block.sok
theorem C5s:B0K B09 X3:=K_er22_Block.low
def A_er22_Index:AFn:=⟨.seq [0,4,5,6] (.ops [aO 4 (.box (.t 1)),aO 5 (.box (.t 2)),aO 6 (.alloc ([.i .i64 0] ++ List.replicate 32 (.i .i64 0))),aO 7 (.mv (.v (.c (.b false))))]) (.seq [0,5,6] (.seq [0,5,6,18] (.ops [aO 8 (.fAddr (.t 5) 0),aO 9 (.load1 (.t 8)),aO 10 (.bin .neq (.t 9) (.v (.c (.i .i64 2)))),aO 11 (.mv (.t 10)),aG 12 11 false (.loadN 3 (.t 4)),aG 13 11 false (.fAddr (.t 5) 4),aG 14 11 false (.iAddrA 6 1 (.t 13) (.v (.c (.i .i64 0)))),aG 15 11 false (.load1 (.t 14)),aG 16 11 false (.call 74 [(.t 12),(.t 15)]),aG 17 11 false (.un .not (.t 16)),aO 18 (.pick (.t 11) (.v (.c (.b true))) (.t 17))]) (.cond (.t 18) (.seq [6,7] (.ops [aO 19 (.build ([.i .i64 0] ++ List.replicate 32 (.i .i64 0)) []),aN (.storeN 33 (.t 6) (.t 19)),aO 7 (.mv (.v (.c (.b false))))]) .ret) .skip)) (.seq [6,7] (.ops [aO 20 (.mv (.t 0)),aO 21 (.fAddr (.t 5) 4),aO 22 (.iAddrA 6 1 (.t 21) (.v (.c (.i .i64 0)))),aO 23 (.load1 (.t 22)),aO 24 (.call 33 [(.t 20),(.t 23)]),aO 25 (.call 158 [(.t 24)]),aO 26 (.ext (.t 25) 0),aO 27 (.ext (.t 25) 1),aN (.storeN 33 (.t 6) (.t 26)),aO 7 (.mv (.t 27))]) .ret)),[.cellN 6 33,.tmp 7]⟩
def B0c:B3:=A7 74 A12 (A7 33 X3 (A7 158 A4M B8))
def A6I (n:Nat) (args:List Val) (h:A0):A6:=ax B0c n A_er22_Index.code A_er22_Index.fin (params 0 args) h
theorem C27 (n:Nat) (a0 a1 a2:Val) (h:A0):A6I n [a0,a1,a2] h=bnd (cells? a1) fun c1=>bnd (cells? a2) fun c2=>bnd (B7 (.c (.p (h ++ [some (Row.mk (c1) true)]).length 0)) 0) fun v3=>bnd (A5 (((h ++ [some (Row.mk (c1) true)]) ++ [some (Row.mk (c2) true)]) ++ [some (Row.mk ([.i .i64 0] ++ List.replicate 32 (.i .i64 0)) true)]) v3) fun v4=>bnd (A2 .neq v4 (.c (.i .i64 2))) fun v5=>bnd (gd v5 false (bnd (A3 (((h ++ [some (Row.mk (c1) true)]) ++ [some (Row.mk (c2) true)]) ++ [some (Row.mk ([.i .i64 0] ++ List.replicate 32 (.i .i64 0)) true)]) 3 (.c (.p h.length 0))) fun v6=>some (v6,(((h ++ [some (Row.mk (c1) true)]) ++ [some (Row.mk (c2) true)]) ++ [some (Row.mk ([.i .i64 0] ++ List.replicate 32 (.i .i64 0)) true)]))) (some (.no,(((h ++ [some (Row.mk (c1) true)]) ++ [some (Row.mk (c2) true)]) ++ [some (Row.mk ([.i .i64 0] ++ List.replicate 32 (.i .i64 0)) true)])))) fun p7=>bnd (gd v5 false (bnd (B7 (.c (.p (h ++ [some (Row.mk (c1) true)]).length 0)) 4) fun v8=>some (v8,p7.2)) (some (.no,p7.2))) fun p9=>bnd (gd v5 false (bnd (D8 6 1 p9.1 (.c (.i .i64 0))) fun v10=>some (v10,p9.2)) (some (.no,p9.2))) fun p11=>bnd (gd v5 false (bnd (A5 p11.2 p11.1) fun v12=>some (v12,p11.2)) (some (.no,p11.2))) fun p13=>bnd (gd v5 false (bnd (A12 [p7.1,p13.1] p13.2) fun p14=>some (p14.1,p14.2)) (some (.no,p13.2))) fun p15=>bnd (gd v5 false (bnd (aun .not p15.1) fun v16=>some (v16,p15.2)) (some (.no,p15.2))) fun p17=>bnd (C4 v5 (.c (.b true)) p17.1) fun v18=>cnd v18 (bnd (A8 ([.i .i64 0] ++ List.replicate 32 (.i .i64 0)) []) fun c19=>bnd (B6 p17.2 33 (.c (.p ((h ++ [some (Row.mk (c1) true)]) ++ [some (Row.mk (c2) true)]).length 0)) (.a c19)) fun h20=>C7 [A3 h20 33 (.c (.p ((h ++ [some (Row.mk (c1) true)]) ++ [some (Row.mk (c2) true)]).length 0)),some (.c (.b false))] h20) (bnd (B7 (.c (.p (h ++ [some (Row.mk (c1) true)]).length 0)) 4) fun v21=>bnd (D8 6 1 v21 (.c (.i .i64 0))) fun v22=>bnd (A5 p17.2 v22) fun v23=>bnd (X3 [a0,v23] p17.2) fun p24=>bnd (A4M [p24.1] p24.2) fun p25=>bnd (C5 p25.1 0) fun v26=>bnd (C5 p25.1 1) fun v27=>bnd (B6 p25.2 33 (.c (.p ((h ++ [some (Row.mk (c1) true)]) ++ [some (Row.mk (c2) true)]).length 0)) v26) fun h28=>C7 [A3 h28 33 (.c (.p ((h ++ [some (Row.mk (c1) true)]) ++ [some (Row.mk (c2) true)]).length 0)),some v27] h28):=by kernel_rfl
theorem K_er22_Index:FnK Tryz.prog 79 A_er22_Index B0c A6I:=.mk' (A9 B4J (A9 B1u (A9 C5l C1))) Tryz.func79 (by kernel_rfl) (fun _ _ _=>C0)
def A14:Fun:=tidy (Lim A_er22_Index B0c)
theorem B4L:SOk Tryz.prog 79 A14:=K_er22_Index.sok
theorem C5u:D1 A6I A14:=K_er22_Index.flat
def B7X:ACode:=.ops [aO 28 (.mv (.t 11)),aO 29 (.bin .add (.t 28) (.v (.c (.i .i64 1)))),aO 11 (.mv (.t 29))]
def B2K:ACode:=.seq [4,7,10,11] (.seq [4,7,10,11,27] (.ops [aO 24 (.mv (.t 11)),aO 25 (.mv (.t 10)),aO 26 (.len (.t 25)),aO 27 (.bin .lss (.t 24) (.t 26))]) (.cond (.t 27) .skip (.exit 0))) (.seq [4,7,10,11] (.block 1 (.seq [4,7,10,11,35] (.draw 0 [aO 30 (.loadN 3 (.t 4)),aO 31 (.mv (.t 10)),aO 32 (.mv (.t 11)),aO 33 (.iAddrL 1 (.t 31) (.t 32)),aO 34 (.load1 (.t 33))] [aO 35 (.call 74 [(.t 30),(.t 34)])]) (.cond (.t 35) (.ops [aO 36 (.mv (.t 7)),aO 37 (.mv (.t 10)),aO 38 (.mv (.t 11)),aO 39 (.iAddrL 1 (.t 37) (.t 38)),aO 40 (.load1 (.t 39)),aO 41 (.buildSl 1 1 ([.i .i64 0]) [(0,1,(.t 40))]),aO 42 (.app 1 (.t 36) (.t 41)),aO 7 (.mv (.t 42))]) .skip))) B7X)
def B7W:ACode:=.seq [6] (.ops [aO 43 (.mv (.t 7)),aO 6 (.mv (.t 43))]) .ret
def A_er22_Buckets:AFn:=⟨.seq [0,4,5] (.ops [aO 4 (.box (.t 1)),aO 5 (.box (.t 2)),aO 6 (.nilrow 1)]) (.seq [0,4,5,7] (.ops [aO 7 (.nilrow 1)]) (.seq [4,7,8,9] (.ops [aO 13 (.mv (.t 0)),aO 14 (.loadN 3 (.t 4)),aO 15 (.loadN 11 (.t 5)),aO 16 (.call 79 [(.t 13),(.t 14),(.t 15)]),aO 12 (.mv (.t 16)),aO 17 (.ext (.t 12) 0),aO 18 (.ext (.t 12) 1),aO 8 (.alloc ([.i .i64 0] ++ List.replicate 32 (.i .i64 0))),aN (.storeN 33 (.t 8) (.t 17)),aO 9 (.mv (.t 18))]) (.seq [4,7,8] (.seq [4,7,8,20] (.ops [aO 19 (.mv (.t 9)),aO 20 (.un .not (.t 19))]) (.cond (.t 20) (.seq [6] (.ops [aO 21 (.mv (.t 7)),aO 6 (.mv (.t 21))]) .ret) .skip)) (.seq [4,7,10] (.ops [aO 22 (.loadN 33 (.t 8)),aO 23 (.call 89 [(.t 22)]),aO 10 (.mv (.t 23))]) (.seq [7] (.seq [4,7,10,11] (.ops [aO 11 (.mv (.v (.c (.i .i64 0))))]) (.block 0 (.loop [4,7,10,11] B2K))) B7W))))),[.tmp 6]⟩
def A1K:B3:=A7 79 A14 (A7 89 A4J (A7 74 A12 B8))
def C9C (n:Nat):B4 (Val × A0):=E5 [7] (ax A1K n B7W) A_er22_Buckets.fin
def B2M (n:Nat):B4 (Val × A0):=D6 0 (C9C n)
def A8s (n m:Nat) (x4 x7 x10 x11:Val) (h:A0):A6:=C8 (ax A1K n B2K) [4,7,10,11] (B2M n) m [(4,x4),(7,x7),(10,x10),(11,x11)] h
def A6H (n:Nat) (args:List Val) (h:A0):A6:=ax A1K n A_er22_Buckets.code A_er22_Buckets.fin (params 0 args) h
def C9D (n m:Nat):B4 (Val × A0):=R1 [4,7,10,11] (C8 (ax A1K n B2K) [4,7,10,11] (B2M n) m) (B2M n)
def B2L (n m:Nat) (x4 x7 x10 x11:Val) (h:A0):A6:=hold ((ax A1K n B7X) (C9D n m) [(4,x4),(7,x7),(10,x10),(11,x11)] h)
theorem C26 (n:Nat) (a0 a1 a2:Val) (h:A0):A6H n [a0,a1,a2] h=bnd (cells? a1) fun c1=>bnd (cells? a2) fun c2=>bnd (A3 ((((h ++ [some (Row.mk (c1) true)]) ++ [some (Row.mk (c2) true)]) ++ [some (Row.mk ([]) true)]) ++ [some (Row.mk ([]) true)]) 3 (.c (.p h.length 0))) fun v3=>bnd (A3 ((((h ++ [some (Row.mk (c1) true)]) ++ [some (Row.mk (c2) true)]) ++ [some (Row.mk ([]) true)]) ++ [some (Row.mk ([]) true)]) 11 (.c (.p (h ++ [some (Row.mk (c1) true)]).length 0))) fun v4=>bnd (A14 [a0,v3,v4] ((((h ++ [some (Row.mk (c1) true)]) ++ [some (Row.mk (c2) true)]) ++ [some (Row.mk ([]) true)]) ++ [some (Row.mk ([]) true)])) fun p5=>bnd (C5 p5.1 0) fun v6=>bnd (C5 p5.1 1) fun v7=>bnd (B6 (p5.2 ++ [some (Row.mk ([.i .i64 0] ++ List.replicate 32 (.i .i64 0)) true)]) 33 (.c (.p p5.2.length 0)) v6) fun h8=>bnd (aun .not v7) fun v9=>cnd v9 (some ((.c (.sl (((h ++ [some (Row.mk (c1) true)]) ++ [some (Row.mk (c2) true)]) ++ [some (Row.mk ([]) true)]).length 0 0 1)),h8)) (bnd (A3 h8 33 (.c (.p p5.2.length 0))) fun v10=>bnd (A4J [v10] h8) fun p11=>A8s n n (.c (.p h.length 0)) (.c (.sl (((h ++ [some (Row.mk (c1) true)]) ++ [some (Row.mk (c2) true)]) ++ [some (Row.mk ([]) true)]).length 0 0 1)) p11.1 (.c (.i .i64 0)) p11.2):=by kernel_rfl
theorem B7Z (n m:Nat) (x4 x7 x10 x11:Val) (h:A0):A8s n (m + 1) x4 x7 x10 x11 h=bnd (E3 x10) fun v12=>bnd (A2 .lss x11 v12) fun v13=>cnd v13 (bnd (A3 h 3 x4) fun v14=>bnd (B9 1 x10 x11) fun v15=>bnd (A5 h v15) fun v16=>bnd (A12 [v14,v16] (h ++ [])) fun p17=>cnd p17.1 (bnd (B9 1 x10 x11) fun v18=>bnd (A5 p17.2 v18) fun v19=>bnd (A8 ([.i .i64 0]) [(0,1,v19)]) fun c20=>bnd (E7 (p17.2 ++ [some (Row.mk (c20) true)]) 1 x7 (.c (.sl p17.2.length 0 1 1))) fun p21=>B2L n m x4 p21.1 x10 x11 p21.2) (B2L n m x4 x7 x10 x11 p17.2)) (some (x7,h)):=by kernel_rfl
theorem B7Y (n m:Nat) (x4 x7 x10 x11:Val) (h:A0):B2L n m x4 x7 x10 x11 h=bnd (A2 .add x11 (.c (.i .i64 1))) fun v22=>A8s n m x4 x7 x10 v22 h:=by kernel_rfl
theorem K_er22_Buckets:FnK Tryz.prog 31 A_er22_Buckets A1K A6H:=.mk' (A9 B4L (A9 C5e (A9 B4J C1))) Tryz.func31 (by kernel_rfl) (fun _ _ _=>C0)
def A13:Fun:=tidy (Lim A_er22_Buckets A1K)
theorem B4K:SOk Tryz.prog 31 A13:=K_er22_Buckets.sok
theorem C5t:N9 A6H A13:=K_er22_Buckets.out
end Go.Proofs.YteckncopbicmcaaGreat
end
section
namespace Go.Proofs.YteckncopbicmcaaGreat
open Go Go.Esc
theorem C7t {b n i:Int}:decide (A5k b n i=4)=K0 b n i:=by
  unfold K0 A5k X8 A0x A1E
  cases c:I0 b n with
  | false =>
    rw [if_neg (by simp),Bool.false_and,Bool.false_and];rfl
  | true =>
    have h:=c
    unfold I0 at h
    simp only [Bool.and_eq_true,decide_eq_true_eq] at h
    simp only [cond_true,Bool.true_and,true_and]
    by_cases c1:2 + n / 8 ≤ i
    · by_cases c2:i < b
      · rw [if_pos (by omega),if_neg (by omega),if_neg (by omega),decide_eq_true c1,decide_eq_true c2];rfl
      · rw [if_neg (by omega),decide_eq_true c1,decide_eq_false c2];rfl
    · rw [decide_eq_false c1,Bool.false_and]
      split
      · split
        · exact decide_eq_false (by omega)
        · rw [if_pos (by omega)];rfl
      · rfl
theorem C02 {b n m i:Int} {h:A0}:A12 [.a (C2 b n m),.c (.i .i64 i)] h=some (.c (.b (K0 b n i)),h):=by
  have key:∀ g,∃ g',A6F 0 [.a (C2 b n m),.c (.i .i64 i)] g=some (.c (.b (K0 b n i)),g'):=by
    intro g
    have l3:(C2 b n m).length=3:=rfl
    have hA:=fun h=>D2o (b:=b) (n:=n) (m:=m) (no:=i) (h:=h)
    rw [C23,← C7t]
    generalize C2 b n m=L at *
    exact ⟨_,by simp only [esc,esh,Nat.reduceAdd,Nat.reduceMul,Nat.reduceLT,l3,hA] <;> rfl⟩
  obtain ⟨g',e⟩:=key (ro h)
  exact C5p e rfl
theorem B3V {h:A0} {v:Val} {D:Dev} (hv:Has h v 256 D.length (C6 D)) (hD:okD D) {i:Nat} (hi:i < D.length):∃ u,X3 [v,.c (.i .i64 (i:Int))] h=some (u,h) ∧ Has h u 1 256 (A1 D[i]):=by
  have hlen:=hv.len
  rcases hv with ⟨_,h0,_⟩ | ⟨id,off,r,rfl,hr,h1,h2,h3,h4⟩
  · omega
  · have hle:off + i * 256 + 256 * 1 ≤ r.cells.length:=by omega
    have hlt:=D0 hr
    refine ⟨.c (.sl id (off + i * 256) 256 1),?_,?_⟩
    · have c1:¬ (i:Int) < 0:=by omega
      have c2:¬ ((D.length:Nat):Int) ≤ (i:Int):=by omega
      have a1:B9 256 (.c (.sl id off D.length 256)) (.c (.i .i64 (i:Int)))=some (.c (.p id (off + i * 256))):=G6 hi
      have hr2:rd (ro h ++ [some (Row.mk [] true)]) id=some ⟨r.dim,false⟩:=C3 (by rw [A3F,hr];rfl)
      have hsee0:=C1s h3 h4 (show i * 256 < D.length * 256 by omega) h2
      have hdim:r.dim=r.cells:=by
        unfold Row.dim
        cases hh:r.head with
        | false=>rfl
        | true =>
          exfalso
          have hmem:r.cells[off + i * 256]? = some r.cells[off + i * 256]:=List.getElem?_eq_getElem (by omega)
          have hxx:=Row.head_isX hh _ (List.mem_of_getElem? hmem)
          have h5:=List.all_eq_true.1 h4 r.cells[off + i * 256] (by
            rw [← h3]
            have:((r.cells.drop off).take (D.length * 256))[i * 256]? = some r.cells[off + i * 256]:=by rw [List.getElem?_take_of_lt (by omega),List.getElem?_drop];exact hmem
            exact List.mem_of_getElem? this)
          rw [hxx] at h5;cases h5
      have hdl:r.dim.length=r.cells.length:=by rw [hdim]
      have hsee:((false:Bool) || (r.dim[off + i * 256]?).any fun c=>!c.isX)=true:=by
        rw [hdim,Bool.false_or]
        have hmem:r.cells[off + i * 256]? = some r.cells[off + i * 256]:=List.getElem?_eq_getElem (by omega)
        have h5:=List.all_eq_true.1 h4 r.cells[off + i * 256] (by
            rw [← h3]
            have:((r.cells.drop off).take (D.length * 256))[i * 256]? = some r.cells[off + i * 256]:=by rw [List.getElem?_take_of_lt (by omega),List.getElem?_drop];exact hmem
            exact List.mem_of_getElem? this)
        rw [hmem];simp only [Option.any_some,h5]
      have s1:Q7 (ro h ++ [some (Row.mk [] true)]) 256 1 (.c (.p id (off + i * 256))) none none=some (.c (.sl id (off + i * 256) 256 1)):=by
        simp only [Q7,hr2,Option.bind_some,bound]
        rw [if_pos ⟨by omega,by omega,by rw [hdl];exact hle,hsee⟩];simp
      refine C5s (n:=0) (h2:=ro h ++ [some (Row.mk [] true)]) ?_ (by simp [Val.low,Cell.low,hlt])
      rw [C25]
      simp only [F2,I4,c1,decide_false,A3r,hlen,B43,c2,W5,cond_false,K6,a1,s1]
    · refine Has.part (cs:=r.cells) (rw:=r.rw) hr hle ?_ (K1 _)
      rw [← A0U hD hi,← h3,List.drop_take,List.take_take,List.drop_drop]
      congr 1
      omega
theorem B2h {D:Dev} {n i:Int} (h:K0 D.length n i=true):∃ j:Nat,i=j ∧ j < D.length:=by
  unfold K0 X8 A0x A1E at h
  rw [Bool.and_eq_true,Bool.and_eq_true] at h
  have h1:=of_decide_eq_true h.1.2
  have h2:=of_decide_eq_true h.2
  have h3:=h.1.1
  rw [h3] at h1
  simp only [cond_true] at h1
  unfold I0 at h3
  simp only [Bool.and_eq_true,decide_eq_true_eq] at h3
  exact ⟨i.toNat,by omega,by omega⟩
section
variable {v:Val} {D:Dev} {n m k l s p:Int} {d:List Int} {h:A0}
theorem C05 (hv:Has h v 256 D.length (C6 D)) (hD:okD D) (hd:d.length=7) :
    A14 [v,.a (C2 D.length n m),.a (A4 k l s p d)] h=some (.t [.a (encI (J3 D n k d)),.c (.b (M3 D n k d))],h):=by
  have key:∀ g,Has g v 256 D.length (C6 D) → ∃ g',A6I 0 [v,.a (C2 D.length n m),.a (A4 k l s p d)] g=some (.t [.a (encI (J3 D n k d)),.c (.b (M3 D n k d))],g'):=by
    intro g hv
    have l3:(C2 D.length n m).length=3:=rfl
    have i0:(A4 k l s p d)[0]? = some (.i .i64 k):=rfl
    have i4:(A4 k l s p d)[4]? = some (.i .i64 (d.getD 0 0)):=by
      have:(A4 k l s p d)[4]? = (encI d)[0]? := rfl
      rw [this,Q9,List.getElem?_eq_getElem (by omega),List.getD_eq_getElem?_getD,List.getElem?_eq_getElem (by omega)];rfl
    have ad:∀ q,D8 6 1 (.c (.p q 4)) (.c (.i .i64 0))=some (.c (.p q 4)):=fun q=>rfl
    have hz:(encI (0 :: zI 32)).length=33:=J0 (d:=0) M8
    have ef:A8 (encI (0 :: zI 32)) []=some (encI (0 :: zI 32)):=rfl
    rw [C27,X1]
    unfold J3 M3
    by_cases c1:k=2
    · have hI:=fun h=>C02 (b:=D.length) (n:=n) (m:=m) (i:=d.getD 0 0) (h:=h)
      cases c2:K0 D.length n (d.getD 0 0) with
      | false =>
        simp only [c2] at hI
        simp only [Bool.and_false,Bool.false_and,cond_false]
        generalize C2 D.length n m=L at *
        generalize A4 k l s p d=I at *
        generalize encI (0 :: zI 32)=z at *
        exact ⟨_,by simp only [esc,esh,Nat.reduceAdd,Nat.reduceMul,Nat.reduceLT,eq_self,i0,c1,l3,ad,i4,hI,hz,ef] <;> rfl⟩
      | true =>
        simp only [c2] at hI
        obtain ⟨j,hj,hjl⟩:=B2h c2
        obtain ⟨u,hB,hu⟩:=B3V (hv.more [some (Row.mk (C2 D.length n m) true),some (Row.mk (A4 k l s p d) true),some (Row.mk (encI (0 :: zI 32)) true)]) hD hjl
        rw [← hj] at hB
        have eb:blk D (d.getD 0 0)=D[j]:=by rw [hj];exact A7J hjl
        have hG:=D2u (hD.at hjl) hu
        rw [← eb] at hG
        have hX:(encI (getD (blk D (d.getD 0 0)) :: C9 (blk D (d.getD 0 0)) 32)).length=33:=J0 (A5B _)
        rw [decide_eq_true c1,Bool.true_and,Bool.true_and]
        have hX2:(encI (bif K8 (blk D (d.getD 0 0)) then getD (blk D (d.getD 0 0)) :: C9 (blk D (d.getD 0 0)) 32 else 0 :: zI 32)).length=33:=by
          cases K8 (blk D (d.getD 0 0)) with
          | true=>exact hX
          | false=>exact hz
        generalize encI (bif K8 (blk D (d.getD 0 0)) then getD (blk D (d.getD 0 0)) :: C9 (blk D (d.getD 0 0)) 32 else 0 :: zI 32)=x at *
        generalize K8 (blk D (d.getD 0 0))=gx at *
        clear eb hX
        generalize C2 D.length n m=L at *
        generalize A4 k l s p d=I at *
        generalize encI (0 :: zI 32)=z at *
        exact ⟨_,by simp only [esc,esh,Nat.reduceAdd,Nat.reduceMul,Nat.reduceLT,eq_self,i0,c1,l3,ad,i4,hI,hB,hG,hz,hX2,ef] <;> rfl⟩
    · rw [decide_eq_false c1,Bool.false_and,Bool.false_and,cond_false]
      generalize C2 D.length n m=L at *
      generalize A4 k l s p d=I at *
      generalize encI (0 :: zI 32)=z at *
      exact ⟨_,by simp only [esc,esh,Nat.reduceAdd,Nat.reduceMul,Nat.reduceLT,eq_self,i0,c1,hz,ef] <;> rfl⟩
  obtain ⟨g',e⟩:=key (ro h) hv.ro
  exact C5u e (by simp [Val.flat,Cell.flat])
theorem B3R {g:A0} {p4 q sid:Nat} {L:List Int} (h1:rd g p4=some ⟨C2 D.length n m,true⟩) (hL:L.length ≤ 32):∀ (e i M id:Nat) (h:A0) (l:List Int),i + e=L.length → e < M → l.length ≤ i → Low g.length g h → g.length ≤ id → id ≠ sid → rd h sid=some ⟨encI L,true⟩ → rd h id=some ⟨encI l,true⟩ →
    ∃ v' h',A8s q M (.c (.p p4 0)) (.c (.sl id 0 l.length 1)) (.c (.sl sid 0 L.length 1)) (.c (.i .i64 (i:Int))) h=some (v',h') ∧ Out g.length h' v' 1 (l ++ (L.drop i).filter (K0 D.length n)).length (encI (l ++ (L.drop i).filter (K0 D.length n)))
  | e,i,0,id,h,l,_,hm,_,_,_,_,_,_=>by omega
  | 0,i,M + 1,id,h,l,hi,hm,hl,hlow,hid,hne,hs,hr=>by
    have e0:i=L.length:=by omega
    subst e0
    have c0:¬ ((L.length:Nat):Int) < (L.length:Nat):=by omega
    have el0:l ++ []=l:=List.append_nil l
    rw [B7Z,List.drop_of_length_le (Nat.le_refl _),List.filter_nil,el0]
    exact ⟨_,_,by simp only [esc,c0] <;> rfl,by rw [F7,Nat.mul_one],id,rfl,hid,hr⟩
  | e + 1,i,M + 1,id,h,l,hi,hm,hl,hlow,hid,hne,hs,hr=>by
    have hil:i < L.length:=by omega
    have c0:(i:Int) < (L.length:Nat):=by omega
    have ad:B9 1 (.c (.sl sid 0 L.length 1)) (.c (.i .i64 (i:Int)))=some (.c (.p sid i)):=by rw [G6 hil];simp
    have l1:A5 h (.c (.p sid i))=some (.c (.i .i64 L[i])):=H4 hs (by rw [Q9,List.getElem?_eq_getElem hil];rfl) rfl
    have l3:=G5 (n:=3) (hlow.rd h1) rfl
    have hI:=C02 (b:=D.length) (n:=n) (m:=m) (i:=L[i]) (h:=h)
    have w1:=E6 (show i + 1 < 9223372036854775808 by omega)
    rw [B7Z,List.drop_eq_getElem_cons hil]
    cases c:K0 D.length n L[i] with
    | false =>
      rw [c] at hI
      obtain ⟨v',h',f1,f2⟩:=B3R (q:=q) h1 hL e (i + 1) M id h l (by omega) (by omega) (by omega) hlow hid hne hs hr
      rw [List.filter_cons_of_neg (by rw [c];simp)]
      refine ⟨v',h',?_,f2⟩
      simp only [F2,O2,I4,c0,decide_true,L9,ad,l1,l3,List.append_nil,hI,K6,B7Y,O0,w1]
      exact f1
    | true =>
      rw [c] at hI
      have ef:A8 [Cell.i .i64 0] [(0,1,.c (.i .i64 L[i]))]=some (encI [L[i]]):=rfl
      obtain ⟨h2,a1,a2,a3,a4⟩:=A2L (n:=l.length) (sz:=1) (ys:=encI [L[i]]) hr (by rw [F7,Nat.mul_one]) rfl (by omega) (by omega)
      rw [← A73] at a2
      have el:(l ++ [L[i]]).length=l.length + 1:=by simp
      have hlt:=D0 hs
      obtain ⟨v',h',f1,f2⟩:=B3R (q:=q) h1 hL e (i + 1) M (h.length + 1) h2 (l ++ [L[i]]) (by omega) (by omega) (by rw [el];omega) (hlow.trans (a4 _ hid (by have:=hlow.2.1;omega))) (by have:=hlow.2.1;omega) (by omega) (a3 _ _ (Ne.symm hne) hs) a2
      rw [List.filter_cons_of_pos (by rw [c])]
      rw [List.append_assoc,List.singleton_append] at f2
      rw [el] at f1
      refine ⟨v',h',?_,f2⟩
      simp only [F2,O2,I4,c0,decide_true,L9,ad,l1,l3,List.append_nil,hI,ef,a1,B7Y,O0,w1]
      exact f1
theorem C04 (hv:Has h v 256 D.length (C6 D)) (hD:okD D) (hd:d.length=7) :
    A13 [v,.a (C2 D.length n m),.a (A4 k l s p d)] h=some (.c (.sl h.length 0 (E4 D n k d).length 1),h ++ [some ⟨encI (E4 D n k d),true⟩]):=by
  have key:∀ g,Has g v 256 D.length (C6 D) → ∃ v' g',A6H 33 [v,.a (C2 D.length n m),.a (A4 k l s p d)] g=some (v',g') ∧ Out g.length g' v' 1 (E4 D n k d).length (encI (E4 D n k d)):=by
    intro g hv
    have hIl:(A4 k l s p d).length=11:=by simp [A4,F7,hd]
    have l11:ldN (some (Row.mk (A4 k l s p d) true)) 0 11=some (.a (A4 k l s p d)):=Q3 hIl
    have l3:(C2 D.length n m).length=3:=rfl
    have hz:(encI (0 :: zI 32)).length=33:=J0 (d:=0) M8
    have hX:=A8C D n k d
    have hI:=C05 (n:=n) (m:=m) (k:=k) (l:=l) (s:=s) (p:=p) (d:=d) (hv.more [some (Row.mk (C2 D.length n m) true),some (Row.mk (A4 k l s p d) true),some (Row.mk [] true),some (Row.mk [] true)]) hD hd
    rw [C26,X1]
    cases c:M3 D n k d with
    | false =>
      rw [c] at hI
      have eb:E4 D n k d=[]:=by unfold E4;rw [c];rfl
      rw [eb]
      generalize encI (J3 D n k d)=x at *
      generalize encI (0 :: zI 32)=z at *
      refine ⟨.c (.sl (g.length + 3) 0 0 1),g ++ [some (Row.mk (C2 D.length n m) true),some (Row.mk (A4 k l s p d) true),some (Row.mk [] true),some (Row.mk [] true),some (Row.mk x true)],?_,rfl,g.length + 3,rfl,by omega,by simp [encI]⟩
      generalize C2 D.length n m=V at *
      generalize A4 k l s p d=I at *
      simp only [esc,esh,Nat.reduceAdd,Nat.reduceMul,Nat.reduceLT,l3,l11,hI,hz,hX]
    | true =>
      rw [c] at hI
      have eb:E4 D n k d=(E9 (C9 (blk D (d.getD 0 0)) 32) (F3 (getD (blk D (d.getD 0 0))))).filter (K0 D.length n):=by unfold E4;rw [c];rfl
      have ex:J3 D n k d=getD (blk D (d.getD 0 0)) :: C9 (blk D (d.getD 0 0)) 32:=by unfold J3;rw [c];rfl
      rw [ex] at hI hX
      have hB:=fun h=>D2s (d:=getD (blk D (d.getD 0 0))) (h:=h) (A5B (blk D (d.getD 0 0)))
      have hBl:=A5l (C9 (blk D (d.getD 0 0)) 32) (F3 (getD (blk D (d.getD 0 0))))
      have hml:=A0X (getD (blk D (d.getD 0 0)))
      rw [eb]
      generalize E9 (C9 (blk D (d.getD 0 0)) 32) (F3 (getD (blk D (d.getD 0 0))))=L at *
      generalize encI (getD (blk D (d.getD 0 0)) :: C9 (blk D (d.getD 0 0)) 32)=x at *
      generalize encI (0 :: zI 32)=z at *
      obtain ⟨v',h',f1,f2⟩:=B3R (D:=D) (n:=n) (m:=m) (g:=g ++ [some (Row.mk (C2 D.length n m) true),some (Row.mk (A4 k l s p d) true),some (Row.mk [] true)]) (p4:=g.length) (q:=33) (sid:=g.length + 5) (L:=L) (by simp) (by omega) L.length 0 33 (g.length + 3) (g ++ [some (Row.mk (C2 D.length n m) true),some (Row.mk (A4 k l s p d) true),some (Row.mk [] true),some (Row.mk [] true),some (Row.mk x true),some (Row.mk (encI L) true)]) [] (by omega) (by omega) (by simp)
        (by
          have:=(Low.refl (h:=g ++ [some (Row.mk (C2 D.length n m) true),some (Row.mk (A4 k l s p d) true),some (Row.mk [] true)]) (Nat.le_refl _)).new [some (Row.mk [] true),some (Row.mk x true),some (Row.mk (encI L) true)]
          simpa using this) (by simp) (by omega) (by simp) (by simp [encI])
      rw [List.nil_append,List.drop_zero] at f2
      rw [List.length_nil] at f1
      refine ⟨v',h',?_,f2.1,?_⟩
      · generalize C2 D.length n m=V at *
        generalize A4 k l s p d=I at *
        simp only [esc,esh,Nat.reduceAdd,Nat.reduceMul,Nat.reduceLT,l3,l11,hI,hz,hX,hB]
        exact f1
      · obtain ⟨id,e,hb,hr⟩:=f2.2
        exact ⟨id,e,by simp at hb;omega,hr⟩
  obtain ⟨v',g',e,ho⟩:=key (ro h) hv.ro
  exact C5t e (by simpa [K4] using ho) (by simp)
end
end Go.Proofs.YteckncopbicmcaaGreat
end
