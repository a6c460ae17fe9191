/- What the proof of this claim leans on, part 5. -/
import Derived.Test.YtdgggnlbdoiloaaFDreadOncep4
set_option linter.all false
section
namespace Go.Proofs.Ytdgggnlbdoiloaa
open Go Go.Esc
def isL (D:Dev) (n k:Int) (d:List Int) (t:Tld):Bool:=decide (I4 D n k d t.2=some t.1)
def E5 (D:Dev) (n k:Int) (d:List Int):List Tld:=Z9 D (D7 D n k d)
def E6 (D:Dev) (n k:Int) (d:List Int) (l:List Tld):H2:=(l.filter (isL D n k d)).map (·.2)
def A0g (D:Dev) (n k:Int) (d:List Int) (s:List UInt8):Int:=((I4 D n k d s).getD (0,0,0)).2.2
def L9 (D:Dev) (n k:Int) (d:List Int):List Ent:=(H4 (E6 D n k d (E5 D n k d))).map fun s=>(s,A0g D n k d s)
def M1 (D:Dev) (n k:Int) (d:List Int) (l:List Tld):List Plc:=(l.filter fun t=>!isL D n k d t).map (·.1)
def Q4 (l:List Plc):List Cell:=(l.map fun p=>D9 (some p)).flatten
theorem A6j {D:Dev} {n k:Int} {d:List Int}:(D7 D n k d).length ≤ 32:=by
  have hml:=A4k (getD (blk D (d.getD 0 0)))
  have hBl:=A9k (E3 (blk D (d.getD 0 0)) 32) (H6 (getD (blk D (d.getD 0 0))))
  unfold D7
  cases S8 D n k d with
  | false=>simp
  | true=>exact Nat.le_trans (List.length_filter_le _ _) (by omega)
def MapN (es:F8) (f:List UInt8 → Int) (l:H2):Prop:=(∀ e ∈ es,∃ s,e.1=.s s) ∧ ∀ s ∈ l,∃ i,W5 (.s s) es=some (i,.c (.i .i64 (f s)))
theorem B93 {es:F8} {s:List UInt8} (h:∀ e ∈ es,∃ s,e.1=Cell.s s):A1k none (.s s) es=true:=by
  simp only [A1k,P4,Bool.true_and,List.all_eq_true]
  intro e he
  obtain ⟨x,hx⟩:=h e he
  rw [hx]
theorem C0k {k:Cell} {p:Part}:∀ {es:F8} {i j:Nat} {q:Part},mgo k es i=some (j,q) → (es.set (j - i) (k,p)).length=es.length ∧ mgo k (es.set (j - i) (k,p)) i=some (j,p) ∧ i ≤ j ∧ ∀ k' ≠ k,((mgo k' (es.set (j - i) (k,p)) i)=mgo k' es i)
  | [],i,j,q,h=>by simp [mgo] at h
  | e :: es,i,j,q,h=>by
    unfold mgo at h
    by_cases c:e.1=k
    · rw [if_pos c] at h
      cases h
      simp only [Nat.sub_self,List.set_cons_zero]
      refine ⟨rfl,by simp [mgo],Nat.le_refl _,fun k' hk'=>?_⟩
      have:¬ e.1=k':=fun h=>hk' (by rw [← h,c])
      simp [mgo,this,Ne.symm hk']
    · rw [if_neg c] at h
      obtain ⟨h1,h2,h3,h4⟩:=C0k (p:=p) h
      have e1:j - i=(j - (i + 1)) + 1:=by omega
      rw [e1,List.set_cons_succ]
      refine ⟨by simp,?_,by omega,fun k' hk'=>?_⟩
      · simp only [mgo];rw [if_neg c];exact h2
      · simp only [mgo];rw [h4 k' hk']
theorem C0l {k k':Cell} {p:Part}:∀ {es:F8} {i:Nat},mgo k es i=none → mgo k' (es ++ [(k,p)]) i=if k'=k then some (i + es.length,p) else mgo k' es i
  | [],i,_=>by
    by_cases c:k'=k
    · subst c;simp [mgo]
    · simp [mgo,c,Ne.symm c]
  | e :: es,i,h=>by
    unfold mgo at h
    by_cases c:e.1=k
    · rw [if_pos c] at h;cases h
    · rw [if_neg c] at h
      have ih:=C0l (k':=k') (p:=p) h
      simp only [List.cons_append,mgo,ih]
      by_cases c2:k'=k
      · subst c2
        rw [if_neg c,if_pos rfl,if_pos rfl,List.length_cons]
        congr 2;omega
      · simp only [if_neg c2]
theorem C0j {k k':Cell} {p:Part} {es:F8}:W5 k (A0i k p es)=some (((W5 k es).map (·.1)).getD es.length,p) ∧ (k' ≠ k → W5 k' (A0i k p es)=W5 k' es):=by
  unfold A0i W5
  cases c:mgo k es 0 with
  | none =>
    simp only [C0l c]
    exact ⟨by simp,fun h=>by rw [if_neg h]⟩
  | some jq =>
    obtain ⟨j,q⟩:=jq
    obtain ⟨_,h2,_,h4⟩:=C0k (p:=p) c
    simp only [Nat.sub_zero] at h2 h4
    exact ⟨by simp [h2],fun h=>h4 k' h⟩
theorem F83 {k:Cell} {p:Part} {es:F8} {Q:Cell → Prop} (hk:Q k) (h:∀ e ∈ es,Q e.1):∀ e ∈ A0i k p es,Q e.1:=by
  intro e he
  unfold A0i at he
  split at he
  · rcases List.mem_or_eq_of_mem_set he with he | rfl
    · exact h e he
    · exact hk
  · rcases List.mem_append.1 he with he | he
    · exact h e he
    · simp at he;subst he;exact hk
theorem MapN.nil (f:List UInt8 → Int):MapN [] f []:=⟨fun e he=>by simp at he,fun s hs=>by simp at hs⟩
theorem MapN.put {es:F8} {f:List UInt8 → Int} {l:H2} (hm:MapN es f l) (s:List UInt8):MapN (A0i (.s s) (.c (.i .i64 (f s))) es) f (l ++ [s]):=by
  refine ⟨F83 (Q:=fun c=>∃ s,c=.s s) ⟨s,rfl⟩ hm.1,fun x hx=>?_⟩
  by_cases c:x=s
  · subst c;exact ⟨_,(C0j (k':=.mh)).1⟩
  · rcases List.mem_append.1 hx with hx | hx
    · obtain ⟨i,hi⟩:=hm.2 x hx
      refine ⟨i,?_⟩
      rw [(C0j (k:=.s s) (k':=.s x)).2 (by simpa using c)];exact hi
    · simp at hx;exact absurd hx c
theorem F8Y {h:A0} {mid:Nat} {es:F8} {f:List UInt8 → Int} {l:H2} {s:List UInt8} (hr:rd h mid=some (G6 es)) (hm:MapN es f l) (hs:s ∈ l):A2P h none (.c (.i .i64 0)) false (.c (.m mid)) (.c (.s s))=some (.c (.i .i64 (f s))):=by
  obtain ⟨i,hi⟩:=hm.2 s hs
  simp only [A2P,A2m,A7u,hr,Option.bind_some,C0h]
  rw [if_pos (B93 hm.1),hi];rfl
theorem H1V {h:A0} {mid:Nat} {es:F8} {f:List UInt8 → Int} {l:H2} {s:List UInt8} {x:Int} (hr:rd h mid=some (G6 es)) (hm:MapN es f l):A14 h none (.c (.m mid)) (.c (.s s)) (.c (.i .i64 x))=some (h.set mid (some (G6 (A0i (.s s) (.c (.i .i64 x)) es)))):=by
  simp only [A14,A2m,A4s,hr,Option.bind_some,C0h]
  rw [if_pos (B93 hm.1)]
end Go.Proofs.Ytdgggnlbdoiloaa
end
section
namespace Go.Proofs.Ytdgggnlbdoiloaa
open Go Go.Esc
theorem A78 {neg:Bool} (p q:Plc):aeq neg [.i .i64,.i .i64,.i .i64] (.a (D9 (some p))) (.a (D9 (some q)))=some (.c (.b (bif neg then !(decide (some p=some q)) else decide (some p=some q)))):=by
  simp only [aeq]
  rw [if_pos ⟨rfl,rfl⟩]
  have:decide (D9 (some p)=D9 (some q))=decide (some p=some q):=by
    apply Bool.eq_iff_iff.2
    simp only [decide_eq_true_eq,D9,List.cons.injEq,Cell.i.injEq,true_and,and_true,Option.some.injEq]
    obtain ⟨p1,p2,p3⟩:=p
    obtain ⟨q1,q2,q3⟩:=q
    simp only [Prod.mk.injEq]
    constructor
    · rintro ⟨h1,h2,h3⟩;exact ⟨h1,by omega,h3⟩
    · rintro ⟨h1,h2,h3⟩;exact ⟨h1,by omega,h3⟩
  rw [this]
theorem B0F {b:List UInt8} {k:Nat} {x:Ent} (h:J2 b k=some x):x.1.length ≤ 24:=by
  unfold J2 at h
  cases hu:A0p (nameB b k) with
  | none=>rw [hu] at h;cases h
  | some s =>
    rw [hu,Option.bind_some] at h
    split at h
    · cases h;exact (A6P (C5z hu)).2
    · cases h
theorem A7q {b:List UInt8}:∀ {e k:Nat} {x:Slt},x ∈ M8 b e k → J2 b x.1=some x.2 ∧ k ≤ x.1 ∧ x.1 < k + e
  | 0,k,x,h=>by simp [M8] at h
  | e + 1,k,x,h=>by
    cases hr:J2 b k with
    | none =>
      rw [A7r hr] at h
      have:=A7q h
      exact ⟨this.1,by omega,by omega⟩
    | some y =>
      rw [A7s hr] at h
      rcases List.mem_cons.1 h with rfl | h
      · exact ⟨hr,Nat.le_refl _,by dsimp only;omega⟩
      · have:=A7q h
        exact ⟨this.1,by omega,by omega⟩
theorem B0j {b:List UInt8} {x:Slt} (h:x ∈ G5 b):J2 b x.1=some x.2 ∧ x.1 < 7:=by
  have:=A7q h
  exact ⟨this.1,by omega⟩
theorem C1Q {D:Dev} {n k:Int} {d:List Int} {s:List Tld} {t:Tld}:E6 D n k d (s ++ [t])=E6 D n k d s ++ (if isL D n k d t=true then [t.2] else []):=by
  unfold E6
  rw [List.filter_append,List.map_append]
  by_cases c:isL D n k d t=true
  · rw [if_pos c,List.filter_cons_of_pos c];rfl
  · rw [if_neg c,List.filter_cons_of_neg c];rfl
theorem B0n {D:Dev} {n k:Int} {d:List Int} {s:List Tld}:(E6 D n k d s).length ≤ s.length:=by
  unfold E6
  rw [List.length_map];exact List.length_filter_le _ _
def RDs (b:Nat):List Nat:=[b,b + 1,b + 3,b + 4,b + 5,b + 6,b + 8]
structure ListP (D:Dev) (n k:Int) (d:List Int) (V I:List Cell) (L:List Int) (g:A0) (rs:List Nat) (c:Nat) (s:List Tld) (h:A0):Prop where
  var:VarC h (g.length + 3) (encS (E6 D n k d s)) (E6 D n k d s).length 1 g.length (rs ++ RDs g.length)
  len:s.length ≤ c
  low:Low g.length g h
  r0:rd h g.length=some ⟨V,true⟩
  r1:rd h (g.length + 1)=some ⟨I,true⟩
  r6:rd h (g.length + 6)=some ⟨V,true⟩
  r8:rd h (g.length + 8)=some ⟨encI L,true⟩
  r5:rd h (g.length + 5)=some ⟨[.m (g.length + 4)],true⟩
  r4:∃ es,rd h (g.length + 4)=some (G6 es) ∧ MapN es (A0g D n k d) (E6 D n k d s)
  rs:∀ j ∈ rs,g.length + 9 ≤ j ∧ j < h.length
section
variable {D:Dev} {n k:Int} {d:List Int} {V I:List Cell} {L:List Int} {g h:A0} {rs:List Nat} {c:Nat} {s:List Tld}
theorem ListP.more (P:ListP D n k d V I L g rs c s h) (t:A0):ListP D n k d V I L g rs c s (h ++ t) where
  var:=P.var.more t fun j hj=>.inl hj
  len:=P.len
  low:=P.low.new _
  r0:=C0 P.r0
  r1:=C0 P.r1
  r6:=C0 P.r6
  r8:=C0 P.r8
  r5:=C0 P.r5
  r4:=by obtain ⟨es,h1,h2⟩:=P.r4;exact ⟨es,C0 h1,h2⟩
  rs:=fun j hj=>by have:=P.rs j hj;simp;omega
theorem ListP.one (P:ListP D n k d V I L g rs c s h) (r:Option Row):ListP D n k d V I L g (h.length :: rs) c s (h ++ [r]) where
  var:=P.var.more _ fun j hj=>by
    rcases List.mem_cons.1 hj with rfl | hj
    · exact .inr (Nat.le_refl _)
    · exact .inl hj
  len:=P.len
  low:=P.low.new _
  r0:=C0 P.r0
  r1:=C0 P.r1
  r6:=C0 P.r6
  r8:=C0 P.r8
  r5:=C0 P.r5
  r4:=by obtain ⟨es,h1,h2⟩:=P.r4;exact ⟨es,C0 h1,h2⟩
  rs:=fun j hj=>by
    have h8:=D2 P.r8
    rcases List.mem_cons.1 hj with rfl | hj
    · simp;omega
    · have:=P.rs j hj;simp;omega
theorem ListP.less {i:Nat} (P:ListP D n k d V I L g (i :: rs) c s h):ListP D n k d V I L g rs c s h :=
  { P with var:=P.var.fewer fun j hj=>List.mem_cons_of_mem _ hj,rs:=fun j hj=>P.rs j (List.mem_cons_of_mem _ hj) }
theorem ListP.wide {c':Nat} (P:ListP D n k d V I L g rs c s h) (hc:c ≤ c'):ListP D n k d V I L g rs c' s h :=
  { P with len:=Nat.le_trans P.len hc }
end
theorem F8S {D:Dev} {n m k l s0 p:Int} {d:List Int} {f:Cell} {L:List Int} {g h:A0} {rs:List Nat} {c:Nat} {s:List Tld} {t:Tld} (hD:okD D) (hd:d.length=7) (hv:IsView g f D) (hc:c ≤ 90000) (ht:t.2.length ≤ 24)
    (P:ListP D n k d (vwC D.length n m f) (A7 k l s0 p d) L g rs c s h) :
    ∃ h',A3m [.a (D9 (some t.1)),.c (.s t.2),.c (.p g.length 0),.c (.p (g.length + 1) 0),.c (.p (g.length + 3) 0),.c (.p (g.length + 5) 0)] h=some (.t [],h') ∧ ListP D n k d (vwC D.length n m f) (A7 k l s0 p d) L g rs (c + 1) (s ++ [t]) h' ∧ ∀ j ∈ rs,rd h' j=rd h j:=by
  obtain ⟨⟨p1,p2,p3⟩,nm⟩:=t
  have hIl:(A7 k l s0 p d).length=11:=by simp [A7,F6,hd]
  obtain ⟨h1,e1⟩:∃ h1,h1=h ++ [some (Row.mk (D9 (some (p1,p2,p3))) true)]:=⟨_,rfl⟩
  have n1:h1.length=h.length + 1:=by rw [e1];simp
  have P1:ListP D n k d (vwC D.length n m f) (A7 k l s0 p d) L g (h.length :: rs) c s h1:=e1 ▸ P.one _
  have l4:A5 h1 4 (.c (.p g.length 0))=some (.a (vwC D.length n m f)):=G1 P1.r0 rfl
  have l11:A5 h1 11 (.c (.p (g.length + 1) 0))=some (.a (A7 k l s0 p d)):=G1 P1.r1 hIl
  have hL:=A33 (n:=n) (m:=m) (k:=k) (l:=l) (s:=s0) (p:=p) (nm:=nm) (h:=h1) hD hd (hv.since P1.low) (by dsimp only at ht;omega)
  have hl:=D2 P.r8
  have keep:∀ (h':A0),(∀ j ∈ h.length :: rs,rd h' j=rd h1 j) → ∀ j ∈ rs,rd h' j=rd h j:=by
    intro h' hk j hj
    rw [hk j (List.mem_cons_of_mem _ hj),e1,J6 (P.rs j hj).2]
  obtain ⟨o,eo⟩:∃ o,o=I4 D n k d nm:=⟨_,rfl⟩
  rw [← eo] at hL
  obtain ⟨h2,e2⟩:∃ h2,h2=h1 ++ [some (Row.mk (D9 o) true)]:=⟨_,rfl⟩
  have s3:B1 (h1 ++ [some (Row.mk [Cell.i .i64 0,.i .i64 0,.i .i64 0] true)]) 3 (.c (.p h1.length 0)) (.a (D9 o))=some h2:=by
    rw [T9,e2];cases o <;> rfl
  have P2:ListP D n k d (vwC D.length n m f) (A7 k l s0 p d) L g (h.length :: rs) c s h2:=e2 ▸ P1.more _
  have q1:A5 h2 3 (.c (.p h1.length 0))=some (.a (D9 o)):=by rw [e2,S1];cases o <;> rfl
  have rp:rd h2 h.length=some ⟨D9 (some (p1,p2,p3)),true⟩:=by rw [e2,e1];simp
  have q2:A5 h2 3 (.c (.p h.length 0))=some (.a (D9 (some (p1,p2,p3)))):=G1 rp rfl
  have no:isL D n k d ((p1,p2,p3),nm)=false → E6 D n k d (s ++ [((p1,p2,p3),nm)])=E6 D n k d s:=fun hn=>by
    rw [C1Q,hn];simp
  have stay:E6 D n k d (s ++ [((p1,p2,p3),nm)])=E6 D n k d s → ListP D n k d (vwC D.length n m f) (A7 k l s0 p d) L g rs (c + 1) (s ++ [((p1,p2,p3),nm)]) h2:=fun hn=>by
    have:=P2.less
    exact { this with var:=by rw [hn];exact this.var,len:=by have:=P.len;simp;omega,r4:=by rw [hn];exact this.r4 }
  have k2:∀ j ∈ h.length :: rs,rd h2 j=rd h1 j:=fun j hj=>by
    rw [e2,J6]
    rcases List.mem_cons.1 hj with rfl | hj
    · omega
    · have:=P.rs j hj;omega
  cases o with
  | none =>
    have hn:isL D n k d ((p1,p2,p3),nm)=false:=by unfold isL;rw [← eo];simp
    refine ⟨h2,A8U (n:=0) ?_,stay (no hn),keep h2 k2⟩
    rw [A8D]
    generalize hV:vwC D.length n m f=V at *
    generalize hI:A7 k l s0 p d=I at *
    simp only [V7,I0,← e1,l4,l11,hL,A0K,List.getElem?_cons_zero,List.getElem?_cons_succ,Option.map_some,A0Q,A0P,s3,Option.isSome_none,B6U,A90,A07,cond_false,A0d]
    rfl
  | some q =>
    have ea:=A78 (neg:=false) q (p1,p2,p3)
    by_cases c1:q=(p1,p2,p3)
    · have hn:isL D n k d ((p1,p2,p3),nm)=true:=by unfold isL;rw [← eo,c1];simp
      have hns:E6 D n k d (s ++ [((p1,p2,p3),nm)])=E6 D n k d s ++ [nm]:=by rw [C1Q,if_pos hn]
      have hin:A0g D n k d nm=p3:=by unfold A0g;rw [← eo,c1];rfl
      subst c1
      have h2l:h2.length=h.length + 2:=by rw [e2];simp;omega
      obtain ⟨x,v,h3,h4,a1,a2,a3,a4,a5,a6,a7⟩:=P2.var.push (ys:=[.s nm]) (by simp [RDs]) (by omega) (by omega) (by
        intro j hj
        rcases List.mem_append.1 hj with hj | hj
        · exact (P2.rs j hj).2
        · simp only [RDs,List.mem_cons,List.not_mem_nil,or_false] at hj;omega) (by have:=B0n (D:=D) (n:=n) (k:=k) (d:=d) (s:=s);have:=P.len;omega) rfl (by omega)
      have ef:B0 [Cell.s []] [(0,1,.c (.s nm))]=some [.s nm]:=rfl
      have mem:∀ j,j ∈ RDs g.length → j ≠ g.length + 3 → rd h4 j=rd h2 j:=fun j hj hne=>a6 j (List.mem_append_right _ hj) hne
      have m5:A8 h4 (.c (.p (g.length + 5) 0))=some (.c (.m (g.length + 4))):=H8 (by rw [mem _ (by simp [RDs]) (by omega)];exact P2.r5) rfl rfl
      have m2:A8 h4 (.c (.p h.length 2))=some (.c (.i .i64 p3)):=H8 (by rw [a6 h.length (by simp) (by omega)];exact rp) rfl rfl
      obtain ⟨es,r4,hm⟩:=P2.r4
      have r4':rd h4 (g.length + 4)=some (G6 es):=by rw [mem _ (by simp [RDs]) (by omega)];exact r4
      have mp:=H1V (s:=nm) (x:=p3) r4' hm
      have hm':=hm.put nm
      rw [hin] at hm'
      have lt4:=D2 r4'
      obtain ⟨h5,e5⟩:∃ h5,h5=h4.set (g.length + 4) (some (G6 (A0i (.s nm) (.c (.i .i64 p3)) es))):=⟨_,rfl⟩
      rw [← e5] at mp
      have oth:∀ j,j ≠ g.length + 4 → rd h5 j=rd h4 j:=fun j hj=>by rw [e5,G3 (Ne.symm hj)]
      have back:∀ j ∈ RDs g.length,j ≠ g.length + 3 → j ≠ g.length + 4 → rd h5 j=rd h2 j:=fun j hj h3 h4=>by rw [oth j h4,mem j hj h3]
      refine ⟨h5,A8U (n:=0) ?_,⟨?_,?_,?_,?_,?_,?_,?_,?_,?_,?_⟩,keep h5 fun j hj=>?_⟩
      · rw [A8D]
        rw [decide_eq_true rfl] at ea
        generalize hV:vwC D.length n m f=V at *
        generalize hI:A7 k l s0 p d=I at *
        simp only [V7,I0,← e1,l4,l11,hL,A0K,List.getElem?_cons_zero,List.getElem?_cons_succ,Option.map_some,A0Q,A0P,s3,Option.isSome_some,A6U,q1,q2,ea,A07,cond_true,cond_false,Y2,a1,ef,a2,a3,m5,A88,Nat.zero_add,m2,mp]
        rfl
      · rw [hns]
        have e6:encS (E6 D n k d s ++ [nm])=encS (E6 D n k d s) ++ [.s nm]:=by simp [encS]
        rw [e6,List.length_append]
        have:=a4.keep (h':=h5) (oth _ (by omega)) (fun id hid y hy=>by
          rw [oth id (fun e=>hid (List.mem_append_right _ (by rw [e];simp [RDs])))];exact hy)
        exact this.fewer fun j hj=>by
          rcases List.mem_append.1 hj with hj | hj
          · exact List.mem_append_left _ (List.mem_cons_of_mem _ hj)
          · exact List.mem_append_right _ hj
      · have:=P.len;simp;omega
      · rw [e5];exact (P2.low.trans a5).set (by omega) _
      · rw [back _ (by simp [RDs]) (by omega) (by omega)];exact P2.r0
      · rw [back _ (by simp [RDs]) (by omega) (by omega)];exact P2.r1
      · rw [back _ (by simp [RDs]) (by omega) (by omega)];exact P2.r6
      · rw [back _ (by simp [RDs]) (by omega) (by omega)];exact P2.r8
      · rw [back _ (by simp [RDs]) (by omega) (by omega)];exact P2.r5
      · exact ⟨_,by rw [e5];exact I6 lt4,by rw [hns];exact hm'⟩
      · intro j hj
        have:=P.rs j hj
        have e6:h5.length=h4.length:=by rw [e5];simp
        omega
      · have hj9:g.length + 9 ≤ j:=by
          rcases List.mem_cons.1 hj with rfl | hj
          · omega
          · exact (P.rs j hj).1
        rw [oth j (by omega),a6 j (List.mem_append_left _ hj) (by omega),k2 j hj]
    · have hn:isL D n k d ((p1,p2,p3),nm)=false:=by unfold isL;rw [← eo];simpa using c1
      refine ⟨h2,A8U (n:=0) ?_,stay (no hn),keep h2 k2⟩
      rw [A8D]
      rw [decide_eq_false (by simpa using c1)] at ea
      generalize hV:vwC D.length n m f=V at *
      generalize hI:A7 k l s0 p d=I at *
      simp only [V7,I0,← e1,l4,l11,hL,A0K,List.getElem?_cons_zero,List.getElem?_cons_succ,Option.map_some,A0Q,A0P,s3,Option.isSome_some,A6U,q1,q2,ea,A07,cond_true,cond_false,A0d]
      rfl
end Go.Proofs.Ytdgggnlbdoiloaa
end
section
namespace Go.Proofs.Ytdgggnlbdoiloaa
open Go Go.Esc
theorem B6o {l:List Ent}:(E1 l).length=l.length * 2:=by
  induction l with
  | nil=>rfl
  | cons x l ih=>simp only [E1,List.map_cons,List.flatten_cons,List.length_append,List.length_cons,H0,List.length_nil] at ih ⊢;omega
theorem E5W {l:List Ent}:D8 (E1 l)=true:=by
  induction l with
  | nil=>rfl
  | cons x l ih =>
    have:E1 (x :: l)=H0 (some x) ++ E1 l:=rfl
    rw [this,A6Q,ih];rfl
theorem C3t {F:List UInt8 → Int} {B:A0} {b q mid sid:Nat} {S:H2} {es:F8} (hm:MapN es F S) (hb:b + 5 < B.length) (hs:rd B sid=some ⟨encS S,true⟩) (h5:rd B (b + 5)=some ⟨[.m mid],true⟩) (h4:rd B mid=some (G6 es)) (h62:S.length < 1000000) :
    ∀ (e i M id:Nat) (h:A0),i + e=S.length → e < M → Low b B h → id ≠ b + 5 → id ≠ sid → id ≠ mid → b ≤ id → (∀ j r,j=b + 5 ∨ j=sid ∨ j=mid → rd B j=some r → rd h j=some r) → rd h id=some ⟨E1 ((S.take i).map fun s=>(s,F s)),true⟩ → B.length ≤ h.length →
      ∃ v' h',A6t q M (.c (.p (b + 5) 0)) (.c (.sl id 0 i 2)) (.c (.sl sid 0 S.length 1)) (.c (.i .i64 (S.length:Int))) (.c (.i .i64 (i:Int))) h=some (v',h') ∧ Out b h' v' 2 S.length (E1 (S.map fun s=>(s,F s)))
  | e,i,0,id,h,_,hm,_,_,_,_,_,_,_,_=>by omega
  | 0,i,M + 1,id,h,hi,hm0,hlow,n5,ns,n4,hbi,hk,hr,hl=>by
    have c0:¬ (i:Int) < (S.length:Nat):=by omega
    have ei:i=S.length:=by omega
    subst ei
    rw [B39]
    rw [List.take_length] at hr
    refine ⟨.c (.sl id 0 S.length 2),h,by simp only [I0,T7,c0,decide_false,A0d],by rw [B6o];simp,id,rfl,hbi,hr⟩
  | e + 1,i,M + 1,id,h,hi,hm0,hlow,n5,ns,n4,hbi,hk,hr,hl=>by
    have hil:i < S.length:=by omega
    have c0:(i:Int) < (S.length:Nat):=by omega
    have ad:D1 1 (.c (.sl sid 0 S.length 1)) (.c (.i .i64 (i:Int)))=some (.c (.p sid i)):=by rw [K0 hil];simp
    have l1:A8 h (.c (.p sid i))=some (.c (.s S[i])):=H8 (hk sid _ (.inr (.inl rfl)) hs) (by rw [A6M,List.getElem?_eq_getElem hil];rfl) rfl
    have l5:A8 h (.c (.p (b + 5) 0))=some (.c (.m mid)):=H8 (hk _ _ (.inl rfl) h5) rfl rfl
    have lk:=F8Y (s:=S[i]) (hk _ _ (.inr (.inr rfl)) h4) hm (List.getElem_mem hil)
    have ef:B0 [Cell.s [],.i .i64 0] [(0,1,.c (.s S[i])),(1,1,.c (.i .i64 (F S[i])))]=some (H0 (some (S[i],F S[i]))):=rfl
    have ef2:B0 [Cell.s [],.i .i64 0] [(0,2,.a (H0 (some (S[i],F S[i]))))]=some (H0 (some (S[i],F S[i]))):=rfl
    have el:((S.take i).map fun s=>(s,F s)).length=i:=by simp;omega
    obtain ⟨h2,a1,a2,a3,a4⟩:=B0z (n:=i) (sz:=2) (ys:=H0 (some (S[i],F S[i]))) hr (by rw [B6o,el]) rfl (by omega) (by omega)
    have et:E1 ((S.take i).map fun s=>(s,F s)) ++ H0 (some (S[i],F S[i]))=E1 ((S.take (i + 1)).map fun s=>(s,F s)):=by
      rw [List.take_add_one,List.getElem?_eq_getElem hil,List.map_append,E1]
      simp [E1]
    rw [et] at a2
    have w1:=F4 (show i + 1 < 9223372036854775808 by omega)
    have hlt2:=D2 a2
    obtain ⟨v',h',f1,f2⟩:=C3t (q:=q) hm hb hs h5 h4 h62 e (i + 1) M (h.length + 1) h2 (by omega) (by omega) (hlow.trans (a4 _ hbi (by have:=hlow.1;omega))) (by omega)
      (fun e1=>by have:=D2 hs;omega) (fun e1=>by have:=D2 h4;omega) (by omega) (fun j r hj hjr=>a3 _ _ (by rcases hj with rfl | rfl | rfl <;> omega) (hk j r hj hjr)) a2 (by omega)
    rw [B39]
    refine ⟨v',h',?_,f2⟩
    simp only [I0,T7,c0,decide_true,Y2,ad,l1,l5,lk,ef,ef2,a1,A0H,w1]
    exact f1
theorem A9F {D:Dev} {n m k l s p:Int} {d:List Int} {f:Cell} {h:A0} (hD:okD D) (hd:d.length=7) (hv:IsView h f D) :
    A0z [.a (vwC D.length n m f),.a (A7 k l s p d)] h=some (.c (.sl h.length 0 (L9 D n k d).length 2),h ++ [some ⟨E1 (L9 D n k d),true⟩]):=by
  have key:∀ g,IsView g f D → ∃ v g',A46 300 [.a (vwC D.length n m f),.a (A7 k l s p d)] g=some (v,g') ∧ Out g.length g' v 2 (L9 D n k d).length (E1 (L9 D n k d)):=by
    intro g hv
    have hIl:(A7 k l s p d).length=11:=by simp [A7,F6,hd]
    have hbl:=A6j (D:=D) (n:=n) (k:=k) (d:=d)
    obtain ⟨V,hV⟩:∃ V,V=vwC D.length n m f:=⟨_,rfl⟩
    obtain ⟨I,hI⟩:∃ I,I=A7 k l s p d:=⟨_,rfl⟩
    have hVl:V.length=4:=by rw [hV];rfl
    have hIl':I.length=11:=by rw [hI];exact hIl
    obtain ⟨G,hG⟩:∃ G,G=g ++ [some (Row.mk V true),some (Row.mk I true),some (Row.mk [] true),some (Row.mk [.ns] true),some (G6 []),some (Row.mk [.m (g.length + 4)] true)]:=⟨_,rfl⟩
    obtain ⟨G2,hG2⟩:∃ G2,G2=G ++ [some (Row.mk V true),some (Row.mk I true),some (Row.mk (encI (D7 D n k d)) true)]:=⟨_,rfl⟩
    have lG:G.length=g.length + 6:=by rw [hG];simp
    have lG2:G2.length=g.length + 9:=by rw [hG2];simp [lG]
    have hB:=A9X (n:=n) (m:=m) (k:=k) (l:=l) (s:=s) (p:=p) (h:=G ++ [some (Row.mk V true),some (Row.mk I true)]) hD hd (by rw [hG];exact (hv.more _).more _)
    rw [← hV,← hI] at hB
    have hB2:(G ++ [some (Row.mk V true),some (Row.mk I true)]) ++ [some (Row.mk (encI (D7 D n k d)) true)]=G2:=by rw [hG2];simp
    rw [hB2] at hB
    have lB:(G ++ [some (Row.mk V true),some (Row.mk I true)]).length=g.length + 8:=by simp [lG]
    rw [lB] at hB
    have emk:V4 89 [.c (.p g.length 0),.c (.p (g.length + 1) 0),.c (.p (g.length + 3) 0),.c (.p (g.length + 5) 0)]=some (.c (.f 89 [(g.length,0),(g.length + 1,0),(g.length + 3,0),(g.length + 5,0)])):=rfl
    have hcv:∀ (x y:Val) (h:A0),L7 Q6 (.c (.f 89 [(g.length,0),(g.length + 1,0),(g.length + 3,0),(g.length + 5,0)])) [x,y] h=A3m [x,y,.c (.p g.length 0),.c (.p (g.length + 1) 0),.c (.p (g.length + 3) 0),.c (.p (g.length + 5) 0)] h:=fun _ _ _=>Eq.trans rfl rfl
    have P0:ListP D n k d V I (D7 D n k d) g [] 0 [] G2:=by
      refine ⟨VarC.nil ?_,Nat.le_refl _,?_,?_,?_,?_,?_,?_,⟨[],?_,MapN.nil _⟩,fun j hj=>by simp at hj⟩
      · rw [hG2,hG];simp
      · rw [hG2,hG];exact ((Low.refl (Nat.le_refl _)).new _).new _
      · rw [hG2,hG];simp
      · rw [hG2,hG];simp
      · rw [hG2,← lG];simp
      · rw [hG2,show g.length + 8=G.length + 2 by omega];simp
      · rw [hG2,hG];simp
      · rw [hG2,hG];simp
    obtain ⟨h',f1,f2⟩:=A9o (σ:=List Tld) (L0:=fun M x h=>A6z 300 M (.c (.f 89 [(g.length,0),(g.length + 1,0),(g.length + 3,0),(g.length + 5,0)])) (.c (.p (g.length + 6) 0)) (.c (.sl (g.length + 8) 0 (D7 D n k d).length 1)) (.c (.i .i64 ((D7 D n k d).length:Nat))) x h)
      (L1:=fun M m2 x7 x14 x21 x22 x23 h=>A6A 300 M m2 (.c (.f 89 [(g.length,0),(g.length + 1,0),(g.length + 3,0),(g.length + 5,0)])) (.c (.p (g.length + 6) 0)) x7 (.c (.sl (g.length + 8) 0 (D7 D n k d).length 1)) (.c (.i .i64 ((D7 D n k d).length:Nat))) x14 x21 x22 x23 h)
      (C:=fun x y h=>L7 Q6 (.c (.f 89 [(g.length,0),(g.length + 1,0),(g.length + 3,0),(g.length + 5,0)])) [x,y] h)
      (N:=300) (x3:=.c (.p (g.length + 6) 0)) (n:=n) (m:=m) (f:=f) (sid:=g.length + 8) (L:=D7 D n k d) hD (fun rs c s h=>ListP D n k d V I (D7 D n k d) g rs c s h) (fun s t=>s ++ [t]) (by omega)
      (fun M x h=>by rw [E0W])
      (fun M v9 x v w M2 y h=>by rw [E0X])
      (fun rs c s h P=>⟨by rw [← hV];exact G1 P.r6 hVl,hv.since P.low,P.r8⟩)
      (fun rs c s h t P=>P.more t) (fun rs c s h r P=>P.one r) (fun i rs c s h P=>P.less) (fun rs c c' s h P hc=>P.wide hc)
      (fun rs c st h1 no x P hc hno hx=>by
        obtain ⟨h2,e1,e2,e3⟩:=F8S (t:=((no,x.1,x.2.2),x.2.1)) (n:=n) (m:=m) (k:=k) (l:=l) (s0:=s) (p:=p) (c:=c) hD hd hv (by omega) (by have:=B0F (B0j hx).1;exact this) (by rw [← hV,← hI];exact P)
        rw [← hV,← hI] at e2
        exact ⟨h2,by rw [hcv];exact e1,e2,e3⟩)
      (by omega) (D7 D n k d).length 0 300 [] [] G2 (by omega) (by omega) P0
    rw [List.drop_zero] at f2
    have efold:∀ (L:List Tld) (s0:List Tld),L.foldl (fun s t=>s ++ [t]) s0=s0 ++ L:=by
      intro L
      induction L with
      | nil=>intro s0;simp
      | cons t L ih=>intro s0;rw [List.foldl_cons,ih];simp
    rw [efold,List.nil_append] at f2
    change ListP D n k d V I (D7 D n k d) g [] (7 * (D7 D n k d).length) (E5 D n k d) h' at f2
    have hS:A3q [.a V,.a I,.c (.f 89 [(g.length,0),(g.length + 1,0),(g.length + 3,0),(g.length + 5,0)])] G=some (.t [],h'):=by
      refine C7J (n:=300) ?_
      rw [C6l]
      have g4:A5 (G ++ [some (Row.mk V true),some (Row.mk I true)]) 4 (.c (.p G.length 0))=some (.a V):=by rw [S1];exact P6 hVl
      have g11:A5 (G ++ [some (Row.mk V true),some (Row.mk I true)]) 11 (.c (.p (G.length + 1) 0))=some (.a I):=by rw [V3];exact P6 hIl'
      simp only [V7,I0,List.append_assoc,List.cons_append,List.nil_append,List.length_append,List.length_cons,List.length_nil,Nat.zero_add,g4,g11,hB,A12]
      rw [lG]
      exact f1
    obtain ⟨x,hx,hdx⟩:=f2.var
    have hN:=B0n (D:=D) (n:=n) (k:=k) (d:=d) (s:=E5 D n k d)
    have hlen:=f2.len
    have hlt:=D2 f2.r8
    have hH:Has (h' ++ [some (Row.mk [] true)]) (.c x) 1 (E6 D n k d (E5 D n k d)).length (encS (E6 D n k d (E5 D n k d))):=by
      rcases hdx with ⟨e1,e2,rfl⟩ | ⟨id,rfl,hr,hl,_,_⟩
      · exact .inl ⟨rfl,e1,e2⟩
      · exact Has.row (rw:=true) (C0 hr) hl (C1Y _)
    have hSo:=G32 hH (by omega)
    obtain ⟨es,r4,hm⟩:=f2.r4
    have hm2:MapN es (A0g D n k d) (H4 (E6 D n k d (E5 D n k d))):=⟨hm.1,fun s hs=>hm.2 s ((A8h _ _).1 hs)⟩
    have hsl:=H23 (E6 D n k d (E5 D n k d))
    have lh:(h' ++ [some (Row.mk [] true)]).length=h'.length + 1:=by simp
    rw [lh] at hSo
    obtain ⟨v',g',o1,o2⟩:=C3t (F:=A0g D n k d) (B:=h' ++ [some (Row.mk [] true)] ++ [some (Row.mk (encS (H4 (E6 D n k d (E5 D n k d)))) true)]) (b:=g.length) (q:=300) (mid:=g.length + 4) (sid:=h'.length + 1) (S:=H4 (E6 D n k d (E5 D n k d))) hm2 (by simp;omega) (by rw [← lh];exact M9) (C0 (C0 f2.r5)) (C0 (C0 r4)) (by omega)
      (H4 (E6 D n k d (E5 D n k d))).length 0 300 h'.length (h' ++ [some (Row.mk [] true)] ++ [some (Row.mk (encS (H4 (E6 D n k d (E5 D n k d)))) true)]) (by omega) (by omega) (Low.refl (by simp;omega)) (by omega) (by omega) (by omega) (by omega) (fun j r _ hj=>hj) (by simp [E1]) (Nat.le_refl _)
    have eL:(L9 D n k d).length=(H4 (E6 D n k d (E5 D n k d))).length:=by simp [L9]
    refine ⟨v',g',?_,by rw [eL];exact o2⟩
    have t1:A8 (h' ++ [some (Row.mk [] true)]) (.c (.p (g.length + 3) 0))=some (.c x):=H8 (C0 hx) rfl (by
      rcases hdx with ⟨_,_,rfl⟩ | ⟨id,rfl,_⟩ <;> rfl)
    have s5:E8 (g ++ [some (Row.mk V true),some (Row.mk I true),some (Row.mk [] true),some (Row.mk [.ns] true),some (G6 []),some (Row.mk [.nm] true)]) (.c (.p (g.length + 5) 0)) (.c (.m (g.length + 4)))=some G:=by
      rw [A2S,hG];rfl
    have g4:A5 G 4 (.c (.p g.length 0))=some (.a V):=by rw [hG,S1];exact P6 hVl
    have g11:A5 G 11 (.c (.p (g.length + 1) 0))=some (.a I):=by rw [hG,V3];exact P6 hIl'
    rw [C6g,← hV,← hI]
    simp only [V7,I0,List.append_assoc,List.cons_append,List.nil_append,List.length_append,List.length_cons,List.length_nil,Nat.zero_add,Nat.reduceAdd,s5,g4,g11,emk,hS,t1]
    rw [hSo]
    simp only [I0,A12]
    exact o1
  obtain ⟨v,g',e,ho⟩:=key (ro h) hv.ro
  exact C7A e (by simpa [Q5] using ho) E5W
theorem D6x {D:Dev} {n m k l s p:Int} {d:List Int} {f:Cell} {h:A0} (hD:okD D) (hd:d.length=7) (hv:IsView h f D) :
    A3l [.a (vwC D.length n m f),.a (A7 k l s p d)] h=some (.c (.b (decide ((L9 D n k d).length=0))),h):=by
  have key:∀ g,IsView g f D → ∃ g',A45 0 [.a (vwC D.length n m f),.a (A7 k l s p d)] g=some (.c (.b (decide ((L9 D n k d).length=0))),g'):=by
    intro g hv
    have hIl:(A7 k l s p d).length=11:=by simp [A7,F6,hd]
    have l11:ldN (some (Row.mk (A7 k l s p d) true)) 0 11=some (.a (A7 k l s p d)):=P6 hIl
    have l4:=A2x (b:=D.length) (n:=n) (m:=m) (f:=f)
    have hL:=A9F (n:=n) (m:=m) (k:=k) (l:=l) (s:=s) (p:=p) (h:=g ++ [some (Row.mk (vwC D.length n m f) true),some (Row.mk (A7 k l s p d) true)]) hD hd (hv.more _)
    have ez:decide ((((L9 D n k d).length:Nat):Int)=0)=decide ((L9 D n k d).length=0):=by
      apply Bool.eq_iff_iff.2;simp
    rw [C6f]
    generalize L9 D n k d=Ls at *
    generalize vwC D.length n m f=V at *
    generalize A7 k l s p d=I at *
    refine ⟨g ++ [some (Row.mk V true),some (Row.mk I true),some (Row.mk (E1 Ls) true)],?_⟩
    rw [← ez]
    simp only [esc] at hL
    simp only [esc,V3,S1,l4,l11,hL] <;> rfl
  obtain ⟨g',e⟩:=key (ro h) hv.ro
  exact C7x e rfl
end Go.Proofs.Ytdgggnlbdoiloaa
end
section
namespace Go.Proofs.Ytdgggnlbdoiloaa
open Go Go.Esc
theorem H1S {l:List Plc} {x:Plc}:Q4 (l ++ [x])=Q4 l ++ D9 (some x):=by simp [Q4]
theorem H1Q {l:List Plc}:D8 (Q4 l)=true:=by
  induction l with
  | nil=>rfl
  | cons x l ih =>
    have:Q4 (x :: l)=D9 (some x) ++ Q4 l:=rfl
    rw [this,A6Q,ih];rfl
theorem H1R {l:List Plc}:noX (Q4 l)=true:=by
  induction l with
  | nil=>rfl
  | cons x l ih =>
    have:Q4 (x :: l)=[.i .i64 x.1,.i .i64 (x.2.1:Int),.i .i64 x.2.2] ++ Q4 l:=rfl
    rw [this]
    simp [noX,Cell.isX] at ih ⊢
    exact ih
theorem C4o {D:Dev} {n k:Int} {d:List Int} {s:List Tld} {t:Tld}:M1 D n k d (s ++ [t])=M1 D n k d s ++ (if isL D n k d t=true then [] else [t.1]):=by
  unfold M1
  rw [List.filter_append,List.map_append]
  by_cases c:isL D n k d t=true
  · rw [if_pos c,List.filter_cons_of_neg (by simp [c])];rfl
  · rw [if_neg c,List.filter_cons_of_pos (by simp [c])];rfl
theorem H3d {D:Dev} {n k:Int} {d:List Int} {s:List Tld}:(M1 D n k d s).length ≤ s.length:=by
  unfold M1
  rw [List.length_map];exact List.length_filter_le _ _
def RSs (b:Nat):List Nat:=[b,b + 1,b + 3,b + 4,b + 6]
structure StrP (D:Dev) (n k:Int) (d:List Int) (V I:List Cell) (L:List Int) (g:A0) (rs:List Nat) (c:Nat) (s:List Tld) (h:A0):Prop where
  var:VarC h (g.length + 3) (Q4 (M1 D n k d s)) (M1 D n k d s).length 3 g.length (rs ++ RSs g.length)
  len:s.length ≤ c
  low:Low g.length g h
  r0:rd h g.length=some ⟨V,true⟩
  r1:rd h (g.length + 1)=some ⟨I,true⟩
  r4:rd h (g.length + 4)=some ⟨V,true⟩
  r6:rd h (g.length + 6)=some ⟨encI L,true⟩
  rs:∀ j ∈ rs,g.length + 7 ≤ j ∧ j < h.length
section
variable {D:Dev} {n k:Int} {d:List Int} {V I:List Cell} {L:List Int} {g h:A0} {rs:List Nat} {c:Nat} {s:List Tld}
theorem StrP.more (P:StrP D n k d V I L g rs c s h) (t:A0):StrP D n k d V I L g rs c s (h ++ t) where
  var:=P.var.more t fun j hj=>.inl hj
  len:=P.len
  low:=P.low.new _
  r0:=C0 P.r0
  r1:=C0 P.r1
  r4:=C0 P.r4
  r6:=C0 P.r6
  rs:=fun j hj=>by have:=P.rs j hj;simp;omega
theorem StrP.one (P:StrP D n k d V I L g rs c s h) (r:Option Row):StrP D n k d V I L g (h.length :: rs) c s (h ++ [r]) where
  var:=P.var.more _ fun j hj=>by
    rcases List.mem_cons.1 hj with rfl | hj
    · exact .inr (Nat.le_refl _)
    · exact .inl hj
  len:=P.len
  low:=P.low.new _
  r0:=C0 P.r0
  r1:=C0 P.r1
  r4:=C0 P.r4
  r6:=C0 P.r6
  rs:=fun j hj=>by
    have h8:=D2 P.r6
    rcases List.mem_cons.1 hj with rfl | hj
    · simp;omega
    · have:=P.rs j hj;simp;omega
theorem StrP.less {i:Nat} (P:StrP D n k d V I L g (i :: rs) c s h):StrP D n k d V I L g rs c s h :=
  { P with var:=P.var.fewer fun j hj=>List.mem_cons_of_mem _ hj,rs:=fun j hj=>P.rs j (List.mem_cons_of_mem _ hj) }
theorem StrP.wide {c':Nat} (P:StrP D n k d V I L g rs c s h) (hc:c ≤ c'):StrP D n k d V I L g rs c' s h :=
  { P with len:=Nat.le_trans P.len hc }
end
theorem H3b {D:Dev} {n m k l s0 p:Int} {d:List Int} {f:Cell} {L:List Int} {g h:A0} {rs:List Nat} {c:Nat} {s:List Tld} {t:Tld} (hD:okD D) (hd:d.length=7) (hv:IsView g f D) (hc:c ≤ 90000) (ht:t.2.length ≤ 24)
    (P:StrP D n k d (vwC D.length n m f) (A7 k l s0 p d) L g rs c s h) :
    ∃ h',A3p [.a (D9 (some t.1)),.c (.s t.2),.c (.p g.length 0),.c (.p (g.length + 1) 0),.c (.p (g.length + 3) 0)] h=some (.t [],h') ∧ StrP D n k d (vwC D.length n m f) (A7 k l s0 p d) L g rs (c + 1) (s ++ [t]) h' ∧ ∀ j ∈ rs,rd h' j=rd h j:=by
  obtain ⟨⟨p1,p2,p3⟩,nm⟩:=t
  have hIl:(A7 k l s0 p d).length=11:=by simp [A7,F6,hd]
  obtain ⟨h1,e1⟩:∃ h1,h1=h ++ [some (Row.mk (D9 (some (p1,p2,p3))) true)]:=⟨_,rfl⟩
  have n1:h1.length=h.length + 1:=by rw [e1];simp
  have P1:StrP D n k d (vwC D.length n m f) (A7 k l s0 p d) L g (h.length :: rs) c s h1:=e1 ▸ P.one _
  have l4:A5 h1 4 (.c (.p g.length 0))=some (.a (vwC D.length n m f)):=G1 P1.r0 rfl
  have l11:A5 h1 11 (.c (.p (g.length + 1) 0))=some (.a (A7 k l s0 p d)):=G1 P1.r1 hIl
  have hL:=A33 (n:=n) (m:=m) (k:=k) (l:=l) (s:=s0) (p:=p) (nm:=nm) (h:=h1) hD hd (hv.since P1.low) (by dsimp only at ht;omega)
  have hl:=D2 P.r6
  have keep:∀ (h':A0),(∀ j ∈ h.length :: rs,rd h' j=rd h1 j) → ∀ j ∈ rs,rd h' j=rd h j:=by
    intro h' hk j hj
    rw [hk j (List.mem_cons_of_mem _ hj),e1,J6 (P.rs j hj).2]
  obtain ⟨o,eo⟩:∃ o,o=I4 D n k d nm:=⟨_,rfl⟩
  rw [← eo] at hL
  obtain ⟨h2,e2⟩:∃ h2,h2=h1 ++ [some (Row.mk (D9 o) true)]:=⟨_,rfl⟩
  have s3:B1 (h1 ++ [some (Row.mk [Cell.i .i64 0,.i .i64 0,.i .i64 0] true)]) 3 (.c (.p h1.length 0)) (.a (D9 o))=some h2:=by
    rw [T9,e2];cases o <;> rfl
  have P2:StrP D n k d (vwC D.length n m f) (A7 k l s0 p d) L g (h.length :: rs) c s h2:=e2 ▸ P1.more _
  have q1:A5 h2 3 (.c (.p h1.length 0))=some (.a (D9 o)):=by rw [e2,S1];cases o <;> rfl
  have rp:rd h2 h.length=some ⟨D9 (some (p1,p2,p3)),true⟩:=by rw [e2,e1];simp
  have q2:A5 h2 3 (.c (.p h.length 0))=some (.a (D9 (some (p1,p2,p3)))):=G1 rp rfl
  have k2:∀ j ∈ h.length :: rs,rd h2 j=rd h1 j:=fun j hj=>by
    rw [e2,J6]
    rcases List.mem_cons.1 hj with rfl | hj
    · omega
    · have:=P.rs j hj;omega
  by_cases hn:isL D n k d ((p1,p2,p3),nm)=true
  · have ho:o=some (p1,p2,p3):=by
      have:=hn
      unfold isL at this
      rw [← eo] at this
      simpa using this
    subst ho
    have hst:M1 D n k d (s ++ [((p1,p2,p3),nm)])=M1 D n k d s:=by rw [C4o,if_pos hn];simp
    have ea:=A78 (neg:=true) (p1,p2,p3) (p1,p2,p3)
    rw [decide_eq_true rfl] at ea
    have P3:=P2.less
    refine ⟨h2,B07 (n:=0) ?_,{ P3 with var:=by rw [hst];exact P3.var,len:=by have:=P.len;simp;omega },keep h2 k2⟩
    rw [B0Y]
    generalize hV:vwC D.length n m f=V at *
    generalize hI:A7 k l s0 p d=I at *
    simp only [V7,I0,← e1,l4,l11,hL,A0K,List.getElem?_cons_zero,List.getElem?_cons_succ,Option.map_some,A0Q,A0P,s3,Option.isSome_some,A56,Bool.not_true,A9Z,q1,q2,ea,A07,cond_true,cond_false,A0d]
    rfl
  · have hst:M1 D n k d (s ++ [((p1,p2,p3),nm)])=M1 D n k d s ++ [(p1,p2,p3)]:=by rw [C4o,if_neg hn]
    have h2l:h2.length=h.length + 2:=by rw [e2];simp;omega
    obtain ⟨x,v,h3,h4,a1,a2,a3,a4,a5,a6,a7⟩:=P2.var.push (ys:=D9 (some (p1,p2,p3))) (by simp [RSs]) (by omega) (by omega) (by
      intro j hj
      rcases List.mem_append.1 hj with hj | hj
      · exact (P2.rs j hj).2
      · simp only [RSs,List.mem_cons,List.not_mem_nil,or_false] at hj;omega) (by have:=H3d (D:=D) (n:=n) (k:=k) (d:=d) (s:=s);have:=P.len;omega) rfl (by omega)
    have ef:B0 [Cell.i .i64 0,.i .i64 0,.i .i64 0] [(0,3,.a (D9 (some (p1,p2,p3))))]=some (D9 (some (p1,p2,p3))):=rfl
    have mem:∀ j,j ∈ RSs g.length → j ≠ g.length + 3 → rd h4 j=rd h2 j:=fun j hj hne=>a6 j (List.mem_append_right _ hj) hne
    have fin:StrP D n k d (vwC D.length n m f) (A7 k l s0 p d) L g rs (c + 1) (s ++ [((p1,p2,p3),nm)]) h4:=by
      refine ⟨?_,?_,P2.low.trans a5,?_,?_,?_,?_,?_⟩
      · rw [hst,H1S,List.length_append]
        exact a4.fewer fun j hj=>by
          rcases List.mem_append.1 hj with hj | hj
          · exact List.mem_append_left _ (List.mem_cons_of_mem _ hj)
          · exact List.mem_append_right _ hj
      · have:=P.len;simp;omega
      · rw [mem _ (by simp [RSs]) (by omega)];exact P2.r0
      · rw [mem _ (by simp [RSs]) (by omega)];exact P2.r1
      · rw [mem _ (by simp [RSs]) (by omega)];exact P2.r4
      · rw [mem _ (by simp [RSs]) (by omega)];exact P2.r6
      · intro j hj
        have:=P.rs j hj
        omega
    have kp:∀ j ∈ rs,rd h4 j=rd h j:=keep h4 fun j hj=>by
      have hj9:g.length + 7 ≤ j:=by
        rcases List.mem_cons.1 hj with rfl | hj
        · omega
        · exact (P.rs j hj).1
      rw [a6 j (List.mem_append_left _ hj) (by omega),k2 j hj]
    refine ⟨h4,B07 (n:=0) ?_,fin,kp⟩
    rw [B0Y]
    cases o with
    | none =>
      generalize hV:vwC D.length n m f=V at *
      generalize hI:A7 k l s0 p d=I at *
      simp only [V7,I0,← e1,l4,l11,hL,A0K,List.getElem?_cons_zero,List.getElem?_cons_succ,Option.map_some,A0Q,A0P,s3,Option.isSome_none,A56,Bool.not_false,B6V,A90,A07,cond_true,cond_false,Y2,a1,q2,ef,a2,a3]
      rfl
    | some q =>
      have hq:q ≠ (p1,p2,p3):=by
        intro e
        apply hn
        unfold isL
        rw [← eo,e];simp
      have ea:=A78 (neg:=true) q (p1,p2,p3)
      rw [decide_eq_false (by simpa using hq)] at ea
      generalize hV:vwC D.length n m f=V at *
      generalize hI:A7 k l s0 p d=I at *
      simp only [V7,I0,← e1,l4,l11,hL,A0K,List.getElem?_cons_zero,List.getElem?_cons_succ,Option.map_some,A0Q,A0P,s3,Option.isSome_some,A56,Bool.not_true,Bool.not_false,A9Z,q1,q2,ea,A07,cond_true,cond_false,Y2,a1,ef,a2,a3]
      rfl
theorem B4Q {D:Dev} {n m k l s p:Int} {d:List Int} {f:Cell} {h:A0} (hD:okD D) (hd:d.length=7) (hv:IsView h f D) :
    B0V h (A0A [.a (vwC D.length n m f),.a (A7 k l s p d)] h) (Q4 (M1 D n k d (E5 D n k d))) (M1 D n k d (E5 D n k d)).length 3:=by
  have key:∀ g,IsView g f D → ∃ x g',A2H 0 [.a (vwC D.length n m f),.a (A7 k l s p d)] g=some (.c x,g') ∧ A8x g' x (Q4 (M1 D n k d (E5 D n k d))) (M1 D n k d (E5 D n k d)).length 3 g.length ([] ++ RSs g.length):=by
    intro g hv
    have hIl:(A7 k l s p d).length=11:=by simp [A7,F6,hd]
    have hbl:=A6j (D:=D) (n:=n) (k:=k) (d:=d)
    obtain ⟨V,hV⟩:∃ V,V=vwC D.length n m f:=⟨_,rfl⟩
    obtain ⟨I,hI⟩:∃ I,I=A7 k l s p d:=⟨_,rfl⟩
    have hVl:V.length=4:=by rw [hV];rfl
    have hIl':I.length=11:=by rw [hI];exact hIl
    obtain ⟨G,hG⟩:∃ G,G=g ++ [some (Row.mk V true),some (Row.mk I true),some (Row.mk [] true),some (Row.mk [.ns] true)]:=⟨_,rfl⟩
    obtain ⟨G2,hG2⟩:∃ G2,G2=G ++ [some (Row.mk V true),some (Row.mk I true),some (Row.mk (encI (D7 D n k d)) true)]:=⟨_,rfl⟩
    have lG:G.length=g.length + 4:=by rw [hG];simp
    have lG2:G2.length=g.length + 7:=by rw [hG2];simp [lG]
    have hB:=A9X (n:=n) (m:=m) (k:=k) (l:=l) (s:=s) (p:=p) (h:=G ++ [some (Row.mk V true),some (Row.mk I true)]) hD hd (by rw [hG];exact (hv.more _).more _)
    rw [← hV,← hI] at hB
    have hB2:(G ++ [some (Row.mk V true),some (Row.mk I true)]) ++ [some (Row.mk (encI (D7 D n k d)) true)]=G2:=by rw [hG2];simp
    rw [hB2] at hB
    have lB:(G ++ [some (Row.mk V true),some (Row.mk I true)]).length=g.length + 6:=by simp [lG]
    rw [lB] at hB
    have emk:V4 94 [.c (.p g.length 0),.c (.p (g.length + 1) 0),.c (.p (g.length + 3) 0)]=some (.c (.f 94 [(g.length,0),(g.length + 1,0),(g.length + 3,0)])):=rfl
    have hcv:∀ (x y:Val) (h:A0),L7 Q7 (.c (.f 94 [(g.length,0),(g.length + 1,0),(g.length + 3,0)])) [x,y] h=A3p [x,y,.c (.p g.length 0),.c (.p (g.length + 1) 0),.c (.p (g.length + 3) 0)] h:=fun _ _ _=>Eq.trans rfl rfl
    have P0:StrP D n k d V I (D7 D n k d) g [] 0 [] G2:=by
      refine ⟨VarC.nil ?_,Nat.le_refl _,?_,?_,?_,?_,?_,fun j hj=>by simp at hj⟩
      · rw [hG2,hG];simp
      · rw [hG2,hG];exact ((Low.refl (Nat.le_refl _)).new _).new _
      · rw [hG2,hG];simp
      · rw [hG2,hG];simp
      · rw [hG2,← lG];simp
      · rw [hG2,show g.length + 6=G.length + 2 by omega];simp
    obtain ⟨h',f1,f2⟩:=A9o (σ:=List Tld) (L0:=fun M x h=>A6E 300 M (.c (.f 94 [(g.length,0),(g.length + 1,0),(g.length + 3,0)])) (.c (.p (g.length + 4) 0)) (.c (.sl (g.length + 6) 0 (D7 D n k d).length 1)) (.c (.i .i64 ((D7 D n k d).length:Nat))) x h)
      (L1:=fun M m2 x7 x14 x21 x22 x23 h=>A6F 300 M m2 (.c (.f 94 [(g.length,0),(g.length + 1,0),(g.length + 3,0)])) (.c (.p (g.length + 4) 0)) x7 (.c (.sl (g.length + 6) 0 (D7 D n k d).length 1)) (.c (.i .i64 ((D7 D n k d).length:Nat))) x14 x21 x22 x23 h)
      (C:=fun x y h=>L7 Q7 (.c (.f 94 [(g.length,0),(g.length + 1,0),(g.length + 3,0)])) [x,y] h)
      (N:=300) (x3:=.c (.p (g.length + 4) 0)) (n:=n) (m:=m) (f:=f) (sid:=g.length + 6) (L:=D7 D n k d) hD (fun rs c s h=>StrP D n k d V I (D7 D n k d) g rs c s h) (fun s t=>s ++ [t]) (by omega)
      (fun M x h=>by rw [E1S])
      (fun M v9 x v w M2 y h=>by rw [E1T])
      (fun rs c s h P=>⟨by rw [← hV];exact G1 P.r4 hVl,hv.since P.low,P.r6⟩)
      (fun rs c s h t P=>P.more t) (fun rs c s h r P=>P.one r) (fun i rs c s h P=>P.less) (fun rs c c' s h P hc=>P.wide hc)
      (fun rs c st h1 no x P hc hno hx=>by
        obtain ⟨h2,e1,e2,e3⟩:=H3b (t:=((no,x.1,x.2.2),x.2.1)) (n:=n) (m:=m) (k:=k) (l:=l) (s0:=s) (p:=p) (c:=c) hD hd hv (by omega) (by have:=B0F (B0j hx).1;exact this) (by rw [← hV,← hI];exact P)
        rw [← hV,← hI] at e2
        exact ⟨h2,by rw [hcv];exact e1,e2,e3⟩)
      (by omega) (D7 D n k d).length 0 300 [] [] G2 (by omega) (by omega) P0
    rw [List.drop_zero] at f2
    have efold:∀ (L:List Tld) (s0:List Tld),L.foldl (fun s t=>s ++ [t]) s0=s0 ++ L:=by
      intro L
      induction L with
      | nil=>intro s0;simp
      | cons t L ih=>intro s0;rw [List.foldl_cons,ih];simp
    rw [efold,List.nil_append] at f2
    change StrP D n k d V I (D7 D n k d) g [] (7 * (D7 D n k d).length) (E5 D n k d) h' at f2
    have hS:A3r [.a V,.a I,.c (.f 94 [(g.length,0),(g.length + 1,0),(g.length + 3,0)])] G=some (.t [],h'):=by
      refine C7L (n:=300) ?_
      rw [C6m]
      have g4:A5 (G ++ [some (Row.mk V true),some (Row.mk I true)]) 4 (.c (.p G.length 0))=some (.a V):=by rw [S1];exact P6 hVl
      have g11:A5 (G ++ [some (Row.mk V true),some (Row.mk I true)]) 11 (.c (.p (G.length + 1) 0))=some (.a I):=by rw [V3];exact P6 hIl'
      simp only [V7,I0,List.append_assoc,List.cons_append,List.nil_append,List.length_append,List.length_cons,List.length_nil,Nat.zero_add,g4,g11,hB,A12]
      rw [lG]
      exact f1
    obtain ⟨x,hx,hdx⟩:=f2.var
    refine ⟨x,h',?_,hdx⟩
    have t1:A8 h' (.c (.p (g.length + 3) 0))=some (.c x):=H8 hx rfl (by
      rcases hdx with ⟨_,_,rfl⟩ | ⟨id,rfl,_⟩ <;> rfl)
    have g4:A5 G 4 (.c (.p g.length 0))=some (.a V):=by rw [hG,S1];exact P6 hVl
    have g11:A5 G 11 (.c (.p (g.length + 1) 0))=some (.a I):=by rw [hG,V3];exact P6 hIl'
    rw [C6k,← hV,← hI]
    simp only [V7,I0,List.append_assoc,List.cons_append,List.nil_append,List.length_append,List.length_cons,List.length_nil,Nat.zero_add,Nat.reduceAdd,← hG,g4,g11,emk,hS,t1]
  obtain ⟨x,g',e,hdx⟩:=key (ro h) hv.ro
  rw [Q5] at hdx
  exact C9P (S:=A0A) (R:=A2H) C7H C7I e hdx H1Q H1R
def A4h (D:Dev) (n k:Int) (d:List Int):List Int:=(D7 D n k d).map fun no=>((G5 (blk D no)).length:Int)
theorem C0f {D:Dev} {n m:Int} {f:Cell} {g:A0} {p q sid:Nat} {L:List Int} (hD:okD D) (hv:IsView g f D) (h1:rd g p=some ⟨vwC D.length n m f,true⟩) (hL:L.length ≤ 32):∀ (e i M id:Nat) (h:A0),i + e=L.length → e < M → Low g.length g h → g.length ≤ id → id ≠ sid → rd h sid=some ⟨encI L,true⟩ → rd h id=some ⟨encI ((L.take i).map fun no=>((G5 (blk D no)).length:Int)),true⟩ →
    ∃ v' h',A6v q M (.c (.p p 0)) (.c (.sl id 0 i 1)) (.c (.sl sid 0 L.length 1)) (.c (.i .i64 (L.length:Int))) (.c (.i .i64 (i:Int))) h=some (v',h') ∧ Out g.length h' v' 1 L.length (encI (L.map fun no=>((G5 (blk D no)).length:Int)))
  | e,i,0,id,h,_,hm,_,_,_,_,_=>by omega
  | 0,i,M + 1,id,h,hi,hm,hlow,hid,hne,hs,hr=>by
    have e0:i=L.length:=by omega
    subst e0
    have c0:¬ ((L.length:Nat):Int) < (L.length:Nat):=by omega
    rw [List.take_length] at hr
    rw [B4n]
    exact ⟨_,_,by simp only [esc,c0] <;> rfl,by rw [F6,List.length_map,Nat.mul_one],id,rfl,hid,hr⟩
  | e + 1,i,M + 1,id,h,hi,hm,hlow,hid,hne,hs,hr=>by
    have hil:i < L.length:=by omega
    have c0:(i:Int) < (L.length:Nat):=by omega
    have ad:D1 1 (.c (.sl sid 0 L.length 1)) (.c (.i .i64 (i:Int)))=some (.c (.p sid i)):=by rw [K0 hil];simp
    have l1:A8 h (.c (.p sid i))=some (.c (.i .i64 L[i])):=H8 hs (by rw [V9,List.getElem?_eq_getElem hil];rfl) rfl
    have l4:A5 h 4 (.c (.p p 0))=some (.a (vwC D.length n m f)):=G1 (hlow.rd h1) rfl
    have hB:=A4D (n:=n) (m:=m) (no:=L[i]) hD (hv.since hlow)
    obtain ⟨v,t,b1,b2,b3⟩:=B2l (b:=blk D L[i]) (h:=h) (A2T hD)
    have hlen:=b2.len
    have w1:=F4 (show i + 1 < 9223372036854775808 by omega)
    have ef:B0 [Cell.i .i64 0] [(0,1,.c (.i .i64 ((G5 (blk D L[i])).length:Nat)))]=some (encI [((G5 (blk D L[i])).length:Int)]):=rfl
    have el:((L.take i).map fun no=>((G5 (blk D no)).length:Int)).length=i:=by simp;omega
    obtain ⟨h2,a1,a2,a3,a4⟩:=B0z (n:=i) (sz:=1) (ys:=encI [((G5 (blk D L[i])).length:Int)]) (C0 (g:=t) hr) (by rw [F6,el,Nat.mul_one]) rfl (by omega) (by omega)
    have et:encI ((L.take i).map fun no=>((G5 (blk D no)).length:Int)) ++ encI [((G5 (blk D L[i])).length:Int)]=encI ((L.take (i + 1)).map fun no=>((G5 (blk D no)).length:Int)):=by
      rw [← A9M,List.take_add_one,List.getElem?_eq_getElem hil,List.map_append];rfl
    rw [et] at a2
    have hlt:=D2 hs
    have hll:=hlow.2.1
    obtain ⟨v',h',f1,f2⟩:=C0f (q:=q) hD hv h1 hL e (i + 1) M ((h ++ t).length + 1) h2 (by omega) (by omega) ((hlow.new t).trans (a4 _ hid (by simp;omega))) (by simp;omega) (by simp;omega) (a3 _ _ (Ne.symm hne) (C0 hs)) a2
    rw [B4n]
    refine ⟨v',h',?_,f2⟩
    simp only [I0,T7,c0,decide_true,Y2,ad,l1,l4,hB,b1,hlen,ef,a1,A0H,w1]
    exact f1
theorem D8n {D:Dev} {n m k l s p:Int} {d:List Int} {f:Cell} {h:A0} (hD:okD D) (hd:d.length=7) (hv:IsView h f D) :
    A3n [.a (vwC D.length n m f),.a (A7 k l s p d)] h=some (.c (.sl h.length 0 (D7 D n k d).length 1),h ++ [some ⟨encI (A4h D n k d),true⟩]):=by
  have key:∀ g,IsView g f D → ∃ v g',A47 33 [.a (vwC D.length n m f),.a (A7 k l s p d)] g=some (v,g') ∧ Out g.length g' v 1 (D7 D n k d).length (encI (A4h D n k d)):=by
    intro g hv
    have hIl:(A7 k l s p d).length=11:=by simp [A7,F6,hd]
    have l11:ldN (some (Row.mk (A7 k l s p d) true)) 0 11=some (.a (A7 k l s p d)):=P6 hIl
    have l4:=A2x (b:=D.length) (n:=n) (m:=m) (f:=f)
    have hbl:=A6j (D:=D) (n:=n) (k:=k) (d:=d)
    have hB:=A9X (n:=n) (m:=m) (k:=k) (l:=l) (s:=s) (p:=p) (h:=g ++ [some (Row.mk (vwC D.length n m f) true),some (Row.mk (A7 k l s p d) true),some (Row.mk [] true),some (Row.mk [] true)]) hD hd (hv.more _)
    unfold A4h
    generalize D7 D n k d=L at *
    obtain ⟨v',h',f1,f2⟩:=C0f (D:=D) (n:=n) (m:=m) (f:=f) (g:=g ++ [some (Row.mk (vwC D.length n m f) true)]) (p:=g.length) (q:=33) (sid:=g.length + 4) (L:=L) hD (hv.more _) (by simp) hbl L.length 0 33 (g.length + 3) (g ++ [some (Row.mk (vwC D.length n m f) true),some (Row.mk (A7 k l s p d) true),some (Row.mk [] true),some (Row.mk [] true),some (Row.mk (encI L) true)]) (by omega) (by omega)
      (by
        have:=(Low.refl (h:=g ++ [some (Row.mk (vwC D.length n m f) true)]) (Nat.le_refl _)).new [some (Row.mk (A7 k l s p d) true),some (Row.mk [] true),some (Row.mk [] true),some (Row.mk (encI L) true)]
        simpa using this) (by simp) (by omega) (by simp) (by simp [encI])
    rw [C6h]
    refine ⟨v',h',?_,f2.1,?_⟩
    · generalize vwC D.length n m f=V at *
      generalize A7 k l s p d=I at *
      simp only [esc,Nat.reduceAdd] at hB
      simp only [esc,V3,S1,l4,l11,hB,Nat.reduceAdd]
      exact f1
    · obtain ⟨id,e,hb,hr⟩:=f2.2
      exact ⟨id,e,by simp at hb;omega,hr⟩
  obtain ⟨v,g',e,ho⟩:=key (ro h) hv.ro
  exact C7C e (by simpa [Q5] using ho) (by simp)
end Go.Proofs.Ytdgggnlbdoiloaa
end
section
namespace Go.Proofs.Ytdgggnlbdoiloaa
open Go Go.Esc
theorem H01 {x:Cell} {a n:Nat} {cs:List Cell} {h:A0} (hv:Has h (.c x) 1 n cs) (hn:1 ≤ n) (han:a + n ≤ 256) :
    A3N [.a [.i .i64 a,x]] h=some (.c (.i .i64 0),h):=by
  have key:∀ g,Has g (.c x) 1 n cs → ∃ g',A5H 0 [.a [.i .i64 a,x]] g=some (.c (.i .i64 0),g'):=by
    intro g hv
    have c1:¬ (n:Int) < 1:=by omega
    have c2:¬ (256:Int) < n:=by omega
    have c3:¬ (a:Int) < 0:=by omega
    have e1:IntKind.wrap .i64 (256 - (n:Int))=256 - n:=wrap_i64 (by omega) (by omega)
    have c4:¬ (256:Int) - n < a:=by omega
    rw [C64]
    exact ⟨_,by simp only [esc,esh,Nat.reduceAdd,Nat.reduceMul,Nat.reduceLT,hv.len,c1,c2,c3,e1,c4] <;> rfl⟩
  obtain ⟨g',e⟩:=key (ro h) hv.ro
  exact C8U e rfl
theorem C3G {x:Cell} {n:Nat} {data l:List UInt8} {z:List Cell} {g:A0} (hv:Has g (.c x) 1 n (A3 data)) {a q:Nat} (han:a + n ≤ 256) (hl:l.length=256) (hz:z.length=256) (hn:data.length=n):∀ d i m,i + d=n → d < m →
    A77 q m (.c (.p g.length 0)) (.c (.p (g.length + 1) 0)) (.c (.p (g.length + 2) 0)) (.c x) (.c (.i .i64 n)) (.c (.i .i64 i)) (g ++ [some ⟨A3 (C7 l a (data.take i)),true⟩,some ⟨[.i .i64 a,x],true⟩,some ⟨z,true⟩]) =
      some (.a (A3 (C7 l a data)),g ++ [some ⟨A3 (C7 l a data),true⟩,some ⟨[.i .i64 a,x],true⟩,some ⟨A3 (C7 l a data),true⟩])
  | d,i,0,_,hm=>by omega
  | 0,i,m + 1,hi,hm=>by
    have e0:i=n:=by omega
    subst e0
    have c0:¬ (i:Int) < i:=by omega
    have hE:(A3 (C7 l a data)).length=256:=by rw [B6,Y6 (by omega),hl]
    rw [C3F,List.take_of_length_le (by omega)]
    simp only [esc,esh,Nat.reduceAdd,Nat.reduceMul,Nat.reduceLT,c0,hE,hz]
  | d + 1,i,m + 1,hi,hm=>by
    have ih:=C3G hv (z:=z) (q:=q) han hl hz hn d (i + 1) m (by omega) (by omega)
    obtain ⟨id,off,e,hid,h1,h2⟩:=(hv.more [some ⟨A3 (C7 l a (data.take i)),true⟩,some ⟨[.i .i64 a,x],true⟩,some ⟨z,true⟩]).sl (by omega)
    cases e
    have c0:(i:Int) < n:=by omega
    have hx:=h1 i (.i .u8 data[i].toNat) (by rw [A2i,List.getElem?_eq_getElem (by omega)];rfl)
    have eb:D1 1 (.c (.sl id off n 1)) (.c (.i .i64 (i:Int)))=some (.c (.p id (off + i))):=by rw [K0 (by omega)];simp
    have ea:D6 256 1 (.c (.p g.length 0)) (.c (.i .i64 ((a + i:Nat):Int)))=some (.c (.p g.length (a + i))):=by rw [R0 (by omega)];simp
    have hE:(A3 (C7 l a (data.take i))).length=256:=by rw [B6,Y6 (by simp;omega),hl]
    have ho:a + i < 256:=by omega
    have e5:(C7 l a (data.take i)).set (a + i) data[i]=C7 l a (data.take (i + 1)):=by
      have:=A7n (l:=l) (xs:=data.take i) (a:=a) (x:=data[i]) (by simp;omega)
      rw [List.length_take,Nat.min_eq_left (by omega)] at this
      rw [this,List.take_succ_eq_append_getElem (by omega)]
    have es:(A3 (C7 l a (data.take i))).set (a + i) (.i .u8 data[i].toNat)=A3 (C7 l a (data.take (i + 1))):=by rw [A0e,e5]
    rw [C3F]
    simp only [esc,esh,Nat.reduceAdd,Nat.reduceMul,Nat.reduceLT,c0,eb,hx,A0Y (show a + i < 9223372036854775808 by omega),ea,hE,ho,es,F4 (show i + 1 < 9223372036854775808 by omega)]
    exact ih
theorem H1O {x:Cell} {n a:Nat} {data l:List UInt8} {h:A0} (hv:Has h (.c x) 1 n (A3 data)) (hn:1 ≤ n) (han:a + n ≤ 256) (hl:l.length=256) :
    A3O [.a (A3 l),.a [.i .i64 a,x]] h=some (.a (A3 (C7 l a data)),h):=by
  have hd:data.length=n:=by simpa [B6] using hv.length
  have key:∀ N,n < N → ∀ g,Has g (.c x) 1 n (A3 data) → ∃ g',A5I N [.a (A3 l),.a [.i .i64 a,x]] g=some (.a (A3 (C7 l a data)),g'):=by
    intro N hN g hv
    have hz:(List.replicate 256 (Cell.i .u8 0)).length=256:=List.length_replicate
    have hE:(A3 l).length=256:=by rw [B6,hl]
    rw [C65]
    generalize List.replicate 256 (Cell.i .u8 0)=z at *
    have e:=C3G hv (l:=l) (z:=z) (q:=N) han hl hz hd n 0 N (by omega) (by omega)
    simp only [List.take_zero,A7m] at e
    have hc:=H01 (hv.more [some ⟨A3 l,true⟩,some ⟨[.i .i64 a,x],true⟩,some ⟨z,true⟩]) hn han
    exact ⟨_,by simp only [esc,esh,Nat.reduceAdd,Nat.reduceMul,Nat.reduceLT,hE,hz,hc,hv.len];exact e⟩
  obtain ⟨g',e⟩:=key (n + 1) (by omega) (ro h) hv.ro
  exact C8W e (by simp)
end Go.Proofs.Ytdgggnlbdoiloaa
end
section
namespace Go.Proofs.Ytdgggnlbdoiloaa
open Go Go.Esc
theorem C9H {a:Int} {x:Cell}:B0 [Cell.i .i64 0,.ns] [(0,1,.c (.i .i64 a)),(1,1,.c x)]=some [.i .i64 a,x]:=rfl
theorem C9G:B0 ([]:List Cell) []=some []:=rfl
theorem H6n {j:Nat} {k l s p:Int} {d:List Int} {h:A0} (hd:d.length=7) (h8:j < 8) (c:W4 k l s p d=true) :
    A3R [.c (.i .i64 j),.a (A7 k l s p d)] h=some (.t [.a [.i .i64 ((32 * j:Nat):Int),.sl h.length 0 32 1],.c (.i .i64 0)],h ++ [some ⟨A3 (I3 k l s p d),true⟩]):=by
  have key:∀ g,∃ g',A5N 0 [.c (.i .i64 j),.a (A7 k l s p d)] g=some (.t [.a [.i .i64 ((32 * j:Nat):Int),.sl (g.length + 4) 0 32 1],.c (.i .i64 0)],g') ∧ rd g' (g.length + 4)=some ⟨A3 (I3 k l s p d),true⟩:=by
    intro g
    have c1:¬ (j:Int) < 0:=by omega
    have c2:¬ (8:Int) ≤ j:=by omega
    have hP:=fun h=>B9z (k:=k) (l:=l) (s:=s) (p:=p) (h:=h) hd
    simp only [c,cond_true] at hP
    have hE:(encI d).length=7:=by rw [F6,hd]
    have hz:(List.replicate 32 (Cell.i .u8 0)).length=32:=List.length_replicate
    have hB:(A3 (I3 k l s p d)).length=32:=by rw [B6,A4b hd]
    have w1:IntKind.wrap .i64 ((j:Int) * 32)=((32 * j:Nat):Int):=by rw [wrap_i64 (by omega) (by omega)];omega
    have p1:=A16 (h:=g ++ [some ⟨A7 k l s p d,true⟩,some ⟨[.i .i64 0,.ns],true⟩,some ⟨A3 (I3 k l s p d),true⟩,some ⟨[],true⟩]) (id:=g.length + 3) (jd:=g.length + 2) (n:=0) (m:=32) (sz:=1) (cs:=[]) (ys:=A3 (I3 k l s p d)) (rw:=true) (by simp) (by simp) (by simp) (by rw [hB]) rfl (by omega) (by omega)
    generalize A3 (I3 k l s p d)=B at *
    simp only [esc] at p1
    rw [C7a]
    generalize List.replicate 32 (Cell.i .u8 0)=z at *
    exact ⟨_,by simp only [esc,esh,Nat.reduceAdd,Nat.reduceMul,Nat.reduceLT,c1,c2,hE,hP,hz,hB,w1,C9G,p1,C9H,Int.cast_ofNat_Int] <;> rfl,by simp⟩
  obtain ⟨g',e,hr⟩:=key (ro h)
  have hr':=hr
  rw [Q5] at hr'
  have hc1:I1 g' h.length [] [.i .i64 ((32 * j:Nat):Int),.sl ((ro h).length + 4) 0 32 1]=some ([.i .i64 ((32 * j:Nat):Int),.sl h.length 0 32 1],[h.length + 4]):=by
    rw [Q5]
    simp [I1,Cell.low,Cell.flat,B0o hr' (by simp:D8 (A3 (I3 k l s p d))=true)]
  have hc2:I1 g' h.length [h.length + 4] [.i .i64 0]=some ([.i .i64 0],[h.length + 4]):=A2d (by simp)
  have:=C85 e (v2:=.t [.a [.i .i64 ((32 * j:Nat):Int),.sl h.length 0 32 1],.c (.i .i64 0)]) (ids:=[h.length + 4]) (by
    simp only [J4,O0,hc1,hc2,Option.bind_some,Option.map_some])
  rw [this]
  simp [hr']
end Go.Proofs.Ytdgggnlbdoiloaa
end
section
namespace Go.Proofs.Ytdgggnlbdoiloaa
open Go Go.Esc
theorem H7E {j:Nat} {k l s p:Int} {d:List Int} {b:List UInt8} {h:A0} (hb:b.length=256) (hd:d.length=7) (h8:j < 8) (c:W4 k l s p d=true) :
    A2L [.a (A3 b),.c (.i .i64 j),.a (A7 k l s p d)] h=some (.t [.a (A3 (C7 b (32 * j) (I3 k l s p d))),.c (.i .i64 0)],h):=by
  have key:∀ g,∃ g',A5P 0 [.a (A3 b),.c (.i .i64 j),.a (A7 k l s p d)] g=some (.t [.a (A3 (C7 b (32 * j) (I3 k l s p d))),.c (.i .i64 0)],g'):=by
    intro g
    have hB:(A3 b).length=256:=by rw [B6,hb]
    have hE:(encI d).length=7:=by rw [F6,hd]
    have hI:(A3 (I3 k l s p d)).length=32:=by rw [B6,A4b hd]
    have hz:(List.replicate 256 (Cell.i .u8 0)).length=256:=List.length_replicate
    have hP:=fun h=>H6n (h:=h) hd h8 c
    rw [C7c]
    generalize List.replicate 256 (Cell.i .u8 0)=z at *
    have hL:=H1O (h:=g ++ [some (Row.mk (A3 b) true),some (Row.mk (A7 k l s p d) true),some (Row.mk z true),some (Row.mk (A3 (I3 k l s p d)) true),some (Row.mk [.i .i64 ((32 * j:Nat):Int),.sl (g.length + 3) 0 32 1] true)]) (x:=.sl (g.length + 3) 0 32 1) (n:=32) (a:=32 * j) (data:=I3 k l s p d) (l:=b) (Has.tr (by simp) (by rw [hI]) (R3 _)) (by omega) (by omega) hb
    have hR:(A3 (C7 b (32 * j) (I3 k l s p d))).length=256:=by rw [B6,Y6 (by rw [A4b hd];omega),hb]
    exact ⟨_,by simp only [esc,esh,Nat.reduceAdd,Nat.reduceMul,Nat.reduceLT,hB,hE,hz,hP,hL,hR] <;> rfl⟩
  obtain ⟨g',e⟩:=key (ro h)
  exact C88 e (by simp)
def H9 (b:List UInt8) (j:Nat):List UInt8:=(b.drop (32 * j)).take 32
theorem B0D {b:List UInt8} {j:Nat} (hb:b.length=256) (hj:j < 8):(H9 b j).length=32:=by unfold H9;simp;omega
theorem C3X {g:A0} {b:List UInt8} {z:List Cell} {j q:Nat} (hb:b.length=256) (hz:z.length=32) (hj:j < 8):∀ e i m:Nat,i + e=32 → e < m →
    A8p q m (.c (.i .i64 j)) (.c (.p g.length 0)) (.c (.p (g.length + 1) 0)) (.c (.p (g.length + 2) 0)) (.c (.i .i64 i)) (g ++ [some ⟨A3 b,true⟩,some ⟨z,true⟩,some ⟨A3 ((H9 b j).take i ++ zeros (32 - i)),true⟩]) =
      some (.a (A3 (H9 b j)),g ++ [some ⟨A3 b,true⟩,some ⟨A3 (H9 b j),true⟩,some ⟨A3 (H9 b j),true⟩])
  | e,i,0,_,hm=>by omega
  | 0,i,m + 1,hi,hm=>by
    have e0:i=32:=by omega
    subst e0
    have h1':¬ ((32:Nat):Int) < 32:=by omega
    have hR:=B0D hb hj
    have hl:(A3 (H9 b j)).length=32:=by rw [B6,hR]
    have e1:A3 ((H9 b j).take 32 ++ zeros (32 - 32))=A3 (H9 b j):=by rw [List.take_of_length_le (by omega)];simp [zeros]
    rw [C5g,e1]
    simp only [esc,esh,Nat.reduceAdd,Nat.reduceMul,Nat.reduceLT,h1',hl,hz]
  | e + 1,i,m + 1,hi,hm=>by
    have ih:=C3X (g:=g) (q:=q) hb hz hj e (i + 1) m (by omega) (by omega)
    have hR:=B0D hb hj
    have h1':(i:Int) < 32:=by omega
    have w1:IntKind.wrap .i64 ((j:Int) * 32)=((32 * j:Nat):Int):=by rw [wrap_i64 (by omega) (by omega)];omega
    have a1:D6 256 1 (.c (.p g.length 0)) (.c (.i .i64 ((32 * j + i:Nat):Int)))=some (.c (.p g.length (32 * j + i))):=by rw [R0 (by omega)];simp
    have a2:D6 32 1 (.c (.p (g.length + 2) 0)) (.c (.i .i64 (i:Int)))=some (.c (.p (g.length + 2) i)):=by rw [R0 (by omega)];simp
    have l1:(A3 b)[32 * j + i]? = some (.i .u8 (H9 b j)[i].toNat):=by
      rw [A2i,List.getElem?_eq_getElem (by omega)]
      have:(H9 b j)[i]=b[32 * j + i]'(by omega):=by simp [H9]
      rw [this];rfl
    have ho:i < (A3 ((H9 b j).take i ++ zeros (32 - i))).length:=by rw [B6,List.length_append,zeros_length,List.length_take];omega
    have es:(A3 ((H9 b j).take i ++ zeros (32 - i))).set i (.i .u8 (H9 b j)[i].toNat)=A3 ((H9 b j).take (i + 1) ++ zeros (32 - (i + 1))):=by
      rw [A0e]
      refine congrArg A3 ?_
      have h6:((H9 b j).take i).length=i:=by simp;omega
      rw [List.set_append_right _ _ (by omega),h6,Nat.sub_self,List.take_succ_eq_append_getElem (by omega),List.append_assoc]
      refine congrArg ((H9 b j).take i ++ ·) ?_
      rw [show 32 - i=32 - (i + 1) + 1 by omega]
      unfold zeros
      rw [List.replicate_succ,List.set_cons_zero];rfl
    rw [C5g]
    simp only [esc,esh,Nat.reduceAdd,Nat.reduceMul,Nat.reduceLT,h1',w1,A0Y (show 32 * j + i < 9223372036854775808 by omega),a1,a2,l1,ho,es,F4 (show i + 1 < 9223372036854775808 by omega)]
    exact ih
theorem H7e {b:List UInt8} {j:Nat} {h:A0} (hb:b.length=256) (hj:j < 8):A3S [.a (A3 b),.c (.i .i64 j)] h=some (.a (A3 (H9 b j)),h):=by
  have key:∀ N,32 < N → ∀ g,∃ g',A5O N [.a (A3 b),.c (.i .i64 j)] g=some (.a (A3 (H9 b j)),g'):=by
    intro N hN g
    have c1:¬ (j:Int) < 0:=by omega
    have c2:¬ (8:Int) ≤ j:=by omega
    have hz:(A3 (zeros 32)).length=32:=by rw [B6];exact zeros_length
    have e:=C3X (g:=g) (z:=A3 (zeros 32)) (q:=N) hb hz hj 32 0 N (by omega) (by omega)
    simp only [List.take_zero,List.nil_append,Nat.sub_zero] at e
    rw [C7b,K2]
    generalize zeros 32=zz at *
    exact ⟨_,by simp only [esc,esh,Nat.reduceAdd,Nat.reduceMul,Nat.reduceLT,c1,c2];exact e⟩
  obtain ⟨g',e⟩:=key (h.length + 33) (by omega) (ro h)
  exact C86 e (by simp)
end Go.Proofs.Ytdgggnlbdoiloaa
end
section
namespace Go.Proofs.Ytdgggnlbdoiloaa
open Go Go.Esc
theorem B0b:(A7 0 0 0 0 (zI 7)).length=11:=rfl
theorem A67:[Cell.i .i64 0,.i .i64 0,.i .i64 0,.i .i64 0,.i .i64 0,.i .i64 0,.i .i64 0,.i .i64 0,.i .i64 0,.i .i64 0,.i .i64 0]=A7 0 0 0 0 (zI 7):=rfl
theorem B1v:B0 (A7 0 0 0 0 (zI 7)) []=some (A7 0 0 0 0 (zI 7)):=rfl
theorem H5s {b:List UInt8} {j:Nat} {h:A0} (hb:b.length=256) (hj:j < 8):A3Q [.a (A3 b),.c (.i .i64 j)] h=some (.t [.a (U0 (H9 b j)),.c (.b (A0c (H9 b j)))],h):=by
  have key:∀ g,∃ g',A5M 0 [.a (A3 b),.c (.i .i64 j)] g=some (.t [.a (U0 (H9 b j)),.c (.b (A0c (H9 b j)))],g'):=by
    intro g
    have c1:¬ (j:Int) < 0:=by omega
    have c2:¬ (8:Int) ≤ j:=by omega
    have hB:(A3 b).length=256:=by rw [B6,hb]
    have hR:=fun h=>H7e (h:=h) hb hj
    have hC:=fun h=>F5h (b:=H9 b j) (h:=h) (B0D hb hj)
    have hl:=B0b
    have hcl:=B3W (b:=H9 b j)
    rw [C69,A67]
    generalize A7 0 0 0 0 (zI 7)=z at *
    exact ⟨_,by simp only [esc,esh,Nat.reduceAdd,Nat.reduceMul,Nat.reduceLT,c1,c2,hB,hR,hC,hl,hcl] <;> rfl⟩
  obtain ⟨g',e⟩:=key (ro h)
  exact C82 e (by simp [B6t])
end Go.Proofs.Ytdgggnlbdoiloaa
end
section
namespace Go.Proofs.Ytdgggnlbdoiloaa
open Go Go.Esc
def A0T (D:Dev) (n i:Int):List UInt8:=H9 (blk D (A2y D.length n i)) (A2z D.length n i).toNat
def A0O (D:Dev) (n i:Int):List Cell:=bif R2 D.length n i then U0 (A0T D n i) else A7 0 0 0 0 (zI 7)
def kdV (D:Dev) (n i:Int):Int:=bif R2 D.length n i then (bif A0c (A0T D n i) then Q9 (A0T D n i) else 0) else 0
theorem B8I (D:Dev) (n i:Int):∃ l s p d,A0O D n i=A7 (kdV D n i) l s p d ∧ d.length=7:=by
  unfold A0O kdV
  cases R2 D.length n i with
  | false=>exact ⟨0,0,0,zI 7,rfl,N6⟩
  | true =>
    unfold U0
    cases A0c (A0T D n i) with
    | false=>exact ⟨0,0,0,zI 7,rfl,N6⟩
    | true=>exact ⟨_,_,_,_,rfl,N3⟩
theorem E54 (D:Dev) (n i:Int):D8 (A0O D n i)=true:=by
  obtain ⟨l,s,p,d,e,hd⟩:=B8I D n i
  rw [e]
  exact E53 (l:=_ :: _ :: _ :: _ :: d)
theorem H7P {b n m i:Int} {f:Cell} {h:A0} (hi:R2 b n i=false):A04 [.a (vwC b n m f),.c (.i .i64 i)] h=some (.a (A7 0 0 0 0 (zI 7)),h):=by
  have key:∀ g,∃ g',A3g 0 [.a (vwC b n m f),.c (.i .i64 i)] g=some (.a (A7 0 0 0 0 (zI 7)),g'):=by
    intro g
    have l3:=A8s (b:=b) (n:=n) (m:=m) (f:=f)
    have hW:=fun h=>B7d (b:=b) (n:=n) (m:=m) (i:=i) (h:=h)
    simp only [hi] at hW
    have hf:=B1v
    have hl:=B0b
    rw [B0Z,A67]
    generalize vwC b n m f=V at *
    generalize A7 0 0 0 0 (zI 7)=z at *
    exact ⟨_,by simp only [esc,esh,Nat.reduceAdd,Nat.reduceMul,Nat.reduceLT,l3,hW,hf,hl] <;> rfl⟩
  obtain ⟨g',e⟩:=key (ro h)
  exact B1l e rfl
theorem C5A {n m i:Int} {f:Cell} {D:Dev} {h:A0} (hD:okD D) (hv:IsView h f D):A04 [.a (vwC D.length n m f),.c (.i .i64 i)] h=some (.a (A0O D n i),h):=by
  cases hi:R2 D.length n i with
  | false =>
    rw [H7P hi]
    unfold A0O
    rw [hi];rfl
  | true =>
    have key:∀ g,IsView g f D → ∃ g',A3g 0 [.a (vwC D.length n m f),.c (.i .i64 i)] g=some (.a (A0O D n i),g'):=by
      intro g hv
      have l3:=A8s (b:=D.length) (n:=n) (m:=m) (f:=f)
      have l4:=A2x (b:=D.length) (n:=n) (m:=m) (f:=f)
      have hW:=fun h=>B7d (b:=D.length) (n:=n) (m:=m) (i:=i) (h:=h)
      simp only [hi] at hW
      have hf:=B1v
      have hl:=B0b
      have hK:∃ j:Nat,A2z D.length n i=j ∧ j < 8:=by
        refine ⟨(A2z D.length n i).toNat,?_,?_⟩ <;> unfold A2z <;> rw [hi,cond_true] <;> omega
      obtain ⟨j,hj,hj8⟩:=hK
      have hB:=A4D (n:=n) (m:=m) (no:=A2y D.length n i) (h:=g ++ [some (Row.mk (vwC D.length n m f) true),some (Row.mk (A7 0 0 0 0 (zI 7)) true)]) hD (hv.more _)
      have hG:=fun h=>H5s (b:=blk D (A2y D.length n i)) (j:=j) (h:=h) (A2T hD) hj8
      have er:H9 (blk D (A2y D.length n i)) j=A0T D n i:=by unfold A0T;rw [hj,Int.toNat_natCast]
      simp only [er] at hG
      simp only [hj] at hW
      have hcl:=B3W (b:=A0T D n i)
      have ei:A0O D n i=U0 (A0T D n i):=by unfold A0O;rw [hi];rfl
      rw [B0Z,A67,ei]
      generalize vwC D.length n m f=V at *
      generalize A7 0 0 0 0 (zI 7)=z at *
      generalize U0 (A0T D n i)=y at *
      exact ⟨_,by simp only [esc,esh,Nat.reduceAdd,Nat.reduceMul,Nat.reduceLT,l3,l4,hW,hB,hG,hf,hl,hcl] <;> rfl⟩
    obtain ⟨g',e⟩:=key (ro h) hv.ro
    exact B1l e (E54 D n i)
end Go.Proofs.Ytdgggnlbdoiloaa
end
noncomputable section
namespace Go.Proofs.Ytdgggnlbdoiloaa
open Go Go.Esc
set_option maxRecDepth 100000
def B5Z:List AOper:=[aO 0 (.nilrow 256)]
def E4y:ACode:=.ops B5Z
def B50:List AOper:=[aO 4 (.mkSl 256 (List.replicate 256 (.i .u8 0)) (.v (.c (.i .i64 16))) (.v (.c (.i .i64 16)))),aO 1 (.mv (.t 4))]
def E4A:ACode:=.ops B50
def B53:List AOper:=[aO 6 (.mv (.t 1)),aO 7 (.build ([.i .i64 0,.i .i64 0,.i .u64 0]) [(0,1,(.v (.c (.i .i64 16)))),(1,1,(.v (.c (.i .i64 8))))]),aO 8 (.call 52 [(.t 7)]),aO 5 (.mv (.t 8)),aO 9 (.ext (.t 5) 0),aO 10 (.ext (.t 5) 1),aO 11 (.iAddrL 256 (.t 6) (.v (.c (.i .i64 0)))),{ dst:=none,op:=.storeN 256 (.t 11) (.t 9) }]
def E4W:ACode:=.ops B53
def B54:List AOper:=[aO 12 (.build ([.i .i64 0,.i .i64 0,.i .i64 0,.i .i64 0,.i .i64 0,.i .i64 0,.i .i64 0,.i .i64 0,.i .i64 0,.i .i64 0,.i .i64 0]) [(0,1,(.v (.c (.i .i64 2)))),(1,1,(.v (.c (.i .i64 1)))),(3,1,(.v (.c (.i .i64 1))))]),aO 2 (.alloc ([.i .i64 0,.i .i64 0,.i .i64 0,.i .i64 0,.i .i64 0,.i .i64 0,.i .i64 0,.i .i64 0,.i .i64 0,.i .i64 0,.i .i64 0])),{ dst:=none,op:=.storeN 11 (.t 2) (.t 12) }]
def E46:ACode:=.ops B54
def B55:List AOper:=[aO 13 (.fAddr (.t 2) 4),aO 14 (.iAddrA 6 1 (.t 13) (.v (.c (.i .i64 0)))),{ dst:=none,op:=.store1 (.t 14) (.v (.c (.i .i64 5))) }]
def E48:ACode:=.ops B55
def B56:List AOper:=[aO 16 (.mv (.t 1)),aO 17 (.mv (.t 1)),aO 18 (.iAddrL 256 (.t 17) (.v (.c (.i .i64 2)))),aO 19 (.loadN 256 (.t 18)),aO 20 (.loadN 11 (.t 2)),aO 21 (.call 108 [(.t 19),(.v (.c (.i .i64 0))),(.t 20)]),aO 15 (.mv (.t 21)),aO 22 (.ext (.t 15) 0),aO 23 (.ext (.t 15) 1),aO 24 (.iAddrL 256 (.t 16) (.v (.c (.i .i64 2))))]
def E5a:ACode:=.drawS 0 B56 { dst:=none,op:=.storeN 256 (.t 24) (.t 22) } [] []
def B57:List AOper:=[aO 25 (.build ([.i .i64 0] ++ List.replicate 32 (.i .i64 0)) [(0,1,(.v (.c (.i .i64 1))))]),aO 3 (.alloc ([.i .i64 0] ++ List.replicate 32 (.i .i64 0))),{ dst:=none,op:=.storeN 33 (.t 3) (.t 25) }]
def E5c:ACode:=.ops B57
def B58:List AOper:=[aO 26 (.fAddr (.t 3) 1),aO 27 (.iAddrA 32 1 (.t 26) (.v (.c (.i .i64 0)))),{ dst:=none,op:=.store1 (.t 27) (.v (.c (.i .i64 6))) },aO 28 (.fAddr (.t 3) 1),aO 29 (.iAddrA 32 1 (.t 28) (.v (.c (.i .i64 1)))),{ dst:=none,op:=.store1 (.t 29) (.v (.c (.i .i64 7))) }]
def E5e:ACode:=.ops B58
def B59:List AOper:=[aO 31 (.mv (.t 1)),aO 32 (.loadN 33 (.t 3)),aO 33 (.call 117 [(.t 32)]),aO 30 (.mv (.t 33)),aO 34 (.ext (.t 30) 0),aO 35 (.ext (.t 30) 1),aO 36 (.iAddrL 256 (.t 31) (.v (.c (.i .i64 5)))),{ dst:=none,op:=.storeN 256 (.t 36) (.t 34) }]
def E5g:ACode:=.ops B59
def B6a:List AOper:=[aO 38 (.mv (.t 1)),aO 39 (.build ([.s [],.i .i64 0]) [(0,1,(.v (.c (.s [97])))),(1,1,(.v (.c (.i .i64 2))))]),aO 40 (.build ([.s [],.i .i64 0]) [(0,1,(.v (.c (.s [98])))),(1,1,(.v (.c (.i .i64 3))))]),aO 41 (.buildSl 2 2 (([.s [],.i .i64 0]) ++ ([.s [],.i .i64 0])) [(0,2,(.t 39)),(2,2,(.t 40))]),aO 42 (.call 125 [(.t 41)]),aO 37 (.mv (.t 42)),aO 43 (.ext (.t 37) 0),aO 44 (.ext (.t 37) 1),aO 45 (.iAddrL 256 (.t 38) (.v (.c (.i .i64 6)))),{ dst:=none,op:=.storeN 256 (.t 45) (.t 43) }]
def E5i:ACode:=.ops B6a
def B51:List AOper:=[aO 47 (.mv (.t 1)),aO 48 (.build ([.s [],.i .i64 0]) [(0,1,(.v (.c (.s [98])))),(1,1,(.v (.c (.i .i64 4))))]),aO 49 (.buildSl 2 1 (([.s [],.i .i64 0])) [(0,2,(.t 48))]),aO 50 (.call 125 [(.t 49)]),aO 46 (.mv (.t 50)),aO 51 (.ext (.t 46) 0),aO 52 (.ext (.t 46) 1),aO 53 (.iAddrL 256 (.t 47) (.v (.c (.i .i64 7)))),{ dst:=none,op:=.storeN 256 (.t 53) (.t 51) }]
def E4B:ACode:=.ops B51
def B52:List AOper:=[aO 54 (.mv (.t 1)),aO 0 (.mv (.t 54))]
def E4D:ACode:=.ops B52
def E4F:ACode:=.seq [0] E4D .ret
def E4H:ACode:=.seq [1] E4B E4F
def E4J:ACode:=.seq [1] E5i E4H
def E4L:ACode:=.seq [1] E5g E4J
def E4N:ACode:=.seq [1,3] E5e E4L
def E4P:ACode:=.seq [1,3] E5c E4N
def E4R:ACode:=.seq [1] E5a E4P
def E4T:ACode:=.seq [1,2] E48 E4R
def E4X:ACode:=.seq [1,2] E46 E4T
def E4Z:ACode:=.seq [1] E4W E4X
def E41:ACode:=.seq [1] E4A E4Z
def E43:ACode:=.seq [] E4y E41
def A_el24_small:AFn:=⟨E43,[.tmp 0]⟩
def R5:B4:=A9 52 A1X (A9 108 A2L (A9 117 A1O (A9 125 A2J C2)))
def E4z (n:Nat):SmV:=A2 R5 B5Z
def E4V (n:Nat):SmV:=A2 R5 B50
def E45 (n:Nat):SmV:=A2 R5 B53
def E47 (n:Nat):SmV:=A2 R5 B54
def E49 (n:Nat):SmV:=A2 R5 B55
def E5b (n:Nat):SmV:=A4x R5 0 B56 { dst:=none,op:=.storeN 256 (.t 24) (.t 22) } [] []
def E5d (n:Nat):SmV:=A2 R5 B57
def E5f (n:Nat):SmV:=A2 R5 B58
def E5h (n:Nat):SmV:=A2 R5 B59
def E5j (n:Nat):SmV:=A2 R5 B6a
def E4C (n:Nat):SmV:=A2 R5 B51
def E4E (n:Nat):SmV:=A2 R5 B52
def E4G (n:Nat):SmV:=A1 [0] (E4E n) B5
def E4I (n:Nat):SmV:=A1 [1] (E4C n) (E4G n)
def E4K (n:Nat):SmV:=A1 [1] (E5j n) (E4I n)
def E4M (n:Nat):SmV:=A1 [1] (E5h n) (E4K n)
def E4O (n:Nat):SmV:=A1 [1,3] (E5f n) (E4M n)
def E4Q (n:Nat):SmV:=A1 [1,3] (E5d n) (E4O n)
def E4S (n:Nat):SmV:=A1 [1] (E5b n) (E4Q n)
def E4U (n:Nat):SmV:=A1 [1,2] (E49 n) (E4S n)
def E4Y (n:Nat):SmV:=A1 [1,2] (E47 n) (E4U n)
def E40 (n:Nat):SmV:=A1 [1] (E45 n) (E4Y n)
def E42 (n:Nat):SmV:=A1 [1] (E4V n) (E40 n)
def E44 (n:Nat):SmV:=A1 [] (E4z n) (E42 n)
def A5b (n:Nat) (args:List Val) (h:A0):A6:=(E44 n) A_el24_small.fin (params 0 args) h
theorem C6o (n:Nat) (h:A0):A5b n [] h=bnd (A0M (.c (.i .i64 16)) (.c (.i .i64 16))) fun n1=>bnd (B0 ([.i .i64 0,.i .i64 0,.i .u64 0]) [(0,1,.c (.i .i64 16)),(1,1,.c (.i .i64 8))]) fun c2=>bnd (A1X [(.a c2)] (((h ++ [some (Row.mk ([]) true)]) ++ [some (Row.mk (rows (List.replicate 256 (.i .u8 0)) n1) true)]))) fun p3=>bnd (C3 p3.1 0) fun v4=>bnd (C3 p3.1 1) fun v5=>bnd (D1 256 ((.c (.sl ((h ++ [some (Row.mk ([]) true)])).length 0 n1 256))) (.c (.i .i64 0))) fun v6=>bnd (B1 p3.2 256 v6 v4) fun h7=>bnd (B0 ([.i .i64 0,.i .i64 0,.i .i64 0,.i .i64 0,.i .i64 0,.i .i64 0,.i .i64 0,.i .i64 0,.i .i64 0,.i .i64 0,.i .i64 0]) [(0,1,.c (.i .i64 2)),(1,1,.c (.i .i64 1)),(3,1,.c (.i .i64 1))]) fun c8=>bnd (B1 ((h7 ++ [some (Row.mk ([.i .i64 0,.i .i64 0,.i .i64 0,.i .i64 0,.i .i64 0,.i .i64 0,.i .i64 0,.i .i64 0,.i .i64 0,.i .i64 0,.i .i64 0]) true)])) 11 ((.c (.p h7.length 0))) ((.a c8))) fun h9=>bnd (B7 ((.c (.p h7.length 0))) 4) fun v10=>bnd (D6 6 1 v10 (.c (.i .i64 0))) fun v11=>bnd (E8 h9 v11 (.c (.i .i64 5))) fun h12=>bnd (D1 256 ((.c (.sl ((h ++ [some (Row.mk ([]) true)])).length 0 n1 256))) (.c (.i .i64 2))) fun v13=>bnd (A5 h12 256 v13) fun v14=>bnd (A5 h12 11 ((.c (.p h7.length 0)))) fun v15=>bnd (quiet ((h12 ++ [])) (A2L [v14,.c (.i .i64 0),v15] ((h12 ++ [])))) fun p16=>bnd (C3 p16.1 0) fun v17=>bnd (C3 p16.1 1) fun v18=>bnd (D1 256 ((.c (.sl ((h ++ [some (Row.mk ([]) true)])).length 0 n1 256))) (.c (.i .i64 2))) fun v19=>bnd (B1 p16.2 256 v19 v17) fun h20=>bnd (B0 ([.i .i64 0] ++ List.replicate 32 (.i .i64 0)) [(0,1,.c (.i .i64 1))]) fun c21=>bnd (B1 ((h20 ++ [some (Row.mk ([.i .i64 0] ++ List.replicate 32 (.i .i64 0)) true)])) 33 ((.c (.p h20.length 0))) ((.a c21))) fun h22=>bnd (B7 ((.c (.p h20.length 0))) 1) fun v23=>bnd (D6 32 1 v23 (.c (.i .i64 0))) fun v24=>bnd (E8 h22 v24 (.c (.i .i64 6))) fun h25=>bnd (B7 ((.c (.p h20.length 0))) 1) fun v26=>bnd (D6 32 1 v26 (.c (.i .i64 1))) fun v27=>bnd (E8 h25 v27 (.c (.i .i64 7))) fun h28=>bnd (A5 h28 33 ((.c (.p h20.length 0)))) fun v29=>bnd (A1O [v29] h28) fun p30=>bnd (C3 p30.1 0) fun v31=>bnd (C3 p30.1 1) fun v32=>bnd (D1 256 ((.c (.sl ((h ++ [some (Row.mk ([]) true)])).length 0 n1 256))) (.c (.i .i64 5))) fun v33=>bnd (B1 p30.2 256 v33 v31) fun h34=>bnd (B0 ([.s [],.i .i64 0]) [(0,1,.c (.s [97])),(1,1,.c (.i .i64 2))]) fun c35=>bnd (B0 ([.s [],.i .i64 0]) [(0,1,.c (.s [98])),(1,1,.c (.i .i64 3))]) fun c36=>bnd (B0 (([.s [],.i .i64 0]) ++ ([.s [],.i .i64 0])) [(0,2,(.a c35)),(2,2,(.a c36))]) fun c37=>bnd (A2J [(.c (.sl h34.length 0 2 2))] ((h34 ++ [some (Row.mk (c37) true)]))) fun p38=>bnd (C3 p38.1 0) fun v39=>bnd (C3 p38.1 1) fun v40=>bnd (D1 256 ((.c (.sl ((h ++ [some (Row.mk ([]) true)])).length 0 n1 256))) (.c (.i .i64 6))) fun v41=>bnd (B1 p38.2 256 v41 v39) fun h42=>bnd (B0 ([.s [],.i .i64 0]) [(0,1,.c (.s [98])),(1,1,.c (.i .i64 4))]) fun c43=>bnd (B0 (([.s [],.i .i64 0])) [(0,2,(.a c43))]) fun c44=>bnd (A2J [(.c (.sl h42.length 0 1 2))] ((h42 ++ [some (Row.mk (c44) true)]))) fun p45=>bnd (C3 p45.1 0) fun v46=>bnd (C3 p45.1 1) fun v47=>bnd (D1 256 ((.c (.sl ((h ++ [some (Row.mk ([]) true)])).length 0 n1 256))) (.c (.i .i64 7))) fun v48=>bnd (B1 p45.2 256 v48 v46) fun h49=>some (((.c (.sl ((h ++ [some (Row.mk ([]) true)])).length 0 n1 256))),h49):=by kernel_rfl
theorem K_el24_small:FnK Try.prog 86 A_el24_small R5 A5b:=.mk' (B3 B1j (B3 C89 (B3 B1b (B3 C7m C5)))) Try.func86 (by kernel_rfl) (by intro n args h;kernel_rfl)
def A3t:Fun:=tidy (Lim A_el24_small R5)
theorem C7R:SOk Try.prog 86 A3t:=K_el24_small.sok
theorem C7S {n:Nat} {args:List Val} {h h2:A0} {v:Val} {sz k:Nat} {cs:List Cell} (he:A5b n args (ro h)=some (v,h2)) (ho:Out h.length h2 v sz k cs) (hf:D8 cs=true):A3t args h=some (.c (.sl h.length 0 k sz),h ++ [some ⟨cs,true⟩]):=K_el24_small.out he ho hf
def B6b:List AOper:=[aO 0 (.mv (.v (.c (.b false))))]
def E5k:ACode:=.ops B6b
def B6c:List AOper:=[aO 9 (.call 86 []),aO 10 (.call 15 [(.t 9)]),aO 8 (.mv (.t 10)),aO 11 (.ext (.t 8) 0),aO 12 (.ext (.t 8) 1),aO 1 (.alloc ([.i .i64 0,.i .i64 0,.i .u64 0,.nf])),{ dst:=none,op:=.storeN 4 (.t 1) (.t 11) },aO 2 (.mv (.t 12))]
def E5m:ACode:=.ops B6c
def B6d:List AOper:=[aO 13 (.loadN 4 (.t 1)),aO 14 (.call 17 [(.t 13),(.v (.c (.i .i64 1)))]),aO 3 (.alloc ([.i .i64 0,.i .i64 0,.i .i64 0,.i .i64 0,.i .i64 0,.i .i64 0,.i .i64 0,.i .i64 0,.i .i64 0,.i .i64 0,.i .i64 0])),{ dst:=none,op:=.storeN 11 (.t 3) (.t 14) }]
def E5w:ACode:=.ops B6d
def B6e:List AOper:=[aO 16 (.loadN 4 (.t 1)),aO 17 (.loadN 11 (.t 3)),aO 18 (.call 49 [(.t 16),(.t 17),(.v (.c (.s [98])))]),aO 15 (.mv (.t 18)),aO 19 (.ext (.t 15) 0),aO 20 (.ext (.t 15) 1),aO 4 (.alloc ([.i .i64 0,.i .i64 0,.i .i64 0])),{ dst:=none,op:=.storeN 3 (.t 4) (.t 19) },aO 5 (.mv (.t 20))]
def E5y:ACode:=.ops B6e
def B6f:List AOper:=[aO 21 (.loadN 4 (.t 1)),aO 22 (.loadN 11 (.t 3)),aO 23 (.call 48 [(.t 21),(.t 22)]),aO 6 (.mv (.t 23))]
def E5A:ACode:=.ops B6f
def B6g:List AOper:=[aO 24 (.loadN 4 (.t 1)),aO 25 (.loadN 11 (.t 3)),aO 26 (.call 51 [(.t 24),(.t 25)]),aO 7 (.mv (.t 26))]
def E5C:ACode:=.ops B6g
def B6h:List AOper:=[aO 27 (.mv (.t 2)),aO 28 (.bin .eql (.t 27) (.v (.c (.i .i64 0)))),aO 29 (.mv (.t 28)),{ dst:=some 30,op:=.mv (.t 5),guard:=some (29,true) },aO 31 (.pick (.t 29) (.t 30) (.v (.c (.b false)))),aO 32 (.mv (.t 31)),{ dst:=some 33,op:=.loadN 3 (.t 4),guard:=some (32,true) },{ dst:=some 34,op:=.build ([.i .i64 0,.i .i64 0,.i .i64 0]) [(0,1,(.v (.c (.i .i64 7)))),(1,1,(.v (.c (.i .i64 0)))),(2,1,(.v (.c (.i .i64 4))))],guard:=some (32,true) },{ dst:=some 35,op:=.eqA false ([.i .i64,.i .i64,.i .i64]) (.t 33) (.t 34),guard:=some (32,true) },aO 36 (.pick (.t 32) (.t 35) (.v (.c (.b false)))),aO 37 (.mv (.t 36)),{ dst:=some 38,op:=.mv (.t 6),guard:=some (37,true) },{ dst:=some 39,op:=.len (.t 38),guard:=some (37,true) },{ dst:=some 40,op:=.bin .eql (.t 39) (.v (.c (.i .i64 2))),guard:=some (37,true) },aO 41 (.pick (.t 37) (.t 40) (.v (.c (.b false)))),aO 42 (.mv (.t 41)),{ dst:=some 43,op:=.mv (.t 6),guard:=some (42,true) },{ dst:=some 44,op:=.iAddrL 2 (.t 43) (.v (.c (.i .i64 0))),guard:=some (42,true) },{ dst:=some 45,op:=.fAddr (.t 44) 1,guard:=some (42,true) },{ dst:=some 46,op:=.load1 (.t 45),guard:=some (42,true) },{ dst:=some 47,op:=.bin .eql (.t 46) (.v (.c (.i .i64 2))),guard:=some (42,true) },aO 48 (.pick (.t 42) (.t 47) (.v (.c (.b false)))),aO 49 (.mv (.t 48)),{ dst:=some 50,op:=.mv (.t 7),guard:=some (49,true) },{ dst:=some 51,op:=.len (.t 50),guard:=some (49,true) },{ dst:=some 52,op:=.bin .eql (.t 51) (.v (.c (.i .i64 1))),guard:=some (49,true) },aO 53 (.pick (.t 49) (.t 52) (.v (.c (.b false)))),aO 54 (.mv (.t 53)),{ dst:=some 55,op:=.mv (.t 7),guard:=some (54,true) },{ dst:=some 56,op:=.iAddrL 3 (.t 55) (.v (.c (.i .i64 0))),guard:=some (54,true) },{ dst:=some 57,op:=.fAddr (.t 56) 0,guard:=some (54,true) },{ dst:=some 58,op:=.load1 (.t 57),guard:=some (54,true) },{ dst:=some 59,op:=.bin .eql (.t 58) (.v (.c (.i .i64 6))),guard:=some (54,true) },aO 60 (.pick (.t 54) (.t 59) (.v (.c (.b false)))),aO 61 (.mv (.t 60)),{ dst:=some 62,op:=.loadN 4 (.t 1),guard:=some (61,true) },{ dst:=some 63,op:=.build ([.i .i64 0,.i .i64 0,.i .i64 0,.i .i64 0,.i .i64 0,.i .i64 0,.i .i64 0,.i .i64 0,.i .i64 0,.i .i64 0,.i .i64 0]) [(0,1,(.v (.c (.i .i64 2))))],guard:=some (61,true) },{ dst:=some 64,op:=.call 87 [(.t 62),(.t 63)],guard:=some (61,true) },aO 65 (.pick (.t 61) (.t 64) (.v (.c (.b false)))),aO 0 (.mv (.t 65))]
def E5E:ACode:=.ops B6h
def E5G:ACode:=.seq [0] E5E .ret
def E5I:ACode:=.seq [1,2,4,5,6,7] E5C E5G
def E5K:ACode:=.seq [1,2,3,4,5,6] E5A E5I
def E5n:ACode:=.seq [1,2,3,4,5] E5y E5K
def E5p:ACode:=.seq [1,2,3] E5w E5n
def E5r:ACode:=.seq [1,2] E5m E5p
def E5t:ACode:=.seq [] E5k E5r
def A_el24_works:AFn:=⟨E5t,[.tmp 0]⟩
def A0t:B4:=A9 86 A3t (A9 15 Z7 (A9 17 A04 (A9 49 V2 (A9 48 A0z (A9 51 A0A (A9 87 A3l C2))))))
def E5l (n:Nat):SmV:=A2 A0t B6b
def E5v (n:Nat):SmV:=A2 A0t B6c
def E5x (n:Nat):SmV:=A2 A0t B6d
def E5z (n:Nat):SmV:=A2 A0t B6e
def E5B (n:Nat):SmV:=A2 A0t B6f
def E5D (n:Nat):SmV:=A2 A0t B6g
def E5F (n:Nat):SmV:=A2 A0t B6h
def E5H (n:Nat):SmV:=A1 [0] (E5F n) B5
def E5J (n:Nat):SmV:=A1 [1,2,4,5,6,7] (E5D n) (E5H n)
def E5L (n:Nat):SmV:=A1 [1,2,3,4,5,6] (E5B n) (E5J n)
def E5o (n:Nat):SmV:=A1 [1,2,3,4,5] (E5z n) (E5L n)
def E5q (n:Nat):SmV:=A1 [1,2,3] (E5x n) (E5o n)
def E5s (n:Nat):SmV:=A1 [1,2] (E5v n) (E5q n)
def E5u (n:Nat):SmV:=A1 [] (E5l n) (E5s n)
def A5c (n:Nat) (args:List Val) (h:A0):A6:=(E5u n) A_el24_works.fin (params 0 args) h
theorem C6p (n:Nat) (h:A0):A5c n [] h=bnd (A3t [] h) fun p1=>bnd (Z7 [p1.1] p1.2) fun p2=>bnd (C3 p2.1 0) fun v3=>bnd (C3 p2.1 1) fun v4=>bnd (B1 ((p2.2 ++ [some (Row.mk ([.i .i64 0,.i .i64 0,.i .u64 0,.nf]) true)])) 4 ((.c (.p p2.2.length 0))) v3) fun h5=>bnd (A5 h5 4 ((.c (.p p2.2.length 0)))) fun v6=>bnd (A04 [v6,.c (.i .i64 1)] h5) fun p7=>bnd (B1 ((p7.2 ++ [some (Row.mk ([.i .i64 0,.i .i64 0,.i .i64 0,.i .i64 0,.i .i64 0,.i .i64 0,.i .i64 0,.i .i64 0,.i .i64 0,.i .i64 0,.i .i64 0]) true)])) 11 ((.c (.p p7.2.length 0))) p7.1) fun h8=>bnd (A5 h8 4 ((.c (.p p2.2.length 0)))) fun v9=>bnd (A5 h8 11 ((.c (.p p7.2.length 0)))) fun v10=>bnd (V2 [v9,v10,.c (.s [98])] h8) fun p11=>bnd (C3 p11.1 0) fun v12=>bnd (C3 p11.1 1) fun v13=>bnd (B1 ((p11.2 ++ [some (Row.mk ([.i .i64 0,.i .i64 0,.i .i64 0]) true)])) 3 ((.c (.p p11.2.length 0))) v12) fun h14=>bnd (A5 h14 4 ((.c (.p p2.2.length 0)))) fun v15=>bnd (A5 h14 11 ((.c (.p p7.2.length 0)))) fun v16=>bnd (A0z [v15,v16] h14) fun p17=>bnd (A5 p17.2 4 ((.c (.p p2.2.length 0)))) fun v18=>bnd (A5 p17.2 11 ((.c (.p p7.2.length 0)))) fun v19=>bnd (A0A [v18,v19] p17.2) fun p20=>bnd (A4 .eql v4 (.c (.i .i64 0))) fun v21=>bnd (gd v21 true (some (v13,p20.2)) (some (.no,p20.2))) fun p22=>bnd (D4 v21 p22.1 (.c (.b false))) fun v23=>bnd (gd v23 true (bnd (A5 p22.2 3 ((.c (.p p11.2.length 0)))) fun v24=>some (v24,p22.2)) (some (.no,p22.2))) fun p25=>bnd (gd v23 true (bnd (B0 ([.i .i64 0,.i .i64 0,.i .i64 0]) [(0,1,.c (.i .i64 7)),(1,1,.c (.i .i64 0)),(2,1,.c (.i .i64 4))]) fun c26=>some ((.a c26),p25.2)) (some (.no,p25.2))) fun p27=>bnd (gd v23 true (bnd (aeq false ([.i .i64,.i .i64,.i .i64]) p25.1 p27.1) fun v28=>some (v28,p27.2)) (some (.no,p27.2))) fun p29=>bnd (D4 v23 p29.1 (.c (.b false))) fun v30=>bnd (gd v30 true (some (p17.1,p29.2)) (some (.no,p29.2))) fun p31=>bnd (gd v30 true (bnd (F5 p31.1) fun v32=>some (v32,p31.2)) (some (.no,p31.2))) fun p33=>bnd (gd v30 true (bnd (A4 .eql p33.1 (.c (.i .i64 2))) fun v34=>some (v34,p33.2)) (some (.no,p33.2))) fun p35=>bnd (D4 v30 p35.1 (.c (.b false))) fun v36=>bnd (gd v36 true (some (p17.1,p35.2)) (some (.no,p35.2))) fun p37=>bnd (gd v36 true (bnd (D1 2 p37.1 (.c (.i .i64 0))) fun v38=>some (v38,p37.2)) (some (.no,p37.2))) fun p39=>bnd (gd v36 true (bnd (B7 p39.1 1) fun v40=>some (v40,p39.2)) (some (.no,p39.2))) fun p41=>bnd (gd v36 true (bnd (A8 p41.2 p41.1) fun v42=>some (v42,p41.2)) (some (.no,p41.2))) fun p43=>bnd (gd v36 true (bnd (A4 .eql p43.1 (.c (.i .i64 2))) fun v44=>some (v44,p43.2)) (some (.no,p43.2))) fun p45=>bnd (D4 v36 p45.1 (.c (.b false))) fun v46=>bnd (gd v46 true (some (p20.1,p45.2)) (some (.no,p45.2))) fun p47=>bnd (gd v46 true (bnd (F5 p47.1) fun v48=>some (v48,p47.2)) (some (.no,p47.2))) fun p49=>bnd (gd v46 true (bnd (A4 .eql p49.1 (.c (.i .i64 1))) fun v50=>some (v50,p49.2)) (some (.no,p49.2))) fun p51=>bnd (D4 v46 p51.1 (.c (.b false))) fun v52=>bnd (gd v52 true (some (p20.1,p51.2)) (some (.no,p51.2))) fun p53=>bnd (gd v52 true (bnd (D1 3 p53.1 (.c (.i .i64 0))) fun v54=>some (v54,p53.2)) (some (.no,p53.2))) fun p55=>bnd (gd v52 true (bnd (B7 p55.1 0) fun v56=>some (v56,p55.2)) (some (.no,p55.2))) fun p57=>bnd (gd v52 true (bnd (A8 p57.2 p57.1) fun v58=>some (v58,p57.2)) (some (.no,p57.2))) fun p59=>bnd (gd v52 true (bnd (A4 .eql p59.1 (.c (.i .i64 6))) fun v60=>some (v60,p59.2)) (some (.no,p59.2))) fun p61=>bnd (D4 v52 p61.1 (.c (.b false))) fun v62=>bnd (gd v62 true (bnd (A5 p61.2 4 ((.c (.p p2.2.length 0)))) fun v63=>some (v63,p61.2)) (some (.no,p61.2))) fun p64=>bnd (gd v62 true (bnd (B0 ([.i .i64 0,.i .i64 0,.i .i64 0,.i .i64 0,.i .i64 0,.i .i64 0,.i .i64 0,.i .i64 0,.i .i64 0,.i .i64 0,.i .i64 0]) [(0,1,.c (.i .i64 2))]) fun c65=>some ((.a c65),p64.2)) (some (.no,p64.2))) fun p66=>bnd (gd v62 true (bnd (A3l [p64.1,p66.1] p66.2) fun p67=>some (p67.1,p67.2)) (some (.no,p66.2))) fun p68=>bnd (D4 v62 p68.1 (.c (.b false))) fun v69=>some (v69,p68.2):=by kernel_rfl
theorem K_el24_works:FnK Try.prog 47 A_el24_works A0t A5c:=.mk' (B3 C7R (B3 B1k (B3 B1m (B3 A5U (B3 A8V (B3 B08 (B3 C7y C5))))))) Try.func47 (by kernel_rfl) (by intro n args h;kernel_rfl)
def A1L:Fun:=tidy (Lim A_el24_works A0t)
theorem C7U:SOk Try.prog 47 A1L:=K_el24_works.sok
theorem C7T {n:Nat} {args:List Val} {h h2:A0} {v:Val} (he:A5c n args (ro h)=some (v,h2)) (hf:v.flat=true):A1L args h=some (v,h):=K_el24_works.flat he hf
end Go.Proofs.Ytdgggnlbdoiloaa
end
section
namespace Go.Proofs.Ytdgggnlbdoiloaa
open Go Go.Esc
def d24:List Int:=[5,0,0,0,0,0,0]
def ino24:List UInt8:=C7 (zeros 256) (32 * 0) (I3 2 1 0 1 d24)
def idx24:List UInt8:=O7 1 (6 :: 7 :: zI 30)
def A57:List UInt8:=U2 [([97],2),([98],3)]
def A58:List UInt8:=U2 [([98],4)]
def D24a:Dev:=(List.replicate 16 (zeros 256)).set 0 (Z1 16 8 0)
def D24b:Dev:=D24a.set 2 ino24
def D24c:Dev:=D24b.set 5 idx24
def D24d:Dev:=D24c.set 6 A57
def D24:Dev:=D24d.set 7 A58
theorem B8G:ino24.length=256:=by decide +kernel
theorem B7q:idx24.length=256:=A96 rfl
theorem okD24a:okD D24a:=(C3o 16).set A4A
theorem okD24b:okD D24b:=okD24a.set B8G
theorem okD24c:okD D24c:=okD24b.set B7q
theorem okD24d:okD D24d:=okD24c.set A7K
theorem A1s:okD D24:=okD24d.set A7K
theorem A7p:D24a.length=16:=by unfold D24a;rw [List.length_set,List.length_replicate]
theorem B99:D24b.length=16:=by unfold D24b;rw [List.length_set,A7p]
theorem C0a:D24c.length=16:=by unfold D24c;rw [List.length_set,B99]
theorem C0b:D24d.length=16:=by unfold D24d;rw [List.length_set,C0a]
theorem B98:D24.length=16:=by unfold D24;rw [List.length_set,C0b]
theorem D6i:A1c D24=true:=by decide +kernel
theorem D6k:A6r D24=8:=by decide +kernel
theorem D6j:A6q D24=0:=by decide +kernel
theorem F3E:A0O D24 8 1=A7 2 1 0 1 d24:=by decide +kernel
theorem F8X:I4 D24 8 2 d24 [98]=some (7,0,4):=by decide +kernel
theorem F8U:L9 D24 8 2 d24=[([97],2),([98],4)]:=by decide +kernel
theorem H3c:M1 D24 8 2 d24 (E5 D24 8 2 d24)=[(6,1,3)]:=by decide +kernel
theorem E5M:L9 D24 8 2 (zI 7)=[]:=by decide +kernel
theorem A4y {g:A0} {D D':Dev} {i q:Nat} {b:List UInt8} {l:List (Option Row)} (hD:okD D) (hb:b.length=256) (hi:i < D.length) (hq:q=i * 256) (he:D.set i b=D') :
    B1 (g ++ some (Row.mk (C9 D) true) :: l) 256 (.c (.p g.length q)) (.a (A3 b))=some (g ++ some (Row.mk (C9 D') true) :: l):=by
  subst hq;subst he
  have s1:=H27 (D:=D) (i:=i) hD hb hi
  rw [T9]
  simp only [List.getElem?_cons_zero,Option.join_some,s1,C0I,List.set_cons_zero]
set_option maxHeartbeats 2000000 in
theorem H22 (h:A0):A3t [] h=some (.c (.sl h.length 0 16 256),h ++ [some ⟨C9 D24,true⟩]):=by
  have key:∀ g,∃ v g',A5b 0 [] g=some (v,g') ∧ Out g.length g' v 256 16 (C9 D24):=by
    intro g
    obtain ⟨G,hG⟩:∃ G,G=g ++ [some (Row.mk [] true)]:=⟨_,rfl⟩
    have lG:G.length=g.length + 1:=by rw [hG];simp
    have mk:A0M (.c (.i .i64 16)) (.c (.i .i64 16))=some 16:=rfl
    have ef1:B0 [Cell.i .i64 0,.i .i64 0,.i .u64 0] [(0,1,.c (.i .i64 16)),(1,1,.c (.i .i64 8))]=some (E9 16 8 0):=rfl
    have hp:=fun h=>C4Q (b:=16) (n:=8) (m:=0) (h:=h) (by omega) (by omega)
    have hm:H7 16 8=true:=by decide
    simp only [hm,cond_true] at hp
    have a0:D1 256 (.c (.sl G.length 0 16 256)) (.c (.i .i64 0))=some (.c (.p G.length 0)):=rfl
    have a2:D1 256 (.c (.sl G.length 0 16 256)) (.c (.i .i64 2))=some (.c (.p G.length 512)):=rfl
    have a5:D1 256 (.c (.sl G.length 0 16 256)) (.c (.i .i64 5))=some (.c (.p G.length 1280)):=rfl
    have a6:D1 256 (.c (.sl G.length 0 16 256)) (.c (.i .i64 6))=some (.c (.p G.length 1536)):=rfl
    have a7:D1 256 (.c (.sl G.length 0 16 256)) (.c (.i .i64 7))=some (.c (.p G.length 1792)):=rfl
    have s0:=A4y (g:=G) (D:=List.replicate 16 (zeros 256)) (i:=0) (q:=0) (l:=[]) (C3o 16) (A4A (b:=16) (n:=8) (m:=0)) (by simp) rfl (show _=D24a from rfl)
    have ef2:B0 [Cell.i .i64 0,.i .i64 0,.i .i64 0,.i .i64 0,.i .i64 0,.i .i64 0,.i .i64 0,.i .i64 0,.i .i64 0,.i .i64 0,.i .i64 0] [(0,1,.c (.i .i64 2)),(1,1,.c (.i .i64 1)),(3,1,.c (.i .i64 1))]=some (A7 2 1 0 1 (zI 7)):=rfl
    have r2:B1 (G ++ [some (Row.mk (C9 D24a) true),some (Row.mk [Cell.i .i64 0,.i .i64 0,.i .i64 0,.i .i64 0,.i .i64 0,.i .i64 0,.i .i64 0,.i .i64 0,.i .i64 0,.i .i64 0,.i .i64 0] true)]) 11 (.c (.p (G.length + 1) 0)) (.a (A7 2 1 0 1 (zI 7)))=some (G ++ [some (Row.mk (C9 D24a) true),some (Row.mk (A7 2 1 0 1 (zI 7)) true)]):=by rw [A2a];rfl
    have fa4:∀ q,B7 (.c (.p q 0)) 4=some (.c (.p q 4)):=fun q=>by simp [B7]
    have ad:∀ q,D6 6 1 (.c (.p q 4)) (.c (.i .i64 0))=some (.c (.p q 4)):=fun q=>rfl
    have r3:E8 (G ++ [some (Row.mk (C9 D24a) true),some (Row.mk (A7 2 1 0 1 (zI 7)) true)]) (.c (.p (G.length + 1) 4)) (.c (.i .i64 5))=some (G ++ [some (Row.mk (C9 D24a) true),some (Row.mk (A7 2 1 0 1 d24) true)]):=by rw [A2S];rfl
    have l2:A5 (G ++ [some (Row.mk (C9 D24a) true),some (Row.mk (A7 2 1 0 1 d24) true)]) 256 (.c (.p G.length 512))=some (.a (A3 (zeros 256))):=by
      rw [S1]
      have hi:2 < D24a.length:=by rw [A7p];omega
      have hc:=A2e okD24a hi
      have e2:D24a[2]=zeros 256:=rfl
      simp only [List.getElem?_cons_zero,Option.join_some,ldN,Option.bind_some]
      rw [if_pos ⟨by rw [V8 okD24a,A7p];omega,by simp⟩,← e2,← hc]
    have l11:A5 (G ++ [some (Row.mk (C9 D24a) true),some (Row.mk (A7 2 1 0 1 d24) true)]) 11 (.c (.p (G.length + 1) 0))=some (.a (A7 2 1 0 1 d24)):=by rw [V3];rfl
    have hT:∀ h,A2L [.a (A3 (zeros 256)),.c (.i .i64 0),.a (A7 2 1 0 1 d24)] h=some (.t [.a (A3 ino24),.c (.i .i64 0)],h):=fun h=>H7E (j:=0) (k:=2) (l:=1) (s:=0) (p:=1) (d:=d24) (b:=zeros 256) (h:=h) zeros_length rfl (by omega) (by decide)
    have s2:=A4y (g:=G) (D:=D24a) (i:=2) (q:=512) (l:=[some (Row.mk (A7 2 1 0 1 d24) true)]) okD24a B8G (by rw [A7p];omega) rfl (show _=D24b from rfl)
    have ez:[Cell.i .i64 0] ++ List.replicate 32 (Cell.i .i64 0)=encI (0 :: zI 32):=A2A
    have ef3:B0 (encI (0 :: zI 32)) [(0,1,.c (.i .i64 1))]=some (encI (1 :: zI 32)):=rfl
    have r4:B1 (G ++ [some (Row.mk (C9 D24b) true),some (Row.mk (A7 2 1 0 1 d24) true),some (Row.mk (encI (0 :: zI 32)) true)]) 33 (.c (.p (G.length + 2) 0)) (.a (encI (1 :: zI 32)))=some (G ++ [some (Row.mk (C9 D24b) true),some (Row.mk (A7 2 1 0 1 d24) true),some (Row.mk (encI (1 :: zI 32)) true)]):=by rw [A2a];rfl
    have fa1:∀ q,B7 (.c (.p q 0)) 1=some (.c (.p q 1)):=fun q=>by simp [B7]
    have ad0:∀ q,D6 32 1 (.c (.p q 1)) (.c (.i .i64 0))=some (.c (.p q 1)):=fun q=>rfl
    have ad1:∀ q,D6 32 1 (.c (.p q 1)) (.c (.i .i64 1))=some (.c (.p q 2)):=fun q=>rfl
    have r5:E8 (G ++ [some (Row.mk (C9 D24b) true),some (Row.mk (A7 2 1 0 1 d24) true),some (Row.mk (encI (1 :: zI 32)) true)]) (.c (.p (G.length + 2) 1)) (.c (.i .i64 6))=some (G ++ [some (Row.mk (C9 D24b) true),some (Row.mk (A7 2 1 0 1 d24) true),some (Row.mk (encI (1 :: 6 :: zI 31)) true)]):=by rw [A2S];rfl
    have r6:E8 (G ++ [some (Row.mk (C9 D24b) true),some (Row.mk (A7 2 1 0 1 d24) true),some (Row.mk (encI (1 :: 6 :: zI 31)) true)]) (.c (.p (G.length + 2) 2)) (.c (.i .i64 7))=some (G ++ [some (Row.mk (C9 D24b) true),some (Row.mk (A7 2 1 0 1 d24) true),some (Row.mk (encI (1 :: 6 :: 7 :: zI 30)) true)]):=by rw [A2S];rfl
    have l33:A5 (G ++ [some (Row.mk (C9 D24b) true),some (Row.mk (A7 2 1 0 1 d24) true),some (Row.mk (encI (1 :: 6 :: 7 :: zI 30)) true)]) 33 (.c (.p (G.length + 2) 0))=some (.a (encI (1 :: 6 :: 7 :: zI 30))):=by rw [V3];rfl
    have hX:=fun h=>B77 (d:=1) (t:=6 :: 7 :: zI 30) (h:=h) rfl
    have hok:okX 1 (6 :: 7 :: zI 30)=true:=by decide +kernel
    rw [hok,cond_true,cond_true] at hX
    have eX:O7 1 (6 :: 7 :: zI 30)=idx24:=rfl
    rw [eX] at hX
    have s5:=A4y (g:=G) (D:=D24b) (i:=5) (q:=1280) (l:=[some (Row.mk (A7 2 1 0 1 d24) true),some (Row.mk (encI (1 :: 6 :: 7 :: zI 30)) true)]) okD24b B7q (by rw [B99];omega) rfl (show _=D24c from rfl)
    have ef4:B0 [Cell.s [],.i .i64 0] [(0,1,.c (.s [97])),(1,1,.c (.i .i64 2))]=some [.s [97],.i .i64 2]:=rfl
    have ef5:B0 [Cell.s [],.i .i64 0] [(0,1,.c (.s [98])),(1,1,.c (.i .i64 3))]=some [.s [98],.i .i64 3]:=rfl
    have ef6:B0 [Cell.s [],.i .i64 0,.s [],.i .i64 0] [(0,2,.a [.s [97],.i .i64 2]),(2,2,.a [.s [98],.i .i64 3])]=some (E1 [([97],2),([98],3)]):=rfl
    have ef7:B0 [Cell.s [],.i .i64 0] [(0,1,.c (.s [98])),(1,1,.c (.i .i64 4))]=some [.s [98],.i .i64 4]:=rfl
    have ef8:B0 [Cell.s [],.i .i64 0] [(0,2,.a [.s [98],.i .i64 4])]=some (E1 [([98],4)]):=rfl
    have hN1:=B2u (h:=G ++ [some (Row.mk (C9 D24c) true),some (Row.mk (A7 2 1 0 1 d24) true),some (Row.mk (encI (1 :: 6 :: 7 :: zI 30)) true),some (Row.mk (E1 [([97],2),([98],3)]) true)]) (v:=.c (.sl (G.length + 3) 0 2 2)) (nv:=2) (l:=[([97],2),([98],3)]) (Has.tr (by simp) rfl rfl) (by simp)
    have eN1:U2 [([97],2),([98],3)]=A57:=rfl
    rw [eN1] at hN1
    have s6:=A4y (g:=G) (D:=D24c) (i:=6) (q:=1536) (l:=[some (Row.mk (A7 2 1 0 1 d24) true),some (Row.mk (encI (1 :: 6 :: 7 :: zI 30)) true),some (Row.mk (E1 [([97],2),([98],3)]) true)]) okD24c (b:=A57) A7K (by rw [C0a];omega) rfl (show D24c.set 6 A57=D24d from rfl)
    have hN2:=B2u (h:=G ++ [some (Row.mk (C9 D24d) true),some (Row.mk (A7 2 1 0 1 d24) true),some (Row.mk (encI (1 :: 6 :: 7 :: zI 30)) true),some (Row.mk (E1 [([97],2),([98],3)]) true),some (Row.mk (E1 [([98],4)]) true)]) (v:=.c (.sl (G.length + 4) 0 1 2)) (nv:=1) (l:=[([98],4)]) (Has.tr (by simp) rfl rfl) (by simp)
    have eN2:U2 [([98],4)]=A58:=rfl
    rw [eN2] at hN2
    have s7:=A4y (g:=G) (D:=D24d) (i:=7) (q:=1792) (l:=[some (Row.mk (A7 2 1 0 1 d24) true),some (Row.mk (encI (1 :: 6 :: 7 :: zI 30)) true),some (Row.mk (E1 [([97],2),([98],3)]) true),some (Row.mk (E1 [([98],4)]) true)]) okD24d (b:=A58) A7K (by rw [C0b];omega) rfl (show D24d.set 7 A58=D24 from rfl)
    rw [C6o]
    simp only [H14,ez]
    refine ⟨.c (.sl G.length 0 16 256),G ++ [some (Row.mk (C9 D24) true),some (Row.mk (A7 2 1 0 1 d24) true),some (Row.mk (encI (1 :: 6 :: 7 :: zI 30)) true),some (Row.mk (E1 [([97],2),([98],3)]) true),some (Row.mk (E1 [([98],4)]) true)],?_,by rw [V8 A1s,B98],G.length,rfl,by omega,by simp⟩
    generalize C9 D24=q1 at *
    generalize C9 D24a=q2 at *
    generalize C9 D24b=q3 at *
    generalize C9 D24c=q4 at *
    generalize C9 D24d=q5 at *
    generalize encI (0 :: zI 32)=x0 at *
    generalize encI (1 :: zI 32)=x1 at *
    generalize encI (1 :: 6 :: zI 31)=x2 at *
    generalize encI (1 :: 6 :: 7 :: zI 30)=x3 at *
    generalize A7 2 1 0 1 (zI 7)=i0 at *
    generalize A7 2 1 0 1 d24=i1 at *
    generalize E1 [([97],2),([98],3)]=e1 at *
    generalize E1 [([98],4)]=e2 at *
    generalize A3 (zeros 256)=z at *
    simp only [I0,A0K,List.getElem?_cons_zero,List.getElem?_cons_succ,Option.map_some,A0Q,A0P,mk,ef1,hp,← hG,a0,s0,ef2,List.append_assoc,List.cons_append,List.nil_append,List.append_nil,List.length_append,List.length_cons,List.length_nil,Nat.zero_add,Nat.reduceAdd,r2,fa4,ad,r3,a2,l2,l11,hT,C3W,s2,ef3,r4,fa1,ad0,r5,ad1,r6,l33,hX,a5,s5,ef4,ef5,ef6,hN1,a6,s6,ef7,ef8,hN2,a7,s7]
  obtain ⟨v,g',e,ho⟩:=key (ro h)
  exact C7S e (by simpa [Q5] using ho) (A9V)
set_option maxHeartbeats 2000000 in
theorem A8t (h:A0):A1L [] h=some (.c (.b true),h):=by
  have key:∀ g,∃ g',A5c 0 [] g=some (.c (.b true),g'):=by
    intro g
    have l16:=B98
    have hS:=H22 g
    obtain ⟨f,t,hO,hv⟩:=C5L (v:=.c (.sl g.length 0 16 256)) (h:=g ++ [some (Row.mk (C9 D24) true)]) (D:=D24) (by rw [l16];exact Has.tr (by simp) (by rw [V8 A1s,l16]) (A4p _)) A1s D6i (by rw [l16];omega)
    rw [D6k,D6j] at hO
    obtain ⟨H,hH⟩:∃ H,H=g ++ [some (Row.mk (C9 D24) true)] ++ t:=⟨_,rfl⟩
    rw [← hH] at hO hv
    obtain ⟨V,hV⟩:∃ V,V=vwC D24.length 8 0 f:=⟨_,rfl⟩
    have hVl:V.length=4:=by rw [hV];rfl
    have hS4:B1 (H ++ [some (Row.mk [.i .i64 0,.i .i64 0,.i .u64 0,.nf] true)]) 4 (.c (.p H.length 0)) (.a V)=some (H ++ [some (Row.mk V true)]):=by rw [hV,T9];rfl
    have hI:=C5A (n:=8) (m:=0) (i:=1) (h:=H ++ [some (Row.mk V true)]) A1s (hv.more _)
    rw [F3E,← hV] at hI
    obtain ⟨I,hIe⟩:∃ I,I=A7 2 1 0 1 d24:=⟨_,rfl⟩
    have hIl:I.length=11:=by rw [hIe];rfl
    have hL:=A33 (n:=8) (m:=0) (k:=2) (l:=1) (s:=0) (p:=1) (d:=d24) (nm:=[98]) (h:=H ++ [some (Row.mk V true),some (Row.mk I true)]) A1s rfl (hv.more _) (by decide)
    rw [F8X,← hV,← hIe] at hL
    have hLi:=A9F (n:=8) (m:=0) (k:=2) (l:=1) (s:=0) (p:=1) (d:=d24) (h:=H ++ [some (Row.mk V true),some (Row.mk I true),some (Row.mk (D9 (some (7,0,4))) true)]) A1s rfl (hv.more _)
    rw [F8U,← hV,← hIe] at hLi
    have hSt:=B4Q (n:=8) (m:=0) (k:=2) (l:=1) (s:=0) (p:=1) (d:=d24) (h:=H ++ [some (Row.mk V true),some (Row.mk I true),some (Row.mk (D9 (some (7,0,4))) true),some (Row.mk (E1 [([97],2),([98],4)]) true)]) A1s rfl (hv.more _)
    rw [H3c,← hV,← hIe] at hSt
    obtain ⟨v,t3,b1,b2,b3⟩:=hSt
    obtain ⟨rfl,rfl⟩:t3=[some ⟨Q4 [(6,1,3)],true⟩] ∧ v=.c (.sl (H ++ [some (Row.mk V true),some (Row.mk I true),some (Row.mk (D9 (some (7,0,4))) true),some (Row.mk (E1 [([97],2),([98],4)]) true)]).length 0 1 3):=by
      rcases b3 with ⟨_,_,h0,_⟩ | b3
      · cases h0
      · exact b3
    have hE:=D6x (n:=8) (m:=0) (k:=2) (l:=0) (s:=0) (p:=0) (d:=zI 7) (h:=H ++ [some (Row.mk V true),some (Row.mk I true),some (Row.mk (D9 (some (7,0,4))) true),some (Row.mk (E1 [([97],2),([98],4)]) true),some (Row.mk (Q4 [(6,1,3)]) true)]) A1s rfl (hv.more _)
    rw [E5M,← hV] at hE
    have ez:A7 0 0 0 0 (zI 7)=[Cell.i .i64 0,.i .i64 0,.i .i64 0,.i .i64 0,.i .i64 0,.i .i64 0,.i .i64 0,.i .i64 0,.i .i64 0,.i .i64 0,.i .i64 0]:=rfl
    have lz:[Cell.i .i64 0,.i .i64 0,.i .i64 0,.i .i64 0,.i .i64 0,.i .i64 0,.i .i64 0,.i .i64 0,.i .i64 0,.i .i64 0,.i .i64 0].length=11:=rfl
    have ef1:B0 [Cell.i .i64 0,.i .i64 0,.i .i64 0] [(0,1,.c (.i .i64 7)),(1,1,.c (.i .i64 0)),(2,1,.c (.i .i64 4))]=some (D9 (some (7,0,4))):=rfl
    have ef2:B0 [Cell.i .i64 0,.i .i64 0,.i .i64 0,.i .i64 0,.i .i64 0,.i .i64 0,.i .i64 0,.i .i64 0,.i .i64 0,.i .i64 0,.i .i64 0] [(0,1,.c (.i .i64 2))]=some (A7 2 0 0 0 (zI 7)):=rfl
    have ea:=A78 (neg:=false) (7,0,4) (7,0,4)
    rw [decide_eq_true rfl,cond_false] at ea
    have pl:(D9 (some (7,0,4))).length=3:=rfl
    have z3:[Cell.i .i64 0,.i .i64 0,.i .i64 0].length=3:=rfl
    have ad2:∀ q,D1 2 (.c (.sl q 0 2 2)) (.c (.i .i64 0))=some (.c (.p q 0)):=fun q=>rfl
    have ad3:∀ q,D1 3 (.c (.sl q 0 1 3)) (.c (.i .i64 0))=some (.c (.p q 0)):=fun q=>rfl
    have g1:ld1 (some (Row.mk (E1 [([97],2),([98],4)]) true)) 1=some (.c (.i .i64 2)):=rfl
    have g2:ld1 (some (Row.mk (Q4 [(6,1,3)]) true)) 0=some (.c (.i .i64 6)):=rfl
    have e21:[(([97]:List UInt8),(2:Int)),([98],4)].length=2:=rfl
    have e11:[((6:Int),(1:Nat),(3:Int))].length=1:=rfl
    have c2:((2:Nat):Int)=2:=rfl
    have c1:((1:Nat):Int)=1:=rfl
    rw [← hV] at hO
    rw [C6p]
    generalize A7 2 0 0 0 (zI 7)=I2 at *
    generalize D9 (some (7,0,4))=pc at *
    generalize E1 [([97],2),([98],4)]=en at *
    generalize Q4 [(6,1,3)]=ps at *
    rw [← hIe] at hI
    refine ⟨H ++ [some (Row.mk V true),some (Row.mk I true),some (Row.mk pc true),some (Row.mk en true),some (Row.mk ps true)],?_⟩
    simp only [e21,e11,List.length_append,List.length_cons,List.length_nil,Nat.zero_add,Nat.reduceAdd,List.append_assoc,List.cons_append,List.nil_append] at hLi b1
    simp only [esc,Nat.reduceAdd,V3,S1,A51,A05,A2a,T9,P6,A8i,eq_self,hS,hO,hS4,hVl,hI,hIl,lz,hL,z3,pl,hLi,b1,Option.isSome_some,ef1,ea,e21,c2,ad2,g1,c1,ad3,g2,ef2,hE,beq_self_eq_true]
  obtain ⟨g',e⟩:=key (ro h)
  exact C7T e rfl
end Go.Proofs.Ytdgggnlbdoiloaa
end
section
namespace Go.Proofs.Ytdgggnlbdoiloaa
open Go Go.Esc
theorem A9U {t:List Int} {i:Nat}:A0f t i=true ↔ ∀ k,k < i → toX t k ≠ toX t i:=by
  unfold A0f
  simp only [List.all_eq_true,List.mem_range,Bool.not_eq_true',decide_eq_false_iff_not]
end Go.Proofs.Ytdgggnlbdoiloaa
end
section
namespace Go.Proofs.Ytdgggnlbdoiloaa
open Go Go.Esc
theorem A7w {t:List Int} {x:Int} (hx:x ≠ 0):∀ k,x ∈ G0 t k ↔ ∃ j,j < k ∧ toX t j=x
  | 0=>by simp [G0]
  | k + 1=>by
    rw [A6a,List.mem_append,A7w hx k]
    constructor
    · rintro (⟨j,h1,h2⟩ | h)
      · exact ⟨j,by omega,h2⟩
      · split at h
        · simp at h;exact ⟨k,by omega,h.symm⟩
        · cases h
    · rintro ⟨j,h1,h2⟩
      by_cases c:∃ j,j < k ∧ toX t j=x
      · exact .inl c
      · right
        have:j=k:=by
          by_cases e:j=k
          · exact e
          · exact absurd ⟨j,by omega,h2⟩ c
        subst this
        have hb:V6 t j=true:=by
          unfold V6
          rw [Bool.and_eq_true]
          refine ⟨by rw [h2];simp [hx],?_⟩
          rw [A9U]
          intro k hk he
          exact c ⟨k,hk,he.trans h2⟩
        rw [if_pos hb,h2];simp
theorem E84 {t:List Int} {i:Nat} (h:toX t i ≠ 0):decide (toX t i ∈ G0 t i) = !A0f t i:=by
  cases c:A0f t i with
  | true =>
    rw [Bool.not_true,decide_eq_false]
    rw [A7w h]
    rintro ⟨j,h1,h2⟩
    exact A9U.1 c j h1 h2
  | false =>
    rw [Bool.not_false,decide_eq_true]
    rw [A7w h]
    false_or_by_contra
    rename_i hn
    have:A0f t i=true:=A9U.2 fun k hk he=>hn ⟨k,hk,he⟩
    rw [c] at this;cases this
end Go.Proofs.Ytdgggnlbdoiloaa
end
section
namespace Go.Proofs.Ytdgggnlbdoiloaa
open Go Go.Esc
def RS (b:Nat):List Nat:=[b + 3,b + 4,b + 5,b,b + 1,b + 6,b + 7]
def fO (b:Nat):Cell:=.f 59 [(b + 4,0),(b + 1,0),(b,0),(b + 3,0)]
structure OwnP (g h:A0) (V I:List Cell) (told:Bool) (ls:List Int):Prop where
  var:VarI h (g.length + 3) ls g.length (RS g.length)
  low:Low g.length g h
  len:g.length + 8 ≤ h.length
  t:rd h (g.length + 4)=some ⟨[.b told],true⟩
  f:rd h (g.length + 5)=some ⟨[fO g.length],true⟩
  v:rd h g.length=some ⟨V,true⟩
  i:rd h (g.length + 1)=some ⟨I,true⟩
  v2:rd h (g.length + 6)=some ⟨V,true⟩
  i2:rd h (g.length + 7)=some ⟨I,true⟩
theorem OwnP.push {g h:A0} {V I:List Cell} {told:Bool} {ls:List Int} (P:OwnP g h V I told ls) (hl:ls.length ≤ 1000) (n:Int) :
    ∃ x v h2 h3,A8 h (.c (.p (g.length + 3) 0))=some (.c x) ∧ F9 (h ++ [some ⟨[.i .i64 n],true⟩]) 1 (.c x) (.c (.sl h.length 0 1 1))=some (.c v,h2) ∧ E8 h2 (.c (.p (g.length + 3) 0)) (.c v)=some h3 ∧ OwnP g h3 V I told (ls ++ [n]):=by
  have hlen:=P.len
  have hm:∀ j ∈ RS g.length,j < h.length:=by intro j hj;simp only [RS,List.mem_cons,List.not_mem_nil,or_false] at hj;omega
  obtain ⟨x,v,h2,h3,a1,a2,a3,a4,a5,a6,a7⟩:=P.var.push (by simp [RS]) (by omega) (by omega) hm (by omega) n
  exact ⟨x,v,h2,h3,a1,a2,a3,a4,P.low.trans a5,by omega,by rw [a6 _ (by simp [RS]) (by omega)];exact P.t,by rw [a6 _ (by simp [RS]) (by omega)];exact P.f,by rw [a6 _ (by simp [RS]) (by omega)];exact P.v,by rw [a6 _ (by simp [RS]) (by omega)];exact P.i,by rw [a6 _ (by simp [RS]) (by omega)];exact P.v2,by rw [a6 _ (by simp [RS]) (by omega)];exact P.i2⟩
end Go.Proofs.Ytdgggnlbdoiloaa
end
noncomputable section
namespace Go.Proofs.Ytdgggnlbdoiloaa
open Go Go.Esc
set_option maxRecDepth 100000
def B5m:List AOper:=[aO 2 (.nilrow 256)]
def E1V:ACode:=.ops B5m
def B5n:List AOper:=[aO 3 (.nilrow 256)]
def E1X:ACode:=.ops B5n
def B5o:List AOper:=[aO 4 (.mv (.v (.c (.i .i64 0))))]
def E2f:ACode:=.ops B5o
def B5p:List AOper:=[aO 5 (.mv (.t 4)),aO 6 (.mv (.t 0)),aO 7 (.len (.t 6)),aO 8 (.bin .lss (.t 5) (.t 7))]
def E2h:ACode:=.ops B5p
def E2j:ACode:=.cond (.t 8) .skip (.exit 0)
def E2l:ACode:=.seq [0,3,4,8] E2h E2j
def B5q:List AOper:=[aO 11 (.mv (.t 3)),aO 12 (.mv (.t 0)),aO 13 (.mv (.t 4)),aO 14 (.iAddrL 256 (.t 12) (.t 13)),aO 15 (.loadN 256 (.t 14)),aO 16 (.buildSl 256 1 (List.replicate 256 (.i .u8 0)) [(0,256,(.t 15))]),aO 17 (.app 256 (.t 11) (.t 16)),aO 3 (.mv (.t 17))]
def E2n:ACode:=.ops B5q
def E2p:ACode:=.block 1 E2n
def B5r:List AOper:=[aO 9 (.mv (.t 4)),aO 10 (.bin .add (.t 9) (.v (.c (.i .i64 1)))),aO 4 (.mv (.t 10))]
def E2r:ACode:=.ops B5r
def E2t:ACode:=.seq [0,3,4] E2p E2r
def E1Y:ACode:=.seq [0,3,4] E2l E2t
def E1Z:ACode:=.loop [0,3,4] E1Y
def E11:ACode:=.block 0 E1Z
def E13:ACode:=.seq [0,3,4] E2f E11
def B5s:List AOper:=[aO 18 (.mv (.t 3)),aO 2 (.mv (.t 18))]
def E15:ACode:=.ops B5s
def E17:ACode:=.seq [2] E15 .ret
def E18:ACode:=.seq [3] E13 E17
def E2a:ACode:=.seq [0,3] E1X E18
def E2c:ACode:=.seq [0] E1V E2a
def A_el21_To:AFn:=⟨E2c,[.tmp 2]⟩
def A0s:B4:=C2
def E1W (n:Nat):SmV:=A2 A0s B5m
def E2e (n:Nat):SmV:=A2 A0s B5n
def E2g (n:Nat):SmV:=A2 A0s B5o
def E2i (n:Nat):SmV:=A2 A0s B5p
def E2k (n:Nat):SmV:=B8 (.t 8) B9 (F0 0)
def E2m (n:Nat):SmV:=A1 [0,3,4,8] (E2i n) (E2k n)
def E2o (n:Nat):SmV:=A2 A0s B5q
def E2q (n:Nat):SmV:=C4 1 (E2o n)
def E2s (n:Nat):SmV:=A2 A0s B5r
def E2u (n:Nat):SmV:=A1 [0,3,4] (E2q n) (E2s n)
def B5j (n:Nat):SmV:=A1 [0,3,4] (E2m n) (E2u n)
def E10 (n:Nat):SmV:=F2 n [0,3,4] (B5j n)
def E12 (n:Nat):SmV:=C4 0 (E10 n)
def E14 (n:Nat):SmV:=A1 [0,3,4] (E2g n) (E12 n)
def E16 (n:Nat):SmV:=A2 A0s B5s
def B5k (n:Nat):SmV:=A1 [2] (E16 n) B5
def E19 (n:Nat):SmV:=A1 [3] (E14 n) (B5k n)
def E2b (n:Nat):SmV:=A1 [0,3] (E2e n) (E19 n)
def E2d (n:Nat):SmV:=A1 [0] (E1W n) (E2b n)
def A6G (n:Nat):AExit → Env → A0 → A6:=fun x e h=>match x with | .normal=>hold ((B5k n) A_el21_To.fin (e.keep [3]) h) | .exit id=>A_el21_To.fin (.exit id) e h | .ret=>A_el21_To.fin .ret e h
def E2v (n:Nat):AExit → Env → A0 → A6:=fun x e h=>match x with | .exit i=>bif Nat.beq i 0 then (A6G n) .normal e h else (A6G n) (.exit i) e h | .normal=>(A6G n) .normal e h | .ret=>(A6G n) .ret e h
def A6H (n m:Nat) (x0 x3 x4:Val) (h:A0):A6:=E2 (B5j n) [0,3,4] (E2v n) m [(0,x0),(3,x3),(4,x4)] h
def A5a (n:Nat) (args:List Val) (h:A0):A6:=(E2d n) A_el21_To.fin (params 0 args) h
theorem C6n (n:Nat) (a0:Val) (h:A0):A5a n [a0] h=A6H n n a0 ((.c (.sl ((h ++ [some (Row.mk ([]) true)])).length 0 0 256))) (.c (.i .i64 0)) (((h ++ [some (Row.mk ([]) true)]) ++ [some (Row.mk ([]) true)])):=by kernel_rfl
theorem B5l (n m:Nat) (x0 x3 x4:Val) (h:A0):A6H n (m + 1) x0 x3 x4 h=bnd (F5 x0) fun v1=>bnd (A4 .lss x4 v1) fun v2=>cnd v2 (bnd (D1 256 x0 x4) fun v3=>bnd (A5 h 256 v3) fun v4=>bnd (B0 (List.replicate 256 (.i .u8 0)) [(0,256,v4)]) fun c5=>bnd (F9 ((h ++ [some (Row.mk (c5) true)])) 256 x3 ((.c (.sl h.length 0 1 256)))) fun p6=>bnd (A4 .add x4 (.c (.i .i64 1))) fun v7=>A6H n m x0 p6.1 v7 p6.2) (some (x3,h)):=by kernel_rfl
theorem K_el21_To:FnK Try.prog 16 A_el21_To A0s A5a:=.mk' (C5) Try.func16 (by kernel_rfl) (by intro n args h;kernel_rfl)
def A3s:Fun:=tidy (Lim A_el21_To A0s)
theorem C7N:SOk Try.prog 16 A3s:=K_el21_To.sok
theorem C7O {n:Nat} {args:List Val} {h h2:A0} {v:Val} {sz k:Nat} {cs:List Cell} (he:A5a n args (ro h)=some (v,h2)) (ho:Out h.length h2 v sz k cs) (hf:D8 cs=true):A3s args h=some (.c (.sl h.length 0 k sz),h ++ [some ⟨cs,true⟩]):=K_el21_To.out he ho hf
end Go.Proofs.Ytdgggnlbdoiloaa
end
section
namespace Go.Proofs.Ytdgggnlbdoiloaa
open Go Go.Esc
theorem E80 {h:A0} {v:Val} {D:Dev} (hv:Has h v 256 D.length (C9 D)) (hD:okD D) {i:Nat} (hi:i < D.length) :
    ∃ id off,v=.c (.sl id off D.length 256) ∧ id < h.length ∧ D1 256 v (.c (.i .i64 (i:Int)))=some (.c (.p id (off + i * 256))) ∧ A5 h 256 (.c (.p id (off + i * 256)))=some (.a (A3 D[i])):=by
  obtain ⟨id,off,rfl,hid,_,h2⟩:=hv.sl (by omega)
  refine ⟨id,off,rfl,hid,K0 hi,?_⟩
  rw [h2 (i * 256) 256 (by rw [V8 hD];omega),A2e hD hi]
theorem C9F {b:List UInt8} (hb:b.length=256):B0 (List.replicate 256 (Cell.i .u8 0)) [(0,256,.a (A3 b))]=some (A3 b):=by
  have hl:(A3 b).length=256:=by rw [B6,hb]
  have hz:(List.replicate 256 (Cell.i .u8 0)).length=256:=List.length_replicate
  generalize List.replicate 256 (Cell.i .u8 0)=z at *
  generalize A3 b=y at *
  simp only [B0,V7,Option.bind_some]
  rw [if_pos ⟨hl,by omega⟩]
  simp only [lay_all (by omega:y.length=z.length)]
theorem C5x {g:A0} {D:Dev} {v:Val} {q:Nat} (hv:Has g v 256 D.length (C9 D)) (hD:okD D) (h60:D.length ≤ 1073741823):∀ (e i m id:Nat) (h:A0),i + e=D.length → e < m → Low g.length g h → g.length ≤ id → rd h id=some ⟨C9 (D.take i),true⟩ →
    ∃ v' h',A6H q m v (.c (.sl id 0 i 256)) (.c (.i .i64 (i:Int))) h=some (v',h') ∧ Out g.length h' v' 256 D.length (C9 D)
  | e,i,0,id,h,_,hm,_,_,_=>by omega
  | 0,i,m + 1,id,h,hi,hm,hlow,hid,hr=>by
    have e0:i=D.length:=by omega
    have c0:¬ (i:Int) < (D.length:Nat):=by omega
    have hl:=(hv.since hlow).len
    rw [e0,List.take_length] at hr
    rw [B5l]
    exact ⟨_,_,by simp only [esc,hl,c0] <;> rfl,V8 hD,id,by rw [e0],hid,hr⟩
  | e + 1,i,m + 1,id,h,hi,hm,hlow,hid,hr=>by
    have hil:i < D.length:=by omega
    have c0:(i:Int) < (D.length:Nat):=by omega
    have hvh:=hv.since hlow
    have hl:=hvh.len
    obtain ⟨jd,off,e1,hj,a1,l1⟩:=E80 hvh hD hil
    have ef:=C9F (hD.at hil)
    have htl:(D.take i).length=i:=by rw [List.length_take];omega
    obtain ⟨h',p1,p2,p3,p4,p5⟩:=push (ys:=A3 D[i]) hlow hr (by rw [V8 (hD.take i),htl]) hid (by rw [B6,hD.at hil]) (by omega) (by omega)
    have et:C9 (D.take i) ++ A3 D[i]=C9 (D.take (i + 1)):=by
      rw [List.take_succ_eq_append_getElem hil,D54,D55]
    rw [et] at p2
    obtain ⟨v',h'',f1,f2⟩:=C5x (q:=q) hv hD h60 e (i + 1) m (h.length + 1) h' (by omega) (by omega) p3 p4 p2
    refine ⟨v',h'',?_,f2⟩
    rw [B5l]
    generalize A3 D[i]=y at *
    simp only [esc,hl,c0,a1,l1,ef,p1,F4 (show i + 1 < 9223372036854775808 by omega)]
    exact f1
theorem H7L {v:Val} {D:Dev} {h:A0} (hv:Has h v 256 D.length (C9 D)) (hD:okD D) (h60:D.length ≤ 1073741823):A3s [v] h=some (.c (.sl h.length 0 D.length 256),h ++ [some ⟨C9 D,true⟩]):=by
  have key:∀ g,Has g v 256 D.length (C9 D) → ∃ v' g',A5a (D.length + 1) [v] g=some (v',g') ∧ Out g.length g' v' 256 D.length (C9 D):=by
    intro g hv
    obtain ⟨v',h',f1,f2⟩:=C5x (q:=D.length + 1) hv hD h60 D.length 0 (D.length + 1) (g.length + 1) (g ++ [some (Row.mk [] true),some (Row.mk [] true)]) (by omega) (by omega) ((Low.refl (Nat.le_refl _)).new _) (by omega) (by simp [C9])
    rw [C6n]
    exact ⟨v',h',by simp only [esc];exact f1,f2⟩
  obtain ⟨v',g',e,ho⟩:=key (ro h) hv.ro
  exact C7O e (by simpa [Q5] using ho) A9V
end Go.Proofs.Ytdgggnlbdoiloaa
end
section
namespace Go.Proofs.Ytdgggnlbdoiloaa
open Go Go.Esc
theorem C5Z {a:Int}:IntKind.wrap .u8 a=a % 256:=by
  simp only [IntKind.wrap,IntKind.bits,IntKind.signed,Bool.false_and]
  rfl
end Go.Proofs.Ytdgggnlbdoiloaa
end
section
namespace Go.Proofs.Ytdgggnlbdoiloaa
open Go Go.Esc
section
variable {v:Val} {D:Dev} {n m k l s p:Int} {d:List Int} {h:A0}
theorem D6e {b n:Int}:S9 b n 0=false:=by
  unfold S9 Y3 A0W A2v
  cases c:H7 b n with
  | false=>rfl
  | true =>
    have h:=c
    unfold H7 at h
    simp only [Bool.and_eq_true,decide_eq_true_eq] at h
    simp only [cond_true,Bool.true_and]
    rw [decide_eq_false (by omega),Bool.false_and]
end
end Go.Proofs.Ytdgggnlbdoiloaa
end
section
namespace Go.Proofs.Ytdgggnlbdoiloaa
open Go Go.Esc
theorem A9l {t:List Int}:∀ k,(G0 t k).Nodup
  | 0=>by simp [G0]
  | k + 1=>by
    rw [A6a]
    by_cases c:V6 t k=true
    · rw [if_pos c]
      have hc:=c
      unfold V6 at hc
      rw [Bool.and_eq_true] at hc
      have h0:toX t k ≠ 0:=by simpa using hc.1
      have hn:toX t k ∉ G0 t k:=by
        have:=E84 h0
        rw [hc.2] at this
        simpa using this
      rw [List.nodup_append]
      refine ⟨A9l k,by simp,?_⟩
      intro a ha b hb e
      simp at hb
      subst hb;subst e
      exact hn ha
    · rw [if_neg c,List.append_nil];exact A9l k
theorem D5V {D:Dev} {n k:Int} {d:List Int}:(D7 D n k d).Nodup:=by
  unfold D7
  cases S8 D n k d with
  | false=>simp
  | true=>exact (A9l _).filter _
theorem B0i {b:List UInt8}:∀ e k,(M8 b e k).Pairwise fun x y=>x.1 < y.1
  | 0,k=>by simp [M8]
  | e + 1,k=>by
    cases hr:J2 b k with
    | none=>rw [A7r hr];exact B0i e (k + 1)
    | some x =>
      rw [A7s hr]
      refine List.pairwise_cons.2 ⟨fun y hy=>?_,B0i e (k + 1)⟩
      have:=A7q hy
      show k < y.1
      omega
theorem E5U {D:Dev} {n k:Int} {d:List Int}:(E5 D n k d).Pairwise fun x y=>(x.1.1,x.1.2.1) ≠ (y.1.1,y.1.2.1):=by
  unfold E5 Z9
  rw [List.pairwise_flatMap]
  refine ⟨fun b _=>?_,(D5V (D:=D) (n:=n) (k:=k) (d:=d)).imp fun {a b} hab=>?_⟩
  · unfold A0X
    rw [List.pairwise_map]
    refine (B0i 7 0).imp fun {x y} hxy=>?_
    intro e
    have:=congrArg Prod.snd e
    dsimp only at this
    omega
  · intro x hx y hy e
    unfold A0X at hx hy
    rw [List.mem_map] at hx hy
    obtain ⟨x',_,rfl⟩:=hx
    obtain ⟨y',_,rfl⟩:=hy
    exact hab (congrArg Prod.fst e)
theorem A9T {b nm:List UInt8}:∀ {e k:Nat} {x:Slt},O5 b nm e k=some x → x ∈ M8 b e k
  | 0,k,x,h=>by simp [O5] at h
  | e + 1,k,x,h=>by
    cases hr:J2 b k with
    | none=>rw [A9S hr] at h;rw [A7r hr];exact A9T h
    | some y =>
      obtain ⟨s,n⟩:=y
      rw [A7s hr]
      by_cases c:s=nm
      · subst c;rw [A9P hr] at h;cases h;exact List.mem_cons_self ..
      · rw [A9Q hr c] at h;exact List.mem_cons_of_mem _ (A9T h)
theorem A9R {b nm:List UInt8}:∀ {e k:Nat} {x:Slt},O5 b nm e k=some x → x.2.1=nm
  | 0,k,x,h=>by simp [O5] at h
  | e + 1,k,x,h=>by
    cases hr:J2 b k with
    | none=>rw [A9S hr] at h;exact A9R h
    | some y =>
      obtain ⟨s,n⟩:=y
      by_cases c:s=nm
      · subst c;rw [A9P hr] at h;cases h;rfl
      · rw [A9Q hr c] at h;exact A9R h
theorem C0g {D:Dev} {n k:Int} {d:List Int} {nm:List UInt8} {p:Plc} (h:I4 D n k d nm=some p):(p,nm) ∈ E5 D n k d:=by
  unfold I4 at h
  split at h
  · rename_i hc
    obtain ⟨h1,h2⟩:=hc
    rw [Option.map_eq_some_iff] at h
    obtain ⟨s,hs,rfl⟩:=h
    unfold E5 Z9
    rw [List.mem_flatMap]
    refine ⟨W1 (K1 D n k d) nm,?_,?_⟩
    · unfold D7
      rw [h1,cond_true,List.mem_filter]
      refine ⟨?_,h2⟩
      have hX:K1 D n k d=getD (blk D (d.getD 0 0)) :: E3 (blk D (d.getD 0 0)) 32:=by unfold K1;rw [h1];rfl
      have hB:W1 (K1 D n k d) nm ≠ 0:=by
        intro e
        rw [e,D6e] at h2;cases h2
      rw [A7w hB]
      refine ⟨U1 (K1 D n k d) nm,?_,?_⟩
      · rw [hX]
        unfold U1
        rw [List.headD_cons]
        exact Nat.mod_lt _ (by unfold H6;exact Nat.two_pow_pos _)
      · unfold W1
        rw [hX,List.tail_cons];rfl
    · unfold A0X
      rw [List.mem_map]
      exact ⟨s,A9T hs,by rw [A9R hs]⟩
  · cases h
theorem C1R {D:Dev} {n k:Int} {d:List Int} {nm:List UInt8}:nm ∈ E6 D n k d (E5 D n k d) ↔ (I4 D n k d nm).isSome=true:=by
  unfold E6
  rw [List.mem_map]
  constructor
  · rintro ⟨t,ht,rfl⟩
    have:=(List.mem_filter.1 ht).2
    unfold isL at this
    rw [of_decide_eq_true this];rfl
  · intro h
    obtain ⟨p,hp⟩:=Option.isSome_iff_exists.1 h
    exact ⟨(p,nm),List.mem_filter.2 ⟨C0g hp,by unfold isL;simp [hp]⟩,rfl⟩
theorem C1S {D:Dev} {n k:Int} {d:List Int}:(E6 D n k d (E5 D n k d)).Nodup:=by
  unfold E6
  rw [List.Nodup,List.pairwise_map]
  refine ((E5U (D:=D) (n:=n) (k:=k) (d:=d)).filter _).imp_of_mem fun {x y} hx hy hxy e=>?_
  have h1:=of_decide_eq_true (List.mem_filter.1 hx).2
  have h2:=of_decide_eq_true (List.mem_filter.1 hy).2
  rw [e,h2] at h1
  have:=Option.some.inj h1
  exact hxy (by rw [this])
theorem H24 (l:H2):(H4 l).Nodup:=(C4l l).imp fun {a b} h e=>by
  subst e;rw [A9j] at h;cases h
theorem C4k {l:H2} (hl:l.Nodup):(H4 l).length=l.length:=by
  have:=(List.perm_ext_iff_of_nodup (H24 l) hl).2 (A8h l)
  exact this.length_eq
theorem H0C {D:Dev} {n k:Int} {d:List Int} (l:List Tld):(E6 D n k d l).length + (M1 D n k d l).length=l.length:=by
  unfold E6 M1
  rw [List.length_map,List.length_map]
  induction l with
  | nil=>rfl
  | cons t l ih =>
    by_cases c:isL D n k d t=true
    · rw [List.filter_cons_of_pos c,List.filter_cons_of_neg (by simp [c])];simp;omega
    · rw [List.filter_cons_of_neg c,List.filter_cons_of_pos (by simp [c])];simp;omega
theorem F8V {D:Dev} {n k:Int} {d:List Int}:(L9 D n k d).length + (M1 D n k d (E5 D n k d)).length=(E5 D n k d).length:=by
  rw [← H0C (D:=D) (n:=n) (k:=k) (d:=d) (E5 D n k d)]
  unfold L9
  rw [List.length_map,C4k C1S]
def Q3 (D:Dev) (L:List Int):List Nat:=L.map fun no=>(G5 (blk D no)).length
theorem F8W {D:Dev} {n k:Int} {d:List Int}:A4h D n k d=(Q3 D (D7 D n k d)).map fun (x:Nat)=>(x:Int):=by
  simp [A4h,Q3]
theorem C0d {D:Dev}:∀ (L:List Int),(Q3 D L).sum=(Z9 D L).length
  | []=>rfl
  | b :: L=>by
    have:=C0d (D:=D) L
    rw [B1A,List.length_append,← this]
    simp [Q3,A0X]
theorem C0c {D:Dev} {L:List Int}:∀ x ∈ Q3 D L,x ≤ 7:=by
  intro x hx
  unfold Q3 at hx
  rw [List.mem_map] at hx
  obtain ⟨b,_,rfl⟩:=hx
  exact C0e _
end Go.Proofs.Ytdgggnlbdoiloaa
end
noncomputable section
namespace Go.Proofs.Ytdgggnlbdoiloaa
open Go Go.Esc
set_option maxRecDepth 100000
def B5z:List AOper:=[aO 6 (.mv (.v (.c (.b false))))]
def E2w:ACode:=.ops B5z
def B5A:List AOper:=[aO 20 (.mv (.t 0)),aO 21 (.len (.t 20)),aO 22 (.bin .gtr (.t 21) (.v (.c (.i .i64 60)))),aO 23 (.mv (.t 22)),{ dst:=some 24,op:=.mv (.t 2),guard:=some (23,false) },{ dst:=some 25,op:=.lenS (.t 24),guard:=some (23,false) },{ dst:=some 26,op:=.bin .gtr (.t 25) (.v (.c (.i .i64 60))),guard:=some (23,false) },aO 27 (.pick (.t 23) (.v (.c (.b true))) (.t 26))]
def E2y:ACode:=.ops B5A
def B5L:List AOper:=[aO 28 (.call 47 []),aO 6 (.mv (.t 28))]
def E2U:ACode:=.ops B5L
def E3g:ACode:=.seq [6] E2U .ret
def E3B:ACode:=.cond (.t 27) E3g .skip
def E3W:ACode:=.seq [0,1,2,27] E2y E3B
def B5S:List AOper:=[aO 30 (.mv (.t 0)),aO 31 (.call 16 [(.t 30)]),aO 32 (.call 15 [(.t 31)]),aO 29 (.mv (.t 32)),aO 33 (.ext (.t 29) 0),aO 34 (.ext (.t 29) 1),aO 7 (.alloc ([.i .i64 0,.i .i64 0,.i .u64 0,.nf])),{ dst:=none,op:=.storeN 4 (.t 7) (.t 33) },aO 8 (.mv (.t 34))]
def E4g:ACode:=.ops B5S
def B5T:List AOper:=[aO 35 (.mv (.t 8)),aO 36 (.bin .neq (.t 35) (.v (.c (.i .i64 0))))]
def E4q:ACode:=.ops B5T
def B5U:List AOper:=[aO 37 (.call 47 []),aO 6 (.mv (.t 37))]
def E4s:ACode:=.ops B5U
def E4u:ACode:=.seq [6] E4s .ret
def E2z:ACode:=.cond (.t 36) E4u .skip
def E2B:ACode:=.seq [1,2,7,36] E4q E2z
def B5V:List AOper:=[aO 38 (.loadN 4 (.t 7)),aO 39 (.mv (.t 1)),aO 40 (.call 17 [(.t 38),(.t 39)]),aO 9 (.alloc ([.i .i64 0,.i .i64 0,.i .i64 0,.i .i64 0,.i .i64 0,.i .i64 0,.i .i64 0,.i .i64 0,.i .i64 0,.i .i64 0,.i .i64 0])),{ dst:=none,op:=.storeN 11 (.t 9) (.t 40) }]
def E2D:ACode:=.ops B5V
def B5W:List AOper:=[aO 41 (.loadN 4 (.t 7)),aO 42 (.loadN 11 (.t 9)),aO 43 (.call 48 [(.t 41),(.t 42)]),aO 10 (.mv (.t 43))]
def E2F:ACode:=.ops B5W
def B5X:List AOper:=[aO 11 (.mv (.v (.c (.b false))))]
def E2H:ACode:=.ops B5X
def B5Y:List AOper:=[aO 12 (.mv (.v (.c (.i .i64 0))))]
def E2J:ACode:=.ops B5Y
def B5B:List AOper:=[aO 44 (.mv (.t 12)),aO 45 (.mv (.t 10)),aO 46 (.len (.t 45)),aO 47 (.bin .lss (.t 44) (.t 46))]
def E2L:ACode:=.ops B5B
def E2N:ACode:=.cond (.t 47) .skip (.exit 0)
def E2P:ACode:=.seq [2,7,9,10,11,12,47] E2L E2N
def B5C:List AOper:=[aO 51 (.loadN 4 (.t 7)),aO 52 (.loadN 11 (.t 9)),aO 53 (.mv (.t 10)),aO 54 (.mv (.t 12)),aO 55 (.iAddrL 2 (.t 53) (.t 54)),aO 56 (.fAddr (.t 55) 0),aO 57 (.load1 (.t 56)),aO 58 (.call 49 [(.t 51),(.t 52),(.t 57)]),aO 50 (.mv (.t 58)),aO 59 (.ext (.t 50) 0),aO 60 (.ext (.t 50) 1),{ dst:=some 13,op:=.alloc ([.i .i64 0,.i .i64 0,.i .i64 0]),slot:=some 0 }]
def B5D:List AOper:=[aO 14 (.mv (.t 60))]
def E2R:ACode:=.drawS 1 B5C { dst:=none,op:=.storeN 3 (.t 13) (.t 59) } [] B5D
def B5E:List AOper:=[aO 61 (.mv (.t 14)),aO 62 (.un .not (.t 61)),aO 63 (.mv (.t 62)),{ dst:=some 64,op:=.fAddr (.t 13) 2,guard:=some (63,false) },{ dst:=some 65,op:=.load1 (.t 64),guard:=some (63,false) },{ dst:=some 66,op:=.mv (.t 10),guard:=some (63,false) },{ dst:=some 67,op:=.mv (.t 12),guard:=some (63,false) },{ dst:=some 68,op:=.iAddrL 2 (.t 66) (.t 67),guard:=some (63,false) },{ dst:=some 69,op:=.fAddr (.t 68) 1,guard:=some (63,false) },{ dst:=some 70,op:=.load1 (.t 69),guard:=some (63,false) },{ dst:=some 71,op:=.bin .neq (.t 65) (.t 70),guard:=some (63,false) },aO 72 (.pick (.t 63) (.v (.c (.b true))) (.t 71)),aO 73 (.mv (.t 72)),{ dst:=some 74,op:=.mv (.t 12),guard:=some (73,false) },{ dst:=some 75,op:=.bin .gtr (.t 74) (.v (.c (.i .i64 0))),guard:=some (73,false) },{ dst:=some 76,op:=.mv (.t 75),guard:=some (73,false) },{ dst:=some 77,op:=.mv (.t 10),guard:=some (76,true) },{ dst:=some 78,op:=.mv (.t 12),guard:=some (76,true) },{ dst:=some 79,op:=.bin .sub (.t 78) (.v (.c (.i .i64 1))),guard:=some (76,true) },{ dst:=some 80,op:=.iAddrL 2 (.t 77) (.t 79),guard:=some (76,true) },{ dst:=some 81,op:=.fAddr (.t 80) 0,guard:=some (76,true) },{ dst:=some 82,op:=.load1 (.t 81),guard:=some (76,true) },{ dst:=some 83,op:=.mv (.t 10),guard:=some (76,true) },{ dst:=some 84,op:=.mv (.t 12),guard:=some (76,true) },{ dst:=some 85,op:=.iAddrL 2 (.t 83) (.t 84),guard:=some (76,true) },{ dst:=some 86,op:=.fAddr (.t 85) 0,guard:=some (76,true) },{ dst:=some 87,op:=.load1 (.t 86),guard:=some (76,true) }]
def B5F:List AOper:=[{ dst:=some 88,op:=.bin .geq (.t 82) (.t 87),guard:=some (76,true) },{ dst:=some 89,op:=.pick (.t 76) (.t 88) (.v (.c (.b false))),guard:=some (73,false) },aO 90 (.pick (.t 73) (.v (.c (.b true))) (.t 89))]
def E2V:ACode:=.draw 0 B5E B5F
def B5G:List AOper:=[aO 6 (.mv (.v (.c (.b false))))]
def E2X:ACode:=.ops B5G
def E2Z:ACode:=.seq [6] E2X .ret
def E21:ACode:=.cond (.t 90) E2Z .skip
def E23:ACode:=.seq [2,7,9,10,11,12,90] E2V E21
def B5H:List AOper:=[aO 91 (.mv (.t 11)),aO 92 (.mv (.t 91)),{ dst:=some 93,op:=.mv (.t 10),guard:=some (92,false) },{ dst:=some 94,op:=.mv (.t 12),guard:=some (92,false) },{ dst:=some 95,op:=.iAddrL 2 (.t 93) (.t 94),guard:=some (92,false) },{ dst:=some 96,op:=.fAddr (.t 95) 0,guard:=some (92,false) },{ dst:=some 97,op:=.load1 (.t 96),guard:=some (92,false) },{ dst:=some 98,op:=.mv (.t 2),guard:=some (92,false) },{ dst:=some 99,op:=.bin .eql (.t 97) (.t 98),guard:=some (92,false) },aO 100 (.pick (.t 92) (.v (.c (.b true))) (.t 99)),aO 11 (.mv (.t 100))]
def E25:ACode:=.ops B5H
def E27:ACode:=.seq [2,7,9,10,11,12] E23 E25
def E29:ACode:=.seq [2,7,9,10,11,12,13,14] E2R E27
def E3b:ACode:=.block 1 E29
def B5I:List AOper:=[aO 48 (.mv (.t 12)),aO 49 (.bin .add (.t 48) (.v (.c (.i .i64 1)))),aO 12 (.mv (.t 49))]
def E3d:ACode:=.ops B5I
def E3h:ACode:=.seq [2,7,9,10,11,12] E3b E3d
def E3j:ACode:=.seq [2,7,9,10,11,12] E2P E3h
def E3k:ACode:=.loop [2,7,9,10,11,12] E3j
def E3m:ACode:=.block 0 E3k
def E3o:ACode:=.seq [2,7,9,10,11,12] E2J E3m
def B5J:List AOper:=[aO 102 (.loadN 4 (.t 7)),aO 103 (.loadN 11 (.t 9)),aO 104 (.mv (.t 2)),aO 105 (.call 49 [(.t 102),(.t 103),(.t 104)]),aO 101 (.mv (.t 105)),aO 106 (.ext (.t 101) 0),aO 107 (.ext (.t 101) 1),aO 15 (.alloc ([.i .i64 0,.i .i64 0,.i .i64 0])),{ dst:=none,op:=.storeN 3 (.t 15) (.t 106) },aO 16 (.mv (.t 107))]
def E3q:ACode:=.ops B5J
def B5K:List AOper:=[aO 17 (.mv (.v (.c (.i .i64 0))))]
def E3s:ACode:=.ops B5K
def B5M:List AOper:=[aO 108 (.loadN 4 (.t 7)),aO 109 (.loadN 11 (.t 9)),aO 110 (.call 50 [(.t 108),(.t 109)]),aO 18 (.mv (.t 110))]
def E3u:ACode:=.ops B5M
def B5N:List AOper:=[aO 19 (.mv (.v (.c (.i .i64 0))))]
def E3w:ACode:=.ops B5N
def B5O:List AOper:=[aO 111 (.mv (.t 19)),aO 112 (.mv (.t 18)),aO 113 (.len (.t 112)),aO 114 (.bin .lss (.t 111) (.t 113))]
def E3y:ACode:=.ops B5O
def E3C:ACode:=.cond (.t 114) .skip (.exit 2)
def E3E:ACode:=.seq [7,9,10,11,16,17,18,19,114] E3y E3C
def B5P:List AOper:=[aO 117 (.mv (.t 17)),aO 118 (.mv (.t 18)),aO 119 (.mv (.t 19)),aO 120 (.iAddrL 1 (.t 118) (.t 119)),aO 121 (.load1 (.t 120)),aO 122 (.bin .add (.t 117) (.t 121)),aO 17 (.mv (.t 122))]
def E3G:ACode:=.ops B5P
def E3I:ACode:=.block 3 E3G
def B5Q:List AOper:=[aO 115 (.mv (.t 19)),aO 116 (.bin .add (.t 115) (.v (.c (.i .i64 1)))),aO 19 (.mv (.t 116))]
def E3K:ACode:=.ops B5Q
def E3M:ACode:=.seq [7,9,10,11,16,17,18,19] E3I E3K
def E3O:ACode:=.seq [7,9,10,11,16,17,18,19] E3E E3M
def E3P:ACode:=.loop [7,9,10,11,16,17,18,19] E3O
def E3R:ACode:=.block 2 E3P
def E3T:ACode:=.seq [7,9,10,11,16,17,18,19] E3w E3R
def B5R:List AOper:=[aO 123 (.mv (.t 16)),aO 124 (.mv (.t 11)),aO 125 (.eqB false (.t 123) (.t 124)),aO 126 (.mv (.t 125)),{ dst:=some 127,op:=.mv (.t 17),guard:=some (126,true) },{ dst:=some 128,op:=.mv (.t 10),guard:=some (126,true) },{ dst:=some 129,op:=.len (.t 128),guard:=some (126,true) },{ dst:=some 130,op:=.loadN 4 (.t 7),guard:=some (126,true) },{ dst:=some 131,op:=.loadN 11 (.t 9),guard:=some (126,true) },{ dst:=some 132,op:=.call 51 [(.t 130),(.t 131)],guard:=some (126,true) },{ dst:=some 133,op:=.len (.t 132),guard:=some (126,true) },{ dst:=some 134,op:=.bin .add (.t 129) (.t 133),guard:=some (126,true) },{ dst:=some 135,op:=.bin .eql (.t 127) (.t 134),guard:=some (126,true) },aO 136 (.pick (.t 126) (.t 135) (.v (.c (.b false)))),aO 137 (.mv (.t 136)),{ dst:=some 138,op:=.call 47 [],guard:=some (137,true) },aO 139 (.pick (.t 137) (.t 138) (.v (.c (.b false)))),aO 6 (.mv (.t 139))]
def E3X:ACode:=.ops B5R
def E3Z:ACode:=.seq [6] E3X .ret
def E30:ACode:=.seq [7,9,10,11,16,17] E3T E3Z
def E32:ACode:=.seq [7,9,10,11,16,17,18] E3u E30
def E34:ACode:=.seq [7,9,10,11,16,17] E3s E32
def E36:ACode:=.seq [7,9,10,11,16] E3q E34
def E37:ACode:=.seq [2,7,9,10,11] E3o E36
def E39:ACode:=.seq [2,7,9,10,11] E2H E37
def E4b:ACode:=.seq [2,7,9,10] E2F E39
def E4d:ACode:=.seq [2,7,9] E2D E4b
def E4h:ACode:=.seq [1,2,7] E2B E4d
def E4j:ACode:=.seq [1,2,7,8] E4g E4h
def E4l:ACode:=.seq [0,1,2] E3W E4j
def E4n:ACode:=.seq [0,1,2] E2w E4l
def A_el24_DreadOnce:AFn:=⟨E4n,[.tmp 6]⟩
def I7:B4:=A9 47 A1L (A9 16 A3s (A9 15 Z7 (A9 17 A04 (A9 48 A0z (A9 49 V2 (A9 50 A3n (A9 51 A0A C2)))))))
def E2x (n:Nat):SmV:=A2 I7 B5z
def E2T (n:Nat):SmV:=A2 I7 B5A
def E3f (n:Nat):SmV:=A2 I7 B5L
def E3A (n:Nat):SmV:=A1 [6] (E3f n) B5
def E3V (n:Nat):SmV:=B8 (.t 27) (E3A n) B9
def E4f (n:Nat):SmV:=A1 [0,1,2,27] (E2T n) (E3V n)
def E4p (n:Nat):SmV:=A2 I7 B5S
def E4r (n:Nat):SmV:=A2 I7 B5T
def E4t (n:Nat):SmV:=A2 I7 B5U
def E4v (n:Nat):SmV:=A1 [6] (E4t n) B5
def E2A (n:Nat):SmV:=B8 (.t 36) (E4v n) B9
def E2C (n:Nat):SmV:=A1 [1,2,7,36] (E4r n) (E2A n)
def E2E (n:Nat):SmV:=A2 I7 B5V
def E2G (n:Nat):SmV:=A2 I7 B5W
def E2I (n:Nat):SmV:=A2 I7 B5X
def E2K (n:Nat):SmV:=A2 I7 B5Y
def E2M (n:Nat):SmV:=A2 I7 B5B
def E2O (n:Nat):SmV:=B8 (.t 47) B9 (F0 0)
def E2Q (n:Nat):SmV:=A1 [2,7,9,10,11,12,47] (E2M n) (E2O n)
def E2S (n:Nat):SmV:=A4x I7 1 B5C { dst:=none,op:=.storeN 3 (.t 13) (.t 59) } [] B5D
def E2W (n:Nat):SmV:=P8 I7 0 B5E B5F
def E2Y (n:Nat):SmV:=A2 I7 B5G
def E20 (n:Nat):SmV:=A1 [6] (E2Y n) B5
def E22 (n:Nat):SmV:=B8 (.t 90) (E20 n) B9
def E24 (n:Nat):SmV:=A1 [2,7,9,10,11,12,90] (E2W n) (E22 n)
def E26 (n:Nat):SmV:=A2 I7 B5H
def E28 (n:Nat):SmV:=A1 [2,7,9,10,11,12] (E24 n) (E26 n)
def E3a (n:Nat):SmV:=A1 [2,7,9,10,11,12,13,14] (E2S n) (E28 n)
def E3c (n:Nat):SmV:=C4 1 (E3a n)
def E3e (n:Nat):SmV:=A2 I7 B5I
def E3i (n:Nat):SmV:=A1 [2,7,9,10,11,12] (E3c n) (E3e n)
def B5t (n:Nat):SmV:=A1 [2,7,9,10,11,12] (E2Q n) (E3i n)
def E3l (n:Nat):SmV:=F2 n [2,7,9,10,11,12] (B5t n)
def E3n (n:Nat):SmV:=C4 0 (E3l n)
def E3p (n:Nat):SmV:=A1 [2,7,9,10,11,12] (E2K n) (E3n n)
def E3r (n:Nat):SmV:=A2 I7 B5J
def E3t (n:Nat):SmV:=A2 I7 B5K
def E3v (n:Nat):SmV:=A2 I7 B5M
def E3x (n:Nat):SmV:=A2 I7 B5N
def E3z (n:Nat):SmV:=A2 I7 B5O
def E3D (n:Nat):SmV:=B8 (.t 114) B9 (F0 2)
def E3F (n:Nat):SmV:=A1 [7,9,10,11,16,17,18,19,114] (E3z n) (E3D n)
def E3H (n:Nat):SmV:=A2 I7 B5P
def E3J (n:Nat):SmV:=C4 3 (E3H n)
def E3L (n:Nat):SmV:=A2 I7 B5Q
def E3N (n:Nat):SmV:=A1 [7,9,10,11,16,17,18,19] (E3J n) (E3L n)
def B5u (n:Nat):SmV:=A1 [7,9,10,11,16,17,18,19] (E3F n) (E3N n)
def E3Q (n:Nat):SmV:=F2 n [7,9,10,11,16,17,18,19] (B5u n)
def E3S (n:Nat):SmV:=C4 2 (E3Q n)
def E3U (n:Nat):SmV:=A1 [7,9,10,11,16,17,18,19] (E3x n) (E3S n)
def E3Y (n:Nat):SmV:=A2 I7 B5R
def B5v (n:Nat):SmV:=A1 [6] (E3Y n) B5
def E31 (n:Nat):SmV:=A1 [7,9,10,11,16,17] (E3U n) (B5v n)
def E33 (n:Nat):SmV:=A1 [7,9,10,11,16,17,18] (E3v n) (E31 n)
def E35 (n:Nat):SmV:=A1 [7,9,10,11,16,17] (E3t n) (E33 n)
def B5w (n:Nat):SmV:=A1 [7,9,10,11,16] (E3r n) (E35 n)
def E38 (n:Nat):SmV:=A1 [2,7,9,10,11] (E3p n) (B5w n)
def E4a (n:Nat):SmV:=A1 [2,7,9,10,11] (E2I n) (E38 n)
def E4c (n:Nat):SmV:=A1 [2,7,9,10] (E2G n) (E4a n)
def E4e (n:Nat):SmV:=A1 [2,7,9] (E2E n) (E4c n)
def E4i (n:Nat):SmV:=A1 [1,2,7] (E2C n) (E4e n)
def E4k (n:Nat):SmV:=A1 [1,2,7,8] (E4p n) (E4i n)
def E4m (n:Nat):SmV:=A1 [0,1,2] (E4f n) (E4k n)
def E4o (n:Nat):SmV:=A1 [0,1,2] (E2x n) (E4m n)
def A6I (n:Nat):AExit → Env → A0 → A6:=fun x e h=>match x with | .normal=>hold ((B5w n) A_el24_DreadOnce.fin (e.keep [2,7,9,10,11]) h) | .exit id=>A_el24_DreadOnce.fin (.exit id) e h | .ret=>A_el24_DreadOnce.fin .ret e h
def E4w (n:Nat):AExit → Env → A0 → A6:=fun x e h=>match x with | .exit i=>bif Nat.beq i 0 then (A6I n) .normal e h else (A6I n) (.exit i) e h | .normal=>(A6I n) .normal e h | .ret=>(A6I n) .ret e h
def A2Z (n m:Nat) (x2 x7 x9 x10 x11 x12:Val) (h:A0):A6:=E2 (B5t n) [2,7,9,10,11,12] (E4w n) m [(2,x2),(7,x7),(9,x9),(10,x10),(11,x11),(12,x12)] h
def A3f (n:Nat) (args:List Val) (h:A0):A6:=(E4o n) A_el24_DreadOnce.fin (params 0 args) h
def A6J (n:Nat):AExit → Env → A0 → A6:=fun x e h=>match x with | .normal=>hold ((B5v n) A_el24_DreadOnce.fin (e.keep [7,9,10,11,16,17]) h) | .exit id=>A_el24_DreadOnce.fin (.exit id) e h | .ret=>A_el24_DreadOnce.fin .ret e h
def E4x (n:Nat):AExit → Env → A0 → A6:=fun x e h=>match x with | .exit i=>bif Nat.beq i 2 then (A6J n) .normal e h else (A6J n) (.exit i) e h | .normal=>(A6J n) .normal e h | .ret=>(A6J n) .ret e h
def A34 (n m:Nat) (x7 x9 x10 x11 x16 x17 x18 x19:Val) (h:A0):A6:=E2 (B5u n) [7,9,10,11,16,17,18,19] (E4x n) m [(7,x7),(9,x9),(10,x10),(11,x11),(16,x16),(17,x17),(18,x18),(19,x19)] h
theorem A8H (n:Nat) (a0 a1 a2:Val) (h:A0):A3f n [a0,a1,a2] h=bnd (F5 a0) fun v1=>bnd (A4 .gtr v1 (.c (.i .i64 60))) fun v2=>bnd (gd v2 false (some (a2,h)) (some (.no,h))) fun p3=>bnd (gd v2 false (bnd (Y0 p3.1) fun v4=>some (v4,p3.2)) (some (.no,p3.2))) fun p5=>bnd (gd v2 false (bnd (A4 .gtr p5.1 (.c (.i .i64 60))) fun v6=>some (v6,p5.2)) (some (.no,p5.2))) fun p7=>bnd (D4 v2 (.c (.b true)) p7.1) fun v8=>cnd v8 (bnd (A1L [] p7.2) fun p9=>some (p9.1,p9.2)) (bnd (A3s [a0] p7.2) fun p10=>bnd (Z7 [p10.1] p10.2) fun p11=>bnd (C3 p11.1 0) fun v12=>bnd (C3 p11.1 1) fun v13=>bnd (B1 ((p11.2 ++ [some (Row.mk ([.i .i64 0,.i .i64 0,.i .u64 0,.nf]) true)])) 4 ((.c (.p p11.2.length 0))) v12) fun h14=>bnd (A4 .neq v13 (.c (.i .i64 0))) fun v15=>cnd v15 (bnd (A1L [] h14) fun p16=>some (p16.1,p16.2)) (bnd (A5 h14 4 ((.c (.p p11.2.length 0)))) fun v17=>bnd (A04 [v17,a1] h14) fun p18=>bnd (B1 ((p18.2 ++ [some (Row.mk ([.i .i64 0,.i .i64 0,.i .i64 0,.i .i64 0,.i .i64 0,.i .i64 0,.i .i64 0,.i .i64 0,.i .i64 0,.i .i64 0,.i .i64 0]) true)])) 11 ((.c (.p p18.2.length 0))) p18.1) fun h19=>bnd (A5 h19 4 ((.c (.p p11.2.length 0)))) fun v20=>bnd (A5 h19 11 ((.c (.p p18.2.length 0)))) fun v21=>bnd (A0z [v20,v21] h19) fun p22=>A2Z n n a2 ((.c (.p p11.2.length 0))) ((.c (.p p18.2.length 0))) p22.1 (.c (.b false)) (.c (.i .i64 0)) p22.2)):=by kernel_rfl
theorem B5x (n m:Nat) (x2 x7 x9 x10 x11 x12:Val) (h:A0):A2Z n (m + 1) x2 x7 x9 x10 x11 x12 h=bnd (F5 x10) fun v23=>bnd (A4 .lss x12 v23) fun v24=>cnd v24 (bnd (A5 h 4 x7) fun v25=>bnd (A5 h 11 x9) fun v26=>bnd (D1 2 x10 x12) fun v27=>bnd (B7 v27 0) fun v28=>bnd (A8 h v28) fun v29=>bnd (quiet ((h ++ [none])) (V2 [v25,v26,v29] ((h ++ [none])))) fun p30=>bnd (C3 p30.1 0) fun v31=>bnd (C3 p30.1 1) fun v32=>bnd (B1 ((p30.2.set (h.length + 0) (some (Row.mk ([.i .i64 0,.i .i64 0,.i .i64 0]) true)))) 3 ((.c (.p (h.length + 0) 0))) v31) fun h33=>bnd (aun .not v32) fun v34=>bnd (gd v34 false (bnd (B7 ((.c (.p (h.length + 0) 0))) 2) fun v35=>some (v35,(h33 ++ []))) (some (.no,(h33 ++ [])))) fun p36=>bnd (gd v34 false (bnd (A8 h33 p36.1) fun v37=>some (v37,p36.2)) (some (.no,p36.2))) fun p38=>bnd (gd v34 false (some (x10,p38.2)) (some (.no,p38.2))) fun p39=>bnd (gd v34 false (some (x12,p39.2)) (some (.no,p39.2))) fun p40=>bnd (gd v34 false (bnd (D1 2 p39.1 p40.1) fun v41=>some (v41,p40.2)) (some (.no,p40.2))) fun p42=>bnd (gd v34 false (bnd (B7 p42.1 1) fun v43=>some (v43,p42.2)) (some (.no,p42.2))) fun p44=>bnd (gd v34 false (bnd (A8 h33 p44.1) fun v45=>some (v45,p44.2)) (some (.no,p44.2))) fun p46=>bnd (gd v34 false (bnd (A4 .neq p38.1 p46.1) fun v47=>some (v47,p46.2)) (some (.no,p46.2))) fun p48=>bnd (D4 v34 (.c (.b true)) p48.1) fun v49=>bnd (gd v49 false (some (x12,p48.2)) (some (.no,p48.2))) fun p50=>bnd (gd v49 false (bnd (A4 .gtr p50.1 (.c (.i .i64 0))) fun v51=>some (v51,p50.2)) (some (.no,p50.2))) fun p52=>bnd (gd v49 false (some (p52.1,p52.2)) (some (.no,p52.2))) fun p53=>bnd (gd p53.1 true (some (x10,p53.2)) (some (.no,p53.2))) fun p54=>bnd (gd p53.1 true (some (x12,p54.2)) (some (.no,p54.2))) fun p55=>bnd (gd p53.1 true (bnd (A4 .sub p55.1 (.c (.i .i64 1))) fun v56=>some (v56,p55.2)) (some (.no,p55.2))) fun p57=>bnd (gd p53.1 true (bnd (D1 2 p54.1 p57.1) fun v58=>some (v58,p57.2)) (some (.no,p57.2))) fun p59=>bnd (gd p53.1 true (bnd (B7 p59.1 0) fun v60=>some (v60,p59.2)) (some (.no,p59.2))) fun p61=>bnd (gd p53.1 true (bnd (A8 h33 p61.1) fun v62=>some (v62,p61.2)) (some (.no,p61.2))) fun p63=>bnd (gd p53.1 true (some (x10,p63.2)) (some (.no,p63.2))) fun p64=>bnd (gd p53.1 true (some (x12,p64.2)) (some (.no,p64.2))) fun p65=>bnd (gd p53.1 true (bnd (D1 2 p64.1 p65.1) fun v66=>some (v66,p65.2)) (some (.no,p65.2))) fun p67=>bnd (gd p53.1 true (bnd (B7 p67.1 0) fun v68=>some (v68,p67.2)) (some (.no,p67.2))) fun p69=>bnd (gd p53.1 true (bnd (A8 h33 p69.1) fun v70=>some (v70,p69.2)) (some (.no,p69.2))) fun p71=>bnd (gd p53.1 true (bnd (A4 .geq p63.1 p71.1) fun v72=>some (v72,p71.2)) (some (.no,p71.2))) fun p73=>bnd (gd v49 false (bnd (D4 p53.1 p73.1 (.c (.b false))) fun v74=>some (v74,p73.2)) (some (.no,p73.2))) fun p75=>bnd (D4 v49 (.c (.b true)) p75.1) fun v76=>cnd v76 (some ((.c (.b false)),p75.2)) (bnd (gd x11 false (some (x10,p75.2)) (some (.no,p75.2))) fun p77=>bnd (gd x11 false (some (x12,p77.2)) (some (.no,p77.2))) fun p78=>bnd (gd x11 false (bnd (D1 2 p77.1 p78.1) fun v79=>some (v79,p78.2)) (some (.no,p78.2))) fun p80=>bnd (gd x11 false (bnd (B7 p80.1 0) fun v81=>some (v81,p80.2)) (some (.no,p80.2))) fun p82=>bnd (gd x11 false (bnd (A8 p82.2 p82.1) fun v83=>some (v83,p82.2)) (some (.no,p82.2))) fun p84=>bnd (gd x11 false (some (x2,p84.2)) (some (.no,p84.2))) fun p85=>bnd (gd x11 false (bnd (A4 .eql p84.1 p85.1) fun v86=>some (v86,p85.2)) (some (.no,p85.2))) fun p87=>bnd (D4 x11 (.c (.b true)) p87.1) fun v88=>bnd (A4 .add x12 (.c (.i .i64 1))) fun v89=>A2Z n m x2 x7 x9 x10 v88 v89 p87.2)) (bnd (A5 h 4 x7) fun v90=>bnd (A5 h 11 x9) fun v91=>bnd (V2 [v90,v91,x2] h) fun p92=>bnd (C3 p92.1 0) fun v93=>bnd (C3 p92.1 1) fun v94=>bnd (B1 ((p92.2 ++ [some (Row.mk ([.i .i64 0,.i .i64 0,.i .i64 0]) true)])) 3 ((.c (.p p92.2.length 0))) v93) fun h95=>bnd (A5 h95 4 x7) fun v96=>bnd (A5 h95 11 x9) fun v97=>bnd (A3n [v96,v97] h95) fun p98=>A34 n n x7 x9 x10 x11 v94 (.c (.i .i64 0)) p98.1 (.c (.i .i64 0)) p98.2):=by kernel_rfl
theorem B5y (n m:Nat) (x7 x9 x10 x11 x16 x17 x18 x19:Val) (h:A0):A34 n (m + 1) x7 x9 x10 x11 x16 x17 x18 x19 h=bnd (F5 x18) fun v99=>bnd (A4 .lss x19 v99) fun v100=>cnd v100 (bnd (D1 1 x18 x19) fun v101=>bnd (A8 h v101) fun v102=>bnd (A4 .add x17 v102) fun v103=>bnd (A4 .add x19 (.c (.i .i64 1))) fun v104=>A34 n m x7 x9 x10 x11 x16 v103 x18 v104 h) (bnd (A10 false x16 x11) fun v105=>bnd (gd v105 true (some (x17,h)) (some (.no,h))) fun p106=>bnd (gd v105 true (some (x10,p106.2)) (some (.no,p106.2))) fun p107=>bnd (gd v105 true (bnd (F5 p107.1) fun v108=>some (v108,p107.2)) (some (.no,p107.2))) fun p109=>bnd (gd v105 true (bnd (A5 p109.2 4 x7) fun v110=>some (v110,p109.2)) (some (.no,p109.2))) fun p111=>bnd (gd v105 true (bnd (A5 p111.2 11 x9) fun v112=>some (v112,p111.2)) (some (.no,p111.2))) fun p113=>bnd (gd v105 true (bnd (A0A [p111.1,p113.1] p113.2) fun p114=>some (p114.1,p114.2)) (some (.no,p113.2))) fun p115=>bnd (gd v105 true (bnd (F5 p115.1) fun v116=>some (v116,p115.2)) (some (.no,p115.2))) fun p117=>bnd (gd v105 true (bnd (A4 .add p109.1 p117.1) fun v118=>some (v118,p117.2)) (some (.no,p117.2))) fun p119=>bnd (gd v105 true (bnd (A4 .eql p106.1 p119.1) fun v120=>some (v120,p119.2)) (some (.no,p119.2))) fun p121=>bnd (D4 v105 p121.1 (.c (.b false))) fun v122=>bnd (gd v122 true (bnd (A1L [] p121.2) fun p123=>some (p123.1,p123.2)) (some (.no,p121.2))) fun p124=>bnd (D4 v122 p124.1 (.c (.b false))) fun v125=>some (v125,p124.2)):=by kernel_rfl
theorem K_el24_DreadOnce:FnK Try.prog 11 A_el24_DreadOnce I7 A3f:=.mk' (B3 C7U (B3 C7N (B3 B1k (B3 B1m (B3 A8V (B3 A5U (B3 C7B (B3 B08 C5)))))))) Try.func11 (by kernel_rfl) (by intro n args h;kernel_rfl)
def A8W:Fun:=tidy (Lim A_el24_DreadOnce I7)
theorem C7Q:SOk Try.prog 11 A8W:=K_el24_DreadOnce.sok
theorem C7P {n:Nat} {args:List Val} {h h2:A0} {v:Val} (he:A3f n args (ro h)=some (v,h2)) (hf:v.flat=true):A8W args h=some (v,h):=K_el24_DreadOnce.flat he hf
end Go.Proofs.Ytdgggnlbdoiloaa
end
section
namespace Go.Proofs.Ytdgggnlbdoiloaa
open Go Go.Esc
theorem B1r (a b:List UInt8):A4 .geq (.c (.s a)) (.c (.s b))=some (.c (.b (!F3 a b))):=rfl
theorem B6n {l:List Ent} {i:Nat} (h:i < l.length):(E1 l)[i * 2]? = some (.s l[i].1) ∧ (E1 l)[i * 2 + 1]? = some (.i .i64 l[i].2):=by
  induction l generalizing i with
  | nil=>simp at h
  | cons x l ih =>
    have e:E1 (x :: l)=Cell.s x.1 :: Cell.i .i64 x.2 :: E1 l:=rfl
    cases i with
    | zero=>exact ⟨rfl,rfl⟩
    | succ i =>
      simp at h
      obtain ⟨h1,h2⟩:=ih h
      rw [e,show (i + 1) * 2=i * 2 + 1 + 1 by omega]
      exact ⟨by rw [List.getElem?_cons_succ,List.getElem?_cons_succ];simpa using h1,by rw [show i * 2 + 1 + 1 + 1=(i * 2 + 1) + 1 + 1 by omega,List.getElem?_cons_succ,List.getElem?_cons_succ];simpa using h2⟩
section
variable {D:Dev} {n m k l s p:Int} {d:List Int} {f:Cell} {nm:List UInt8} {B:A0} {pv pi id q:Nat} {S:H2} {F:List UInt8 → Int}
theorem C3q (hD:okD D) (hd:d.length=7) (hv:IsView B f D) (h1:rd B pv=some ⟨vwC D.length n m f,true⟩) (h2:rd B pi=some ⟨A7 k l s p d,true⟩) (h3:rd B id=some ⟨E1 (S.map fun s=>(s,F s)),true⟩) (hup:Up S)
    (hS:∀ s ∈ S,s.length ≤ 1000 ∧ ∃ p,I4 D n k d s=some p ∧ p.2.2=F s) (h62:S.length < 1000000) :
    ∀ (e i M:Nat) (b:Bool) (h:A0),i + e=S.length → e < M → Low B.length B h → ∃ M' h',A2Z q M (.c (.s nm)) (.c (.p pv 0)) (.c (.p pi 0)) (.c (.sl id 0 S.length 2)) (.c (.b b)) (.c (.i .i64 (i:Int))) h =
      A2Z q (M' + 1) (.c (.s nm)) (.c (.p pv 0)) (.c (.p pi 0)) (.c (.sl id 0 S.length 2)) (.c (.b (b || decide (nm ∈ S.drop i)))) (.c (.i .i64 (S.length:Int))) h' ∧ Low B.length B h'
  | e,i,0,b,h,_,hm,_=>by omega
  | 0,i,M + 1,b,h,hi,hm,hlow=>by
    have e0:i=S.length:=by omega
    subst e0
    refine ⟨M,h,?_,hlow⟩
    rw [List.drop_length];simp
  | e + 1,i,M + 1,b,h,hi,hm,hlow=>by
    have hil:i < S.length:=by omega
    have c0:(i:Int) < (S.length:Nat):=by omega
    have hIl:(A7 k l s p d).length=11:=by simp [A7,F6,hd]
    have l4:∀ t,A5 (h ++ t) 4 (.c (.p pv 0))=some (.a (vwC D.length n m f)):=fun t=>G1 (C0 (hlow.rd h1)) rfl
    have l11:∀ t,A5 (h ++ t) 11 (.c (.p pi 0))=some (.a (A7 k l s p d)):=fun t=>G1 (C0 (hlow.rd h2)) hIl
    have l40:=l4 []
    have l110:=l11 []
    rw [List.append_nil] at l40 l110
    have ml:(S.map fun s=>(s,F s)).length=S.length:=by simp
    have ad:∀ j,j < S.length → D1 2 (.c (.sl id 0 S.length 2)) (.c (.i .i64 (j:Int)))=some (.c (.p id (j * 2))):=fun j hj=>by rw [K0 hj];simp
    have adi:=ad i hil
    have fa0:∀ q o,B7 (.c (.p q o)) 0=some (.c (.p q o)):=fun q o=>by simp [B7]
    have fa1:∀ q o,B7 (.c (.p q o)) 1=some (.c (.p q (o + 1))):=fun q o=>by simp [B7]
    have fa2:∀ q,B7 (.c (.p q 0)) 2=some (.c (.p q 2)):=fun q=>by simp [B7]
    have g1:∀ j (hj:j < S.length) t,A8 (h ++ t) (.c (.p id (j * 2)))=some (.c (.s S[j])):=fun j hj t=>H8 (C0 (hlow.rd h3)) (by rw [(B6n (by rw [ml];exact hj)).1];simp) rfl
    have g2:∀ j (hj:j < S.length) t,A8 (h ++ t) (.c (.p id (j * 2 + 1)))=some (.c (.i .i64 (F S[j]))):=fun j hj t=>H8 (C0 (hlow.rd h3)) (by rw [(B6n (by rw [ml];exact hj)).2];simp) rfl
    have g10:=g1 i hil []
    rw [List.append_nil] at g10
    have g1i:=g1 i hil
    have g2i:=g2 i hil
    obtain ⟨hs1,⟨pb,pk,pi'⟩,hp,hpF⟩:=hS S[i] (List.getElem_mem hil)
    dsimp only at hpF
    subst hpF
    have hL:=A33 (n:=n) (m:=m) (k:=k) (l:=l) (s:=s) (p:=p) (nm:=S[i]) (h:=h ++ [none]) hD hd ((hv.since hlow).more _) (by omega)
    rw [hp] at hL
    have st:B1 (h ++ [some (Row.mk [Cell.i .i64 0,.i .i64 0,.i .i64 0] true)]) 3 (.c (.p h.length 0)) (.a (D9 (some (pb,pk,F S[i]))))=some (h ++ [some ⟨D9 (some (pb,pk,F S[i])),true⟩]):=by rw [T9];rfl
    have lp:A8 (h ++ [some (Row.mk (D9 (some (pb,pk,F S[i]))) true)]) (.c (.p h.length 2))=some (.c (.i .i64 (F S[i]))):=by rw [A05];rfl
    have w1:=F4 (show i + 1 < 9223372036854775808 by omega)
    obtain ⟨M',h',f1,f2⟩:=C3q hD hd hv h1 h2 h3 hup hS h62 e (i + 1) M (b || decide (S[i]=nm)) (h ++ [some (Row.mk (D9 (some (pb,pk,F S[i]))) true)]) (by omega) (by omega) (hlow.new _)
    refine ⟨M',h',?_,f2⟩
    have eb:(b || decide (nm ∈ S.drop i))=((b || decide (S[i]=nm)) || decide (nm ∈ S.drop (i + 1))):=by
      rw [List.drop_eq_getElem_cons hil,Bool.or_assoc]
      congr 1
      apply Bool.eq_iff_iff.2
      rw [Bool.or_eq_true,decide_eq_true_eq,decide_eq_true_eq,decide_eq_true_eq,List.mem_cons]
      exact ⟨fun h=>h.elim (fun e=>.inl e.symm) .inr,fun h=>h.elim (fun e=>.inl e.symm) .inr⟩
    rw [eb,← f1]
    rw [B5x]
    have hne:¬ ¬ F S[i]=F S[i]:=fun h=>h rfl
    by_cases ci:(0:Int) < (i:Int)
    · have hi1:i - 1 < S.length:=by omega
      have w2:IntKind.wrap .i64 ((i:Int) - 1)=((i - 1:Nat):Int):=by rw [wrap_i64 (by omega) (by omega)];omega
      have adj:=ad (i - 1) hi1
      have g1j:=g1 (i - 1) hi1
      have hb:F3 S[i - 1] S[i]=true:=by
        have:=List.pairwise_iff_getElem.1 hup (i - 1) i hi1 hil (by omega)
        exact this
      cases b with
      | true=>simp only [esc,c0,l40,l110,adi,fa0,fa1,fa2,g10,hL,st,Option.isSome_some,lp,g1i,g2i,eq_self,not_true_eq_false,decide_false,ci,w2,adj,g1j,B1r,hb,w1,Bool.true_or,Bool.false_or]
      | false=>simp only [esc,c0,l40,l110,adi,fa0,fa1,fa2,g10,hL,st,Option.isSome_some,lp,g1i,g2i,eq_self,not_true_eq_false,decide_false,ci,w2,adj,g1j,B1r,hb,w1,Bool.true_or,Bool.false_or]
    · cases b with
      | true=>simp only [esc,c0,l40,l110,adi,fa0,fa1,fa2,g10,hL,st,Option.isSome_some,lp,g1i,g2i,eq_self,not_true_eq_false,decide_false,ci,w1,Bool.true_or,Bool.false_or]
      | false=>simp only [esc,c0,l40,l110,adi,fa0,fa1,fa2,g10,hL,st,Option.isSome_some,lp,g1i,g2i,eq_self,not_true_eq_false,decide_false,ci,w1,Bool.true_or,Bool.false_or]
theorem C4r {x7 x9 x10 x11 x16:Val} {h:A0} {sid:Nat} {N:List Nat} (hr:rd h sid=some ⟨encI (N.map fun (x:Nat)=>(x:Int)),true⟩) (hN:∀ x ∈ N,x ≤ 7) (h62:N.length ≤ 32):∀ (e i M a:Nat),i + e=N.length → e < M → a ≤ 7 * i →
    ∃ M',A34 q M x7 x9 x10 x11 x16 (.c (.i .i64 (a:Int))) (.c (.sl sid 0 N.length 1)) (.c (.i .i64 (i:Int))) h=A34 q (M' + 1) x7 x9 x10 x11 x16 (.c (.i .i64 ((a + (N.drop i).sum:Nat):Int))) (.c (.sl sid 0 N.length 1)) (.c (.i .i64 (N.length:Int))) h
  | e,i,0,a,_,hm,_=>by omega
  | 0,i,M + 1,a,hi,hm,ha=>by
    have e0:i=N.length:=by omega
    subst e0
    exact ⟨M,by simp⟩
  | e + 1,i,M + 1,a,hi,hm,ha=>by
    have hil:i < N.length:=by omega
    have c0:(i:Int) < (N.length:Nat):=by omega
    have ad:D1 1 (.c (.sl sid 0 N.length 1)) (.c (.i .i64 (i:Int)))=some (.c (.p sid i)):=by rw [K0 hil];simp
    have l1:A8 h (.c (.p sid i))=some (.c (.i .i64 (N[i]:Nat))):=H8 hr (by rw [V9,List.getElem?_map,List.getElem?_eq_getElem hil];rfl) rfl
    have h7:=hN N[i] (List.getElem_mem hil)
    have w1:=F4 (show i + 1 < 9223372036854775808 by omega)
    have w2:IntKind.wrap .i64 ((a:Int) + (N[i]:Nat))=((a + N[i]:Nat):Int):=by rw [wrap_i64 (by omega) (by omega)];omega
    obtain ⟨M',f1⟩:=C4r hr hN h62 e (i + 1) M (a + N[i]) (by omega) (by omega) (by omega)
    refine ⟨M',?_⟩
    rw [B5y,List.drop_eq_getElem_cons hil,List.sum_cons,← Nat.add_assoc,← f1]
    simp only [I0,A12,T7,c0,decide_true,Y2,ad,l1,A0H,w2,w1]
end
theorem D6o {v:Val} {D:Dev} {ino:Int} {nm:List UInt8} {h:A0} (hv:Has h v 256 D.length (C9 D)) (hD:okD D):A8W [v,.c (.i .i64 ino),.c (.s nm)] h=some (.c (.b true),h):=by
  have key:∀ g,Has g v 256 D.length (C9 D) → ∃ g',A3f 300 [v,.c (.i .i64 ino),.c (.s nm)] g=some (.c (.b true),g'):=by
    intro g hv
    have hl:=hv.len
    have n13:¬ (13:Int)=0:=by decide
    rw [A8H]
    by_cases c0:(60:Int) < (D.length:Nat)
    · exact ⟨_,by simp only [esc,hl,c0,A8t] <;> rfl⟩
    by_cases c60:(60:Int) < (nm.length:Nat)
    · exact ⟨_,by simp only [esc,hl,c0,c60,A8t] <;> rfl⟩
    · have hT:=H7L hv hD (by omega)
      have hH:Has (g ++ [some ⟨C9 D,true⟩]) (.c (.sl g.length 0 D.length 256)) 256 D.length (C9 D):=Has.tr (by simp) (V8 hD) (A4p D)
      cases cd:A1c D with
      | false =>
        obtain ⟨t,hO⟩:=H7Z hH hD cd
        obtain ⟨H,hHe⟩:∃ H,H=g ++ [some (Row.mk (C9 D) true)] ++ t:=⟨_,rfl⟩
        rw [← hHe] at hO
        have hS5:B1 (H ++ [some (Row.mk [.i .i64 0,.i .i64 0,.i .u64 0,.nf] true)]) 4 (.c (.p H.length 0)) (.a (vwC 0 0 0 .nf))=some (H ++ [some (Row.mk (vwC 0 0 0 .nf) true)]):=by rw [T9];rfl
        generalize vwC 0 0 0 .nf=V at *
        exact ⟨_,by simp only [esc,esh,Nat.reduceAdd,Nat.reduceMul,Nat.reduceLT,eq_self,hl,c0,c60,hT,hO,hS5,n13,A8t] <;> rfl⟩
      | true =>
        obtain ⟨f,t,hO,hV⟩:=C5L hH hD cd (by omega)
        obtain ⟨H,hHe⟩:∃ H,H=g ++ [some (Row.mk (C9 D) true)] ++ t:=⟨_,rfl⟩
        rw [← hHe] at hO hV
        generalize A6r D=n at *
        generalize A6q D=m at *
        have hS5:B1 (H ++ [some (Row.mk [.i .i64 0,.i .i64 0,.i .u64 0,.nf] true)]) 4 (.c (.p H.length 0)) (.a (vwC D.length n m f))=some (H ++ [some (Row.mk (vwC D.length n m f) true)]):=by rw [T9];rfl
        have hVl:(vwC D.length n m f).length=4:=rfl
        have hI:=C5A (n:=n) (m:=m) (i:=ino) (h:=H ++ [some (Row.mk (vwC D.length n m f) true)]) hD (hV.more _)
        obtain ⟨l,s,p,d,ei,hd⟩:=B8I D n ino
        rw [ei] at hI
        generalize kdV D n ino=k at *
        have hIl:(A7 k l s p d).length=11:=by simp [A7,F6,hd]
        have hnm:nm.length < 9223372036854775807:=by omega
        have hLi:=A9F (n:=n) (m:=m) (k:=k) (l:=l) (s:=s) (p:=p) (h:=H ++ [some (Row.mk (vwC D.length n m f) true),some (Row.mk (A7 k l s p d) true)]) hD hd (hV.more _)
        obtain ⟨B,hB⟩:∃ B,B=H ++ [some (Row.mk (vwC D.length n m f) true),some (Row.mk (A7 k l s p d) true),some (Row.mk (E1 (L9 D n k d)) true)]:=⟨_,rfl⟩
        have lB:B.length=H.length + 3:=by rw [hB];simp
        have hVB:IsView B f D:=by rw [hB];exact hV.more _
        have hN:=B0n (D:=D) (n:=n) (k:=k) (d:=d) (s:=E5 D n k d)
        have hsl:=C4k (C1S (D:=D) (n:=n) (k:=k) (d:=d))
        have hEl:=F8V (D:=D) (n:=n) (k:=k) (d:=d)
        have hLs:=C0d (D:=D) (D7 D n k d)
        have hbl:=A6j (D:=D) (n:=n) (k:=k) (d:=d)
        have hLl:(Q3 D (D7 D n k d)).length=(D7 D n k d).length:=by simp [Q3]
        have h224:(E5 D n k d).length ≤ 224:=by
          have e1:(E5 D n k d).length=(Q3 D (D7 D n k d)).sum:=by rw [hLs];rfl
          have gen:∀ N:List Nat,(∀ x ∈ N,x ≤ 7) → N.sum ≤ 7 * N.length:=by
            intro N
            induction N with
            | nil=>intro _;simp
            | cons x N ih =>
              intro hx
              have h1:=ih fun y hy=>hx y (List.mem_cons_of_mem _ hy)
              have h2:=hx x (List.mem_cons_self ..)
              rw [List.sum_cons,List.length_cons];omega
          have:=gen _ (C0c (D:=D) (L:=D7 D n k d))
          omega
        have eSl:(L9 D n k d).length=(H4 (E6 D n k d (E5 D n k d))).length:=by simp [L9]
        have eLe:L9 D n k d=(H4 (E6 D n k d (E5 D n k d))).map fun s=>(s,A0g D n k d s):=rfl
        have hSf:∀ s ∈ H4 (E6 D n k d (E5 D n k d)),s.length ≤ 1000 ∧ ∃ p,I4 D n k d s=some p ∧ p.2.2=A0g D n k d s:=by
          intro s hs
          rw [A8h] at hs
          obtain ⟨p,hp⟩:=Option.isSome_iff_exists.1 (C1R.1 hs)
          refine ⟨?_,p,hp,by unfold A0g;rw [hp];rfl⟩
          have hm:=C0g hp
          unfold E5 Z9 at hm
          obtain ⟨b,_,hb⟩:=List.mem_flatMap.1 hm
          unfold A0X at hb
          obtain ⟨x,hx,hxe⟩:=List.mem_map.1 hb
          have:=B0F (B0j hx).1
          have e2:x.2.1=s:=congrArg Prod.snd hxe
          rw [e2] at this
          omega
        obtain ⟨M',h',f1,f2⟩:=C3q (D:=D) (n:=n) (m:=m) (k:=k) (l:=l) (s:=s) (p:=p) (d:=d) (f:=f) (nm:=nm) (B:=B) (pv:=H.length) (pi:=H.length + 1) (id:=H.length + 2) (q:=300) (S:=H4 (E6 D n k d (E5 D n k d))) (F:=A0g D n k d) hD hd hVB (by rw [hB];simp) (by rw [hB];simp) (by rw [hB,← eLe];simp) (C4l _) hSf (by omega)
          (H4 (E6 D n k d (E5 D n k d))).length 0 300 false B (by omega) (by omega) (Low.refl (Nat.le_refl _))
        rw [Bool.false_or,List.drop_zero] at f1
        have hls:decide (nm ∈ H4 (E6 D n k d (E5 D n k d)))=(I4 D n k d nm).isSome:=by
          apply Bool.eq_iff_iff.2
          rw [decide_eq_true_eq,A8h,C1R]
        rw [hls] at f1
        have y1:∀ t,A5 (h' ++ t) 4 (.c (.p H.length 0))=some (.a (vwC D.length n m f)):=fun t=>G1 (C0 (f2.rd (by rw [hB];simp))) rfl
        have y2:∀ t,A5 (h' ++ t) 11 (.c (.p (H.length + 1) 0))=some (.a (A7 k l s p d)):=fun t=>G1 (C0 (f2.rd (by rw [hB];simp))) hIl
        have y10:=y1 []
        have y20:=y2 []
        rw [List.append_nil] at y10 y20
        have hV':IsView h' f D:=hVB.since f2
        have x1:=A33 (n:=n) (m:=m) (k:=k) (l:=l) (s:=s) (p:=p) (nm:=nm) (h:=h') hD hd hV' hnm
        have st:B1 (h' ++ [some (Row.mk [Cell.i .i64 0,.i .i64 0,.i .i64 0] true)]) 3 (.c (.p h'.length 0)) (.a (D9 (I4 D n k d nm)))=some (h' ++ [some ⟨D9 (I4 D n k d nm),true⟩]):=by
          rw [T9];cases I4 D n k d nm <;> rfl
        have x2:=D8n (n:=n) (m:=m) (k:=k) (l:=l) (s:=s) (p:=p) (h:=h' ++ [some ⟨D9 (I4 D n k d nm),true⟩]) hD hd (hV'.more _)
        rw [F8W,← hLl] at x2
        obtain ⟨M2,f3⟩:=C4r (q:=300) (x7:=.c (.p H.length 0)) (x9:=.c (.p (H.length + 1) 0)) (x10:=.c (.sl (H.length + 2) 0 (H4 (E6 D n k d (E5 D n k d))).length 2)) (x11:=.c (.b (I4 D n k d nm).isSome)) (x16:=.c (.b (I4 D n k d nm).isSome)) (h:=h' ++ [some ⟨D9 (I4 D n k d nm),true⟩] ++ [some ⟨encI ((Q3 D (D7 D n k d)).map fun (x:Nat)=>(x:Int)),true⟩]) (sid:=(h' ++ [some (Row.mk (D9 (I4 D n k d nm)) true)]).length) (N:=Q3 D (D7 D n k d)) M9 C0c (by omega) (Q3 D (D7 D n k d)).length 0 300 0 (by omega) (by omega) (by omega)
        rw [List.drop_zero,Nat.zero_add,hLs] at f3
        obtain ⟨v3,t3,b1,b2,_⟩:=B4Q (n:=n) (m:=m) (k:=k) (l:=l) (s:=s) (p:=p) (h:=h' ++ [some ⟨D9 (I4 D n k d nm),true⟩] ++ [some ⟨encI ((Q3 D (D7 D n k d)).map fun (x:Nat)=>(x:Int)),true⟩]) hD hd ((hV'.more _).more _)
        have b3:=b2.len
        have cS:¬ ((H4 (E6 D n k d (E5 D n k d))).length:Int) < ((H4 (E6 D n k d (E5 D n k d))).length:Nat):=by omega
        have cN:¬ ((Q3 D (D7 D n k d)).length:Int) < ((Q3 D (D7 D n k d)).length:Nat):=by omega
        have wS:IntKind.wrap .i64 (((H4 (E6 D n k d (E5 D n k d))).length:Int) + ((M1 D n k d (E5 D n k d)).length:Nat))=(((E5 D n k d).length:Nat):Int):=by
          rw [wrap_i64 (by omega) (by omega)];omega
        have eA:(Z9 D (D7 D n k d)).length=(E5 D n k d).length:=rfl
        rw [eA] at f3
        have z0:((0:Nat):Int)=0:=rfl
        rw [z0] at f1 f3
        have beq:∀ b:Bool,(b == b)=true:=by decide
        rw [eSl] at hLi
        have l11z:(A7 0 0 0 0 (zI 7)).length=11:=rfl
        refine ⟨h' ++ [some ⟨D9 (I4 D n k d nm),true⟩] ++ [some ⟨encI ((Q3 D (D7 D n k d)).map fun (x:Nat)=>(x:Int)),true⟩] ++ t3,?_⟩
        have first:A3f 300 [v,.c (.i .i64 ino),.c (.s nm)] g=A2Z 300 300 (.c (.s nm)) (.c (.p H.length 0)) (.c (.p (H.length + 1) 0)) (.c (.sl (H.length + 2) 0 (H4 (E6 D n k d (E5 D n k d))).length 2)) (.c (.b false)) (.c (.i .i64 0)) B:=by
          rw [A8H,A67]
          have hB2:H ++ [some (Row.mk (vwC D.length n m f) true),some (Row.mk (A7 k l s p d) true)] ++ [some (Row.mk (E1 (L9 D n k d)) true)]=B:=by rw [hB];simp
          rw [hB2] at hLi
          generalize (H4 (E6 D n k d (E5 D n k d))).length=sl at *
          generalize A7 0 0 0 0 (zI 7)=z0 at *
          generalize A7 k l s p d=I at *
          generalize vwC D.length n m f=V at *
          simp only [List.length_append,List.length_cons,List.length_nil,Nat.zero_add,Nat.reduceAdd] at hLi
          simp only [esc,esh,Nat.reduceAdd,Nat.reduceMul,Nat.reduceLT,eq_self,hl,c0,c60,hT,hO,hS5,hVl,hI,l11z,hIl,hLi]
        rw [← A8H,first,f1,B5x]
        simp only [I0,A12,T7,cS,decide_false,A0d,y10,y20,x1,A0K,List.getElem?_cons_zero,List.getElem?_cons_succ,Option.map_some,A0Q,A0P,st,y1,y2,x2]
        rw [f3,B5y]
        simp only [List.append_assoc] at b1 ⊢
        simp only [I0,A12,T7,cN,decide_false,A0d,B1u,beq,A6U,y1,y2,b1,b3,A0H,wS,B1p,eq_self,decide_true,A07,cond_true,A8t]
  obtain ⟨g',e⟩:=key (ro h) hv.ro
  exact C7P e rfl
end Go.Proofs.Ytdgggnlbdoiloaa
end
section
namespace Go.Proofs.Ytdgggnlbdoiloaa
open Go
def A8j:List Char:=(([104,97,114,110,101,115,115,32,102,53,49,98,54,51,100,100,54,97,57,49,52,55,49,97,52,49,55,51,48,53,98,100,50,53,100,51,52,98,48,51,50,50,54,51,53,54,57,49,49,101,54,51,100,55,55,98,99,101,98,51,101,49,50,56,100,100,49,50,49,55,53,51,32,99,117,116,32,97,116,32,101,115,99,104,101,97,116,47,101,115,99,104,101,97,116,108,97,119,50,51,46,70,114,101,97,100,83,112,97,110,115,32,101,115,99,104,101,97,116,47,101,115,99,104,101,97,116,108,97,119,50,51,46,70,114,101,97,100,79,110,99,101,32,101,115,99,104,101,97,116,47,101,115,99,104,101,97,116,108,97,119,50,51,46,70,114,101,97,100,80,97,114,116,115,32,101,115,99,104,101,97,116,47,101,115,99,104,101,97,116,108,97,119,50,50,46,70,109,97,112,79,119,110,115,32,101,115,99,104,101,97,116,47,101,115,99,104,101,97,116,108,97,119,50,49,46,86,105,101,119,82,101,97,100,115,32,101,115,99,104,101,97,116,47,101,115,99,104,101,97,116,108,97,119,50,49,46,86,105,101,119,66,97,99,107,32,101,115,99,104,101,97,116,47,101,115,99,104,101,97,116,108,97,119,50,49,46,86,105,101,119,79,110,32,101,115,99,104,101,97,116,47,101,115,99,104,101,97,116,108,97,119,50,50,46,70,109,97,112,68,105,114,115,32,101,115,99,104,101,97,116,47,101,115,99,104,101,97,116,108,97,119,50,52,46,68,114,101,97,100,79,110,99,101]:List Nat).map Char.ofNat)
set_option maxRecDepth 100000
theorem H0v:ownKnob Try.prog.godebug=none:=by kernel_rfl
theorem F8J:laidOutB Try.prog=true:=by kernel_rfl
theorem start_eq:Try.prog.initOrder=String.ofList A8j:=by kernel_rfl
theorem H29:Try.prog.initOrder.toList=A8j:=by rw [start_eq,String.toList_ofList]
def startRest:List (List Char):=(([[99,117,116],[97,116],[101,115,99,104,101,97,116,47,101,115,99,104,101,97,116,108,97,119,50,51,46,70,114,101,97,100,83,112,97,110,115],[101,115,99,104,101,97,116,47,101,115,99,104,101,97,116,108,97,119,50,51,46,70,114,101,97,100,79,110,99,101],[101,115,99,104,101,97,116,47,101,115,99,104,101,97,116,108,97,119,50,51,46,70,114,101,97,100,80,97,114,116,115],[101,115,99,104,101,97,116,47,101,115,99,104,101,97,116,108,97,119,50,50,46,70,109,97,112,79,119,110,115],[101,115,99,104,101,97,116,47,101,115,99,104,101,97,116,108,97,119,50,49,46,86,105,101,119,82,101,97,100,115],[101,115,99,104,101,97,116,47,101,115,99,104,101,97,116,108,97,119,50,49,46,86,105,101,119,66,97,99,107],[101,115,99,104,101,97,116,47,101,115,99,104,101,97,116,108,97,119,50,49,46,86,105,101,119,79,110],[101,115,99,104,101,97,116,47,101,115,99,104,101,97,116,108,97,119,50,50,46,70,109,97,112,68,105,114,115],[101,115,99,104,101,97,116,47,101,115,99,104,101,97,116,108,97,119,50,52,46,68,114,101,97,100,79,110,99,101]]:List (List Nat)).map (fun l=>l.map Char.ofNat))
theorem H25:wordsSigns A8j=(([104,97,114,110,101,115,115]:List Nat).map Char.ofNat) :: (([102,53,49,98,54,51,100,100,54,97,57,49,52,55,49,97,52,49,55,51,48,53,98,100,50,53,100,51,52,98,48,51,50,50,54,51,53,54,57,49,49,101,54,51,100,55,55,98,99,101,98,51,101,49,50,56,100,100,49,50,49,55,53,51]:List Nat).map Char.ofNat) :: startRest:=by kernel_rfl
theorem H3e:isSumSigns ((([102,53,49,98,54,51,100,100,54,97,57,49,52,55,49,97,52,49,55,51,48,53,98,100,50,53,100,51,52,98,48,51,50,50,54,51,53,54,57,49,49,101,54,51,100,55,55,98,99,101,98,51,101,49,50,56,100,100,49,50,49,55,53,51]:List Nat).map Char.ofNat))=true:=by decide +kernel
theorem E8Z : ((([104, 97, 114, 110, 101, 115, 115] : List Nat).map Char.ofNat) == "harness".toList) = true := by decide +kernel
theorem C95 (h s : List Char) (r : List (List Char)) (h1 : (h == "harness".toList) = true) (h2 : isSumSigns s = true) : behindMainWord (h :: s :: r) = r := by
  unfold behindMainWord
  simp only [h1,h2,Bool.true_or,Bool.true_and,if_true]
theorem C94:behindMainWord (wordsSigns A8j)=startRest:=by rw [H25];exact C95 _ _ _ E8Z H3e
theorem start_words:behindMainWord (wordsSigns Try.prog.initOrder.toList)=startRest:=by rw [H29];exact C94
def H28:List (List Char):=startRest.drop 1
theorem B0G : startRest = "cut".toList :: H28 := by decide +kernel
theorem F8Z {P : Program} {rest : List (List Char)} (h : behindMainWord (wordsSigns P.initOrder.toList) = "cut".toList :: rest) : P.make = some .cut := by
  have e1 : ("cut".toList == "gc".toList) = false := by decide +kernel
  have e2 : ("cut".toList == "spec".toList) = false := by decide +kernel
  have e3 : ("cut".toList == "cut".toList) = true := by decide +kernel
  unfold Program.make
  rw [h]
  simp only [e1,e2,e3,Bool.or_self,Bool.true_or,Bool.false_eq_true,if_false,if_true]
theorem F80:Try.prog.make=some .cut:=F8Z (start_words.trans B0G)
theorem C4q {w:List Char} {ws:List (List Char)}:∀ os:List String,(os.all fun o=>!(w == o.toList))=true → stripLifts os (w :: ws)=([],w :: ws)
  | [],_=>rfl
  | o :: os,h=>by
    simp only [List.all_cons,Bool.and_eq_true,Bool.not_eq_true'] at h
    unfold stripLifts
    rw [h.1,if_neg (by simp)]
    exact C4q os h.2
theorem C4p (rest : List (List Char)) : stripLifts liftWords ("cut".toList :: rest) = ([], "cut".toList :: rest) := C4q _ (by decide +kernel)
theorem F8K:Try.prog.laysLater=false:=by kernel_rfl
theorem H1Z:Try.prog.bearsReflect=false:=by kernel_rfl
theorem D6l:Try.prog.doorFits []=true:=by kernel_rfl
theorem E5V {P : Program} {rest : List (List Char)} (h : behindMainWord (wordsSigns P.initOrder.toList) = "cut".toList :: rest) (h1 : P.laysLater = false) (h2 : P.bearsReflect = false) (h3 : P.doorFits [] = true) : P.mayEnter = true := by
  unfold Program.mayEnter
  rw [h]
  simp only [C4p,h1,h2,h3]
  simp
theorem F82:Try.prog.mayEnter=true:=E5V (start_words.trans B0G) F8K H1Z D6l
theorem F8Q {P : Program} {rest : List (List Char)} (h : behindMainWord (wordsSigns P.initOrder.toList) = "cut".toList :: rest) : P.liftsFinal = false := by
  unfold Program.liftsFinal Program.headLifts
  rw [h]
  simp only [C4p]
  simp
theorem F8R:Try.prog.liftsFinal=false:=F8Q (start_words.trans B0G)
end Go.Proofs.Ytdgggnlbdoiloaa
end
