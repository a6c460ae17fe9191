/- What the proof of this claim leans on, part 5. -/
import Derived.Test.YteckncopbicmcaaFTreePathsp4
set_option linter.all false
section
namespace Go.Proofs.Yteckncopbicmcaa
open Go Go.Esc
def G1 (t:List Nd) (a:Int):List Ent:=match J3 t a with
  | some x=>if x.kind=2 then x.names else []
  | none=>[]
def G3 (t:List Nd):Nat:=(t.map fun x=>x.names.length).sum
def small (t:List Nd):Prop:=t.length ≤ 1000000 ∧ ∀ x ∈ t,x.data.length ≤ 1000000 ∧ x.names.length ≤ 1000000
abbrev I7:=List (Int × List UInt8) × F7
def T5 (q:List UInt8) (s:I7) (e:Ent):I7:=(if e.2 ∈ s.1.map (·.1) then s.1 else s.1 ++ [(e.2,q ++ 47 :: e.1)],s.2 ++ [q ++ 47 :: e.1])
def A0h (q:List UInt8) (s:I7) (es:List Ent):I7:=es.foldl (T5 q) s
def ways (N:Int → List Ent):Nat → Nat → I7 → I7
  | 0,_,s=>s
  | e + 1,i,s=>if h:i < s.1.length then ways N e (i + 1) (A0h (s.1[i]).2 s (N (s.1[i]).1)) else s
def outW (t:List Nd):F7:=(ways (G1 t) (G3 t + 2) 0 ([(1,[])],[])).2
def V9 (t:List Nd):F7:=O7 (outW t)
theorem A8T {q:List UInt8} {s:I7} {e:Ent} {es:List Ent}:A0h q s (e :: es)=A0h q (T5 q s e) es:=rfl
theorem D0I {q:List UInt8} {s:I7} {e:Ent}:s.1 <+: (T5 q s e).1:=by
  unfold T5
  dsimp only
  split
  · exact List.prefix_refl _
  · exact List.prefix_append _ _
structure WayI (c:Nat) (N:Int → List Ent) (i:Nat) (s:I7):Prop where
  nd:(s.1.map (·.1)).Nodup
  len:s.1.length ≤ 1 + s.2.length
  out:s.2.length=((s.1.take i).map fun p=>(N p.1).length).sum
  txt:∀ (j:Nat) (p:Int × List UInt8),s.1[j]? = some p → p.2.length ≤ j * (c + 1)
  hi:i ≤ s.1.length
theorem WayI.one {c:Nat} {N:Int → List Ent}:WayI c N 0 ([(1,[])],[]) :=
  ⟨by simp,by simp,rfl,fun j p h=>by
    cases j with
    | zero=>simp at h;subst h;simp
    | succ j=>simp at h,by simp⟩
structure WayJ (c i:Nat) (q:List UInt8) (s:I7) (k:Nat) (s':I7):Prop where
  nd:(s'.1.map (·.1)).Nodup
  pre:s.1 <+: s'.1
  len:s'.1.length ≤ 1 + s'.2.length
  out:s'.2.length=s.2.length + k
  txt:∀ (j:Nat) (p:Int × List UInt8),s'.1[j]? = some p → p.2.length ≤ j * (c + 1)
theorem WayJ.step {c i:Nat} {q:List UInt8} {s s':I7} {k:Nat} {e:Ent} (h:WayJ c i q s k s') (hi:i < s.1.length) (hq:q.length ≤ i * (c + 1)) (he:e.1.length ≤ c):WayJ c i q s (k + 1) (T5 q s' e):=by
  have hpl:=h.pre.length_le
  refine ⟨?_,h.pre.trans D0I,?_,?_,fun j p hj=>?_⟩
  · unfold T5
    dsimp only
    split
    · exact h.nd
    · rename_i hn
      rw [List.map_append,List.nodup_append]
      exact ⟨h.nd,by simp,fun a ha b hb e=>by simp at hb;subst hb;subst e;exact hn ha⟩
  · have:=h.len
    unfold T5
    dsimp only
    split <;> simp <;> omega
  · have:=h.out
    unfold T5
    simp;omega
  · unfold T5 at hj
    dsimp only at hj
    split at hj
    · exact h.txt j p hj
    · by_cases hl:j < s'.1.length
      · rw [List.getElem?_append_left hl] at hj;exact h.txt j p hj
      · rw [List.getElem?_append_right (by omega)] at hj
        cases hjj:j - s'.1.length with
        | zero =>
          rw [hjj] at hj
          simp at hj
          subst hj
          have h1:i * (c + 1) + (c + 1) ≤ j * (c + 1):=by
            rw [← Nat.succ_mul]
            exact Nat.mul_le_mul_right _ (by omega)
          simp
          omega
        | succ y=>rw [hjj] at hj;simp at hj
theorem WayJ.all {c i:Nat} {q:List UInt8} {s:I7} (hi:i < s.1.length) (hq:q.length ≤ i * (c + 1)):∀ (es:List Ent) (k:Nat) (s':I7),(∀ e ∈ es,e.1.length ≤ c) → WayJ c i q s k s' → WayJ c i q s (k + es.length) (A0h q s' es)
  | [],k,s',_,h=>h
  | e :: es,k,s',he,h=>by
    rw [A8T,List.length_cons,show k + (es.length + 1)=k + 1 + es.length by omega]
    exact WayJ.all hi hq es (k + 1) _ (fun x hx=>he x (by simp [hx])) (h.step hi hq (he e (by simp)))
theorem WayI.begin {c:Nat} {N:Int → List Ent} {i:Nat} {s:I7} (h:WayI c N i s) (q:List UInt8):WayJ c i q s 0 s :=
  ⟨h.nd,List.prefix_refl _,h.len,by omega,h.txt⟩
theorem C9T {α:Type} {l m:List α} {i:Nat} (h:l <+: m) (hi:i ≤ l.length):m.take i=l.take i:=by
  obtain ⟨t,rfl⟩:=h
  rw [List.take_append_of_le_length hi]
theorem WayI.step {c:Nat} {N:Int → List Ent} (hN:∀ a,∀ e ∈ N a,e.1.length ≤ c) {i:Nat} {s:I7} (h:WayI c N i s) (hi:i < s.1.length):WayI c N (i + 1) (A0h (s.1[i]).2 s (N (s.1[i]).1)):=by
  have hq:(s.1[i]).2.length ≤ i * (c + 1):=h.txt i _ (List.getElem?_eq_getElem hi)
  have J:=WayJ.all hi hq (N (s.1[i]).1) 0 s (hN _) (h.begin _)
  have hpl:=J.pre.length_le
  refine ⟨J.nd,J.len,?_,J.txt,by omega⟩
  rw [J.out,h.out,List.take_add_one]
  have h2:(A0h (s.1[i]).2 s (N (s.1[i]).1)).1[i]? = some s.1[i]:=List.prefix_iff_getElem?.1 J.pre i hi
  rw [h2,C9T J.pre (by omega),List.map_append,List.sum_append,Option.toList_some,List.map_cons,List.map_nil,List.sum_cons,List.sum_nil,Nat.zero_add,Nat.add_zero]
theorem B5s {K:List Int} (hK:K.Nodup):∀ t:List Nd,(K.map fun a=>(G1 t a).length).sum ≤ G3 t
  | []=>by
    have:∀ K:List Int,(K.map fun a=>(G1 [] a).length).sum=0:=by
      intro K
      induction K with
      | nil=>rfl
      | cons a K ih=>rw [List.map_cons,List.sum_cons,ih];rfl
    rw [this];exact Nat.zero_le _
  | x :: t=>by
    have key:∀ K:List Int,K.Nodup → (K.map fun a=>(G1 (x :: t) a).length).sum ≤ (if x.ino ∈ K then x.names.length else 0) + (K.map fun a=>(G1 t a).length).sum:=by
      intro K hK
      induction K with
      | nil=>simp
      | cons a K ih =>
        have ih:=ih hK.of_cons
        rw [List.map_cons,List.sum_cons,List.map_cons,List.sum_cons]
        by_cases e:x.ino=a
        · have hn:x.ino ∉ K:=by rw [e];exact (List.nodup_cons.1 hK).1
          rw [if_neg hn] at ih
          rw [if_pos (by simp [e])]
          have h1:(G1 (x :: t) a).length ≤ x.names.length:=by
            unfold G1 J3
            rw [List.find?_cons_of_pos (by simpa using e)]
            dsimp only
            split <;> simp
          omega
        · have h1:G1 (x :: t) a=G1 t a:=by
            unfold G1 J3
            rw [List.find?_cons_of_neg (by simpa using e)]
          rw [h1]
          have h2:(x.ino ∈ a :: K) ↔ x.ino ∈ K:=by simp [e]
          simp only [h2]
          omega
    have h1:=key K hK
    have h2:=B5s hK t
    have h3:G3 (x :: t)=x.names.length + G3 t:=by simp [G3]
    rw [h3]
    split at h1 <;> omega
theorem WayI.tot {c:Nat} {t:List Nd} {i:Nat} {s:I7} (h:WayI c (G1 t) i s):s.2.length ≤ G3 t ∧ s.1.length ≤ G3 t + 1:=by
  have h1:=h.out
  have h2:(((s.1.take i).map (·.1)).map fun a=>(G1 t a).length).sum ≤ G3 t:=by
    refine B5s ?_ t
    rw [List.map_take]
    exact h.nd.sublist (List.take_sublist _ _)
  rw [List.map_map] at h2
  have h3:=h.len
  have h4:s.2.length ≤ G3 t:=by rw [h1];exact h2
  omega
theorem B9S {c:Nat} {t:List Nd} (hN:∀ a,∀ e ∈ G1 t a,e.1.length ≤ c):∀ (e i:Nat) (s:I7),WayI c (G1 t) i s → ∃ j,WayI c (G1 t) j (ways (G1 t) e i s)
  | 0,i,s,h=>⟨i,h⟩
  | e + 1,i,s,h=>by
    unfold ways
    by_cases hl:i < s.1.length
    · rw [dif_pos hl];exact B9S hN e (i + 1) _ (h.step hN hl)
    · rw [dif_neg hl];exact ⟨i,h⟩
theorem B7Z {c:Nat} {t:List Nd} (hN:∀ a,∀ e ∈ G1 t a,e.1.length ≤ c):(outW t).length ≤ G3 t:=by
  obtain ⟨j,h⟩:=B9S hN (G3 t + 2) 0 _ WayI.one
  exact h.tot.1
def O5:List UInt8 → List UInt8 → F7
  | [],acc=>[acc]
  | c :: r,acc=>if c=47 then acc :: O5 r [] else O5 r (acc ++ [c])
def T3:List UInt8 → F7
  | []=>[]
  | _ :: p=>O5 p []
theorem B2a {r:List UInt8}:∀ (l acc:List UInt8),O5 (l ++ 47 :: r) acc=O5 l acc ++ O5 r []
  | [],acc=>by simp [O5]
  | c :: l,acc=>by
    rw [List.cons_append,O5,O5]
    split
    · rw [B2a l []];rfl
    · exact B2a l _
theorem B2c:∀ (l acc:List UInt8),47 ∉ l → O5 l acc=[acc ++ l]
  | [],acc,_=>by simp [O5]
  | c :: l,acc,h=>by
    rw [List.mem_cons,not_or] at h
    rw [O5,if_neg (fun e=>h.1 e.symm),B2c l _ h.2]
    simp
theorem C9k {q nm:List UInt8} (h:47 ∉ nm):T3 (q ++ 47 :: nm)=T3 q ++ [nm]:=by
  cases q with
  | nil=>simp [T3,B2c nm [] h]
  | cons c q =>
    show O5 (q ++ 47 :: nm) []=O5 q [] ++ [nm]
    rw [B2a,B2c nm [] h];simp
def A2M (x:Nd) (s:List UInt8):Option Int:=match x.names.find? fun e=>decide (e.1=s) with
  | some e=>if 0 ≤ e.2 then some e.2 else none
  | none=>none
def N1 (t:List Nd):Int → F7 → Option Int
  | a,[]=>if (J3 t a).isSome=true then some a else none
  | a,s :: r=>match J3 t a with
    | none=>none
    | some x=>match A2M x s with
      | some b=>N1 t b r
      | none=>none
theorem B4c {t:List Nd} {s:List UInt8} {b c:Int} {x:Nd} (hx:J3 t b=some x) (ht:A2M x s=some c) (hc:(J3 t c).isSome=true):∀ (l:F7) (a:Int),N1 t a l=some b → N1 t a (l ++ [s])=some c
  | [],a,h=>by
    rw [N1] at h
    split at h
    · cases h
      rw [List.nil_append,N1,hx]
      dsimp only
      rw [ht]
      dsimp only
      rw [N1,if_pos hc]
    · cases h
  | y :: l,a,h=>by
    rw [List.cons_append]
    rw [N1] at h ⊢
    cases hf:J3 t a with
    | none=>rw [hf] at h;cases h
    | some z =>
      rw [hf] at h
      dsimp only at h ⊢
      cases hz:A2M z y with
      | none=>rw [hz] at h;cases h
      | some b' =>
        rw [hz] at h
        dsimp only at h ⊢
        exact B4c hx ht hc l b' h
theorem C5Q {b:List UInt8} {k:Nat} {x:Ent} (hx:K4 b k=some x):P8 x.1=true:=by
  unfold K4 at hx
  cases hu:A0f (nameB b k) with
  | none=>rw [hu] at hx;cases hx
  | some s' =>
    rw [hu,Option.bind_some] at hx
    split at hx
    · cases hx;exact B2Z hu
    · cases hx
theorem B6S {D:Dev} {n k:Int} {d:List Int} {e:Ent} (h:e ∈ Q1 D n k d):P8 e.1=true:=by
  unfold Q1 at h
  rw [List.mem_map] at h
  obtain ⟨s,hs,rfl⟩:=h
  rw [A5x] at hs
  unfold I2 at hs
  rw [List.mem_map] at hs
  obtain ⟨t,ht,rfl⟩:=hs
  have h1:=(List.mem_filter.1 ht).1
  unfold N2 A0N at h1
  rw [List.mem_flatMap] at h1
  obtain ⟨b,_,h2⟩:=h1
  unfold A1C at h2
  rw [List.mem_map] at h2
  obtain ⟨x,hx,rfl⟩:=h2
  have h3:=C5Q (B6U hx).1
  exact h3
theorem C66 {D:Dev} {n k:Int} {d:List Int}:((Q1 D n k d).map (·.1)).Nodup:=by
  unfold Q1
  rw [List.map_map]
  have:((fun x:Ent=>x.1) ∘ fun s=>(s,A2v D n k d s))=id:=rfl
  rw [this,List.map_id]
  exact B8M _
theorem C5O {l:List Ent} (hn:(l.map (·.1)).Nodup) {e:Ent} (he:e ∈ l):l.find? (fun x=>decide (x.1=e.1))=some e:=by
  induction l with
  | nil=>cases he
  | cons x l ih =>
    rw [List.map_cons,List.nodup_cons] at hn
    rw [List.mem_cons] at he
    by_cases c:x.1=e.1
    · rw [List.find?_cons_of_pos (by simpa using c)]
      rcases he with rfl | he
      · rfl
      · exact absurd (List.mem_map.2 ⟨e,he,c.symm⟩) hn.1
    · rw [List.find?_cons_of_neg (by simpa using c)]
      rcases he with rfl | he
      · exact absurd rfl c
      · exact ih hn.2 he
theorem C5P {s:List UInt8} (h:P8 s=true):47 ∉ s:=by
  intro hm
  unfold P8 at h
  rw [Bool.and_eq_true] at h
  have:=List.all_eq_true.1 h.2 _ hm
  revert this
  decide
theorem C78 {D:Dev} {n:Int} (h2:kdV D n 1=2):∀ p ∈ outW (F9 D n),(N1 (F9 D n) 1 (T3 p)).isSome=true:=by
  have hrow:=A8t (D:=D) (n:=n)
  have some_row:∀ a,a ∈ U4 D n → J3 (F9 D n) a=some (N4 D n a):=fun a ha=>C5N h2 ha
  have base:1 ∈ U4 D n:=by obtain ⟨j,_,h⟩:=hrow;exact h.hd
  let P:I7 → Prop:=fun s=>(∀ q ∈ s.1,q.1 ∈ U4 D n ∧ N1 (F9 D n) 1 (T3 q.2)=some q.1) ∧ ∀ p ∈ s.2,(N1 (F9 D n) 1 (T3 p)).isSome=true
  have s1:∀ (a:Int) (q:List UInt8),a ∈ U4 D n → N1 (F9 D n) 1 (T3 q)=some a → ∀ (es:List Ent) (s:I7),(∀ e ∈ es,e ∈ K3 D n a) → P s → P (A0h q s es):=by
    intro a q ha hq es
    induction es with
    | nil=>intro s _ h;exact h
    | cons e es ih =>
      intro s he h
      rw [A8T]
      refine ih _ (fun x hx=>he x (by simp [hx])) ?_
      have hm:=he e (by simp)
      have hl:=(List.mem_filter.1 hm).1
      have hrg:=A76 e hm
      have hcl:=C8w ha e hm
      have ht:A2M (N4 D n a) e.1=some e.2:=by
        unfold A2M
        have hnd:((K3 D n a).map (·.1)).Nodup:=(C66 (D:=D) (n:=n) (k:=kdV D n a) (d:=drV D n a)).sublist ((List.filter_sublist).map _)
        have:=C5O hnd hm
        show (match (K3 D n a).find? fun x=>decide (x.1=e.1) with | some e=>if 0 ≤ e.2 then some e.2 else none | none=>none)=some e.2
        rw [this]
        dsimp only
        rw [if_pos (by omega)]
      have hat:N1 (F9 D n) 1 (T3 (q ++ 47 :: e.1))=some e.2:=by
        rw [C9k (C5P (B6S hl))]
        exact B4c (some_row a ha) ht (by rw [some_row _ hcl];rfl) _ _ hq
      refine ⟨fun x hx=>?_,fun p hp=>?_⟩
      · unfold T5 at hx
        dsimp only at hx
        split at hx
        · exact h.1 x hx
        · rw [List.mem_append] at hx
          rcases hx with hx | hx
          · exact h.1 x hx
          · simp at hx;subst hx;exact ⟨hcl,hat⟩
      · unfold T5 at hp
        dsimp only at hp
        rw [List.mem_append] at hp
        rcases hp with hp | hp
        · exact h.2 p hp
        · simp at hp;subst hp;rw [hat];rfl
  have s2:∀ (e i:Nat) (s:I7),P s → P (ways (G1 (F9 D n)) e i s):=by
    intro e
    induction e with
    | zero=>intro i s h;exact h
    | succ e ih =>
      intro i s h
      unfold ways
      by_cases hl:i < s.1.length
      · rw [dif_pos hl]
        refine ih (i + 1) _ ?_
        have hm:=h.1 _ (List.getElem_mem hl)
        refine s1 _ _ hm.1 hm.2 _ _ (fun x hx=>?_) h
        unfold G1 at hx
        rw [some_row _ hm.1] at hx
        dsimp only at hx
        split at hx
        · exact hx
        · cases hx
      · rw [dif_neg hl];exact h
  have h0:P ([(1,[])],[]):=⟨fun q hq=>by simp at hq;subst hq;exact ⟨base,by simp [T3,N1,some_row 1 base]⟩,fun p hp=>by cases hp⟩
  exact (s2 _ _ _ h0).2
end Go.Proofs.Yteckncopbicmcaa
end
noncomputable section
namespace Go.Proofs.Yteckncopbicmcaa
open Go Go.Esc
set_option maxRecDepth 100000
def B9K:ACode:=.ops [aO 51 (.bin .add (.t 30) (.v (.c (.i .i64 1)))),aO 30 (.mv (.t 51))]
def B2V:ACode:=.seq [2,4,6,28,29,30,31] (.ops [aO 31 (.bin .lss (.t 30) (.t 29))]) (.seq [2,4,6,28,29,30] (.cond (.t 31) .skip (.exit 0)) (.seq [2,4,6,28,29,30] (.block 1 (.seq [2,4,6,8,28,29,30] (.ops [aO 32 (.iAddrL 2 (.t 28) (.t 30)),aO 33 (.loadN 2 (.t 32)),aO 8 (.alloc ([.s [],.i .i64 0])),aN (.storeN 2 (.t 8) (.t 33))]) (.seq [2,4,6,8,9,28,29,30] (.ops [aO 34 (.loadN 4 (.t 2)),aO 35 (.fAddr (.t 8) 1),aO 36 (.load1 (.t 35)),aO 37 (.call 9 [(.t 34),(.t 36)]),aO 38 (.fld1 (.t 37) 0),aO 9 (.mv (.t 38))]) (.seq [2,4,6,8,28,29,30,44] (.ops [aO 39 (.mv (.t 9)),aO 40 (.bin .eql (.t 39) (.v (.c (.i .i64 1)))),aO 41 (.mv (.t 40)),aG 42 41 false (.mv (.t 9)),aG 43 41 false (.bin .eql (.t 42) (.v (.c (.i .i64 2)))),aO 44 (.pick (.t 41) (.v (.c (.b true))) (.t 43))]) (.cond (.t 44) (.ops [aO 45 (.fAddr (.t 6) 6),aO 46 (.load1 (.t 45)),aO 47 (.loadN 2 (.t 8)),aO 48 (.buildSl 2 1 (([.s [],.i .i64 0])) [(0,2,(.t 47))]),aO 49 (.app 2 (.t 46) (.t 48)),aO 50 (.fAddr (.t 6) 6),aN (.store1 (.t 50) (.t 49))]) .skip))))) B9K))
def B9J:ACode:=.seq [4] (.ops [aO 52 (.loadN 7 (.t 6)),aN (.storeN 7 (.t 4) (.t 52))]) .ret
def A_tree_node:AFn:=⟨.seq [1,2,4] (.ops [aO 2 (.box (.t 0)),aO 4 (.alloc ([.i .i64 0,.i .i64 0,.i .i64 0,.i .i64 0,.i .i64 0,.ns,.ns]))]) (.seq [1,2,4,5] (.ops [aO 10 (.loadN 4 (.t 2)),aO 11 (.mv (.t 1)),aO 12 (.call 9 [(.t 10),(.t 11)]),aO 5 (.alloc ([.i .i64 0,.i .i64 0,.i .i64 0,.i .i64 0,.i .i64 0,.i .i64 0,.i .i64 0,.i .i64 0,.i .i64 0,.i .i64 0,.i .i64 0])),aN (.storeN 11 (.t 5) (.t 12))]) (.seq [2,4,5,6] (.draw 1 [aO 13 (.mv (.t 1)),aO 14 (.fAddr (.t 5) 0),aO 15 (.load1 (.t 14)),aO 16 (.fAddr (.t 5) 1),aO 17 (.load1 (.t 16)),aO 18 (.fAddr (.t 5) 3),aO 19 (.load1 (.t 18)),aO 20 (.loadN 11 (.t 5)),aO 21 (.call 63 [(.t 20)]),aO 22 (.loadN 4 (.t 2)),aO 23 (.loadN 11 (.t 5)),aO 24 (.call 64 [(.t 22),(.t 23)]),aO 25 (.build ([.i .i64 0,.i .i64 0,.i .i64 0,.i .i64 0,.i .i64 0,.ns,.ns]) [(0,1,(.t 13)),(1,1,(.t 15)),(2,1,(.t 17)),(3,1,(.t 19)),(4,1,(.t 21)),(5,1,(.t 24))]),aS 6 0 (.alloc ([.i .i64 0,.i .i64 0,.i .i64 0,.i .i64 0,.i .i64 0,.ns,.ns]))] [aN (.storeN 7 (.t 6) (.t 25))]) (.seq [4,6] (.seq [2,4,6,28,29,30] (.ops [aO 26 (.loadN 4 (.t 2)),aO 27 (.loadN 11 (.t 5)),aO 28 (.call 10 [(.t 26),(.t 27)]),aO 29 (.len (.t 28)),aO 30 (.mv (.v (.c (.i .i64 0))))]) (.block 0 (.loop [2,4,6,28,29,30] B2V))) B9J))),[.cellN 4 7]⟩
def A1K:A9:=B0 9 A0J (B0 63 A06 (B0 64 A4e (B0 10 A34 C0)))
def D0v (n:Nat):B3 (Val × A0):=E3 [4,6] (ax A1K n B9J) A_tree_node.fin
def B2Y (n:Nat):B3 (Val × A0):=D7 0 (D0v n)
def A8Q (n m:Nat) (x2 x4 x6 x28 x29 x30:Val) (h:A0):A6:=D1 (ax A1K n B2V) [2,4,6,28,29,30] (B2Y n) m [(2,x2),(4,x4),(6,x6),(28,x28),(29,x29),(30,x30)] h
def A6L (n:Nat) (args:List Val) (h:A0):A6:=ax A1K n A_tree_node.code A_tree_node.fin (params 0 args) h
def D0w (n m:Nat):B3 (Val × A0):=T0 [2,4,6,28,29,30] (D1 (ax A1K n B2V) [2,4,6,28,29,30] (B2Y n) m) (B2Y n)
def B2W (n m:Nat) (x2 x4 x6 x28 x29 x30:Val) (h:A0):A6:=hold ((ax A1K n B9K) (D0w n m) [(2,x2),(4,x4),(6,x6),(28,x28),(29,x29),(30,x30)] h)
theorem C1i (n:Nat) (a0 a1:Val) (h:A0):A6L n [a0,a1] h=bnd (cells? a0) fun c1=>bnd (A3 ((h ++ [some (Row.mk (c1) true)]) ++ [some (Row.mk ([.i .i64 0,.i .i64 0,.i .i64 0,.i .i64 0,.i .i64 0,.ns,.ns]) true)]) 4 (.c (.p h.length 0))) fun v2=>bnd (A0J [v2,a1] ((h ++ [some (Row.mk (c1) true)]) ++ [some (Row.mk ([.i .i64 0,.i .i64 0,.i .i64 0,.i .i64 0,.i .i64 0,.ns,.ns]) true)])) fun p3=>bnd (A8 (p3.2 ++ [some (Row.mk ([.i .i64 0,.i .i64 0,.i .i64 0,.i .i64 0,.i .i64 0,.i .i64 0,.i .i64 0,.i .i64 0,.i .i64 0,.i .i64 0,.i .i64 0]) true)]) 11 (.c (.p p3.2.length 0)) p3.1) fun h4=>bnd (B4 (.c (.p p3.2.length 0)) 0) fun v5=>bnd (A4 h4 v5) fun v6=>bnd (B4 (.c (.p p3.2.length 0)) 1) fun v7=>bnd (A4 h4 v7) fun v8=>bnd (B4 (.c (.p p3.2.length 0)) 3) fun v9=>bnd (A4 h4 v9) fun v10=>bnd (A3 h4 11 (.c (.p p3.2.length 0))) fun v11=>bnd (quiet (h4 ++ [none]) (A06 [v11] (h4 ++ [none]))) fun p12=>bnd (A3 h4 4 (.c (.p h.length 0))) fun v13=>bnd (A3 h4 11 (.c (.p p3.2.length 0))) fun v14=>bnd (quiet p12.2 (A4e [v13,v14] p12.2)) fun p15=>bnd (A7 ([.i .i64 0,.i .i64 0,.i .i64 0,.i .i64 0,.i .i64 0,.ns,.ns]) [(0,1,a1),(1,1,v6),(2,1,v8),(3,1,v10),(4,1,p12.1),(5,1,p15.1)]) fun c16=>bnd (A8 (p15.2.set (h4.length + 0) (some (Row.mk ([.i .i64 0,.i .i64 0,.i .i64 0,.i .i64 0,.i .i64 0,.ns,.ns]) true))) 7 (.c (.p (h4.length + 0) 0)) (.a c16)) fun h17=>bnd (A3 h17 4 (.c (.p h.length 0))) fun v18=>bnd (A3 h17 11 (.c (.p p3.2.length 0))) fun v19=>bnd (A34 [v18,v19] h17) fun p20=>bnd (E8 p20.1) fun v21=>A8Q n n (.c (.p h.length 0)) (.c (.p (h ++ [some (Row.mk (c1) true)]).length 0)) (.c (.p (h4.length + 0) 0)) p20.1 v21 (.c (.i .i64 0)) p20.2:=by kernel_rfl
theorem B9L (n m:Nat) (x2 x4 x6 x28 x29 x30:Val) (h:A0):A8Q n (m + 1) x2 x4 x6 x28 x29 x30 h=bnd (A2 .lss x30 x29) fun v22=>cnd v22 (bnd (B9 2 x28 x30) fun v23=>bnd (A3 h 2 v23) fun v24=>bnd (A8 (h ++ [some (Row.mk ([.s [],.i .i64 0]) true)]) 2 (.c (.p h.length 0)) v24) fun h25=>bnd (A3 h25 4 x2) fun v26=>bnd (B4 (.c (.p h.length 0)) 1) fun v27=>bnd (A4 h25 v27) fun v28=>bnd (A0J [v26,v28] h25) fun p29=>bnd (A0M p29.1 0) fun v30=>bnd (A2 .eql v30 (.c (.i .i64 1))) fun v31=>bnd (gd v31 false (some (v30,p29.2)) (some (.no,p29.2))) fun p32=>bnd (gd v31 false (bnd (A2 .eql p32.1 (.c (.i .i64 2))) fun v33=>some (v33,p32.2)) (some (.no,p32.2))) fun p34=>bnd (D3 v31 (.c (.b true)) p34.1) fun v35=>cnd v35 (bnd (B4 x6 6) fun v36=>bnd (A4 p34.2 v36) fun v37=>bnd (A3 p34.2 2 (.c (.p h.length 0))) fun v38=>bnd (A7 (([.s [],.i .i64 0])) [(0,2,v38)]) fun c39=>bnd (F0 (p34.2 ++ [some (Row.mk (c39) true)]) 2 v37 (.c (.sl p34.2.length 0 1 2))) fun p40=>bnd (B4 x6 6) fun v41=>bnd (E4 p40.2 v41 p40.1) fun h42=>B2W n m x2 x4 x6 x28 x29 x30 h42) (B2W n m x2 x4 x6 x28 x29 x30 p34.2)) (bnd (A3 h 7 x6) fun v43=>bnd (A8 h 7 x4 v43) fun h44=>mp (A3 h44 7 x4) fun v=>(v,h44)):=by kernel_rfl
theorem B2X (n m:Nat) (x2 x4 x6 x28 x29 x30:Val) (h:A0):B2W n m x2 x4 x6 x28 x29 x30 h=bnd (A2 .add x30 (.c (.i .i64 1))) fun v45=>A8Q n m x2 x4 x6 x28 x29 v45 h:=by kernel_rfl
theorem K_tree_node:FnK Try.prog 39 A_tree_node A1K A6L:=.mk' (B1 B3D (B1 B3i (B1 C13 (B1 C1G C2)))) Try.func39 (by kernel_rfl) (fun _ _ _=>C1)
def A20:Fun:=tidy (Lim A_tree_node A1K)
theorem C3x:SOk Try.prog 39 A20:=K_tree_node.sok
theorem B3A:A6W A6L A20:=K_tree_node.tidy
def A_tree_Of_1:AFn:=⟨.seq [0,1,2,3,6] (.ops [aO 8 (.load1 (.t 1)),aO 9 (.mv (.t 0)),aO 10 (.look (some .i64) (.a ([.i .i64 0,.i .i64 0,.i .i64 0,.i .i64 0,.i .i64 0,.ns,.ns])) true (.t 8) (.t 9)),aO 7 (.mv (.t 10)),aO 11 (.ext (.t 7) 0),aO 12 (.ext (.t 7) 1),aO 5 (.alloc ([.i .i64 0,.i .i64 0,.i .i64 0,.i .i64 0,.i .i64 0,.ns,.ns])),aN (.storeN 7 (.t 5) (.t 11)),aO 6 (.mv (.t 12))]) (.seq [0,1,2,3,14] (.ops [aO 13 (.mv (.t 6)),aO 14 (.un .not (.t 13))]) (.cond (.t 14) (.seq [0,3] (.draw 0 [aO 15 (.load1 (.t 1)),aO 16 (.mv (.t 0)),aO 17 (.loadN 4 (.t 2)),aO 18 (.mv (.t 0)),aO 19 (.call 39 [(.t 17),(.t 18)])] [aN (.mput (some .i64) (.t 15) (.t 16) (.t 19))]) (.ops [aO 20 (.load1 (.t 3)),aO 21 (.mv (.t 0)),aO 22 (.buildSl 1 1 ([.i .i64 0]) [(0,1,(.t 21))]),aO 23 (.app 1 (.t 20) (.t 22)),aN (.store1 (.t 3) (.t 23))])) .skip)),[]⟩
def A9D:A9:=B0 39 A20 C0
def A92 (n:Nat) (args:List Val) (h:A0):A6:=ax A9D n A_tree_Of_1.code A_tree_Of_1.fin (params 0 args) h
theorem B27 (n:Nat) (a0 a1 a2 a3:Val) (h:A0):A92 n [a0,a1,a2,a3] h=bnd (A4 h a1) fun v1=>bnd (O9 h (some .i64) (.a ([.i .i64 0,.i .i64 0,.i .i64 0,.i .i64 0,.i .i64 0,.ns,.ns])) true v1 a0) fun v2=>bnd (C3 v2 0) fun v3=>bnd (C3 v2 1) fun v4=>bnd (A8 (h ++ [some (Row.mk ([.i .i64 0,.i .i64 0,.i .i64 0,.i .i64 0,.i .i64 0,.ns,.ns]) true)]) 7 (.c (.p h.length 0)) v3) fun h5=>bnd (aun .not v4) fun v6=>cnd v6 (bnd (A4 h5 a1) fun v7=>bnd (A3 h5 4 a2) fun v8=>bnd (quiet (h5 ++ []) (A20 [v8,a0] (h5 ++ []))) fun p9=>bnd (U6 p9.2 (some .i64) v7 a0 p9.1) fun h10=>bnd (A4 h10 a3) fun v11=>bnd (A7 ([.i .i64 0]) [(0,1,a0)]) fun c12=>bnd (F0 (h10 ++ [some (Row.mk (c12) true)]) 1 v11 (.c (.sl h10.length 0 1 1))) fun p13=>bnd (E4 p13.2 a3 p13.1) fun h14=>C7 [] h14) (C7 [] h5):=by kernel_rfl
theorem K_tree_Of_1:FnK Try.prog 38 A_tree_Of_1 A9D A92:=.mk' (B1 C3x C2) Try.func38 (by kernel_rfl) (fun _ _ _=>C1)
def A14:Fun:=Lim A_tree_Of_1 A9D
theorem C3v:SOk Try.prog 38 A14:=K_tree_Of_1.ok
theorem B3w:OfT A92 A14:=K_tree_Of_1.of
def B9v:ACode:=.seq [3,4,5,6,34,35,36,37] (.ops [aO 37 (.bin .lss (.t 36) (.t 35))]) (.seq [3,4,5,6,34,35,36] (.cond (.t 37) .skip (.exit 2)) (.seq [3,4,5,6,34,35,36] (.block 3 (.seq [3,4,5,6,8,34,35,36] (.ops [aO 38 (.iAddrL 2 (.t 34) (.t 36)),aO 39 (.loadN 2 (.t 38)),aO 8 (.alloc ([.s [],.i .i64 0])),aN (.storeN 2 (.t 8) (.t 39))]) (.ops [aO 40 (.mv (.t 5)),aO 41 (.fAddr (.t 8) 1),aO 42 (.load1 (.t 41)),aO 43 (.callV (.t 40) [(.t 42)])]))) (.ops [aO 44 (.bin .add (.t 36) (.v (.c (.i .i64 1)))),aO 36 (.mv (.t 44))])))
def B9w:ACode:=.ops [aO 26 (.mv (.t 6)),aO 27 (.bin .add (.t 26) (.v (.c (.i .i64 1)))),aO 6 (.mv (.t 27))]
def B2H:ACode:=.seq [3,4,5,6] (.seq [3,4,5,6,25] (.ops [aO 22 (.mv (.t 6)),aO 23 (.load1 (.t 4)),aO 24 (.len (.t 23)),aO 25 (.bin .lss (.t 22) (.t 24))]) (.cond (.t 25) .skip (.exit 0))) (.seq [3,4,5,6] (.block 1 (.seq [3,4,5,6,34,35,36] (.draw 0 [aO 28 (.load1 (.t 3)),aO 29 (.load1 (.t 4)),aO 30 (.mv (.t 6)),aO 31 (.iAddrL 1 (.t 29) (.t 30)),aO 32 (.load1 (.t 31)),aO 33 (.look (some .i64) (.a ([.i .i64 0,.i .i64 0,.i .i64 0,.i .i64 0,.i .i64 0,.ns,.ns])) false (.t 28) (.t 32)),aO 34 (.fld1 (.t 33) 6),aO 35 (.len (.t 34)),aO 36 (.mv (.v (.c (.i .i64 0))))] []) (.block 2 (.loop [3,4,5,6,34,35,36] B9v)))) B9w)
def B9y:ACode:=.ops [aO 59 (.bin .add (.t 45) (.v (.c (.i .i64 1)))),aO 45 (.mv (.t 59))]
def B2I:ACode:=.seq [3,9,45,46] (.ops [aO 46 (.bin .lss (.t 45) (.v (.c (.i .i64 129))))]) (.seq [3,9,45] (.cond (.t 46) .skip (.exit 4)) (.seq [3,9,45] (.block 5 (.seq [3,9,10,45] (.ops [aO 47 (.mv (.t 45)),aO 10 (.mv (.t 47))]) (.seq [3,9,11,12,45] (.ops [aO 49 (.load1 (.t 3)),aO 50 (.mv (.t 10)),aO 51 (.look (some .i64) (.a ([.i .i64 0,.i .i64 0,.i .i64 0,.i .i64 0,.i .i64 0,.ns,.ns])) true (.t 49) (.t 50)),aO 48 (.mv (.t 51)),aO 52 (.ext (.t 48) 0),aO 53 (.ext (.t 48) 1),aO 11 (.alloc ([.i .i64 0,.i .i64 0,.i .i64 0,.i .i64 0,.i .i64 0,.ns,.ns])),aN (.storeN 7 (.t 11) (.t 52)),aO 12 (.mv (.t 53))]) (.seq [3,9,11,45,54] (.ops [aO 54 (.mv (.t 12))]) (.cond (.t 54) (.ops [aO 55 (.mv (.t 9)),aO 56 (.loadN 7 (.t 11)),aO 57 (.buildSl 7 1 (([.i .i64 0,.i .i64 0,.i .i64 0,.i .i64 0,.i .i64 0,.ns,.ns])) [(0,7,(.t 56))]),aO 58 (.app 7 (.t 55) (.t 57)),aO 9 (.mv (.t 58))]) .skip))))) B9y))
def B9x:ACode:=.seq [2] (.ops [aO 60 (.mv (.t 9)),aO 2 (.mv (.t 60))]) .ret
def B9u:ACode:=.seq [3,9] (.ops [aO 9 (.nilrow 7)]) (.seq [9] (.seq [3,9,45] (.ops [aO 45 (.mv (.v (.c (.i .i64 0))))]) (.block 4 (.loop [3,9,45] B2I))) B9x)
def A_tree_Of__Of_1:AFn:=⟨.seq [1] (.ops [aO 1 (.box (.t 0)),aO 2 (.nilrow 7)]) (.seq [1] (.seq [1,16] (.ops [aO 13 (.loadN 4 (.t 1)),aO 14 (.call 9 [(.t 13),(.v (.c (.i .i64 1)))]),aO 15 (.fld1 (.t 14) 0),aO 16 (.bin .neq (.t 15) (.v (.c (.i .i64 2))))]) (.cond (.t 16) (.seq [2] (.ops [aO 2 (.nilrow 7)]) .ret) .skip)) (.seq [1,3] (.ops [aO 17 (.mkMap),aO 3 (.alloc ([.nm])),aN (.store1 (.t 3) (.t 17))]) (.seq [1,3,4] (.ops [aO 18 (.buildSl 1 1 ([.i .i64 0]) [(0,1,(.v (.c (.i .i64 1))))]),aO 4 (.alloc ([.ns])),aN (.store1 (.t 4) (.t 18))]) (.seq [3,4,5] (.ops [aO 19 (.mkf 38 [(.t 3),(.t 1),(.t 4)]),aO 5 (.mv (.t 19))]) (.seq [3,4,5] (.ops [aO 20 (.mv (.t 5)),aO 21 (.callV (.t 20) [(.v (.c (.i .i64 1)))])]) (.seq [3] (.seq [3,4,5,6] (.ops [aO 6 (.mv (.v (.c (.i .i64 0))))]) (.block 0 (.loop [3,4,5,6] B2H))) B9u)))))),[.tmp 2]⟩
def Q7:A9:=B0 9 A0J (B0 38 A14 C0)
def D0j (n:Nat):B3 (Val × A0):=E3 [3] (ax Q7 n B9u) A_tree_Of__Of_1.fin
def B2K (n:Nat):B3 (Val × A0):=D7 0 (D0j n)
def A5F (n m:Nat) (x3 x4 x5 x6:Val) (h:A0):A6:=D1 (ax Q7 n B2H) [3,4,5,6] (B2K n) m [(3,x3),(4,x4),(5,x5),(6,x6)] h
def A93 (n:Nat) (args:List Val) (h:A0):A6:=ax Q7 n A_tree_Of__Of_1.code A_tree_Of__Of_1.fin (params 0 args) h
def D0k (n m:Nat):B3 (Val × A0):=T0 [3,4,5,6] (D1 (ax Q7 n B2H) [3,4,5,6] (B2K n) m) (B2K n)
def D0l (n m:Nat):B3 (Val × A0):=E3 [3,4,5,6] (ax Q7 n B9w) (D0k n m)
def D0m (n m:Nat):B3 (Val × A0):=D7 1 (D0l n m)
def D0n (n m:Nat):B3 (Val × A0):=D7 2 (D0m n m)
def A8L (n m m2:Nat) (x3 x4 x5 x6 x34 x35 x36:Val) (h:A0):A6:=D1 (ax Q7 n B9v) [3,4,5,6,34,35,36] (D0n n m) m2 [(3,x3),(4,x4),(5,x5),(6,x6),(34,x34),(35,x35),(36,x36)] h
def D0o (n:Nat):B3 (Val × A0):=E3 [9] (ax Q7 n B9x) A_tree_Of__Of_1.fin
def B2L (n:Nat):B3 (Val × A0):=D7 4 (D0o n)
def A5G (n m:Nat) (x3 x9 x45:Val) (h:A0):A6:=D1 (ax Q7 n B2I) [3,9,45] (B2L n) m [(3,x3),(9,x9),(45,x45)] h
def D0p (n m:Nat):B3 (Val × A0):=T0 [3,9,45] (D1 (ax Q7 n B2I) [3,9,45] (B2L n) m) (B2L n)
def B2J (n m:Nat) (x3 x9 x45:Val) (h:A0):A6:=hold ((ax Q7 n B9y) (D0p n m) [(3,x3),(9,x9),(45,x45)] h)
theorem B28 (n:Nat) (a0:Val) (h:A0):A93 n [a0] h=bnd (cells? a0) fun c1=>bnd (A3 ((h ++ [some (Row.mk (c1) true)]) ++ [some (Row.mk ([]) true)]) 4 (.c (.p h.length 0))) fun v2=>bnd (A0J [v2,.c (.i .i64 1)] ((h ++ [some (Row.mk (c1) true)]) ++ [some (Row.mk ([]) true)])) fun p3=>bnd (A0M p3.1 0) fun v4=>bnd (A2 .neq v4 (.c (.i .i64 2))) fun v5=>cnd v5 (some ((.c (.sl p3.2.length 0 0 7)),(p3.2 ++ [some (Row.mk ([]) true)]))) (bnd (E4 ((p3.2 ++ [some (D8 [])]) ++ [some (Row.mk ([.nm]) true)]) (.c (.p (p3.2 ++ [some (D8 [])]).length 0)) (.c (.m p3.2.length))) fun h6=>bnd (A7 ([.i .i64 0]) [(0,1,.c (.i .i64 1))]) fun c7=>bnd (E4 ((h6 ++ [some (Row.mk (c7) true)]) ++ [some (Row.mk ([.ns]) true)]) (.c (.p (h6 ++ [some (Row.mk (c7) true)]).length 0)) (.c (.sl h6.length 0 1 1))) fun h8=>bnd (W6 38 [(.c (.p (p3.2 ++ [some (D8 [])]).length 0)),(.c (.p h.length 0)),(.c (.p (h6 ++ [some (Row.mk (c7) true)]).length 0))]) fun v9=>bnd (L6 Q7 v9 [.c (.i .i64 1)] h8) fun p10=>A5F n n (.c (.p (p3.2 ++ [some (D8 [])]).length 0)) (.c (.p (h6 ++ [some (Row.mk (c7) true)]).length 0)) v9 (.c (.i .i64 0)) p10.2):=by kernel_rfl
theorem B9A (n m:Nat) (x3 x4 x5 x6:Val) (h:A0):A5F n (m + 1) x3 x4 x5 x6 h=bnd (A4 h x4) fun v11=>bnd (E8 v11) fun v12=>bnd (A2 .lss x6 v12) fun v13=>cnd v13 (bnd (A4 h x3) fun v14=>bnd (A4 h x4) fun v15=>bnd (B9 1 v15 x6) fun v16=>bnd (A4 h v16) fun v17=>bnd (O9 h (some .i64) (.a ([.i .i64 0,.i .i64 0,.i .i64 0,.i .i64 0,.i .i64 0,.ns,.ns])) false v14 v17) fun v18=>bnd (A0M v18 6) fun v19=>bnd (E8 v19) fun v20=>A8L n m n x3 x4 x5 x6 v19 v20 (.c (.i .i64 0)) (h ++ [])) (A5G n n x3 (.c (.sl h.length 0 0 7)) (.c (.i .i64 0)) (h ++ [some (Row.mk ([]) true)])):=by kernel_rfl
theorem B9B (n m m2:Nat) (x3 x4 x5 x6 x34 x35 x36:Val) (h:A0):A8L n m (m2 + 1) x3 x4 x5 x6 x34 x35 x36 h=bnd (A2 .lss x36 x35) fun v21=>cnd v21 (bnd (B9 2 x34 x36) fun v22=>bnd (A3 h 2 v22) fun v23=>bnd (A8 (h ++ [some (Row.mk ([.s [],.i .i64 0]) true)]) 2 (.c (.p h.length 0)) v23) fun h24=>bnd (B4 (.c (.p h.length 0)) 1) fun v25=>bnd (A4 h24 v25) fun v26=>bnd (L6 Q7 x5 [v26] h24) fun p27=>bnd (A2 .add x36 (.c (.i .i64 1))) fun v28=>A8L n m m2 x3 x4 x5 x6 x34 x35 v28 p27.2) (bnd (A2 .add x6 (.c (.i .i64 1))) fun v29=>A5F n m x3 x4 x5 v29 h):=by kernel_rfl
theorem B2M (n m:Nat) (x3 x9 x45:Val) (h:A0):A5G n (m + 1) x3 x9 x45 h=bnd (A2 .lss x45 (.c (.i .i64 129))) fun v30=>cnd v30 (bnd (A4 h x3) fun v31=>bnd (O9 h (some .i64) (.a ([.i .i64 0,.i .i64 0,.i .i64 0,.i .i64 0,.i .i64 0,.ns,.ns])) true v31 x45) fun v32=>bnd (C3 v32 0) fun v33=>bnd (C3 v32 1) fun v34=>bnd (A8 (h ++ [some (Row.mk ([.i .i64 0,.i .i64 0,.i .i64 0,.i .i64 0,.i .i64 0,.ns,.ns]) true)]) 7 (.c (.p h.length 0)) v33) fun h35=>cnd v34 (bnd (A3 h35 7 (.c (.p h.length 0))) fun v36=>bnd (A7 (([.i .i64 0,.i .i64 0,.i .i64 0,.i .i64 0,.i .i64 0,.ns,.ns])) [(0,7,v36)]) fun c37=>bnd (F0 (h35 ++ [some (Row.mk (c37) true)]) 7 x9 (.c (.sl h35.length 0 1 7))) fun p38=>B2J n m x3 p38.1 x45 p38.2) (B2J n m x3 x9 x45 h35)) (some (x9,h)):=by kernel_rfl
theorem B9z (n m:Nat) (x3 x9 x45:Val) (h:A0):B2J n m x3 x9 x45 h=bnd (A2 .add x45 (.c (.i .i64 1))) fun v39=>A5G n m x3 x9 v39 h:=by kernel_rfl
theorem K_tree_Of__Of_1:FnK Try.prog 15 A_tree_Of__Of_1 Q7 A93:=.mk' (B1 B3D (B1 C3v C2)) Try.func15 (by kernel_rfl) (fun _ _ _=>C1)
def A15:Fun:=Lim A_tree_Of__Of_1 Q7
theorem B3y:SOk Try.prog 15 A15:=K_tree_Of__Of_1.ok
theorem B3x:OfT A93 A15:=K_tree_Of__Of_1.of
def B9p:ACode:=.seq [1,4,8,9,10,11] (.ops [aO 11 (.bin .lss (.t 10) (.t 9))]) (.seq [1,4,8,9,10] (.cond (.t 11) .skip (.exit 0)) (.seq [1,4,8,9,10] (.block 1 (.seq [1,4,7,8,9,10] (.ops [aO 12 (.iAddrL 7 (.t 8) (.t 10)),aO 13 (.loadN 7 (.t 12)),aO 7 (.alloc ([.i .i64 0,.i .i64 0,.i .i64 0,.i .i64 0,.i .i64 0,.ns,.ns])),aN (.storeN 7 (.t 7) (.t 13))]) (.seq [1,4,7,8,9,10,17] (.ops [aO 14 (.fAddr (.t 7) 0),aO 15 (.load1 (.t 14)),aO 16 (.mv (.t 1)),aO 17 (.bin .eql (.t 15) (.t 16))]) (.cond (.t 17) (.seq [4,7] (.ops [aO 18 (.buildSl 1 0 ([]) []),aO 19 (.fAddr (.t 7) 5),aO 20 (.load1 (.t 19)),aO 21 (.app 1 (.t 18) (.t 20)),aO 22 (.fAddr (.t 7) 5),aN (.store1 (.t 22) (.t 21))]) (.seq [4,7] (.ops [aO 23 (.buildSl 2 0 ([]) []),aO 24 (.fAddr (.t 7) 6),aO 25 (.load1 (.t 24)),aO 26 (.app 2 (.t 23) (.t 25)),aO 27 (.fAddr (.t 7) 6),aN (.store1 (.t 27) (.t 26))]) (.seq [4,5] (.ops [aO 28 (.loadN 7 (.t 7)),aN (.storeN 7 (.t 4) (.t 28)),aO 5 (.mv (.v (.c (.b true))))]) .ret))) .skip)))) (.ops [aO 29 (.bin .add (.t 10) (.v (.c (.i .i64 1)))),aO 10 (.mv (.t 29))])))
def B9q:ACode:=.seq [4,5] (.ops [aO 30 (.build ([.i .i64 0,.i .i64 0,.i .i64 0,.i .i64 0,.i .i64 0,.ns,.ns]) []),aN (.storeN 7 (.t 4) (.t 30)),aO 5 (.mv (.v (.c (.b false))))]) .ret
def A_tree_Find:AFn:=⟨.seq [0,1,4] (.ops [aO 4 (.alloc ([.i .i64 0,.i .i64 0,.i .i64 0,.i .i64 0,.i .i64 0,.ns,.ns])),aO 5 (.mv (.v (.c (.b false))))]) (.seq [4] (.seq [1,4,8,9,10] (.ops [aO 8 (.mv (.t 0)),aO 9 (.len (.t 8)),aO 10 (.mv (.v (.c (.i .i64 0))))]) (.block 0 (.loop [1,4,8,9,10] B9p))) B9q),[.cellN 4 7,.tmp 5]⟩
def A3T:A9:=C0
def D0h (n:Nat):B3 (Val × A0):=E3 [4] (ax A3T n B9q) A_tree_Find.fin
def D0i (n:Nat):B3 (Val × A0):=D7 0 (D0h n)
def A2N (n m:Nat) (x1 x4 x8 x9 x10:Val) (h:A0):A6:=D1 (ax A3T n B9p) [1,4,8,9,10] (D0i n) m [(1,x1),(4,x4),(8,x8),(9,x9),(10,x10)] h
def A2X (n:Nat) (args:List Val) (h:A0):A6:=ax A3T n A_tree_Find.code A_tree_Find.fin (params 0 args) h
theorem B26 (n:Nat) (a0 a1:Val) (h:A0):A2X n [a0,a1] h=bnd (E8 a0) fun v1=>A2N n n a1 (.c (.p h.length 0)) a0 v1 (.c (.i .i64 0)) (h ++ [some (Row.mk ([.i .i64 0,.i .i64 0,.i .i64 0,.i .i64 0,.i .i64 0,.ns,.ns]) true)]):=by kernel_rfl
theorem B2G (n m:Nat) (x1 x4 x8 x9 x10:Val) (h:A0):A2N n (m + 1) x1 x4 x8 x9 x10 h=bnd (A2 .lss x10 x9) fun v2=>cnd v2 (bnd (B9 7 x8 x10) fun v3=>bnd (A3 h 7 v3) fun v4=>bnd (A8 (h ++ [some (Row.mk ([.i .i64 0,.i .i64 0,.i .i64 0,.i .i64 0,.i .i64 0,.ns,.ns]) true)]) 7 (.c (.p h.length 0)) v4) fun h5=>bnd (B4 (.c (.p h.length 0)) 0) fun v6=>bnd (A4 h5 v6) fun v7=>bnd (A2 .eql v7 x1) fun v8=>cnd v8 (bnd (A7 ([]) []) fun c9=>bnd (B4 (.c (.p h.length 0)) 5) fun v10=>bnd (A4 (h5 ++ [some (Row.mk (c9) true)]) v10) fun v11=>bnd (F0 (h5 ++ [some (Row.mk (c9) true)]) 1 (.c (.sl h5.length 0 0 1)) v11) fun p12=>bnd (B4 (.c (.p h.length 0)) 5) fun v13=>bnd (E4 p12.2 v13 p12.1) fun h14=>bnd (A7 ([]) []) fun c15=>bnd (B4 (.c (.p h.length 0)) 6) fun v16=>bnd (A4 (h14 ++ [some (Row.mk (c15) true)]) v16) fun v17=>bnd (F0 (h14 ++ [some (Row.mk (c15) true)]) 2 (.c (.sl h14.length 0 0 2)) v17) fun p18=>bnd (B4 (.c (.p h.length 0)) 6) fun v19=>bnd (E4 p18.2 v19 p18.1) fun h20=>bnd (A3 h20 7 (.c (.p h.length 0))) fun v21=>bnd (A8 h20 7 x4 v21) fun h22=>C7 [A3 h22 7 x4,some (.c (.b true))] h22) (bnd (A2 .add x10 (.c (.i .i64 1))) fun v23=>A2N n m x1 x4 x8 x9 v23 h5)) (bnd (A7 ([.i .i64 0,.i .i64 0,.i .i64 0,.i .i64 0,.i .i64 0,.ns,.ns]) []) fun c24=>bnd (A8 h 7 x4 (.a c24)) fun h25=>C7 [A3 h25 7 x4,some (.c (.b false))] h25):=by kernel_rfl
theorem K_tree_Find:FnK Try.prog 17 A_tree_Find A3T A2X:=.mk' (C2) Try.func17 (by kernel_rfl) (fun _ _ _=>C1)
def Y5:Fun:=tidy (Lim A_tree_Find A3T)
theorem B3v:SOk Try.prog 17 Y5:=K_tree_Find.sok
theorem C3t:D5 A2X Y5:=K_tree_Find.flat
theorem C3u:A6W A2X Y5:=K_tree_Find.tidy
def B9M:ACode:=.seq [1,9,10,11,12] (.ops [aO 12 (.bin .lss (.t 11) (.t 10))]) (.seq [1,9,10,11] (.cond (.t 12) .skip (.exit 0)) (.seq [1,9,10,11] (.block 1 (.seq [1,7,9,10,11] (.ops [aO 13 (.iAddrL 2 (.t 9) (.t 11)),aO 14 (.loadN 2 (.t 13)),aO 7 (.alloc ([.s [],.i .i64 0])),aN (.storeN 2 (.t 7) (.t 14))]) (.seq [1,7,9,10,11,18] (.ops [aO 15 (.fAddr (.t 7) 0),aO 16 (.load1 (.t 15)),aO 17 (.mv (.t 1)),aO 18 (.bin .eql (.t 16) (.t 17))]) (.cond (.t 18) (.seq [4,5] (.draw 0 [aO 19 (.fAddr (.t 7) 1),aO 20 (.load1 (.t 19)),aO 21 (.fAddr (.t 7) 1),aO 22 (.load1 (.t 21)),aO 23 (.bin .geq (.t 22) (.v (.c (.i .i64 0)))),aO 4 (.mv (.t 20))] [aO 5 (.mv (.t 23))]) .ret) .skip)))) (.ops [aO 24 (.bin .add (.t 11) (.v (.c (.i .i64 1)))),aO 11 (.mv (.t 24))])))
def B9N:ACode:=.seq [4,5] (.ops [aO 4 (.mv (.v (.c (.i .i64 0)))),aO 5 (.mv (.v (.c (.b false))))]) .ret
def A_tree_told:AFn:=⟨.seq [1,2] (.ops [aO 2 (.box (.t 0)),aO 4 (.mv (.v (.c (.i .i64 0)))),aO 5 (.mv (.v (.c (.b false))))]) (.seq [] (.seq [1,9,10,11] (.ops [aO 8 (.fAddr (.t 2) 6),aO 9 (.load1 (.t 8)),aO 10 (.len (.t 9)),aO 11 (.mv (.v (.c (.i .i64 0))))]) (.block 0 (.loop [1,9,10,11] B9M))) B9N),[.tmp 4,.tmp 5]⟩
def A3U:A9:=C0
def D0y (n:Nat):B3 (Val × A0):=E3 [] (ax A3U n B9N) A_tree_told.fin
def D0z (n:Nat):B3 (Val × A0):=D7 0 (D0y n)
def A8R (n m:Nat) (x1 x9 x10 x11:Val) (h:A0):A6:=D1 (ax A3U n B9M) [1,9,10,11] (D0z n) m [(1,x1),(9,x9),(10,x10),(11,x11)] h
def A6M (n:Nat) (args:List Val) (h:A0):A6:=ax A3U n A_tree_told.code A_tree_told.fin (params 0 args) h
theorem C1j (n:Nat) (a0 a1:Val) (h:A0):A6M n [a0,a1] h=bnd (cells? a0) fun c1=>bnd (B4 (.c (.p h.length 0)) 6) fun v2=>bnd (A4 (h ++ [some (Row.mk (c1) true)]) v2) fun v3=>bnd (E8 v3) fun v4=>A8R n n a1 v3 v4 (.c (.i .i64 0)) (h ++ [some (Row.mk (c1) true)]):=by kernel_rfl
theorem B9O (n m:Nat) (x1 x9 x10 x11:Val) (h:A0):A8R n (m + 1) x1 x9 x10 x11 h=bnd (A2 .lss x11 x10) fun v5=>cnd v5 (bnd (B9 2 x9 x11) fun v6=>bnd (A3 h 2 v6) fun v7=>bnd (A8 (h ++ [some (Row.mk ([.s [],.i .i64 0]) true)]) 2 (.c (.p h.length 0)) v7) fun h8=>bnd (B4 (.c (.p h.length 0)) 0) fun v9=>bnd (A4 h8 v9) fun v10=>bnd (A2 .eql v10 x1) fun v11=>cnd v11 (bnd (B4 (.c (.p h.length 0)) 1) fun v12=>bnd (A4 h8 v12) fun v13=>bnd (B4 (.c (.p h.length 0)) 1) fun v14=>bnd (A4 h8 v14) fun v15=>bnd (A2 .geq v15 (.c (.i .i64 0))) fun v16=>C7 [some v13,some v16] (h8 ++ [])) (bnd (A2 .add x11 (.c (.i .i64 1))) fun v17=>A8R n m x1 x9 x10 v17 h8)) (C7 [some (.c (.i .i64 0)),some (.c (.b false))] h):=by kernel_rfl
theorem K_tree_told:FnK Try.prog 40 A_tree_told A3U A6M:=.mk' (C2) Try.func40 (by kernel_rfl) (fun _ _ _=>C1)
def A4J:Fun:=tidy (Lim A_tree_told A3U)
theorem C3z:SOk Try.prog 40 A4J:=K_tree_told.sok
theorem C3y:D5 A6M A4J:=K_tree_told.flat
def B9h:ACode:=.seq [0,6,13,14,15,33] (.ops [aO 32 (.mv (.t 10)),aO 33 (.un .not (.t 32))]) (.cond (.t 33) (.seq [4,5] (.ops [aO 4 (.mv (.v (.c (.i .i64 0)))),aO 5 (.mv (.v (.c (.b false))))]) .ret) .skip)
def B9g:ACode:=.ops [aO 34 (.bin .add (.t 15) (.v (.c (.i .i64 1)))),aO 15 (.mv (.t 34))]
def B2w:ACode:=.seq [0,6,13,14,15,16] (.ops [aO 16 (.bin .lss (.t 15) (.t 14))]) (.seq [0,6,13,14,15] (.cond (.t 16) .skip (.exit 0)) (.seq [0,6,13,14,15] (.block 1 (.seq [0,6,8,13,14,15] (.ops [aO 17 (.iAddrL 1 (.t 13) (.t 15)),aO 18 (.load1 (.t 17)),aO 8 (.mv (.t 18))]) (.seq [0,6,8,9,10,13,14,15] (.ops [aO 20 (.mv (.t 0)),aO 21 (.mv (.t 6)),aO 22 (.call 17 [(.t 20),(.t 21)]),aO 19 (.mv (.t 22)),aO 23 (.ext (.t 19) 0),aO 24 (.ext (.t 19) 1),aO 9 (.alloc ([.i .i64 0,.i .i64 0,.i .i64 0,.i .i64 0,.i .i64 0,.ns,.ns])),aN (.storeN 7 (.t 9) (.t 23)),aO 10 (.mv (.t 24))]) (.seq [0,6,10,13,14,15] (.seq [0,6,8,9,10,13,14,15,25] (.ops [aO 25 (.mv (.t 10))]) (.cond (.t 25) (.ops [aO 27 (.loadN 7 (.t 9)),aO 28 (.mv (.t 8)),aO 29 (.call 40 [(.t 27),(.t 28)]),aO 26 (.mv (.t 29)),aO 30 (.ext (.t 26) 0),aO 31 (.ext (.t 26) 1),aO 6 (.mv (.t 30)),aO 10 (.mv (.t 31))]) .skip)) B9h)))) B9g))
def B9f:ACode:=.seq [6] (.seq [6,12] (.ops [aO 36 (.mv (.t 0)),aO 37 (.mv (.t 6)),aO 38 (.call 17 [(.t 36),(.t 37)]),aO 35 (.mv (.t 38)),aO 39 (.ext (.t 35) 0),aO 40 (.ext (.t 35) 1),aO 11 (.alloc ([.i .i64 0,.i .i64 0,.i .i64 0,.i .i64 0,.i .i64 0,.ns,.ns])),aN (.storeN 7 (.t 11) (.t 39)),aO 12 (.mv (.t 40))]) (.seq [6,42] (.ops [aO 41 (.mv (.t 12)),aO 42 (.un .not (.t 41))]) (.cond (.t 42) (.seq [4,5] (.ops [aO 4 (.mv (.v (.c (.i .i64 0)))),aO 5 (.mv (.v (.c (.b false))))]) .ret) .skip))) (.seq [4,5] (.ops [aO 43 (.mv (.t 6)),aO 4 (.mv (.t 43)),aO 5 (.mv (.v (.c (.b true))))]) .ret)
def A_tree_At:AFn:=⟨.seq [0,1] (.ops [aO 4 (.mv (.v (.c (.i .i64 0)))),aO 5 (.mv (.v (.c (.b false))))]) (.seq [0,1,6] (.ops [aO 6 (.mv (.v (.c (.i .i64 1))))]) (.seq [0,6] (.seq [0,6,13,14,15] (.ops [aO 13 (.mv (.t 1)),aO 14 (.len (.t 13)),aO 15 (.mv (.v (.c (.i .i64 0))))]) (.block 0 (.loop [0,6,13,14,15] B2w))) B9f)),[.tmp 4,.tmp 5]⟩
def A05:A9:=B0 17 Y5 (B0 40 A4J C0)
def C97 (n:Nat):B3 (Val × A0):=E3 [0,6] (ax A05 n B9f) A_tree_At.fin
def B2z (n:Nat):B3 (Val × A0):=D7 0 (C97 n)
def A8J (n m:Nat) (x0 x6 x13 x14 x15:Val) (h:A0):A6:=D1 (ax A05 n B2w) [0,6,13,14,15] (B2z n) m [(0,x0),(6,x6),(13,x13),(14,x14),(15,x15)] h
def A6I (n:Nat) (args:List Val) (h:A0):A6:=ax A05 n A_tree_At.code A_tree_At.fin (params 0 args) h
def C98 (n m:Nat):B3 (Val × A0):=T0 [0,6,13,14,15] (D1 (ax A05 n B2w) [0,6,13,14,15] (B2z n) m) (B2z n)
def C99 (n m:Nat):B3 (Val × A0):=E3 [0,6,13,14,15] (ax A05 n B9g) (C98 n m)
def D0a (n m:Nat):B3 (Val × A0):=D7 1 (C99 n m)
def B2x (n m:Nat) (x0 x6 x10 x13 x14 x15:Val) (h:A0):A6:=hold ((ax A05 n B9h) (D0a n m) [(0,x0),(6,x6),(10,x10),(13,x13),(14,x14),(15,x15)] h)
theorem C1f (n:Nat) (a0 a1:Val) (h:A0):A6I n [a0,a1] h=bnd (E8 a1) fun v1=>A8J n n a0 (.c (.i .i64 1)) a1 v1 (.c (.i .i64 0)) h:=by kernel_rfl
theorem B9j (n m:Nat) (x0 x6 x13 x14 x15:Val) (h:A0):A8J n (m + 1) x0 x6 x13 x14 x15 h=bnd (A2 .lss x15 x14) fun v2=>cnd v2 (bnd (B9 1 x13 x15) fun v3=>bnd (A4 h v3) fun v4=>bnd (Y5 [x0,x6] h) fun p5=>bnd (C3 p5.1 0) fun v6=>bnd (C3 p5.1 1) fun v7=>bnd (A8 (p5.2 ++ [some (Row.mk ([.i .i64 0,.i .i64 0,.i .i64 0,.i .i64 0,.i .i64 0,.ns,.ns]) true)]) 7 (.c (.p p5.2.length 0)) v6) fun h8=>cnd v7 (bnd (A3 h8 7 (.c (.p p5.2.length 0))) fun v9=>bnd (A4J [v9,v4] h8) fun p10=>bnd (C3 p10.1 0) fun v11=>bnd (C3 p10.1 1) fun v12=>B2x n m x0 v11 v12 x13 x14 x15 p10.2) (B2x n m x0 x6 v7 x13 x14 x15 h8)) (bnd (Y5 [x0,x6] h) fun p13=>bnd (C3 p13.1 0) fun v14=>bnd (C3 p13.1 1) fun v15=>bnd (A8 (p13.2 ++ [some (Row.mk ([.i .i64 0,.i .i64 0,.i .i64 0,.i .i64 0,.i .i64 0,.ns,.ns]) true)]) 7 (.c (.p p13.2.length 0)) v14) fun h16=>bnd (aun .not v15) fun v17=>cnd v17 (C7 [some (.c (.i .i64 0)),some (.c (.b false))] h16) (C7 [some x6,some (.c (.b true))] h16)):=by kernel_rfl
theorem B2y (n m:Nat) (x0 x6 x10 x13 x14 x15:Val) (h:A0):B2x n m x0 x6 x10 x13 x14 x15 h=bnd (aun .not x10) fun v18=>cnd v18 (C7 [some (.c (.i .i64 0)),some (.c (.b false))] h) (bnd (A2 .add x15 (.c (.i .i64 1))) fun v19=>A8J n m x0 x6 x13 x14 v19 h):=by kernel_rfl
theorem K_tree_At:FnK Try.prog 19 A_tree_At A05 A6I:=.mk' (B1 B3v (B1 C3z C2)) Try.func19 (by kernel_rfl) (fun _ _ _=>C1)
def A13:Fun:=tidy (Lim A_tree_At A05)
theorem B3u:SOk Try.prog 19 A13:=K_tree_At.sok
theorem C3q:D5 A6I A13:=K_tree_At.flat
def B9E:ACode:=.ops [aO 74 (.bin .add (.t 38) (.v (.c (.i .i64 1)))),aO 38 (.mv (.t 74))]
def B2P:ACode:=.seq [0,3,4,5,6,36,37,38,39] (.ops [aO 39 (.bin .lss (.t 38) (.t 37))]) (.seq [0,3,4,5,6,36,37,38] (.cond (.t 39) .skip (.exit 2)) (.seq [0,3,4,5,6,36,37,38] (.block 3 (.seq [0,3,4,5,6,10,36,37,38] (.ops [aO 40 (.iAddrL 2 (.t 36) (.t 38)),aO 41 (.loadN 2 (.t 40)),aO 10 (.alloc ([.s [],.i .i64 0])),aN (.storeN 2 (.t 10) (.t 41))]) (.seq [0,3,4,5,6,10,11,36,37,38] (.draw 0 [aO 42 (.mv (.t 3)),aO 43 (.mv (.t 4)),aO 44 (.mv (.t 6)),aO 45 (.iAddrL 1 (.t 43) (.t 44)),aO 46 (.load1 (.t 45)),aO 47 (.look (some .i64) (.c (.s [])) false (.t 42) (.t 46)),aO 48 (.bin .add (.t 47) (.v (.c (.s [47])))),aO 49 (.fAddr (.t 10) 0),aO 50 (.load1 (.t 49))] [aO 51 (.bin .add (.t 48) (.t 50)),aO 11 (.mv (.t 51))]) (.seq [0,3,4,5,6,10,11,36,37,38] (.ops [aO 52 (.mv (.t 5)),aO 53 (.mv (.t 11)),aO 54 (.buildSl 1 1 ([.s []]) [(0,1,(.t 53))]),aO 55 (.app 1 (.t 52) (.t 54)),aO 5 (.mv (.t 55))]) (.seq [0,3,4,5,6,10,11,13,36,37,38] (.ops [aO 57 (.mv (.t 3)),aO 58 (.fAddr (.t 10) 1),aO 59 (.load1 (.t 58)),aO 60 (.look (some .i64) (.c (.s [])) true (.t 57) (.t 59)),aO 56 (.mv (.t 60)),aO 61 (.ext (.t 56) 0),aO 62 (.ext (.t 56) 1),aO 12 (.mv (.t 61)),aO 13 (.mv (.t 62))]) (.seq [0,3,4,5,6,10,11,36,37,38,64] (.ops [aO 63 (.mv (.t 13)),aO 64 (.un .not (.t 63))]) (.cond (.t 64) (.seq [0,3,4,5,6,10,36,37,38] (.ops [aO 65 (.mv (.t 3)),aO 66 (.fAddr (.t 10) 1),aO 67 (.load1 (.t 66)),aO 68 (.mv (.t 11)),aN (.mput (some .i64) (.t 65) (.t 67) (.t 68))]) (.ops [aO 69 (.mv (.t 4)),aO 70 (.fAddr (.t 10) 1),aO 71 (.load1 (.t 70)),aO 72 (.buildSl 1 1 ([.i .i64 0]) [(0,1,(.t 71))]),aO 73 (.app 1 (.t 69) (.t 72)),aO 4 (.mv (.t 73))])) .skip))))))) B9E))
def B2O:ACode:=.ops [aO 21 (.mv (.t 6)),aO 22 (.bin .add (.t 21) (.v (.c (.i .i64 1)))),aO 6 (.mv (.t 22))]
def B2N:ACode:=.seq [0,3,4,5,6] (.seq [0,3,4,5,6,20] (.ops [aO 17 (.mv (.t 6)),aO 18 (.mv (.t 4)),aO 19 (.len (.t 18)),aO 20 (.bin .lss (.t 17) (.t 19))]) (.cond (.t 20) .skip (.exit 0))) (.seq [0,3,4,5,6] (.block 1 (.seq [0,3,4,5,6,7] (.ops [aO 24 (.mv (.t 0)),aO 25 (.mv (.t 4)),aO 26 (.mv (.t 6)),aO 27 (.iAddrL 1 (.t 25) (.t 26)),aO 28 (.load1 (.t 27)),aO 29 (.call 17 [(.t 24),(.t 28)]),aO 23 (.mv (.t 29)),aO 30 (.ext (.t 23) 0),aO 31 (.ext (.t 23) 1),aO 7 (.alloc ([.i .i64 0,.i .i64 0,.i .i64 0,.i .i64 0,.i .i64 0,.ns,.ns])),aN (.storeN 7 (.t 7) (.t 30)),aO 8 (.mv (.t 31))]) (.seq [0,3,4,5,6,7] (.seq [0,3,4,5,6,7,34] (.ops [aO 32 (.fAddr (.t 7) 1),aO 33 (.load1 (.t 32)),aO 34 (.bin .neq (.t 33) (.v (.c (.i .i64 2))))]) (.cond (.t 34) (.exit 1) .skip)) (.seq [0,3,4,5,6,36,37,38] (.ops [aO 35 (.fAddr (.t 7) 6),aO 36 (.load1 (.t 35)),aO 37 (.len (.t 36)),aO 38 (.mv (.v (.c (.i .i64 0))))]) (.block 2 (.loop [0,3,4,5,6,36,37,38] B2P)))))) B2O)
def B9D:ACode:=.seq [2] (.ops [aO 75 (.mv (.t 5)),aO 76 (.call 29 [(.t 75)]),aO 2 (.mv (.t 76))]) .ret
def A_tree_Paths:AFn:=⟨.seq [0] (.ops [aO 2 (.nilrow 1)]) (.seq [0,3] (.ops [aO 14 (.mkMap),aN (.mput (some .i64) (.t 14) (.v (.c (.i .i64 1))) (.v (.c (.s [])))),aO 15 (.mv (.t 14)),aO 3 (.mv (.t 15))]) (.seq [0,3,4] (.ops [aO 16 (.buildSl 1 1 ([.i .i64 0]) [(0,1,(.v (.c (.i .i64 1))))]),aO 4 (.mv (.t 16))]) (.seq [0,3,4,5] (.ops [aO 5 (.nilrow 1)]) (.seq [5] (.seq [0,3,4,5,6] (.ops [aO 6 (.mv (.v (.c (.i .i64 0))))]) (.block 0 (.loop [0,3,4,5,6] B2N))) B9D)))),[.tmp 2]⟩
def Y1:A9:=B0 17 Y5 (B0 29 A0H C0)
def D0q (n:Nat):B3 (Val × A0):=E3 [5] (ax Y1 n B9D) A_tree_Paths.fin
def B2S (n:Nat):B3 (Val × A0):=D7 0 (D0q n)
def A8N (n m:Nat) (x0 x3 x4 x5 x6:Val) (h:A0):A6:=D1 (ax Y1 n B2N) [0,3,4,5,6] (B2S n) m [(0,x0),(3,x3),(4,x4),(5,x5),(6,x6)] h
def A6K (n:Nat) (args:List Val) (h:A0):A6:=ax Y1 n A_tree_Paths.code A_tree_Paths.fin (params 0 args) h
def B9H (n m:Nat):B3 (Val × A0):=T0 [0,3,4,5,6] (D1 (ax Y1 n B2N) [0,3,4,5,6] (B2S n) m) (B2S n)
def A8M (n m:Nat) (x0 x3 x4 x5 x6:Val) (h:A0):A6:=hold ((ax Y1 n B2O) (B9H n m) [(0,x0),(3,x3),(4,x4),(5,x5),(6,x6)] h)
def D0r (n m:Nat):B3 (Val × A0):=E3 [0,3,4,5,6] (ax Y1 n B2O) (B9H n m)
def D0s (n m:Nat):B3 (Val × A0):=D7 1 (D0r n m)
def B2T (n m:Nat):B3 (Val × A0):=D7 2 (D0s n m)
def A8P (n m m2:Nat) (x0 x3 x4 x5 x6 x36 x37 x38:Val) (h:A0):A6:=D1 (ax Y1 n B2P) [0,3,4,5,6,36,37,38] (B2T n m) m2 [(0,x0),(3,x3),(4,x4),(5,x5),(6,x6),(36,x36),(37,x37),(38,x38)] h
def D0t (n m m2:Nat):B3 (Val × A0):=T0 [0,3,4,5,6,36,37,38] (D1 (ax Y1 n B2P) [0,3,4,5,6,36,37,38] (B2T n m) m2) (B2T n m)
def B2R (n m m2:Nat) (x0 x3 x4 x5 x6 x36 x37 x38:Val) (h:A0):A6:=hold ((ax Y1 n B9E) (D0t n m m2) [(0,x0),(3,x3),(4,x4),(5,x5),(6,x6),(36,x36),(37,x37),(38,x38)] h)
theorem C1h (n:Nat) (a0:Val) (h:A0):A6K n [a0] h=bnd (U6 ((h ++ [some (Row.mk ([]) true)]) ++ [some (D8 [])]) (some .i64) (.c (.m (h ++ [some (Row.mk ([]) true)]).length)) (.c (.i .i64 1)) (.c (.s []))) fun h1=>bnd (A7 ([.i .i64 0]) [(0,1,.c (.i .i64 1))]) fun c2=>A8N n n a0 (.c (.m (h ++ [some (Row.mk ([]) true)]).length)) (.c (.sl h1.length 0 1 1)) (.c (.sl (h1 ++ [some (Row.mk (c2) true)]).length 0 0 1)) (.c (.i .i64 0)) ((h1 ++ [some (Row.mk (c2) true)]) ++ [some (Row.mk ([]) true)]):=by kernel_rfl
theorem A8O (n m:Nat) (x0 x3 x4 x5 x6:Val) (h:A0):A8N n (m + 1) x0 x3 x4 x5 x6 h=bnd (E8 x4) fun v3=>bnd (A2 .lss x6 v3) fun v4=>cnd v4 (bnd (B9 1 x4 x6) fun v5=>bnd (A4 h v5) fun v6=>bnd (Y5 [x0,v6] h) fun p7=>bnd (C3 p7.1 0) fun v8=>bnd (C3 p7.1 1) fun v9=>bnd (A8 (p7.2 ++ [some (Row.mk ([.i .i64 0,.i .i64 0,.i .i64 0,.i .i64 0,.i .i64 0,.ns,.ns]) true)]) 7 (.c (.p p7.2.length 0)) v8) fun h10=>bnd (B4 (.c (.p p7.2.length 0)) 1) fun v11=>bnd (A4 h10 v11) fun v12=>bnd (A2 .neq v12 (.c (.i .i64 2))) fun v13=>cnd v13 (A8M n m x0 x3 x4 x5 x6 h10) (bnd (B4 (.c (.p p7.2.length 0)) 6) fun v14=>bnd (A4 h10 v14) fun v15=>bnd (E8 v15) fun v16=>A8P n m n x0 x3 x4 x5 x6 v15 v16 (.c (.i .i64 0)) h10)) (bnd (A0H [x5] h) fun p17=>some (p17.1,p17.2)):=by kernel_rfl
theorem B2Q (n m:Nat) (x0 x3 x4 x5 x6:Val) (h:A0):A8M n m x0 x3 x4 x5 x6 h=bnd (A2 .add x6 (.c (.i .i64 1))) fun v18=>A8N n m x0 x3 x4 x5 v18 h:=by kernel_rfl
theorem B9I (n m m2:Nat) (x0 x3 x4 x5 x6 x36 x37 x38:Val) (h:A0):A8P n m (m2 + 1) x0 x3 x4 x5 x6 x36 x37 x38 h=bnd (A2 .lss x38 x37) fun v19=>cnd v19 (bnd (B9 2 x36 x38) fun v20=>bnd (A3 h 2 v20) fun v21=>bnd (A8 (h ++ [some (Row.mk ([.s [],.i .i64 0]) true)]) 2 (.c (.p h.length 0)) v21) fun h22=>bnd (B9 1 x4 x6) fun v23=>bnd (A4 h22 v23) fun v24=>bnd (O9 h22 (some .i64) (.c (.s [])) false x3 v24) fun v25=>bnd (A2 .add v25 (.c (.s [47]))) fun v26=>bnd (B4 (.c (.p h.length 0)) 0) fun v27=>bnd (A4 h22 v27) fun v28=>bnd (A2 .add v26 v28) fun v29=>bnd (A7 ([.s []]) [(0,1,v29)]) fun c30=>bnd (F0 ((h22 ++ []) ++ [some (Row.mk (c30) true)]) 1 x5 (.c (.sl (h22 ++ []).length 0 1 1))) fun p31=>bnd (B4 (.c (.p h.length 0)) 1) fun v32=>bnd (A4 p31.2 v32) fun v33=>bnd (O9 p31.2 (some .i64) (.c (.s [])) true x3 v33) fun v34=>bnd (C3 v34 0) fun v35=>bnd (C3 v34 1) fun v36=>bnd (aun .not v36) fun v37=>cnd v37 (bnd (B4 (.c (.p h.length 0)) 1) fun v38=>bnd (A4 p31.2 v38) fun v39=>bnd (U6 p31.2 (some .i64) x3 v39 v29) fun h40=>bnd (B4 (.c (.p h.length 0)) 1) fun v41=>bnd (A4 h40 v41) fun v42=>bnd (A7 ([.i .i64 0]) [(0,1,v42)]) fun c43=>bnd (F0 (h40 ++ [some (Row.mk (c43) true)]) 1 x4 (.c (.sl h40.length 0 1 1))) fun p44=>B2R n m m2 x0 x3 p44.1 p31.1 x6 x36 x37 x38 p44.2) (B2R n m m2 x0 x3 x4 p31.1 x6 x36 x37 x38 p31.2)) (A8M n m x0 x3 x4 x5 x6 h):=by kernel_rfl
theorem B9G (n m m2:Nat) (x0 x3 x4 x5 x6 x36 x37 x38:Val) (h:A0):B2R n m m2 x0 x3 x4 x5 x6 x36 x37 x38 h=bnd (A2 .add x38 (.c (.i .i64 1))) fun v45=>A8P n m m2 x0 x3 x4 x5 x6 x36 x37 v45 h:=by kernel_rfl
theorem K_tree_Paths:FnK Try.prog 18 A_tree_Paths Y1 A6K:=.mk' (B1 B3v (B1 B3r C2)) Try.func18 (by kernel_rfl) (fun _ _ _=>C1)
def A16:Fun:=tidy (Lim A_tree_Paths Y1)
theorem B3z:SOk Try.prog 18 A16:=K_tree_Paths.sok
theorem C3w:V4 A6K A16:=K_tree_Paths.out
def B9m:ACode:=.ops [aO 29 (.bin .add (.t 19) (.v (.c (.i .i64 1)))),aO 19 (.mv (.t 29))]
def B2B:ACode:=.seq [1,5,10,11,12,17,18,19,20] (.ops [aO 20 (.bin .lss (.t 19) (.t 18))]) (.seq [1,5,10,11,12,17,18,19] (.cond (.t 20) .skip (.exit 2)) (.seq [1,5,10,11,12,17,18,19] (.block 3 (.seq [1,5,9,10,11,12,17,18,19] (.ops [aO 21 (.iAddrL 2 (.t 17) (.t 19)),aO 22 (.loadN 2 (.t 21)),aO 9 (.alloc ([.s [],.i .i64 0])),aN (.storeN 2 (.t 9) (.t 22))]) (.seq [1,5,10,11,12,17,18,19,26] (.ops [aO 23 (.fAddr (.t 9) 1),aO 24 (.load1 (.t 23)),aO 25 (.mv (.t 1)),aO 26 (.bin .eql (.t 24) (.t 25))]) (.cond (.t 26) (.ops [aO 27 (.mv (.t 5)),aO 28 (.bin .add (.t 27) (.v (.c (.i .i64 1)))),aO 5 (.mv (.t 28))]) .skip)))) B9m))
def B9l:ACode:=.ops [aO 30 (.bin .add (.t 12) (.v (.c (.i .i64 1)))),aO 12 (.mv (.t 30))]
def B2A:ACode:=.seq [1,5,10,11,12,13] (.ops [aO 13 (.bin .lss (.t 12) (.t 11))]) (.seq [1,5,10,11,12] (.cond (.t 13) .skip (.exit 0)) (.seq [1,5,10,11,12] (.block 1 (.seq [1,5,7,10,11,12] (.ops [aO 14 (.iAddrL 7 (.t 10) (.t 12)),aO 15 (.loadN 7 (.t 14)),aO 7 (.alloc ([.i .i64 0,.i .i64 0,.i .i64 0,.i .i64 0,.i .i64 0,.ns,.ns])),aN (.storeN 7 (.t 7) (.t 15))]) (.seq [1,5,10,11,12,17,18,19] (.ops [aO 16 (.fAddr (.t 7) 6),aO 17 (.load1 (.t 16)),aO 18 (.len (.t 17)),aO 19 (.mv (.v (.c (.i .i64 0))))]) (.block 2 (.loop [1,5,10,11,12,17,18,19] B2B))))) B9l))
def B9k:ACode:=.seq [4] (.ops [aO 31 (.mv (.t 5)),aO 4 (.mv (.t 31))]) .ret
def A_tree_Count:AFn:=⟨.seq [0,1] (.ops [aO 4 (.mv (.v (.c (.i .i64 0))))]) (.seq [0,1,5] (.ops [aO 5 (.mv (.v (.c (.i .i64 0))))]) (.seq [5] (.seq [1,5,10,11,12] (.ops [aO 10 (.mv (.t 0)),aO 11 (.len (.t 10)),aO 12 (.mv (.v (.c (.i .i64 0))))]) (.block 0 (.loop [1,5,10,11,12] B2A))) B9k)),[.tmp 4]⟩
def A0j:A9:=C0
def D0c (n:Nat):B3 (Val × A0):=E3 [5] (ax A0j n B9k) A_tree_Count.fin
def B2D (n:Nat):B3 (Val × A0):=D7 0 (D0c n)
def A5E (n m:Nat) (x1 x5 x10 x11 x12:Val) (h:A0):A6:=D1 (ax A0j n B2A) [1,5,10,11,12] (B2D n) m [(1,x1),(5,x5),(10,x10),(11,x11),(12,x12)] h
def A6J (n:Nat) (args:List Val) (h:A0):A6:=ax A0j n A_tree_Count.code A_tree_Count.fin (params 0 args) h
def D0d (n m:Nat):B3 (Val × A0):=T0 [1,5,10,11,12] (D1 (ax A0j n B2A) [1,5,10,11,12] (B2D n) m) (B2D n)
def D0e (n m:Nat):B3 (Val × A0):=E3 [1,5,10,11,12] (ax A0j n B9l) (D0d n m)
def D0f (n m:Nat):B3 (Val × A0):=D7 1 (D0e n m)
def B2E (n m:Nat):B3 (Val × A0):=D7 2 (D0f n m)
def A8K (n m m2:Nat) (x1 x5 x10 x11 x12 x17 x18 x19:Val) (h:A0):A6:=D1 (ax A0j n B2B) [1,5,10,11,12,17,18,19] (B2E n m) m2 [(1,x1),(5,x5),(10,x10),(11,x11),(12,x12),(17,x17),(18,x18),(19,x19)] h
def D0g (n m m2:Nat):B3 (Val × A0):=T0 [1,5,10,11,12,17,18,19] (D1 (ax A0j n B2B) [1,5,10,11,12,17,18,19] (B2E n m) m2) (B2E n m)
def B2C (n m m2:Nat) (x1 x5 x10 x11 x12 x17 x18 x19:Val) (h:A0):A6:=hold ((ax A0j n B9m) (D0g n m m2) [(1,x1),(5,x5),(10,x10),(11,x11),(12,x12),(17,x17),(18,x18),(19,x19)] h)
theorem C1g (n:Nat) (a0 a1:Val) (h:A0):A6J n [a0,a1] h=bnd (E8 a0) fun v1=>A5E n n a1 (.c (.i .i64 0)) a0 v1 (.c (.i .i64 0)) h:=by kernel_rfl
theorem B9o (n m:Nat) (x1 x5 x10 x11 x12:Val) (h:A0):A5E n (m + 1) x1 x5 x10 x11 x12 h=bnd (A2 .lss x12 x11) fun v2=>cnd v2 (bnd (B9 7 x10 x12) fun v3=>bnd (A3 h 7 v3) fun v4=>bnd (A8 (h ++ [some (Row.mk ([.i .i64 0,.i .i64 0,.i .i64 0,.i .i64 0,.i .i64 0,.ns,.ns]) true)]) 7 (.c (.p h.length 0)) v4) fun h5=>bnd (B4 (.c (.p h.length 0)) 6) fun v6=>bnd (A4 h5 v6) fun v7=>bnd (E8 v7) fun v8=>A8K n m n x1 x5 x10 x11 x12 v7 v8 (.c (.i .i64 0)) h5) (some (x5,h)):=by kernel_rfl
theorem B2F (n m m2:Nat) (x1 x5 x10 x11 x12 x17 x18 x19:Val) (h:A0):A8K n m (m2 + 1) x1 x5 x10 x11 x12 x17 x18 x19 h=bnd (A2 .lss x19 x18) fun v9=>cnd v9 (bnd (B9 2 x17 x19) fun v10=>bnd (A3 h 2 v10) fun v11=>bnd (A8 (h ++ [some (Row.mk ([.s [],.i .i64 0]) true)]) 2 (.c (.p h.length 0)) v11) fun h12=>bnd (B4 (.c (.p h.length 0)) 1) fun v13=>bnd (A4 h12 v13) fun v14=>bnd (A2 .eql v14 x1) fun v15=>cnd v15 (bnd (A2 .add x5 (.c (.i .i64 1))) fun v16=>B2C n m m2 x1 v16 x10 x11 x12 x17 x18 x19 h12) (B2C n m m2 x1 x5 x10 x11 x12 x17 x18 x19 h12)) (bnd (A2 .add x12 (.c (.i .i64 1))) fun v17=>A5E n m x1 x5 x10 x11 v17 h):=by kernel_rfl
theorem B9n (n m m2:Nat) (x1 x5 x10 x11 x12 x17 x18 x19:Val) (h:A0):B2C n m m2 x1 x5 x10 x11 x12 x17 x18 x19 h=bnd (A2 .add x19 (.c (.i .i64 1))) fun v18=>A8K n m m2 x1 x5 x10 x11 x12 x17 x18 v18 h:=by kernel_rfl
theorem K_tree_Count:FnK Try.prog 16 A_tree_Count A0j A6J:=.mk' (C2) Try.func16 (by kernel_rfl) (fun _ _ _=>C1)
def A4I:Fun:=tidy (Lim A_tree_Count A0j)
theorem C3s:SOk Try.prog 16 A4I:=K_tree_Count.sok
theorem C3r:D5 A6J A4I:=K_tree_Count.flat
end Go.Proofs.Yteckncopbicmcaa
end
section
namespace Go.Proofs.Yteckncopbicmcaa
open Go Go.Esc
theorem C5E {l:List Ent} {x:Ent}:D9 (l ++ [x])=D9 l ++ E1 (some x):=by simp [D9]
theorem A1g {l:List Ent}:(D9 l).length=l.length * 2:=by
  induction l with
  | nil=>rfl
  | cons x l ih=>simp only [D9,List.map_cons,List.flatten_cons,List.length_append,List.length_cons,E1,List.length_nil] at ih ⊢;omega
theorem B0Z {l:List Ent}:F3 (D9 l)=true:=by
  induction l with
  | nil=>rfl
  | cons x l ih =>
    have:D9 (x :: l)=E1 (some x) ++ D9 l:=rfl
    rw [this,A7y,ih];rfl
theorem A7v {l:List Ent}:noX (D9 l)=true:=by
  induction l with
  | nil=>rfl
  | cons x l ih =>
    have:D9 (x :: l)=[.s x.1,.i .i64 x.2] ++ D9 l:=rfl
    rw [this]
    simp [noX,Cell.isX] at ih ⊢
    exact ih
theorem B70 {F:List UInt8 → Int} {B:A0} {b q mid sid:Nat} {S:F7} {es:E6} (hm:MapN es F S) (hb:b + 5 < B.length) (hs:rd B sid=some ⟨encS S,true⟩) (h5:rd B (b + 5)=some ⟨[.m mid],true⟩) (h4:rd B mid=some (D8 es)) (h62:S.length < 1000000) :
    ∀ (e i M id:Nat) (h:A0),i + e=S.length → e < M → Low b B h → id ≠ b + 5 → id ≠ sid → id ≠ mid → b ≤ id → (∀ j r,j=b + 5 ∨ j=sid ∨ j=mid → rd B j=some r → rd h j=some r) → rd h id=some ⟨D9 ((S.take i).map fun s=>(s,F s)),true⟩ → B.length ≤ h.length →
      ∃ v' h',A7k q M (.c (.p (b + 5) 0)) (.c (.sl id 0 i 2)) (.c (.sl sid 0 S.length 1)) (.c (.i .i64 (S.length:Int))) (.c (.i .i64 (i:Int))) h=some (v',h') ∧ Out b h' v' 2 S.length (D9 (S.map fun s=>(s,F s)))
  | e,i,0,id,h,_,hm,_,_,_,_,_,_,_,_=>by omega
  | 0,i,M + 1,id,h,hi,hm0,hlow,n5,ns,n4,hbi,hk,hr,hl=>by
    have c0:¬ (i:Int) < (S.length:Nat):=by omega
    have ei:i=S.length:=by omega
    subst ei
    rw [B44]
    rw [List.take_length] at hr
    refine ⟨.c (.sl id 0 S.length 2),h,by simp only [C8,E7,c0,decide_false,G7],by rw [A1g];simp,id,rfl,hbi,hr⟩
  | e + 1,i,M + 1,id,h,hi,hm0,hlow,n5,ns,n4,hbi,hk,hr,hl=>by
    have hil:i < S.length:=by omega
    have c0:(i:Int) < (S.length:Nat):=by omega
    have ad:B9 1 (.c (.sl sid 0 S.length 1)) (.c (.i .i64 (i:Int)))=some (.c (.p sid i)):=by rw [H8 hil];simp
    have l1:A4 h (.c (.p sid i))=some (.c (.s S[i])):=F4 (hk sid _ (.inr (.inl rfl)) hs) (by rw [Z2,List.getElem?_eq_getElem hil];rfl) rfl
    have l5:A4 h (.c (.p (b + 5) 0))=some (.c (.m mid)):=F4 (hk _ _ (.inl rfl) h5) rfl rfl
    have lk:=C67 (s:=S[i]) (hk _ _ (.inr (.inr rfl)) h4) hm (List.getElem_mem hil)
    have ef:A7 [Cell.s [],.i .i64 0] [(0,1,.c (.s S[i])),(1,1,.c (.i .i64 (F S[i])))]=some (E1 (some (S[i],F S[i]))):=rfl
    have ef2:A7 [Cell.s [],.i .i64 0] [(0,2,.a (E1 (some (S[i],F S[i]))))]=some (E1 (some (S[i],F S[i]))):=rfl
    have el:((S.take i).map fun s=>(s,F s)).length=i:=by simp;omega
    obtain ⟨h2,a1,a2,a3,a4⟩:=A5n (n:=i) (sz:=2) (ys:=E1 (some (S[i],F S[i]))) hr (by rw [A1g,el]) rfl (by omega) (by omega)
    have et:D9 ((S.take i).map fun s=>(s,F s)) ++ E1 (some (S[i],F S[i]))=D9 ((S.take (i + 1)).map fun s=>(s,F s)):=by
      rw [List.take_add_one,List.getElem?_eq_getElem hil,List.map_append,D9]
      simp [D9]
    rw [et] at a2
    have w1:=E2 (show i + 1 < 9223372036854775808 by omega)
    have hlt2:=B7 a2
    obtain ⟨v',h',f1,f2⟩:=B70 (q:=q) hm hb hs h5 h4 h62 e (i + 1) M (h.length + 1) h2 (by omega) (by omega) (hlow.trans (a4 _ hbi (by have:=hlow.1;omega))) (by omega)
      (fun e1=>by have:=B7 hs;omega) (fun e1=>by have:=B7 h4;omega) (by omega) (fun j r hj hjr=>a3 _ _ (by rcases hj with rfl | rfl | rfl <;> omega) (hk j r hj hjr)) a2 (by omega)
    rw [B44]
    refine ⟨v',h',?_,f2⟩
    simp only [C8,E7,c0,decide_true,G4,ad,l1,l5,lk,ef,ef2,a1,I8,w1]
    exact f1
theorem C49 {D:Dev} {n m k l s p:Int} {d:List Int} {f:Cell} {h:A0} (hD:okD D) (hd:d.length=7) (hv:IsView h f D) :
    A34 [.a (vwC D.length n m f),.a (A5 k l s p d)] h=some (.c (.sl h.length 0 (Q1 D n k d).length 2),h ++ [some ⟨D9 (Q1 D n k d),true⟩]):=by
  have key:∀ g,IsView g f D → ∃ v g',A5R 300 [.a (vwC D.length n m f),.a (A5 k l s p d)] g=some (v,g') ∧ Out g.length g' v 2 (Q1 D n k d).length (D9 (Q1 D n k d)):=by
    intro g hv
    have hIl:(A5 k l s p d).length=11:=by simp [A5,H0,hd]
    have hbl:=B4F (D:=D) (n:=n) (k:=k) (d:=d)
    obtain ⟨V,hV⟩:∃ V,V=vwC D.length n m f:=⟨_,rfl⟩
    obtain ⟨I,hI⟩:∃ I,I=A5 k l s p d:=⟨_,rfl⟩
    have hVl:V.length=4:=by rw [hV];rfl
    have hIl':I.length=11:=by rw [hI];exact hIl
    obtain ⟨G,hG⟩:∃ G,G=g ++ [some (Row.mk V true),some (Row.mk I true),some (Row.mk [] true),some (Row.mk [.ns] true),some (D8 []),some (Row.mk [.m (g.length + 4)] true)]:=⟨_,rfl⟩
    obtain ⟨G2,hG2⟩:∃ G2,G2=G ++ [some (Row.mk V true),some (Row.mk I true),some (Row.mk (encI (J6 D n k d)) true)]:=⟨_,rfl⟩
    have lG:G.length=g.length + 6:=by rw [hG];simp
    have lG2:G2.length=g.length + 9:=by rw [hG2];simp [lG]
    have hB:=C5Y (n:=n) (m:=m) (k:=k) (l:=l) (s:=s) (p:=p) (h:=G ++ [some (Row.mk V true),some (Row.mk I true)]) hD hd (by rw [hG];exact (hv.more _).more _)
    rw [← hV,← hI] at hB
    have hB2:(G ++ [some (Row.mk V true),some (Row.mk I true)]) ++ [some (Row.mk (encI (J6 D n k d)) true)]=G2:=by rw [hG2];simp
    rw [hB2] at hB
    have lB:(G ++ [some (Row.mk V true),some (Row.mk I true)]).length=g.length + 8:=by simp [lG]
    rw [lB] at hB
    have emk:W6 28 [.c (.p g.length 0),.c (.p (g.length + 1) 0),.c (.p (g.length + 3) 0),.c (.p (g.length + 5) 0)]=some (.c (.f 28 [(g.length,0),(g.length + 1,0),(g.length + 3,0),(g.length + 5,0)])):=rfl
    have hcv:∀ (x y:Val) (h:A0),L6 A0i (.c (.f 28 [(g.length,0),(g.length + 1,0),(g.length + 3,0),(g.length + 5,0)])) [x,y] h=A35 [x,y,.c (.p g.length 0),.c (.p (g.length + 1) 0),.c (.p (g.length + 3) 0),.c (.p (g.length + 5) 0)] h:=fun _ _ _=>Eq.trans rfl rfl
    have P0:ListP D n k d V I (J6 D n k d) g [] 0 [] G2:=by
      refine ⟨VarC.nil ?_,Nat.le_refl _,?_,?_,?_,?_,?_,?_,⟨[],?_,MapN.nil _⟩,fun j hj=>by simp at hj⟩
      · rw [hG2,hG];simp
      · rw [hG2,hG];exact ((Low.refl (Nat.le_refl _)).new _).new _
      · rw [hG2,hG];simp
      · rw [hG2,hG];simp
      · rw [hG2,← lG];simp
      · rw [hG2,show g.length + 8=G.length + 2 by omega];simp
      · rw [hG2,hG];simp
      · rw [hG2,hG];simp
    obtain ⟨h',f1,f2⟩:=B4E (σ:=List Tld) (L0:=fun M x h=>A7l 300 M (.c (.f 28 [(g.length,0),(g.length + 1,0),(g.length + 3,0),(g.length + 5,0)])) (.c (.p (g.length + 6) 0)) (.c (.sl (g.length + 8) 0 (J6 D n k d).length 1)) (.c (.i .i64 ((J6 D n k d).length:Nat))) x h)
      (L1:=fun M m2 x7 x14 x21 x22 x23 h=>A7m 300 M m2 (.c (.f 28 [(g.length,0),(g.length + 1,0),(g.length + 3,0),(g.length + 5,0)])) (.c (.p (g.length + 6) 0)) x7 (.c (.sl (g.length + 8) 0 (J6 D n k d).length 1)) (.c (.i .i64 ((J6 D n k d).length:Nat))) x14 x21 x22 x23 h)
      (C:=fun x y h=>L6 A0i (.c (.f 28 [(g.length,0),(g.length + 1,0),(g.length + 3,0),(g.length + 5,0)])) [x,y] h)
      (N:=300) (x3:=.c (.p (g.length + 6) 0)) (n:=n) (m:=m) (f:=f) (sid:=g.length + 8) (L:=J6 D n k d) hD (fun rs c s h=>ListP D n k d V I (J6 D n k d) g rs c s h) (fun s t=>s ++ [t]) (by omega)
      (fun M x h=>by rw [C5i])
      (fun M v9 x v w M2 y h=>by rw [C5j])
      (fun rs c s h P=>⟨by rw [← hV];exact F6 P.r6 hVl,hv.since P.low,P.r8⟩)
      (fun rs c s h t P=>P.more t) (fun rs c s h r P=>P.one r) (fun i rs c s h P=>P.less) (fun rs c c' s h P hc=>P.wide hc)
      (fun rs c st h1 no x P hc hno hx=>by
        obtain ⟨h2,e1,e2,e3⟩:=C63 (t:=((no,x.1,x.2.2),x.2.1)) (n:=n) (m:=m) (k:=k) (l:=l) (s0:=s) (p:=p) (c:=c) hD hd hv (by omega) (by have:=C8p (B6U hx).1;exact this) (by rw [← hV,← hI];exact P)
        rw [← hV,← hI] at e2
        exact ⟨h2,by rw [hcv];exact e1,e2,e3⟩)
      (by omega) (J6 D n k d).length 0 300 [] [] G2 (by omega) (by omega) P0
    rw [List.drop_zero] at f2
    have efold:∀ (L:List Tld) (s0:List Tld),L.foldl (fun s t=>s ++ [t]) s0=s0 ++ L:=by
      intro L
      induction L with
      | nil=>intro s0;simp
      | cons t L ih=>intro s0;rw [List.foldl_cons,ih];simp
    rw [efold,List.nil_append] at f2
    change ListP D n k d V I (J6 D n k d) g [] (7 * (J6 D n k d).length) (N2 D n k d) h' at f2
    have hS:A38 [.a V,.a I,.c (.f 28 [(g.length,0),(g.length + 1,0),(g.length + 3,0),(g.length + 5,0)])] G=some (.t [],h'):=by
      refine C1M (n:=300) ?_
      rw [C0f]
      have g4:A3 (G ++ [some (Row.mk V true),some (Row.mk I true)]) 4 (.c (.p G.length 0))=some (.a V):=by rw [W5];exact Q0 hVl
      have g11:A3 (G ++ [some (Row.mk V true),some (Row.mk I true)]) 11 (.c (.p (G.length + 1) 0))=some (.a I):=by rw [A0O];exact Q0 hIl'
      simp only [A0S,C8,List.append_assoc,List.cons_append,List.nil_append,List.length_append,List.length_cons,List.length_nil,Nat.zero_add,g4,g11,hB,Y9]
      rw [lG]
      exact f1
    obtain ⟨x,hx,hdx⟩:=f2.var
    have hN:=B7n (D:=D) (n:=n) (k:=k) (d:=d) (s:=N2 D n k d)
    have hlen:=f2.len
    have hlt:=B7 f2.r8
    have hH:Has (h' ++ [some (Row.mk [] true)]) (.c x) 1 (I2 D n k d (N2 D n k d)).length (encS (I2 D n k d (N2 D n k d))):=by
      rcases hdx with ⟨e1,e2,rfl⟩ | ⟨id,rfl,hr,hl,_,_⟩
      · exact .inl ⟨rfl,e1,e2⟩
      · exact Has.row (rw:=true) (B6 hr) hl (A77 _)
    have hSo:=B7k hH (by omega)
    obtain ⟨es,r4,hm⟩:=f2.r4
    have hm2:MapN es (A2v D n k d) (O7 (I2 D n k d (N2 D n k d))):=⟨hm.1,fun s hs=>hm.2 s ((A5x _ _).1 hs)⟩
    have hsl:=B8L (I2 D n k d (N2 D n k d))
    have lh:(h' ++ [some (Row.mk [] true)]).length=h'.length + 1:=by simp
    rw [lh] at hSo
    obtain ⟨v',g',o1,o2⟩:=B70 (F:=A2v D n k d) (B:=h' ++ [some (Row.mk [] true)] ++ [some (Row.mk (encS (O7 (I2 D n k d (N2 D n k d)))) true)]) (b:=g.length) (q:=300) (mid:=g.length + 4) (sid:=h'.length + 1) (S:=O7 (I2 D n k d (N2 D n k d))) hm2 (by simp;omega) (by rw [← lh];exact F1) (B6 (B6 f2.r5)) (B6 (B6 r4)) (by omega)
      (O7 (I2 D n k d (N2 D n k d))).length 0 300 h'.length (h' ++ [some (Row.mk [] true)] ++ [some (Row.mk (encS (O7 (I2 D n k d (N2 D n k d)))) true)]) (by omega) (by omega) (Low.refl (by simp;omega)) (by omega) (by omega) (by omega) (by omega) (fun j r _ hj=>hj) (by simp [D9]) (Nat.le_refl _)
    have eL:(Q1 D n k d).length=(O7 (I2 D n k d (N2 D n k d))).length:=by simp [Q1]
    refine ⟨v',g',?_,by rw [eL];exact o2⟩
    have t1:A4 (h' ++ [some (Row.mk [] true)]) (.c (.p (g.length + 3) 0))=some (.c x):=F4 (B6 hx) rfl (by
      rcases hdx with ⟨_,_,rfl⟩ | ⟨id,rfl,_⟩ <;> rfl)
    have s5:E4 (g ++ [some (Row.mk V true),some (Row.mk I true),some (Row.mk [] true),some (Row.mk [.ns] true),some (D8 []),some (Row.mk [.nm] true)]) (.c (.p (g.length + 5) 0)) (.c (.m (g.length + 4)))=some G:=by
      rw [A2h,hG];rfl
    have g4:A3 G 4 (.c (.p g.length 0))=some (.a V):=by rw [hG,W5];exact Q0 hVl
    have g11:A3 G 11 (.c (.p (g.length + 1) 0))=some (.a I):=by rw [hG,A0O];exact Q0 hIl'
    rw [C0c,← hV,← hI]
    simp only [A0S,C8,List.append_assoc,List.cons_append,List.nil_append,List.length_append,List.length_cons,List.length_nil,Nat.zero_add,Nat.reduceAdd,s5,g4,g11,emk,hS,t1]
    rw [hSo]
    simp only [C8,Y9]
    exact o1
  obtain ⟨v,g',e,ho⟩:=key (ro h) hv.ro
  exact C1H e (by simpa [N7] using ho) B0Z
end Go.Proofs.Yteckncopbicmcaa
end
section
namespace Go.Proofs.Yteckncopbicmcaa
open Go Go.Esc
def ndC (i k l p s:Int) (x y:Cell):List Cell:=[.i .i64 i,.i .i64 k,.i .i64 l,.i .i64 p,.i .i64 s,x,y]
def IsNd (h:A0) (cs:List Cell) (nd:Nd):Prop:=∃ x y,cs=ndC nd.ino nd.kind nd.links nd.parent nd.size x y ∧ Has h (.c x) 1 nd.data.length (A1 nd.data) ∧ Has h (.c y) 2 nd.names.length (D9 nd.names)
def IsNds (h:A0):List Cell → List Nd → Prop
  | cs,[]=>cs=[]
  | cs,x :: t=>∃ c1 c2,cs=c1 ++ c2 ∧ IsNd h c1 x ∧ IsNds h c2 t
def IsTree (h:A0) (v:Val) (t:List Nd):Prop:=∃ cs,Has h v 7 t.length cs ∧ IsNds h cs t
theorem B5Z {h:A0} {x:Cell} {sz n:Nat} {cs:List Cell} (hv:Has h (.c x) sz n cs):x.isX=false:=by
  rcases hv with ⟨e,_⟩ | ⟨id,off,r,e,_⟩ <;> cases e <;> rfl
theorem IsNd.length {h:A0} {cs:List Cell} {x:Nd} (hx:IsNd h cs x):cs.length=7:=by
  obtain ⟨a,b,rfl,_⟩:=hx;rfl
theorem IsNd.noX {h:A0} {cs:List Cell} {x:Nd} (hx:IsNd h cs x):noX cs=true:=by
  obtain ⟨a,b,rfl,h1,h2⟩:=hx
  simp only [Esc.noX,ndC,List.all_cons,List.all_nil,B5Z h1,B5Z h2];rfl
theorem IsNds.noX {h:A0}:∀ {t:List Nd} {cs:List Cell},IsNds h cs t → noX cs=true ∧ cs.length=t.length * 7
  | [],_,hx=>by
    have hx:_=[]:=hx
    subst hx;exact ⟨rfl,rfl⟩
  | x :: t,_,⟨c1,c2,e,h1,h2⟩=>by
    subst e
    have h3:=h1.noX
    have h4:=IsNds.noX h2
    refine ⟨?_,by rw [List.length_append,h1.length,h4.2,List.length_cons];omega⟩
    have h5:=h4.1
    unfold Esc.noX at h3 h5 ⊢
    rw [List.all_append,h3,h5];rfl
theorem IsNd.ro {h:A0} {cs:List Cell} {x:Nd} (hx:IsNd h cs x):IsNd (ro h) cs x:=by
  obtain ⟨a,b,e,h1,h2⟩:=hx
  exact ⟨a,b,e,h1.ro,h2.ro⟩
theorem IsNd.since {g h:A0} {cs:List Cell} {x:Nd} (hx:IsNd g cs x) (h1:Low g.length g h):IsNd h cs x:=by
  obtain ⟨a,b,e,h2,h3⟩:=hx
  exact ⟨a,b,e,h2.since h1,h3.since h1⟩
theorem IsNds.ro {h:A0}:∀ {t:List Nd} {cs:List Cell},IsNds h cs t → IsNds (Esc.ro h) cs t
  | [],_,hx=>hx
  | x :: t,_,⟨c1,c2,e,h1,h2⟩=>⟨c1,c2,e,h1.ro,IsNds.ro h2⟩
theorem IsNds.since {g h:A0} (h1:Low g.length g h):∀ {t:List Nd} {cs:List Cell},IsNds g cs t → IsNds h cs t
  | [],_,hx=>hx
  | x :: t,_,⟨c1,c2,e,h2,h3⟩=>⟨c1,c2,e,h2.since h1,IsNds.since h1 h3⟩
theorem IsTree.ro {h:A0} {v:Val} {t:List Nd} (ht:IsTree h v t):IsTree (Esc.ro h) v t:=by
  obtain ⟨cs,h1,h2⟩:=ht
  exact ⟨cs,h1.ro,h2.ro⟩
theorem IsTree.since {g h:A0} {v:Val} {t:List Nd} (ht:IsTree g v t) (h1:Low g.length g h):IsTree h v t:=by
  obtain ⟨cs,h2,h3⟩:=ht
  exact ⟨cs,h2.since h1,h3.since h1⟩
theorem IsTree.more {g:A0} {v:Val} {t:List Nd} (ht:IsTree g v t) (l:A0):IsTree (g ++ l) v t:=ht.since ((Low.refl (Nat.le_refl _)).new l)
theorem IsTree.len {h:A0} {v:Val} {t:List Nd} (ht:IsTree h v t):E8 v=some (.c (.i .i64 t.length)):=by
  obtain ⟨cs,h1,_⟩:=ht
  exact h1.len
theorem IsNds.at {h:A0}:∀ {t:List Nd} {cs:List Cell},IsNds h cs t → ∀ {i:Nat} {x:Nd},t[i]? = some x → IsNd h ((cs.drop (i * 7)).take 7) x
  | [],_,_,i,x,hx=>by simp at hx
  | y :: t,_,⟨c1,c2,e,h1,h2⟩,0,x,hx=>by
    subst e
    simp at hx
    subst hx
    rw [Nat.zero_mul,List.drop_zero,List.take_left' h1.length]
    exact h1
  | y :: t,_,⟨c1,c2,e,h1,h2⟩,i + 1,x,hx=>by
    subst e
    rw [show (i + 1) * 7=7 + i * 7 by omega,← List.drop_drop,List.drop_left' h1.length]
    exact IsNds.at h2 (by simpa using hx)
theorem IsTree.at {h:A0} {v:Val} {t:List Nd} (ht:IsTree h v t) {i:Nat} (hi:i < t.length) :
    ∃ a cs,B9 7 v (.c (.i .i64 (i:Int)))=some a ∧ A3 h 7 a=some (.a cs) ∧ IsNd h cs t[i]:=by
  obtain ⟨cs,h1,h2⟩:=ht
  have hcs:=h2.noX
  obtain ⟨id,off,rfl,hid,_,hB⟩:=h1.sl (by omega)
  refine ⟨.c (.p id (off + i * 7)),_,H8 hi,hB (i * 7) 7 (by rw [hcs.2];omega),h2.at (List.getElem?_eq_getElem hi)⟩
theorem A0y {h:A0} {cs:List Cell} (hc:cs.length=7):A8 (h ++ [some (Row.mk [.i .i64 0,.i .i64 0,.i .i64 0,.i .i64 0,.i .i64 0,.ns,.ns] true)]) 7 (.c (.p h.length 0)) (.a cs)=some (h ++ [some ⟨cs,true⟩]):=by
  exact (storeAll F1 rfl hc).trans (by simp)
theorem B01 {v:Val} {t:List Nd} {a:Int} {g:A0} {q:Nat} (hv:IsTree g v t) (hs:small t):∀ (e i M:Nat) (h:A0),i + e=t.length → e < M → Low (g.length + 1) (g ++ [some (Row.mk (ndC 0 0 0 0 0 .ns .ns) true)]) h →
    match J3 (t.drop i) a with
    | some x=>∃ j1 j2 h',A2N q M (.c (.i .i64 a)) (.c (.p g.length 0)) v (.c (.i .i64 (t.length:Int))) (.c (.i .i64 (i:Int))) h=some (.t [.a (ndC x.ino x.kind x.links x.parent x.size (.sl j1 0 x.data.length 1) (.sl j2 0 x.names.length 2)),.c (.b true)],h') ∧
        g.length ≤ j1 ∧ g.length ≤ j2 ∧ j1 ≠ j2 ∧ rd h' j1=some ⟨A1 x.data,true⟩ ∧ rd h' j2=some ⟨D9 x.names,true⟩ ∧ Low g.length g h'
    | none=>∃ h',A2N q M (.c (.i .i64 a)) (.c (.p g.length 0)) v (.c (.i .i64 (t.length:Int))) (.c (.i .i64 (i:Int))) h=some (.t [.a (ndC 0 0 0 0 0 .ns .ns),.c (.b false)],h')
  | e,i,0,h,_,hm,_=>by omega
  | 0,i,M + 1,h,hi,hm,hlow=>by
    have e0:i=t.length:=by omega
    subst e0
    have c0:¬ ((t.length:Nat):Int) < (t.length:Nat):=by omega
    rw [List.drop_length]
    have hr:rd h g.length=some ⟨ndC 0 0 0 0 0 .ns .ns,true⟩:=by rw [hlow.2.2 _ (by omega)];exact F1
    have ef:A7 [Cell.i .i64 0,.i .i64 0,.i .i64 0,.i .i64 0,.i .i64 0,.ns,.ns] []=some (ndC 0 0 0 0 0 .ns .ns):=rfl
    have s1:=storeAll (n:=7) hr rfl (xs:=ndC 0 0 0 0 0 .ns .ns) rfl
    have l1:A3 (h.set g.length (some (Row.mk (ndC 0 0 0 0 0 .ns .ns) true))) 7 (.c (.p g.length 0))=some (.a (ndC 0 0 0 0 0 .ns .ns)):=F6 (G8 (B7 hr)) rfl
    show ∃ h',_
    rw [B2G]
    generalize ndC 0 0 0 0 0 .ns .ns=z at *
    exact ⟨_,by simp only [C8,E7,c0,decide_false,G7,ef,s1,l1,A04,B1Q,A01] <;> rfl⟩
  | e + 1,i,M + 1,h,hi,hm,hlow=>by
    have hil:i < t.length:=by omega
    have c0:(i:Int) < (t.length:Nat):=by omega
    have hgl:Low g.length g h:=by
      refine ⟨Nat.le_refl _,by have:=hlow.2.1;simp at this;omega,fun id hid=>?_⟩
      rw [hlow.2.2 id (by omega),H6 hid]
    obtain ⟨ad,cs,a1,a2,a3⟩:=(hv.since hgl).at hil
    have s0:=A0y (h:=h) a3.length
    obtain ⟨x,y,rfl,hx,hy⟩:=a3
    obtain ⟨nd,hnd⟩:∃ nd,nd=t[i]:=⟨_,rfl⟩
    rw [← hnd] at a2 s0 hx hy
    have hsm:=hs.2 t[i] (List.getElem_mem hil)
    rw [← hnd] at hsm
    have g0:A4 (h ++ [some (Row.mk (ndC nd.ino nd.kind nd.links nd.parent nd.size x y) true)]) (.c (.p h.length 0))=some (.c (.i .i64 nd.ino)):=by rw [T6];rfl
    have w1:=E2 (show i + 1 < 9223372036854775808 by have:=hs.1;omega)
    rw [List.drop_eq_getElem_cons hil,← hnd]
    by_cases c:nd.ino=a
    · subst c
      have hf:J3 (nd :: t.drop (i + 1)) nd.ino=some nd:=by
        unfold J3
        rw [List.find?_cons_of_pos (by simp)]
      rw [hf]
      show ∃ j1 j2 h',_
      obtain ⟨H,hH⟩:∃ H,H=h ++ [some (Row.mk (ndC nd.ino nd.kind nd.links nd.parent nd.size x y) true)]:=⟨_,rfl⟩
      have lH:H.length=h.length + 1:=by rw [hH];simp
      have hgr:g.length + 1 ≤ h.length:=by have:=hlow.2.1;simpa using this
      have rH:rd H h.length=some ⟨ndC nd.ino nd.kind nd.links nd.parent nd.size x y,true⟩:=by rw [hH];exact F1
      have rg:rd H g.length=some ⟨ndC 0 0 0 0 0 .ns .ns,true⟩:=by rw [hH];exact B6 (by rw [hlow.2.2 _ (by omega)];exact F1)
      have hxH:Has (H ++ [some (Row.mk [] true)]) (.c x) 1 nd.data.length (A1 nd.data):=by rw [hH];exact (hx.more _).more _
      have p1:=B0o (h:=H ++ [some (Row.mk [] true)]) (id:=H.length) (by rw [F1]) hxH (by omega) (by omega)
      have e1:(H ++ [some (Row.mk [] true)]).length=h.length + 2:=by simp [lH]
      rw [e1] at p1
      obtain ⟨H1,hH1⟩:∃ H1,H1=(H ++ [some (Row.mk [] true)]).set H.length none ++ [some (Row.mk (A1 nd.data) true)]:=⟨_,rfl⟩
      rw [← hH1] at p1
      have lH1:H1.length=h.length + 3:=by rw [hH1];simp [lH]
      have keep1:∀ id r,id < H.length → rd H id=some r → rd H1 id=some r:=fun id r hid hr=>by
        rw [hH1];refine B6 ?_
        rw [D2 (by omega)];exact B6 hr
      have r1:rd H1 h.length=some ⟨ndC nd.ino nd.kind nd.links nd.parent nd.size x y,true⟩:=keep1 _ _ (by omega) rH
      have s1:=T4 (x:=.sl (h.length + 2) 0 nd.data.length 1) (off:=5) r1 (by simp [ndC])
      have eset:(ndC nd.ino nd.kind nd.links nd.parent nd.size x y).set 5 (.sl (h.length + 2) 0 nd.data.length 1)=ndC nd.ino nd.kind nd.links nd.parent nd.size (.sl (h.length + 2) 0 nd.data.length 1) y:=rfl
      rw [eset] at s1
      obtain ⟨H2,hH2⟩:∃ H2,H2=H1.set h.length (some (Row.mk (ndC nd.ino nd.kind nd.links nd.parent nd.size (.sl (h.length + 2) 0 nd.data.length 1) y) true)):=⟨_,rfl⟩
      rw [← hH2] at s1
      have lH2:H2.length=h.length + 3:=by rw [hH2];simp [lH1]
      have rdat2:rd H2 (h.length + 2)=some ⟨A1 nd.data,true⟩:=by
        rw [hH2,D2 (by omega),hH1]
        have:=F1 (h:=(H ++ [some (Row.mk [] true)]).set H.length none) (r:=Row.mk (A1 nd.data) true)
        rw [List.length_set,e1] at this
        exact this
      have r2:rd H2 h.length=some ⟨ndC nd.ino nd.kind nd.links nd.parent nd.size (.sl (h.length + 2) 0 nd.data.length 1) y,true⟩:=by rw [hH2];exact G8 (by omega)
      have lowH2:Low h.length h H2:=by
        refine ⟨Nat.le_refl _,by omega,fun id hid=>?_⟩
        rw [hH2,D2 (by omega),hH1,H6 (by simp [lH];omega),D2 (by omega),H6 (by omega),hH,H6 hid]
      have hyH:Has (H2 ++ [some (Row.mk [] true)]) (.c y) 2 nd.names.length (D9 nd.names):=(hy.since lowH2).more _
      have p2:=B0o (h:=H2 ++ [some (Row.mk [] true)]) (id:=H2.length) (by rw [F1]) hyH (by omega) (by omega)
      have e2:(H2 ++ [some (Row.mk [] true)]).length=h.length + 4:=by simp [lH2]
      rw [e2] at p2
      obtain ⟨H3,hH3⟩:∃ H3,H3=(H2 ++ [some (Row.mk [] true)]).set H2.length none ++ [some (Row.mk (D9 nd.names) true)]:=⟨_,rfl⟩
      rw [← hH3] at p2
      have lH3:H3.length=h.length + 5:=by rw [hH3];simp [lH2]
      have keep3:∀ id r,id < H2.length → rd H2 id=some r → rd H3 id=some r:=fun id r hid hr=>by
        rw [hH3];refine B6 ?_
        rw [D2 (by omega)];exact B6 hr
      have r3:=keep3 _ _ (by omega) r2
      have s2:=T4 (x:=.sl (h.length + 4) 0 nd.names.length 2) (off:=6) r3 (by simp [ndC])
      have eset2:(ndC nd.ino nd.kind nd.links nd.parent nd.size (.sl (h.length + 2) 0 nd.data.length 1) y).set 6 (.sl (h.length + 4) 0 nd.names.length 2)=ndC nd.ino nd.kind nd.links nd.parent nd.size (.sl (h.length + 2) 0 nd.data.length 1) (.sl (h.length + 4) 0 nd.names.length 2):=rfl
      rw [eset2] at s2
      obtain ⟨N,hN⟩:∃ N,N=ndC nd.ino nd.kind nd.links nd.parent nd.size (.sl (h.length + 2) 0 nd.data.length 1) (.sl (h.length + 4) 0 nd.names.length 2):=⟨_,rfl⟩
      have hNl:N.length=7:=by rw [hN];rfl
      rw [← hN] at s2
      obtain ⟨H4,hH4⟩:∃ H4,H4=H3.set h.length (some (Row.mk N true)):=⟨_,rfl⟩
      rw [← hH4] at s2
      have r4:rd H4 h.length=some ⟨N,true⟩:=by rw [hH4];exact G8 (by omega)
      have rg4:rd H4 g.length=some ⟨ndC 0 0 0 0 0 .ns .ns,true⟩:=by
        rw [hH4,D2 (by omega)]
        refine keep3 _ _ (by omega) ?_
        rw [hH2,D2 (by omega)]
        exact keep1 _ _ (by omega) rg
      have l4:=F6 (n:=7) r4 hNl
      have s5:=storeAll (n:=7) rg4 rfl (xs:=N) hNl
      have l5:A3 (H4.set g.length (some (Row.mk N true))) 7 (.c (.p g.length 0))=some (.a N):=F6 (G8 (B7 rg4)) hNl
      have v5:A4 (H ++ [some (Row.mk [] true)]) (.c (.p h.length 5))=some (.c x):=F4 (B6 rH) rfl (by simp)
      have v6:A4 (H2 ++ [some (Row.mk [] true)]) (.c (.p h.length 6))=some (.c y):=F4 (B6 r2) rfl (by simp)
      refine ⟨h.length + 2,h.length + 4,H4.set g.length (some (Row.mk N true)),?_,by omega,by omega,by omega,?_,?_,?_⟩
      · rw [← hH] at g0
        rw [B2G,← hN]
        have ef:A7 ([]:List Cell) []=some []:=rfl
        simp only [C8,E7,c0,decide_true,G4,a1,a2,s0,M3,Nat.add_zero,Nat.zero_add,g0,Y6,eq_self,decide_true,ef,← hH,v5,p1,s1,v6,p2,s2,l4,s5,l5,A04,B1Q,A01]
      · rw [D2 (by omega),hH4,D2 (by omega)]
        exact keep3 _ _ (by omega) rdat2
      · rw [D2 (by omega),hH4,D2 (by omega),hH3]
        have:=F1 (h:=(H2 ++ [some (Row.mk [] true)]).set H2.length none) (r:=Row.mk (D9 nd.names) true)
        rw [List.length_set,e2] at this
        exact this
      · refine ⟨Nat.le_refl _,by simp [hH4,lH3];omega,fun id hid=>?_⟩
        rw [D2 (by omega),hH4,D2 (by omega),hH3,H6 (by simp [lH2];omega),D2 (by omega),H6 (by omega),lowH2.2.2 id (by omega)]
        exact hgl.2.2 id hid
    · have hf:J3 (nd :: t.drop (i + 1)) a=J3 (t.drop (i + 1)) a:=by
        unfold J3
        rw [List.find?_cons_of_neg (by simpa using c)]
      have ih:=B01 (q:=q) (a:=a) hv hs e (i + 1) M (h ++ [some (Row.mk (ndC nd.ino nd.kind nd.links nd.parent nd.size x y) true)]) (by omega) (by omega) (hlow.new _)
      have estep:A2N q (M + 1) (.c (.i .i64 a)) (.c (.p g.length 0)) v (.c (.i .i64 (t.length:Int))) (.c (.i .i64 (i:Int))) h=A2N q M (.c (.i .i64 a)) (.c (.p g.length 0)) v (.c (.i .i64 (t.length:Int))) (.c (.i .i64 ((i + 1:Nat):Int))) (h ++ [some (Row.mk (ndC nd.ino nd.kind nd.links nd.parent nd.size x y) true)]):=by
        rw [B2G]
        simp only [C8,E7,c0,decide_true,G4,a1,a2,s0,M3,Nat.add_zero,Nat.zero_add,g0,Y6,c,decide_false,G7,I8,w1]
      rw [hf,estep]
      exact ih
theorem B9t {v:Val} {t:List Nd} {a:Int} {x:Nd} {h:A0} (hv:IsTree h v t) (hs:small t) (hf:J3 t a=some x) :
    Y5 [v,.c (.i .i64 a)] h=some (.t [.a (ndC x.ino x.kind x.links x.parent x.size (.sl h.length 0 x.data.length 1) (.sl (h.length + 1) 0 x.names.length 2)),.c (.b true)],h ++ [some ⟨A1 x.data,true⟩,some ⟨D9 x.names,true⟩]):=by
  have key:=B01 (q:=t.length + 1) (a:=a) hv.ro hs t.length 0 (t.length + 1) (ro h ++ [some (Row.mk (ndC 0 0 0 0 0 .ns .ns) true)]) (by omega) (by omega) (Low.refl (by simp))
  rw [List.drop_zero,hf] at key
  obtain ⟨j1,j2,g',e,h1,h2,h3,h4,h5,h6⟩:=key
  rw [N7] at h1 h2
  have hl:=hv.ro.len
  have e2:A2X (t.length + 1) [v,.c (.i .i64 a)] (ro h)=some (.t [.a (ndC x.ino x.kind x.links x.parent x.size (.sl j1 0 x.data.length 1) (.sl j2 0 x.names.length 2)),.c (.b true)],g'):=by
    rw [B26,hl,C8]
    exact e
  have n1:=A2A h4 (by simp)
  have n2:=A2A h5 B0Z
  have hc1:H5 g' h.length [] (ndC x.ino x.kind x.links x.parent x.size (.sl j1 0 x.data.length 1) (.sl j2 0 x.names.length 2))=some (ndC x.ino x.kind x.links x.parent x.size (.sl h.length 0 x.data.length 1) (.sl (h.length + 1) 0 x.names.length 2),[j1,j2]):=by
    have q1:¬ j1 < h.length:=by omega
    have q2:¬ j2 < h.length:=by omega
    simp [ndC,H5,Cell.low,Cell.flat,q1,q2,h1,h2,n1,n2,Ne.symm h3]
  have hc2:H5 g' h.length [j1,j2] [.b true]=some ([.b true],[j1,j2]):=A1a (by simp)
  rw [C3u e2 (v2:=.t [.a (ndC x.ino x.kind x.links x.parent x.size (.sl h.length 0 x.data.length 1) (.sl (h.length + 1) 0 x.names.length 2)),.c (.b true)]) (ids:=[j1,j2]) (by
    simp only [J9,P4,hc1,hc2,Option.bind_some,Option.map_some])]
  simp [h4,h5]
theorem B9s {v:Val} {t:List Nd} {a:Int} {h:A0} (hv:IsTree h v t) (hs:small t) (hf:J3 t a=none) :
    Y5 [v,.c (.i .i64 a)] h=some (.t [.a (ndC 0 0 0 0 0 .ns .ns),.c (.b false)],h):=by
  have key:=B01 (q:=t.length + 1) (a:=a) hv.ro hs t.length 0 (t.length + 1) (ro h ++ [some (Row.mk (ndC 0 0 0 0 0 .ns .ns) true)]) (by omega) (by omega) (Low.refl (by simp))
  rw [List.drop_zero,hf] at key
  obtain ⟨g',e⟩:=key
  have hl:=hv.ro.len
  have e2:A2X (t.length + 1) [v,.c (.i .i64 a)] (ro h)=some (.t [.a (ndC 0 0 0 0 0 .ns .ns),.c (.b false)],g'):=by
    rw [B26,hl,C8]
    exact e
  exact C3t e2 rfl
theorem B9r {v:Val} {t:List Nd} {a:Int} {h:A0} (hv:IsTree h v t) (hs:small t) :
    ∃ cs l,Y5 [v,.c (.i .i64 a)] h=some (.t [.a cs,.c (.b (J3 t a).isSome)],h ++ l) ∧ IsNd (h ++ l) cs ((J3 t a).getD ⟨0,0,0,0,0,[],[]⟩):=by
  cases hf:J3 t a with
  | some x=>exact ⟨_,_,B9t hv hs hf,_,_,rfl,Has.tr (by simp) (show (A1 x.data).length=x.data.length * 1 by rw [B5,Nat.mul_one]) (Q3 _),Has.tr (by simp) A1g A7v⟩
  | none=>exact ⟨_,[],by rw [B9s hv hs hf,List.append_nil];rfl,_,_,rfl,.inl ⟨rfl,rfl,rfl⟩,.inl ⟨rfl,rfl,rfl⟩⟩
end Go.Proofs.Yteckncopbicmcaa
end
section
namespace Go.Proofs.Yteckncopbicmcaa
open Go Go.Esc
theorem A4X {h:A0} {y:Cell} {l:List Ent} (hy:Has h (.c y) 2 l.length (D9 l)) {i:Nat} (hi:i < l.length):∃ a,B9 2 (.c y) (.c (.i .i64 (i:Int)))=some a ∧ A3 h 2 a=some (.a (E1 (some l[i]))):=by
  obtain ⟨id,off,e,hid,_,hB⟩:=hy.sl (by omega)
  cases e
  refine ⟨.c (.p id (off + i * 2)),H8 hi,?_⟩
  rw [hB (i * 2) 2 (by rw [A1g];omega),A7u l i hi]
theorem A2J {h:A0} {x:Ent}:A8 (h ++ [some (Row.mk [.s [],.i .i64 0] true)]) 2 (.c (.p h.length 0)) (.a (E1 (some x)))=some (h ++ [some ⟨E1 (some x),true⟩]):=by rw [W8];rfl
theorem B0Y {h:A0} {x:Ent}:A4 (h ++ [some (Row.mk (E1 (some x)) true)]) (.c (.p h.length 0))=some (.c (.s x.1)):=by rw [T6];rfl
theorem A3h {h:A0} {x:Ent}:A4 (h ++ [some (Row.mk (E1 (some x)) true)]) (.c (.p h.length 1))=some (.c (.i .i64 x.2)):=by rw [T6];rfl
def S4 (l:List Ent) (s:List UInt8):Int × Bool:=match l.find? fun e=>decide (e.1=s) with
  | some e=>(e.2,decide (0 ≤ e.2))
  | none=>(0,false)
theorem B9d {y:Cell} {l:List Ent} {s:List UInt8} {g:A0} {q:Nat} (hy:Has g (.c y) 2 l.length (D9 l)) (h62:l.length ≤ 1000000):∀ (e i M:Nat) (h:A0),i + e=l.length → e < M → Low g.length g h →
    ∃ h',A8R q M (.c (.s s)) (.c y) (.c (.i .i64 (l.length:Int))) (.c (.i .i64 (i:Int))) h=some (.t [.c (.i .i64 (S4 (l.drop i) s).1),.c (.b (S4 (l.drop i) s).2)],h')
  | e,i,0,h,_,hm,_=>by omega
  | 0,i,M + 1,h,hi,hm,hlow=>by
    have c0:¬ ((i:Int) < (l.length:Nat)):=by omega
    rw [B9O,List.drop_of_length_le (by omega)]
    exact ⟨_,by simp only [C8,E7,c0,decide_false,G7,A04,A01,S4,List.find?_nil] <;> rfl⟩
  | e + 1,i,M + 1,h,hi,hm,hlow=>by
    have hil:i < l.length:=by omega
    have c0:(i:Int) < (l.length:Nat):=by omega
    obtain ⟨a,a1,a2⟩:=A4X (hy.since hlow) hil
    have w1:=E2 (show i + 1 < 9223372036854775808 by omega)
    rw [List.drop_eq_getElem_cons hil]
    obtain ⟨x,hx⟩:∃ x,x=l[i]:=⟨_,rfl⟩
    rw [← hx] at a2 ⊢
    rw [B9O]
    by_cases c:x.1=s
    · have et:S4 (x :: l.drop (i + 1)) s=(x.2,decide (0 ≤ x.2)):=by
        unfold S4
        rw [List.find?_cons_of_pos (by simpa using c)]
      rw [et]
      exact ⟨_,by simp only [C8,E7,c0,decide_true,G4,a1,a2,A2J,M3,Nat.zero_add,Nat.add_zero,B0Y,A3h,B0b,c,A04,A01,B3G] <;> rfl⟩
    · have et:S4 (x :: l.drop (i + 1)) s=S4 (l.drop (i + 1)) s:=by
        unfold S4
        rw [List.find?_cons_of_neg (by simpa using c)]
      obtain ⟨h',f1⟩:=B9d (q:=q) (s:=s) hy h62 e (i + 1) M (h ++ [some ⟨E1 (some x),true⟩]) (by omega) (by omega) (hlow.new _)
      rw [et]
      refine ⟨h',?_⟩
      simp only [C8,E7,c0,decide_true,G4,a1,a2,A2J,M3,Nat.zero_add,Nat.add_zero,B0Y,B0b,c,decide_false,G7,I8,w1]
      exact f1
theorem D0x {cs:List Cell} {x:Nd} {s:List UInt8} {h:A0} (hx:IsNd h cs x) (h62:x.names.length ≤ 1000000) :
    A4J [.a cs,.c (.s s)] h=some (.t [.c (.i .i64 (S4 x.names s).1),.c (.b (S4 x.names s).2)],h):=by
  have key:∀ g,IsNd g cs x → ∃ g',A6M (x.names.length + 1) [.a cs,.c (.s s)] g=some (.t [.c (.i .i64 (S4 x.names s).1),.c (.b (S4 x.names s).2)],g'):=by
    rintro g ⟨a,b,rfl,_,hy⟩
    have hl:=hy.len
    have g6:A4 (g ++ [some (Row.mk (ndC x.ino x.kind x.links x.parent x.size a b) true)]) (.c (.p g.length 6))=some (.c b):=by rw [T6];rfl
    obtain ⟨h',f1⟩:=B9d (q:=x.names.length + 1) (s:=s) (hy.more [some (Row.mk (ndC x.ino x.kind x.links x.parent x.size a b) true)]) h62 x.names.length 0 (x.names.length + 1) _ (by omega) (by omega) (Low.refl (Nat.le_refl _))
    rw [List.drop_zero] at f1
    rw [C1j]
    generalize ndC x.ino x.kind x.links x.parent x.size a b=z at *
    refine ⟨h',?_⟩
    simp only [A0S,C8,M3,Nat.zero_add,g6,hl]
    exact f1
  obtain ⟨g',e⟩:=key (ro h) hx.ro
  exact C3y e rfl
theorem C93 {x:Nd} {s:List UInt8}:A2M x s=if (S4 x.names s).2=true then some (S4 x.names s).1 else none:=by
  unfold A2M S4
  cases x.names.find? fun e=>decide (e.1=s) with
  | none=>rfl
  | some e =>
    by_cases c:0 ≤ e.2
    · simp [c]
    · simp [c]
def atC (o:Option Int):List Part:=[.c (.i .i64 (o.getD 0)),.c (.b o.isSome)]
theorem B4f {v w:Val} {t:List Nd} {ps:F7} {g:A0} {q:Nat} (hv:IsTree g v t) (hs:small t) (hw:Has g w 1 ps.length (encS ps)) (h62:ps.length ≤ 1000000):∀ (e i M:Nat) (a:Int) (h:A0),i + e=ps.length → e < M → Low g.length g h →
    ∃ h',A8J q M v (.c (.i .i64 a)) w (.c (.i .i64 (ps.length:Int))) (.c (.i .i64 (i:Int))) h=some (.t (atC (N1 t a (ps.drop i))),h')
  | e,i,0,a,h,_,hm,_=>by omega
  | 0,i,M + 1,a,h,hi,hm,hlow=>by
    have c0:¬ ((i:Int) < (ps.length:Nat)):=by omega
    obtain ⟨cs,l,f1,f2⟩:=B9r (a:=a) (hv.since hlow) hs
    have s0:=A0y (h:=h ++ l) f2.length
    rw [B9j,List.drop_of_length_le (by omega),N1]
    cases hf:(J3 t a).isSome with
    | true =>
      rw [hf] at f1
      rw [if_pos rfl]
      exact ⟨_,by simp only [C8,E7,c0,decide_false,G7,f1,L5,List.getElem?_cons_zero,List.getElem?_cons_succ,Option.map_some,L7,N5,s0,A0m,Bool.not_true,A04,A01,atC,Option.getD_some,Option.isSome_some] <;> rfl⟩
    | false =>
      rw [hf] at f1
      rw [if_neg (by simp)]
      exact ⟨_,by simp only [C8,E7,c0,decide_false,G7,G4,f1,L5,List.getElem?_cons_zero,List.getElem?_cons_succ,Option.map_some,L7,N5,s0,A0m,Bool.not_false,A04,A01,atC,Option.getD_none,Option.isSome_none] <;> rfl⟩
  | e + 1,i,M + 1,a,h,hi,hm,hlow=>by
    have hil:i < ps.length:=by omega
    have c0:(i:Int) < (ps.length:Nat):=by omega
    have w1:=E2 (show i + 1 < 9223372036854775808 by omega)
    obtain ⟨id,off,rfl,hid,hA,_⟩:=(hw.since hlow).sl (by omega)
    have ad:B9 1 (.c (.sl id off ps.length 1)) (.c (.i .i64 (i:Int)))=some (.c (.p id (off + i))):=by rw [H8 hil,Nat.mul_one]
    have l1:A4 h (.c (.p id (off + i)))=some (.c (.s ps[i])):=hA i _ (by rw [Z2,List.getElem?_eq_getElem hil];rfl)
    obtain ⟨cs,l,f1,f2⟩:=B9r (a:=a) (hv.since hlow) hs
    have s0:=A0y (h:=h ++ l) f2.length
    have l7:A3 (h ++ l ++ [some (Row.mk cs true)]) 7 (.c (.p (h ++ l).length 0))=some (.a cs):=F6 F1 f2.length
    rw [List.drop_eq_getElem_cons hil,B9j,N1]
    obtain ⟨s,hse⟩:∃ s,s=ps[i]:=⟨_,rfl⟩
    rw [← hse] at l1 ⊢
    cases hf:J3 t a with
    | none =>
      rw [hf] at f1
      exact ⟨_,by simp only [C8,E7,c0,decide_true,G4,ad,l1,f1,L5,List.getElem?_cons_zero,List.getElem?_cons_succ,Option.map_some,L7,N5,s0,Option.isSome_none,G7,B2y,A0m,Bool.not_false,A04,A01,atC,Option.getD_none] <;> rfl⟩
    | some x =>
      rw [hf] at f1 f2
      rw [Option.getD_some] at f2
      have hx62:=(hs.2 x (List.mem_of_find?_eq_some hf)).2
      have ht:=D0x (s:=s) (h:=h ++ l ++ [some (Row.mk cs true)]) (f2.since ((Low.refl (Nat.le_refl _)).new _)) hx62
      dsimp only
      rw [C93]
      cases hc:(S4 x.names s).2 with
      | false =>
        rw [hc] at ht
        rw [if_neg (by simp)]
        exact ⟨_,by simp only [C8,E7,c0,decide_true,G4,ad,l1,f1,L5,List.getElem?_cons_zero,List.getElem?_cons_succ,Option.map_some,L7,N5,s0,Option.isSome_some,l7,ht,B2y,A0m,Bool.not_false,A04,A01,atC,Option.getD_none,Option.isSome_none] <;> rfl⟩
      | true =>
        rw [hc] at ht
        rw [if_pos rfl]
        obtain ⟨h',k1⟩:=B4f (q:=q) hv hs hw h62 e (i + 1) M (S4 x.names s).1 (h ++ l ++ [some ⟨cs,true⟩]) (by omega) (by omega) ((hlow.new l).new _)
        refine ⟨h',?_⟩
        simp only [C8,E7,c0,decide_true,G4,ad,l1,f1,L5,List.getElem?_cons_zero,List.getElem?_cons_succ,Option.map_some,L7,N5,s0,Option.isSome_some,l7,ht,B2y,A0m,Bool.not_true,G7,I8,w1]
        exact k1
theorem B9i {v w:Val} {t:List Nd} {ps:F7} {h:A0} (hv:IsTree h v t) (hs:small t) (hw:Has h w 1 ps.length (encS ps)) (h62:ps.length ≤ 1000000) :
    A13 [v,w] h=some (.t (atC (N1 t 1 ps)),h):=by
  have key:∀ g,IsTree g v t → Has g w 1 ps.length (encS ps) → ∃ g',A6I (ps.length + 1) [v,w] g=some (.t (atC (N1 t 1 ps)),g'):=by
    intro g hv hw
    obtain ⟨h',f1⟩:=B4f (q:=ps.length + 1) hv hs hw h62 ps.length 0 (ps.length + 1) 1 g (by omega) (by omega) (Low.refl (Nat.le_refl _))
    rw [List.drop_zero] at f1
    rw [C1f,hw.len,C8]
    exact ⟨h',f1⟩
  obtain ⟨g',e⟩:=key (ro h) hv.ro hw.ro
  exact C3q e (by simp [Val.flat,atC])
theorem B0M {y:Cell} {l:List Ent} {a:Int} {g:A0} {q:Nat} {x10 x11 x12:Val} (hy:Has g (.c y) 2 l.length (D9 l)) (h62:l.length ≤ 1000000):∀ (e i M2 M:Nat) (c:Nat) (h:A0),i + e=l.length → e < M2 → c + e < 4000000000000000000 → Low g.length g h →
    ∃ h',A8K q M M2 (.c (.i .i64 a)) (.c (.i .i64 (c:Int))) x10 x11 x12 (.c y) (.c (.i .i64 (l.length:Int))) (.c (.i .i64 (i:Int))) h=bnd (A2 .add x12 (.c (.i .i64 1))) (fun v17=>A5E q M (.c (.i .i64 a)) (.c (.i .i64 ((c + ((l.drop i).filter fun e=>decide (e.2=a)).length:Nat):Int))) x10 x11 v17 h') ∧ Low g.length g h'
  | e,i,0,M,c,h,_,hm,_,_=>by omega
  | 0,i,M2 + 1,M,c,h,hi,hm,hc,hlow=>by
    have c0:¬ ((i:Int) < (l.length:Nat)):=by omega
    rw [B2F,List.drop_of_length_le (by omega)]
    exact ⟨h,by simp only [C8,E7,c0,decide_false,G7];rfl,hlow⟩
  | e + 1,i,M2 + 1,M,c,h,hi,hm,hc,hlow=>by
    have hil:i < l.length:=by omega
    have c0:(i:Int) < (l.length:Nat):=by omega
    obtain ⟨ad,a1,a2⟩:=A4X (hy.since hlow) hil
    have w1:=E2 (show i + 1 < 9223372036854775808 by omega)
    have w2:=E2 (show c + 1 < 9223372036854775808 by omega)
    rw [List.drop_eq_getElem_cons hil]
    obtain ⟨x,hx⟩:∃ x,x=l[i]:=⟨_,rfl⟩
    rw [← hx] at a2 ⊢
    by_cases ce:x.2=a
    · obtain ⟨h',f1,f2⟩:=B0M (q:=q) (a:=a) (x10:=x10) (x11:=x11) (x12:=x12) hy h62 e (i + 1) M2 M (c + 1) (h ++ [some ⟨E1 (some x),true⟩]) (by omega) (by omega) (by omega) (hlow.new _)
      refine ⟨h',?_,f2⟩
      rw [B2F,List.filter_cons_of_pos (by simpa using ce),List.length_cons,show c + (((l.drop (i + 1)).filter fun e=>decide (e.2=a)).length + 1)=c + 1 + ((l.drop (i + 1)).filter fun e=>decide (e.2=a)).length by omega]
      simp only [C8,E7,c0,decide_true,G4,a1,a2,A2J,M3,Nat.zero_add,Nat.add_zero,A3h,Y6,ce,I8,w1,w2,B9n]
      exact f1
    · obtain ⟨h',f1,f2⟩:=B0M (q:=q) (a:=a) (x10:=x10) (x11:=x11) (x12:=x12) hy h62 e (i + 1) M2 M c (h ++ [some ⟨E1 (some x),true⟩]) (by omega) (by omega) (by omega) (hlow.new _)
      refine ⟨h',?_,f2⟩
      rw [B2F,List.filter_cons_of_neg (by simpa using ce)]
      simp only [C8,E7,c0,decide_true,G4,a1,a2,A2J,M3,Nat.zero_add,Nat.add_zero,A3h,Y6,ce,decide_false,G7,I8,w1,B9n]
      exact f1
theorem B88 {v:Val} {t:List Nd} {a:Int} {g:A0} {q:Nat} (hv:IsTree g v t) (hs:small t) (hq:1000000 < q):∀ (e i M c:Nat) (h:A0),i + e=t.length → e < M → c ≤ i * 1000000 → Low g.length g h →
    ∃ h',A5E q M (.c (.i .i64 a)) (.c (.i .i64 (c:Int))) v (.c (.i .i64 (t.length:Int))) (.c (.i .i64 (i:Int))) h=some (.c (.i .i64 ((c + A2p (t.drop i) a:Nat):Int)),h')
  | e,i,0,c,h,_,hm,_,_=>by omega
  | 0,i,M + 1,c,h,hi,hm,hc,hlow=>by
    have c0:¬ ((i:Int) < (t.length:Nat)):=by omega
    rw [B9o,List.drop_of_length_le (by omega)]
    exact ⟨h,by simp only [C8,E7,c0,decide_false,G7];rfl⟩
  | e + 1,i,M + 1,c,h,hi,hm,hc,hlow=>by
    have hil:i < t.length:=by omega
    have c0:(i:Int) < (t.length:Nat):=by omega
    have h6:=hs.1
    have w1:=E2 (show i + 1 < 9223372036854775808 by omega)
    obtain ⟨ad,cs,a1,a2,a3⟩:=(hv.since hlow).at hil
    have s0:=A0y (h:=h) a3.length
    obtain ⟨x,y,rfl,hx,hy⟩:=a3
    have hsm:=(hs.2 t[i] (List.getElem_mem hil)).2
    rw [List.drop_eq_getElem_cons hil]
    obtain ⟨nd,hnd⟩:∃ nd,nd=t[i]:=⟨_,rfl⟩
    rw [← hnd] at a2 s0 hx hy hsm ⊢
    have hl:=hy.len
    have g6:A4 (h ++ [some (Row.mk (ndC nd.ino nd.kind nd.links nd.parent nd.size x y) true)]) (.c (.p h.length 6))=some (.c y):=by rw [T6];rfl
    obtain ⟨h1,f1,f2⟩:=B0M (q:=q) (a:=a) (x10:=v) (x11:=.c (.i .i64 (t.length:Int))) (x12:=.c (.i .i64 (i:Int))) (hy.more [some (Row.mk (ndC nd.ino nd.kind nd.links nd.parent nd.size x y) true)]) hsm nd.names.length 0 q M c _ (by omega) (by omega) (by omega) (Low.refl (Nat.le_refl _))
    rw [List.drop_zero,I8,C8,w1] at f1
    have hfl:(nd.names.filter fun e=>decide (e.2=a)).length ≤ nd.names.length:=List.length_filter_le _ _
    obtain ⟨h',k1⟩:=B88 (a:=a) hv hs hq e (i + 1) M (c + (nd.names.filter fun e=>decide (e.2=a)).length) h1 (by omega) (by omega) (by omega) (hlow.trans (by
      have:=f2.2.1
      refine ⟨hlow.2.1 |> fun _=>by have:=hlow.2.1;omega,by simp at this;omega,fun id hid=>?_⟩
      have h3:=hlow.2.1
      rw [f2.2.2 id (by simp;omega),H6 (by omega)]))
    have ec:A2p (nd :: t.drop (i + 1)) a=(nd.names.filter fun e=>decide (e.2=a)).length + A2p (t.drop (i + 1)) a:=by simp [A2p]
    rw [ec,← Nat.add_assoc]
    refine ⟨h',?_⟩
    rw [B9o]
    simp only [C8,E7,c0,decide_true,G4,a1,a2,s0,M3,Nat.zero_add,g6,hl]
    exact f1.trans k1
theorem D0b {v:Val} {t:List Nd} {a:Int} {h:A0} (hv:IsTree h v t) (hs:small t):A4I [v,.c (.i .i64 a)] h=some (.c (.i .i64 (A2p t a:Nat)),h):=by
  have key:∀ g,IsTree g v t → ∃ g',A6J (t.length + 1000001) [v,.c (.i .i64 a)] g=some (.c (.i .i64 (A2p t a:Nat)),g'):=by
    intro g hv
    obtain ⟨h',f1⟩:=B88 (q:=t.length + 1000001) (a:=a) hv hs (by omega) t.length 0 (t.length + 1000001) 0 g (by omega) (by omega) (by omega) (Low.refl (Nat.le_refl _))
    rw [List.drop_zero,Nat.zero_add] at f1
    rw [C1g,hv.len,C8]
    exact ⟨h',f1⟩
  obtain ⟨g',e⟩:=key (ro h) hv.ro
  exact C3r e rfl
end Go.Proofs.Yteckncopbicmcaa
end
section
namespace Go.Proofs.Yteckncopbicmcaa
open Go Go.Esc
def HeldX (h:A0) (x:Cell) (cs:List Cell) (n sz r:Nat):Prop:=(n=0 ∧ cs=[] ∧ x=.ns) ∨ ∃ id,x=.sl id 0 n sz ∧ rd h id=some ⟨cs,true⟩ ∧ cs.length=n * sz ∧ id ≠ r
theorem HeldX.keep {h h':A0} {x:Cell} {cs:List Cell} {n sz r:Nat} (hx:HeldX h x cs n sz r) (hk:∀ id m,x=.sl id 0 m sz → rd h' id=rd h id):HeldX h' x cs n sz r:=by
  rcases hx with hx | ⟨id,e,hr,hl,hne⟩
  · exact .inl hx
  · exact .inr ⟨id,e,by rw [hk id n e];exact hr,hl,hne⟩
theorem HeldX.lt {h:A0} {x:Cell} {cs:List Cell} {n sz r id m:Nat} (hx:HeldX h x cs n sz r) (e:x=.sl id 0 m sz):id < h.length:=by
  rcases hx with ⟨_,_,e2⟩ | ⟨id',e2,hr,_,_⟩
  · rw [e] at e2;cases e2
  · rw [e] at e2;cases e2;exact B7 hr
theorem B5F {h:A0} {x:Cell} {cs0 cs ys:List Cell} {r off n sz:Nat} (hr:rd h r=some ⟨cs0,true⟩) (hx:cs0[off]? = some x) (hd:HeldX h x cs n sz r) (hl:n ≤ 100000) (hy:ys.length=sz) (hsz:0 < sz) :
    ∃ id h2 h3,A4 h (.c (.p r off))=some (.c x) ∧ F0 (h ++ [some ⟨ys,true⟩]) sz (.c x) (.c (.sl h.length 0 1 sz))=some (.c (.sl id 0 (n + 1) sz),h2) ∧ E4 h2 (.c (.p r off)) (.c (.sl id 0 (n + 1) sz))=some h3 ∧
      rd h3 r=some ⟨cs0.set off (.sl id 0 (n + 1) sz),true⟩ ∧ h.length < id ∧ rd h3 id=some ⟨cs ++ ys,true⟩ ∧ (cs ++ ys).length=(n + 1) * sz ∧ (∀ j,j < h.length → j ≠ r → (∀ m,x ≠ .sl j 0 m sz) → rd h3 j=rd h j) ∧ h.length < h3.length:=by
  have hrl:=B7 hr
  have l1:A4 h (.c (.p r off))=some (.c x):=F4 hr hx (by simp)
  have hof:off < cs0.length:=(List.getElem?_eq_some_iff.1 hx).1
  have e1:(h ++ [some (Row.mk ys true)]).length=h.length + 1:=by simp
  rcases hd with ⟨rfl,rfl,rfl⟩ | ⟨id,rfl,hi,hcl,hne⟩
  · have hA:=B0p (h:=h ++ [some ⟨ys,true⟩]) (jd:=h.length) (m:=1) (sz:=sz) (ys:=ys) (by simp) (by omega) hsz (by omega)
    rw [e1] at hA
    have hr2:rd (h ++ [some (Row.mk ys true)] ++ [some (Row.mk ys true)]) r=some ⟨cs0,true⟩:=B6 (B6 hr)
    have s1:=T4 (x:=.sl (h.length + 1) 0 1 sz) (off:=off) hr2 hof
    refine ⟨h.length + 1,_,_,l1,hA,s1,G8 (B7 hr2),by omega,?_,by simp [hy],fun j hj hjr _=>?_,by simp⟩
    · rw [D2 (by omega)]
      have:=F1 (h:=h ++ [some (Row.mk ys true)]) (r:=⟨ys,true⟩)
      rw [e1] at this
      exact this
    · rw [D2 (Ne.symm hjr),H6 (by simp;omega),H6 hj]
  · have hil:=B7 hi
    have hA:=A0Q (h:=h ++ [some ⟨ys,true⟩]) (id:=id) (jd:=h.length) (n:=n) (m:=1) (sz:=sz) (cs:=cs) (ys:=ys) (rw:=true) (B6 hi) hcl (by simp) (by omega) rfl hsz (by omega)
    rw [e1] at hA
    have hr2:rd ((h ++ [some (Row.mk ys true)]).set id none ++ [some (Row.mk (cs ++ ys) true)]) r=some ⟨cs0,true⟩:=by
      refine B6 ?_
      rw [D2 hne];exact B6 hr
    have s1:=T4 (x:=.sl (h.length + 1) 0 (n + 1) sz) (off:=off) hr2 hof
    refine ⟨h.length + 1,_,_,l1,hA,s1,G8 (B7 hr2),by omega,?_,by simp [hcl,hy,Nat.add_mul],fun j hj hjr hjx=>?_,by simp;omega⟩
    · rw [D2 (by omega)]
      have:=F1 (h:=(h ++ [some (Row.mk ys true)]).set id none) (r:=⟨cs ++ ys,true⟩)
      rw [List.length_set,e1] at this
      exact this
    · have hji:j ≠ id:=fun e=>hjx n (by rw [e])
      rw [D2 (Ne.symm hjr),H6 (by simp;omega),D2 (Ne.symm hji),H6 hj]
end Go.Proofs.Yteckncopbicmcaa
end
section
namespace Go.Proofs.Yteckncopbicmcaa
open Go Go.Esc
structure NodeP (D:Dev) (n:Int) (V:List Cell) (z:Nd) (L:List Ent) (g:A0) (F:List Ent) (h:A0):Prop where
  low:Low g.length g h
  r0:rd h g.length=some ⟨V,true⟩
  r1:rd h (g.length + 1)=some ⟨ndC 0 0 0 0 0 .ns .ns,true⟩
  r4:rd h (g.length + 4)=some ⟨A1 z.data,true⟩
  r5:rd h (g.length + 5)=some ⟨D9 L,true⟩
  r3:∃ x,rd h (g.length + 3)=some ⟨ndC z.ino z.kind z.links z.parent z.size (.sl (g.length + 4) 0 z.data.length 1) x,true⟩ ∧ HeldX h x (D9 F) F.length 2 (g.length + 3) ∧ ∀ id m,x=.sl id 0 m 2 → g.length + 6 ≤ id
theorem NodeP.more {D:Dev} {n:Int} {V:List Cell} {z:Nd} {L:List Ent} {g h:A0} {F:List Ent} (P:NodeP D n V z L g F h) (t:A0):NodeP D n V z L g F (h ++ t):=by
  obtain ⟨x,h1,h2,h3⟩:=P.r3
  exact ⟨P.low.new _,B6 P.r0,B6 P.r1,B6 P.r4,B6 P.r5,x,B6 h1,h2.keep fun id m e=>H6 (h2.lt e),h3⟩
theorem B1K {D:Dev} {n m:Int} {f:Cell} {g:A0} {q:Nat} {z:Nd} {L:List Ent} (hD:okD D) (hv:IsView g f D) (h62:L.length ≤ 10000):∀ (e i M:Nat) (F:List Ent) (h:A0),i + e=L.length → e < M → F.length ≤ i → NodeP D n (vwC D.length n m f) z L g F h →
    ∃ x h',A8Q q M (.c (.p g.length 0)) (.c (.p (g.length + 1) 0)) (.c (.p (g.length + 3) 0)) (.c (.sl (g.length + 5) 0 L.length 2)) (.c (.i .i64 (L.length:Int))) (.c (.i .i64 (i:Int))) h =
      some (.a (ndC z.ino z.kind z.links z.parent z.size (.sl (g.length + 4) 0 z.data.length 1) x),h') ∧ rd h' (g.length + 4)=some ⟨A1 z.data,true⟩ ∧
      HeldX h' x (D9 (F ++ (L.drop i).filter (A1n D n))) (F ++ (L.drop i).filter (A1n D n)).length 2 (g.length + 3) ∧ (∀ id m,x=.sl id 0 m 2 → g.length + 6 ≤ id) ∧ Low g.length g h'
  | e,i,0,F,h,_,hm,_,_=>by omega
  | 0,i,M + 1,F,h,hi,hm,hF,P=>by
    have c0:¬ ((i:Int) < (L.length:Nat)):=by omega
    obtain ⟨x,h1,h2,h3⟩:=P.r3
    have l7:=F6 (n:=7) h1 rfl
    have s7:=storeAll (n:=7) P.r1 rfl (xs:=ndC z.ino z.kind z.links z.parent z.size (.sl (g.length + 4) 0 z.data.length 1) x) rfl
    have l8:A3 (h.set (g.length + 1) (some (Row.mk (ndC z.ino z.kind z.links z.parent z.size (.sl (g.length + 4) 0 z.data.length 1) x) true))) 7 (.c (.p (g.length + 1) 0))=some (.a (ndC z.ino z.kind z.links z.parent z.size (.sl (g.length + 4) 0 z.data.length 1) x)):=F6 (G8 (B7 P.r1)) rfl
    rw [List.drop_of_length_le (by omega),List.filter_nil,List.append_nil]
    refine ⟨x,h.set (g.length + 1) (some (Row.mk (ndC z.ino z.kind z.links z.parent z.size (.sl (g.length + 4) 0 z.data.length 1) x) true)),?_,by rw [D2 (by omega)];exact P.r4,h2.keep fun id m e=>D2 (by have:=h3 id m e;omega),h3,P.low.set (by omega) _⟩
    rw [B9L]
    generalize ndC z.ino z.kind z.links z.parent z.size (.sl (g.length + 4) 0 z.data.length 1) x=N at *
    simp only [C8,E7,c0,decide_false,G7,l7,s7,l8,B1F]
  | e + 1,i,M + 1,F,h,hi,hm,hF,P=>by
    have hil:i < L.length:=by omega
    have c0:(i:Int) < (L.length:Nat):=by omega
    have w1:=E2 (show i + 1 < 9223372036854775808 by omega)
    have hr5:Has h (.c (.sl (g.length + 5) 0 L.length 2)) 2 L.length (D9 L):=Has.row P.r5 A1g A7v
    obtain ⟨ad,a1,a2⟩:=A4X hr5 hil
    have P1:=P.more [some ⟨E1 (some L[i]),true⟩]
    have hvh:=hv.since P1.low
    have lV:=F6 (n:=4) P1.r0 rfl
    have hI:=B20 (n:=n) (m:=m) (i:=(L[i]).2) hD hvh
    rw [B1p] at hI
    have f0:∀ k l s p d,A0M (.a (A5 k l s p d)) 0=some (.c (.i .i64 k)):=fun _ _ _ _ _=>rfl
    rw [List.drop_eq_getElem_cons hil]
    obtain ⟨x,hx⟩:∃ x,x=L[i]:=⟨_,rfl⟩
    rw [← hx] at a2 hI P1 lV hvh ⊢
    obtain ⟨hh,hhe⟩:∃ hh,hh=h ++ [some (Row.mk (E1 (some x)) true)]:=⟨_,rfl⟩
    have e1:A4 hh (.c (.p h.length 1))=some (.c (.i .i64 x.2)):=by rw [hhe];exact A3h
    have se:A8 (h ++ [some (Row.mk [.s [],.i .i64 0] true)]) 2 (.c (.p h.length 0)) (.a (E1 (some x)))=some hh:=by rw [hhe];exact A2J
    have le:A3 hh 2 (.c (.p h.length 0))=some (.a (E1 (some x))):=by rw [hhe];exact F6 F1 rfl
    rw [← hhe] at P1 lV hvh hI
    rw [B9L]
    have step:∀ (b:Bool),A1n D n x=b → (kdV D n x.2=1 ∨ kdV D n x.2=2)=(b=true):=by
      intro b hb
      subst hb
      unfold A1n
      simp
    cases hb:A1n D n x with
    | false =>
      have hk:=step false hb
      have k1:¬ kdV D n x.2=1:=fun e=>by rw [e] at hk;simp at hk
      have k2:¬ kdV D n x.2=2:=fun e=>by rw [e] at hk;simp at hk
      rw [List.filter_cons_of_neg (by simp [hb])]
      obtain ⟨y,h',f1,f2⟩:=B1K (q:=q) hD hv h62 e (i + 1) M F hh (by omega) (by omega) (by omega) P1
      refine ⟨y,h',?_,f2⟩
      generalize vwC D.length n m f=V at *
      simp only [C8,E7,c0,decide_true,G4,a1,a2,se,M3,Nat.zero_add,e1,lV,hI,f0,Y6,k1,k2,decide_false,A41,Z0,cond_false,G7,B2X,I8,w1]
      exact f1
    | true =>
      rw [List.filter_cons_of_pos hb]
      obtain ⟨xc,g1,g2,g3⟩:=P1.r3
      have ef:A7 [Cell.s [],.i .i64 0] [(0,2,.a (E1 (some x)))]=some (E1 (some x)):=rfl
      obtain ⟨id,h2,h3,p1,p2,p3,p4,p5,p6,p7,p8,p9⟩:=B5F (off:=6) (ys:=E1 (some x)) g1 rfl g2 (by omega) rfl (by omega)
      have keep:∀ j,j < g.length + 6 → j ≠ g.length + 3 → rd h3 j=rd hh j:=fun j hj hj3=>by
        have:=B7 P1.r5
        refine p8 j (by omega) hj3 fun mm e=>?_
        have:=g3 j mm e
        omega
      have P3:NodeP D n (vwC D.length n m f) z L g (F ++ [x]) h3:=by
        refine ⟨?_,by rw [keep _ (by omega) (by omega)];exact P1.r0,by rw [keep _ (by omega) (by omega)];exact P1.r1,by rw [keep _ (by omega) (by omega)];exact P1.r4,by rw [keep _ (by omega) (by omega)];exact P1.r5,.sl id 0 (F.length + 1) 2,p4,.inr ⟨id,by simp,by rw [C5E];exact p6,by rw [A1g],?_⟩,fun id' m' e=>?_⟩
        · refine ⟨Nat.le_refl _,by have:=P1.low.2.1;omega,fun j hj=>?_⟩
          rw [keep j (by omega) (by omega)];exact P1.low.2.2 j hj
        · have:=B7 P1.r5;omega
        · cases e;have:=B7 P1.r5;omega
      obtain ⟨y,h',f1,f2⟩:=B1K (q:=q) hD hv h62 e (i + 1) M (F ++ [x]) h3 (by omega) (by omega) (by simp;omega) P3
      rw [List.append_assoc,List.singleton_append] at f2
      refine ⟨y,h',?_,f2⟩
      have k0:=step true hb
      by_cases k1:kdV D n x.2=1
      · generalize vwC D.length n m f=V at *
        simp only [C8,E7,c0,decide_true,G4,a1,a2,se,M3,Nat.zero_add,e1,lV,hI,f0,Y6,k1,B1b,Z0,cond_true,p1,le,ef,p2,p3,B2X,I8,w1]
        exact f1
      · have k2:kdV D n x.2=2:=by
          rcases (show kdV D n x.2=1 ∨ kdV D n x.2=2 by rw [k0]) with h | h
          · exact absurd h k1
          · exact h
        have n21:¬ (2:Int)=1:=by decide
        generalize vwC D.length n m f=V at *
        simp only [C8,E7,c0,decide_true,G4,a1,a2,se,M3,Nat.zero_add,e1,lV,hI,f0,Y6,k2,n21,decide_false,A41,Z0,cond_false,p1,le,ef,p2,p3,B2X,I8,w1]
        exact f1
def NdF (P:Nat → Prop) (cs:List Cell):Prop:=∀ id off m sz,Cell.sl id off m sz ∈ cs → P id
theorem A45 {h h':A0} {x:Cell} {sz n:Nat} {cs:List Cell} (hv:Has h (.c x) sz n cs) (hk:∀ id off m s,x=.sl id off m s → rd h' id=rd h id):Has h' (.c x) sz n cs:=by
  rcases hv with hv | ⟨id,off,r,e,hr,h2⟩
  · exact .inl hv
  · cases e
    exact .inr ⟨id,off,r,rfl,by rw [hk id off n sz rfl];exact hr,h2⟩
theorem IsNd.keep {h h':A0} {cs:List Cell} {x:Nd} {P:Nat → Prop} (hx:IsNd h cs x) (hf:NdF P cs) (hk:∀ id,P id → rd h' id=rd h id):IsNd h' cs x:=by
  obtain ⟨a,b,rfl,h1,h2⟩:=hx
  exact ⟨a,b,rfl,A45 h1 fun id off m s e=>hk id (hf id off m s (by simp [ndC,e])),A45 h2 fun id off m s e=>hk id (hf id off m s (by simp [ndC,e]))⟩
theorem B23 {P:Nat → Prop} {i k l p s:Int} {x y:Cell} (hx:∀ id off m sz,x=.sl id off m sz → P id) (hy:∀ id off m sz,y=.sl id off m sz → P id):NdF P (ndC i k l p s x y):=by
  intro id off m sz h
  simp only [ndC,List.mem_cons,List.not_mem_nil,or_false] at h
  rcases h with h | h | h | h | h | h | h
  · cases h
  · cases h
  · cases h
  · cases h
  · cases h
  · exact hx id off m sz h.symm
  · exact hy id off m sz h.symm
theorem C8n {h:A0} {v:Val} {cs:List (List Cell)}:quiet h (some (v,h ++ cs.map fun c=>some (Row.mk c true)))=some (v,h ++ cs.map fun c=>some (Row.mk c true)):=by
  have:∀ (cs:List (List Cell)) (h':A0),Grows h h' → Grows h (h' ++ cs.map fun c=>some (Row.mk c true)):=by
    intro cs
    induction cs with
    | nil=>intro h' hg;simpa using hg
    | cons c cs ih =>
      intro h' hg
      have:=ih _ (hg.new c)
      rw [List.map_cons]
      rwa [List.append_assoc,List.singleton_append] at this
  exact A5o (this cs h Grows.rfl')
theorem D0u {D:Dev} {n m i:Int} {f:Cell} {h:A0} (hD:okD D) (hv:IsView h f D) :
    ∃ (cs:List Cell) (t:List (List Cell)),A20 [.a (vwC D.length n m f),.c (.i .i64 i)] h=some (.a cs,h ++ t.map fun c=>some (Row.mk c true)) ∧ IsNd (h ++ t.map fun c=>some (Row.mk c true)) cs (N4 D n i) ∧ NdF (fun id=>h.length ≤ id ∧ id < h.length + t.length) cs:=by
  have key:∀ g,IsView g f D → ∃ x g',A6L (1000) [.a (vwC D.length n m f),.c (.i .i64 i)] g=some (.a (ndC i (kdV D n i) (lnV D n i) (paV D n i) (I5 (kdV D n i) (szV D n i)) (.sl (g.length + 4) 0 (K0 D n i).length 1) x),g') ∧ rd g' (g.length + 4)=some ⟨A1 (K0 D n i),true⟩ ∧
      HeldX g' x (D9 (K3 D n i)) (K3 D n i).length 2 (g.length + 3) ∧ (∀ id m,x=.sl id 0 m 2 → g.length + 6 ≤ id):=by
    intro g hv
    obtain ⟨V,hV⟩:∃ V,V=vwC D.length n m f:=⟨_,rfl⟩
    have hVl:V.length=4:=by rw [hV];rfl
    have hIno:=B20 (n:=n) (m:=m) (i:=i) (h:=g ++ [some (Row.mk V true),some (Row.mk (ndC 0 0 0 0 0 .ns .ns) true)]) hD (hv.more _)
    rw [B1p,← hV] at hIno
    obtain ⟨I,hI⟩:∃ I,I=A5 (kdV D n i) (lnV D n i) (szV D n i) (paV D n i) (drV D n i):=⟨_,rfl⟩
    have hIl:I.length=11:=by rw [hI];simp [A5,H0,B0N]
    have i0:I[0]? = some (.i .i64 (kdV D n i)):=by rw [hI];rfl
    have i1:I[1]? = some (.i .i64 (lnV D n i)):=by rw [hI];rfl
    have i3:I[3]? = some (.i .i64 (paV D n i)):=by rw [hI];rfl
    have hSz:=fun h=>B5K (k:=kdV D n i) (l:=lnV D n i) (s:=szV D n i) (p:=paV D n i) (d:=drV D n i) (h:=h)
    rw [← hI] at hIno
    simp only [← hI] at hSz
    have hAll:=C53 (n:=n) (m:=m) (k:=kdV D n i) (l:=lnV D n i) (s:=szV D n i) (p:=paV D n i) (d:=drV D n i) (h:=g ++ [some (Row.mk V true),some (Row.mk (ndC 0 0 0 0 0 .ns .ns) true),some (Row.mk I true),none]) hD B0N (hv.more _)
    rw [← hI,← hV] at hAll
    have eL:(g ++ [some (Row.mk V true),some (Row.mk (ndC 0 0 0 0 0 .ns .ns) true),some (Row.mk I true),none]).length=g.length + 4:=by simp
    rw [eL] at hAll
    have eD:S3 D n (kdV D n i) (szV D n i) (drV D n i) 0 34304=K0 D n i:=rfl
    rw [eD] at hAll
    have ef:∀ s y,A7 [Cell.i .i64 0,.i .i64 0,.i .i64 0,.i .i64 0,.i .i64 0,.ns,.ns] [(0,1,.c (.i .i64 i)),(1,1,.c (.i .i64 (kdV D n i))),(2,1,.c (.i .i64 (lnV D n i))),(3,1,.c (.i .i64 (paV D n i))),(4,1,.c (.i .i64 s)),(5,1,.c y)]=some (ndC i (kdV D n i) (lnV D n i) (paV D n i) s y .ns):=fun _ _=>rfl
    obtain ⟨N,hN⟩:∃ N,N=ndC i (kdV D n i) (lnV D n i) (paV D n i) (I5 (kdV D n i) (szV D n i)) (.sl (g.length + 4) 0 (K0 D n i).length 1) .ns:=⟨_,rfl⟩
    have hNl:N.length=7:=by rw [hN];rfl
    have z7:(ndC 0 0 0 0 0 .ns .ns).length=7:=rfl
    obtain ⟨G,hG⟩:∃ G,G=g ++ [some (Row.mk V true),some (Row.mk (ndC 0 0 0 0 0 .ns .ns) true),some (Row.mk I true),some (Row.mk N true),some (Row.mk (A1 (K0 D n i)) true)]:=⟨_,rfl⟩
    have hLi:=C49 (n:=n) (m:=m) (k:=kdV D n i) (l:=lnV D n i) (s:=szV D n i) (p:=paV D n i) (d:=drV D n i) (h:=G) hD B0N (by rw [hG];exact hv.more _)
    rw [← hI,← hV] at hLi
    have lG:G.length=g.length + 5:=by rw [hG];simp
    rw [lG] at hLi
    have hen:=B6R (D:=D) (n:=n) (k:=kdV D n i) (d:=drV D n i)
    obtain ⟨H,hH⟩:∃ H,H=G ++ [some (Row.mk (D9 (Q1 D n (kdV D n i) (drV D n i))) true)]:=⟨_,rfl⟩
    have P0:NodeP D n (vwC D.length n m f) ⟨i,kdV D n i,lnV D n i,paV D n i,I5 (kdV D n i) (szV D n i),K0 D n i,[]⟩ (Q1 D n (kdV D n i) (drV D n i)) g [] H:=by
      rw [← hV]
      refine ⟨by rw [hH,hG];exact ((Low.refl (Nat.le_refl _)).new _).new _,by rw [hH,hG];simp,by rw [hH,hG];simp,by rw [hH,hG];simp,?_,.ns,?_,.inl ⟨rfl,rfl,rfl⟩,fun id m e=>by cases e⟩
      · rw [hH,show g.length + 5=G.length by omega];exact F1
      · rw [hH];refine B6 ?_;rw [hG,hN];simp
    obtain ⟨x,h',f1,f2,f3,f4,f5⟩:=B1K (q:=1000) (m:=m) (f:=f) hD hv (by omega) (Q1 D n (kdV D n i) (drV D n i)).length 0 1000 [] H (by omega) (by omega) (by simp) P0
    rw [List.drop_zero,List.nil_append] at f3
    refine ⟨x,h',?_,f2,f3,f4⟩
    dsimp only at f1
    have ez:[Cell.i .i64 0,.i .i64 0,.i .i64 0,.i .i64 0,.i .i64 0,.ns,.ns]=ndC 0 0 0 0 0 .ns .ns:=rfl
    have eG:g ++ [some (Row.mk V true),some (Row.mk (ndC 0 0 0 0 0 .ns .ns) true),some (Row.mk I true),some (Row.mk N true),some (Row.mk (A1 (K0 D n i)) true)]=G:=hG.symm
    have ei:[Cell.i .i64 0,.i .i64 0,.i .i64 0,.i .i64 0,.i .i64 0,.i .i64 0,.i .i64 0,.i .i64 0,.i .i64 0,.i .i64 0,.i .i64 0].length=11:=rfl
    rw [C1i]
    replace ef:=ef (I5 (kdV D n i) (szV D n i)) (.sl (g.length + 4) 0 (K0 D n i).length 1)
    rw [← hN] at ef
    rw [ez] at ef ⊢
    rw [← hV]
    generalize [Cell.i .i64 0,.i .i64 0,.i .i64 0,.i .i64 0,.i .i64 0,.i .i64 0,.i .i64 0,.i .i64 0,.i .i64 0,.i .i64 0,.i .i64 0]=zi at *
    generalize ndC 0 0 0 0 0 .ns .ns=z at *
    have gV:A3 G 4 (.c (.p g.length 0))=some (.a V):=by rw [hG,W5];exact Q0 hVl
    have gI:A3 G 11 (.c (.p (g.length + 2) 0))=some (.a I):=by rw [hG,A0O];exact Q0 hIl
    generalize A1 (K0 D n i)=B at *
    simp only [esc,A0O,W5,A6Z,T6,A2i,W8,Q0,A8B,B1w,Nat.reduceAdd,hVl,hIl,z7,ei,hIno,i0,i1,i3,hSz,hAll,ef,hNl,eG,gV,gI,hLi]
    rw [hH] at f1
    exact f1
  obtain ⟨x,g',e,h1,h2,h3⟩:=key (ro h) hv.ro
  rw [N7] at e h1 h2 h3
  have n1:=A2A h1 (by simp)
  have q1:¬ h.length + 4 < h.length:=by omega
  rcases h2 with ⟨e1,e2,rfl⟩ | ⟨id,rfl,hr,hl,hne⟩
  · have hc:H5 g' h.length [] (ndC i (kdV D n i) (lnV D n i) (paV D n i) (I5 (kdV D n i) (szV D n i)) (.sl (h.length + 4) 0 (K0 D n i).length 1) .ns)=some (ndC i (kdV D n i) (lnV D n i) (paV D n i) (I5 (kdV D n i) (szV D n i)) (.sl h.length 0 (K0 D n i).length 1) .ns,[h.length + 4]):=by
      simp [ndC,H5,Cell.low,Cell.flat,n1]
    have:=B3A e (v2:=.a (ndC i (kdV D n i) (lnV D n i) (paV D n i) (I5 (kdV D n i) (szV D n i)) (.sl h.length 0 (K0 D n i).length 1) .ns)) (ids:=[h.length + 4]) (by simp only [J9,hc,Option.map_some])
    rw [List.map_cons,List.map_nil,h1] at this
    refine ⟨_,[A1 (K0 D n i)],this,⟨_,_,rfl,Has.tr F1 (show (A1 (K0 D n i)).length=(K0 D n i).length * 1 by rw [B5,Nat.mul_one]) (Q3 _),.inl ⟨rfl,e1,e2⟩⟩,B23 (fun id off m sz e=>?_) fun id off m sz e=>by cases e⟩
    cases e
    exact ⟨Nat.le_refl _,by simp⟩
  · have hid:=h3 id _ rfl
    have n2:=A2A hr B0Z
    have q2:¬ id < h.length:=by omega
    have hc:H5 g' h.length [] (ndC i (kdV D n i) (lnV D n i) (paV D n i) (I5 (kdV D n i) (szV D n i)) (.sl (h.length + 4) 0 (K0 D n i).length 1) (.sl id 0 (K3 D n i).length 2))=some (ndC i (kdV D n i) (lnV D n i) (paV D n i) (I5 (kdV D n i) (szV D n i)) (.sl h.length 0 (K0 D n i).length 1) (.sl (h.length + 1) 0 (K3 D n i).length 2),[h.length + 4,id]):=by
      have q3:h.length ≤ id:=by omega
      have q4:¬ id=h.length + 4:=by omega
      simp [ndC,H5,Cell.low,Cell.flat,n1,n2,q2,q3,q4]
    have:=B3A e (v2:=.a (ndC i (kdV D n i) (lnV D n i) (paV D n i) (I5 (kdV D n i) (szV D n i)) (.sl h.length 0 (K0 D n i).length 1) (.sl (h.length + 1) 0 (K3 D n i).length 2))) (ids:=[h.length + 4,id]) (by simp only [J9,hc,Option.map_some])
    rw [List.map_cons,List.map_cons,List.map_nil,h1,hr] at this
    refine ⟨_,[A1 (K0 D n i),D9 (K3 D n i)],this,?_,B23 (fun id off m sz e=>by cases e;exact ⟨Nat.le_refl _,by simp⟩) fun id off m sz e=>by cases e;exact ⟨by omega,by simp⟩⟩
    exact ⟨_,_,rfl,Has.tr (by simp [N4]) (show (A1 (K0 D n i)).length=(K0 D n i).length * 1 by rw [B5,Nat.mul_one]) (Q3 _),Has.tr (by simp [N4]) A1g A7v⟩
end Go.Proofs.Yteckncopbicmcaa
end
section
namespace Go.Proofs.Yteckncopbicmcaa
open Go Go.Esc
def KeysI (es:E6) (R:List Int):Prop:=es.map (·.1)=R.map fun i=>Cell.i .i64 i
theorem KeysI.len {es:E6} {R:List Int} (hk:KeysI es R):es.length=R.length:=by
  have:=congrArg List.length hk
  simpa using this
theorem KeysI.ok {es:E6} {R:List Int} (hk:KeysI es R) (a:Int):A0t (some .i64) (.i .i64 a) es=true:=by
  unfold A0t
  rw [Bool.and_eq_true]
  refine ⟨by simp [O4],List.all_eq_true.2 fun e he=>?_⟩
  have:e.1 ∈ R.map fun i=>Cell.i .i64 i:=by rw [← hk];exact List.mem_map.2 ⟨e,he,rfl⟩
  rw [List.mem_map] at this
  obtain ⟨i,_,hi⟩:=this
  rw [← hi];simp [O4]
theorem KeysI.snoc {es:E6} {R:List Int} (hk:KeysI es R) (a:Int) (p:Part):KeysI (es ++ [(.i .i64 a,p)]) (R ++ [a]):=by
  unfold KeysI at *
  rw [List.map_append,List.map_append,hk];rfl
theorem A7Y {a:Int}:∀ {es:E6} {R:List Int} {i:Nat},KeysI es R → a ∉ R → mgo (.i .i64 a) es i=none
  | [],_,_,_,_=>rfl
  | e :: es,[],i,hk,_=>by simp [KeysI] at hk
  | e :: es,r :: R,i,hk,ha=>by
    have hk1:e.1=.i .i64 r:=(List.cons.inj hk).1
    have hk2:KeysI es R:=(List.cons.inj hk).2
    rw [List.mem_cons,not_or] at ha
    rw [mgo,if_neg (by rw [hk1];intro e;cases e;exact ha.1 rfl)]
    exact A7Y hk2 ha.2
theorem B60 {a:Int}:∀ {es:E6} {R:List Int} {i j:Nat} {p:Part},KeysI es R → R.Nodup → es[j]? = some (.i .i64 a,p) → mgo (.i .i64 a) es i=some (i + j,p)
  | [],_,_,_,_,_,_,h=>by simp at h
  | e :: es,[],i,j,p,hk,_,_=>by simp [KeysI] at hk
  | e :: es,r :: R,i,j,p,hk,hn,h=>by
    have hk1:e.1=.i .i64 r:=(List.cons.inj hk).1
    have hk2:KeysI es R:=(List.cons.inj hk).2
    cases j with
    | zero =>
      simp at h
      subst h
      rw [mgo,if_pos rfl];simp
    | succ j =>
      have h':es[j]? = some (.i .i64 a,p):=by simpa using h
      have hmem:a ∈ R:=by
        have h3:(es.map (·.1))[j]? = some (.i .i64 a):=by rw [List.getElem?_map,h'];rfl
        rw [hk2,List.getElem?_map,Option.map_eq_some_iff] at h3
        obtain ⟨r',hr',e'⟩:=h3
        cases e'
        exact List.mem_of_getElem? hr'
      have hne:¬ e.1=.i .i64 a:=by
        rw [hk1];intro e';cases e'
        exact (List.nodup_cons.1 hn).1 hmem
      rw [mgo,if_neg hne,B60 (i:=i + 1) hk2 (List.nodup_cons.1 hn).2 h']
      simp;omega
theorem B1C {h:A0} {mid:Nat} {es:E6} {R:List Int} {a:Int} {z:Part} {ok:Bool} (hr:rd h mid=some (D8 es)) (hk:KeysI es R) (ha:a ∉ R):O9 h (some .i64) z ok (.c (.m mid)) (.c (.i .i64 a))=some (Q4 ok z false):=by
  simp only [O9,Z5,A2x,hr,Option.bind_some,A3m]
  rw [if_pos (hk.ok a)]
  unfold T1
  rw [A7Y hk ha]
theorem B1D {h:A0} {mid:Nat} {es:E6} {R:List Int} {a:Int} {z p:Part} {ok:Bool} {j:Nat} (hr:rd h mid=some (D8 es)) (hk:KeysI es R) (hn:R.Nodup) (hj:es[j]? = some (.i .i64 a,p)):O9 h (some .i64) z ok (.c (.m mid)) (.c (.i .i64 a))=some (Q4 ok p true):=by
  simp only [O9,Z5,A2x,hr,Option.bind_some,A3m]
  rw [if_pos (hk.ok a)]
  unfold T1
  rw [B60 hk hn hj]
theorem C8j {h:A0} {mid:Nat} {es:E6} {R:List Int} {a:Int} {l:List Cell} (hr:rd h mid=some (D8 es)) (hk:KeysI es R) (ha:a ∉ R):U6 h (some .i64) (.c (.m mid)) (.c (.i .i64 a)) (.a l)=some (h.set mid (some (D8 (es ++ [(.i .i64 a,.a l)])))):=by
  simp only [U6,Z5,A2D,hr,Option.bind_some,A3m]
  rw [if_pos (hk.ok a)]
  unfold X7 T1
  rw [A7Y hk ha]
def A7i (b:Nat) (h:A0):Nat:=match rd h (b + 5) with
  | some ⟨.sl L _ _ _ :: _,_⟩=>L
  | _=>0
def Pr (b:Nat) (h:A0) (id:Nat):Prop:=b + 6 ≤ id ∧ id < h.length ∧ id ≠ A7i b h
theorem A3d {b L n:Nat} {h:A0} (hr:rd h (b + 5)=some ⟨[.sl L 0 n 1],true⟩):A7i b h=L:=by
  unfold A7i;rw [hr]
structure OfP (D:Dev) (n:Int) (V:List Cell) (g:A0) (R:List Int) (h:A0):Prop where
  low:Low g.length g h
  nd:R.Nodup
  r0:rd h g.length=some ⟨V,true⟩
  r3:rd h (g.length + 3)=some ⟨[.m (g.length + 2)],true⟩
  rw_:∃ L es,rd h (g.length + 5)=some ⟨[.sl L 0 (R.length + 1) 1],true⟩ ∧ rd h L=some ⟨encI (1 :: R),true⟩ ∧ g.length + 4 ≤ L ∧ L ≠ g.length + 5 ∧
    rd h (g.length + 2)=some (D8 es) ∧ KeysI es R ∧ ∀ (j:Nat) (e:Cell × Part),es[j]? = some e → ∃ a cs,e=(.i .i64 a,.a cs) ∧ IsNd h cs (N4 D n a) ∧ NdF (Pr g.length h) cs
theorem OfP.since {D:Dev} {n:Int} {V:List Cell} {g h h':A0} {R:List Int} (P:OfP D n V g R h) (hl:Low h.length h h'):OfP D n V g R h':=by
  obtain ⟨L,es,h1,h2,h3,h4,h5,h6,h7⟩:=P.rw_
  have hlt:=hl.2.1
  have c1:=A3d h1
  have c2:=A3d (hl.rd h1)
  refine ⟨P.low.trans ⟨by have:=P.low.2.1;omega,hlt,fun id hid=>hl.2.2 id (by have:=P.low.2.1;omega)⟩,P.nd,hl.rd P.r0,hl.rd P.r3,L,es,hl.rd h1,hl.rd h2,h3,h4,hl.rd h5,h6,fun j e he=>?_⟩
  obtain ⟨a,cs,e1,e2,e3⟩:=h7 j e he
  exact ⟨a,cs,e1,e2.keep e3 fun id hid=>hl.2.2 id hid.2.1,fun id off m sz hm=>by have:=e3 id off m sz hm;unfold Pr at *;omega⟩
theorem OfP.more {D:Dev} {n:Int} {V:List Cell} {g h:A0} {R:List Int} (P:OfP D n V g R h) (t:A0):OfP D n V g R (h ++ t):=P.since ((Low.refl (Nat.le_refl _)).new t)
theorem OfP.pr {D:Dev} {n:Int} {V:List Cell} {g h h':A0} {R:List Int} (P:OfP D n V g R h) (hl:Low h.length h h') {id:Nat} (hp:Pr g.length h id):Pr g.length h' id ∧ rd h' id=rd h id:=by
  obtain ⟨L,es,h1,_⟩:=P.rw_
  have c1:=A3d h1
  have c2:=A3d (hl.rd h1)
  have hlt:=hl.2.1
  unfold Pr at *
  exact ⟨by omega,hl.2.2 id hp.2.1⟩
theorem OfP.look {D:Dev} {n:Int} {V:List Cell} {g h:A0} {R:List Int} (P:OfP D n V g R h) {a:Int} (ha:a ∈ R):∃ cs,IsNd h cs (N4 D n a) ∧ NdF (Pr g.length h) cs ∧ ∀ z ok,O9 h (some .i64) z ok (.c (.m (g.length + 2))) (.c (.i .i64 a))=some (Q4 ok (.a cs) true):=by
  obtain ⟨L,es,h1,h2,h3,h4,h5,h6,h7⟩:=P.rw_
  obtain ⟨j,hj⟩:=List.mem_iff_getElem?.1 ha
  have hlen:=h6.len
  have hjl:j < es.length:=by rw [hlen];exact (List.getElem?_eq_some_iff.1 hj).1
  obtain ⟨b,cs,e1,e2,e3⟩:=h7 j es[j] (List.getElem?_eq_getElem hjl)
  have hb:b=a:=by
    have h8:(es.map (·.1))[j]? = some (.i .i64 b):=by rw [List.getElem?_map,List.getElem?_eq_getElem hjl,e1];rfl
    rw [h6,List.getElem?_map,hj] at h8
    simpa using h8.symm
  subst hb
  exact ⟨cs,e2,e3,fun z ok=>B1D h5 h6 P.nd (by rw [List.getElem?_eq_getElem hjl,e1])⟩
theorem B8x {D:Dev} {n m a:Int} {f:Cell} {g h:A0} {R:List Int} (hD:okD D) (hv:IsView g f D) (P:OfP D n (vwC D.length n m f) g R h) (h62:R.length ≤ 1000) :
    ∃ h',A14 [.c (.i .i64 a),.c (.p (g.length + 3) 0),.c (.p g.length 0),.c (.p (g.length + 5) 0)] h=some (.t [],h') ∧ OfP D n (vwC D.length n m f) g (W0 R a) h' ∧ ∀ id,Pr g.length h id → Pr g.length h' id ∧ rd h' id=rd h id:=by
  have la:=F4 (off:=0) P.r3 rfl rfl
  have z7:ndC 0 0 0 0 0 .ns .ns=[Cell.i .i64 0,.i .i64 0,.i .i64 0,.i .i64 0,.i .i64 0,.ns,.ns]:=rfl
  unfold W0
  by_cases c:a ∈ R
  · obtain ⟨cs,g1,_,g2⟩:=P.look c
    have s0:=A0y (h:=h) g1.length
    rw [if_pos c]
    refine ⟨h ++ [some ⟨cs,true⟩],B3w (n:=0) ?_,P.more _,fun id hp=>P.pr ((Low.refl (Nat.le_refl _)).new _) hp⟩
    rw [B27]
    simp only [C8,la,g2,Q4,L5,List.getElem?_cons_zero,List.getElem?_cons_succ,Option.map_some,N5,L7,s0,A0m,Bool.not_true,G7]
    rfl
  · rw [if_neg c]
    obtain ⟨L,es,h1,h2,h3,h4,h5,h6,h7⟩:=P.rw_
    have lk:=B1C (z:=.a (ndC 0 0 0 0 0 .ns .ns)) (ok:=true) h5 h6 c
    have s0:=A0y (h:=h) (cs:=ndC 0 0 0 0 0 .ns .ns) rfl
    obtain ⟨H,hH⟩:∃ H,H=h ++ [some (Row.mk (ndC 0 0 0 0 0 .ns .ns) true)]:=⟨_,rfl⟩
    have PH:OfP D n (vwC D.length n m f) g R H:=by rw [hH];exact P.more _
    have lH:H.length=h.length + 1:=by rw [hH];simp
    rw [← hH] at s0
    have la2:=F4 (off:=0) PH.r3 rfl rfl
    have lV:=F6 (n:=4) PH.r0 rfl
    obtain ⟨cs,t,n1,n2,n3⟩:=D0u (n:=n) (m:=m) (i:=a) hD (hv.since PH.low)
    obtain ⟨H2,hH2⟩:∃ H2,H2=H ++ t.map fun c=>some (Row.mk c true):=⟨_,rfl⟩
    have n1q:quiet H (A20 [.a (vwC D.length n m f),.c (.i .i64 a)] H)=some (.a cs,H2):=by rw [n1,C8n,hH2]
    rw [← hH2] at n2
    have P2:OfP D n (vwC D.length n m f) g R H2:=by rw [hH2];exact PH.more _
    have lH2:H2.length=H.length + t.length:=by rw [hH2];simp
    obtain ⟨L',es',k1,k2,k3,k4,k5,k6,k7⟩:=P2.rw_
    have eL:L'=L:=by
      have:rd H2 (g.length + 5)=some ⟨[.sl L 0 (R.length + 1) 1],true⟩:=by rw [hH2,hH];exact B6 (B6 h1)
      rw [this] at k1
      injection k1 with e;injection e with e1;injection e1 with e2;injection e2 with e3
      exact e3.symm
    subst eL
    have pm:=C8j (l:=cs) k5 k6 c
    obtain ⟨H3,hH3⟩:∃ H3,H3=H2.set (g.length + 2) (some (D8 (es' ++ [(.i .i64 a,.a cs)]))):=⟨_,rfl⟩
    rw [← hH3] at pm
    have lH3:H3.length=H2.length:=by rw [hH3];simp
    have r5:rd H3 (g.length + 5)=some ⟨[.sl L' 0 (R.length + 1) 1],true⟩:=by rw [hH3,D2 (by omega)];exact k1
    have rL:rd H3 L'=some ⟨encI (1 :: R),true⟩:=by rw [hH3,D2 (by omega)];exact k2
    have hLlt:=B7 h2
    have ef:A7 [Cell.i .i64 0] [(0,1,.c (.i .i64 a))]=some (encI [a]):=rfl
    obtain ⟨id,h8,h9,p1,p2,p3,p4,p5,p6,p7,p8,p9⟩:=B5F (off:=0) (ys:=encI [a]) (n:=R.length + 1) (sz:=1) r5 rfl (.inr ⟨L',rfl,rL,by simp [H0],k4⟩) (by omega) rfl (by omega)
    have keep:∀ j,j < H3.length → j ≠ g.length + 5 → j ≠ L' → rd h9 j=rd H3 j:=fun j h1 h2 h3=>p8 j h1 h2 fun mm e=>by cases e;exact h3 rfl
    have b5:=B7 r5
    have cH2:=A3d k1
    have c9:A7i g.length h9=id:=A3d (n:=R.length + 1 + 1) (by rw [p4];rfl)
    refine ⟨h9,B3w (n:=0) ?_,?_,fun id0 hp=>?_⟩
    · rw [B27]
      rw [z7] at lk s0
      simp only [C8,la,lk,Q4,L5,List.getElem?_cons_zero,List.getElem?_cons_succ,Option.map_some,N5,L7,s0,A0m,Bool.not_false,G4,la2,lV,List.append_nil,n1q,pm,p1,ef,p2,p3]
      rfl
    · refine ⟨?_,?_,?_,?_,id,es' ++ [(.i .i64 a,.a cs)],?_,?_,by omega,by omega,?_,k6.snoc a _,fun j e he=>?_⟩
      · refine ⟨Nat.le_refl _,by have:=P2.low.2.1;omega,fun j hj=>?_⟩
        rw [keep j (by omega) (by omega) (by omega),hH3,D2 (by omega)]
        exact P2.low.2.2 j hj
      · rw [List.nodup_append]
        exact ⟨P.nd,by simp,fun x hx y hy e=>by simp at hy;subst hy;subst e;exact c hx⟩
      · rw [keep _ (by omega) (by omega) (by omega),hH3,D2 (by omega)];exact P2.r0
      · rw [keep _ (by omega) (by omega) (by omega),hH3,D2 (by omega)];exact P2.r3
      · rw [p4];simp
      · rw [p6,← A7q];simp
      · rw [keep _ (by omega) (by omega) (by omega),hH3,G8 (by omega)]
      · by_cases hj:j < es'.length
        · rw [List.getElem?_append_left hj] at he
          obtain ⟨b,cs',e1,e2,e3⟩:=k7 j e he
          refine ⟨b,cs',e1,e2.keep e3 fun id hid=>?_,fun id' off m' sz hm=>?_⟩
          · unfold Pr at hid
            rw [keep id (by omega) (by omega) (by omega),hH3,D2 (by omega)]
          · have:=e3 id' off m' sz hm
            unfold Pr at *
            omega
        · have hj2:j=es'.length:=by
            have:=(List.getElem?_eq_some_iff.1 he).1
            simp at this;omega
          subst hj2
          rw [List.getElem?_append_right (Nat.le_refl _)] at he
          simp at he
          subst he
          refine ⟨a,cs,rfl,n2.keep n3 fun id hid=>?_,fun id' off m' sz hm=>?_⟩
          · have:=P.low.2.1
            rw [keep id (by omega) (by omega) (by omega),hH3,D2 (by omega)]
          · have:=n3 id' off m' sz hm
            have hP:=P.low.2.1
            have hb:=B7 h1
            unfold Pr
            omega
    · have q1:=(P2.pr (Low.refl (Nat.le_refl _)) (P.pr (h':=H2) (by rw [hH2,hH];exact ((Low.refl (Nat.le_refl _)).new _).new _) hp).1).1
      have q2:=(P.pr (h':=H2) (by rw [hH2,hH];exact ((Low.refl (Nat.le_refl _)).new _).new _) hp).2
      unfold Pr at *
      exact ⟨by omega,by rw [keep id0 (by omega) (by omega) (by omega),hH3,D2 (by omega)];exact q2⟩
theorem C9j {R:List Int} {a:Int} (hR:∀ x ∈ R,1 ≤ x ∧ x ≤ 128) (ha:1 ≤ a ∧ a ≤ 128):∀ x ∈ W0 R a,1 ≤ x ∧ x ≤ 128:=by
  intro x hx
  rcases B8v.1 hx with h | rfl
  · exact hR x h
  · exact ha
theorem B8y {D:Dev} {n m:Int} {f:Cell} {g:A0} {q M:Nat} {L:List Ent} {y:Cell} {fc x6:Val} (hD:okD D) (hv:IsView g f D) (hL:∀ e ∈ L,1 ≤ e.2 ∧ e.2 ≤ 128) (h62:L.length ≤ 1000)
    (hfc:∀ a h,L6 Q7 fc [a] h=A14 [a,.c (.p (g.length + 3) 0),.c (.p g.length 0),.c (.p (g.length + 5) 0)] h) :
    ∀ (e j M2:Nat) (R:List Int) (h:A0),j + e=L.length → e < M2 → (∀ x ∈ R,1 ≤ x ∧ x ≤ 128) → OfP D n (vwC D.length n m f) g R h → Has h (.c y) 2 L.length (D9 L) → (∀ id off k s,y=.sl id off k s → Pr g.length h id) →
      ∃ h',A8L q M M2 (.c (.p (g.length + 3) 0)) (.c (.p (g.length + 5) 0)) fc x6 (.c y) (.c (.i .i64 (L.length:Int))) (.c (.i .i64 (j:Int))) h=bnd (A2 .add x6 (.c (.i .i64 1))) (fun v29=>A5F q M (.c (.p (g.length + 3) 0)) (.c (.p (g.length + 5) 0)) fc v29 h') ∧
        OfP D n (vwC D.length n m f) g (A0b R (L.drop j)) h'
  | e,j,0,R,h,_,hm,_,_,_,_=>by omega
  | 0,j,M2 + 1,R,h,hj,hm,hR,P,hy,hp=>by
    have c0:¬ ((j:Int) < (L.length:Nat)):=by omega
    rw [B9B,List.drop_of_length_le (by omega)]
    exact ⟨h,by simp only [C8,E7,c0,decide_false,G7],P⟩
  | e + 1,j,M2 + 1,R,h,hj,hm,hR,P,hy,hp=>by
    have hjl:j < L.length:=by omega
    have c0:(j:Int) < (L.length:Nat):=by omega
    have w1:=E2 (show j + 1 < 9223372036854775808 by omega)
    obtain ⟨ad,a1,a2⟩:=A4X hy hjl
    rw [List.drop_eq_getElem_cons hjl,A8u]
    have hx:=hL L[j] (List.getElem_mem hjl)
    obtain ⟨x,hxe⟩:∃ x,x=L[j]:=⟨_,rfl⟩
    rw [← hxe] at a2 hx ⊢
    have P1:=P.more [some ⟨E1 (some x),true⟩]
    have hlow1:Low h.length h (h ++ [some (Row.mk (E1 (some x)) true)]):=(Low.refl (Nat.le_refl _)).new _
    have hRl:=B12 P.nd hR
    obtain ⟨h2,f1,f2,f3⟩:=B8x (a:=x.2) hD hv P1 (by omega)
    have hy2:Has h2 (.c y) 2 L.length (D9 L):=A45 hy fun id off k s ey=>by
      have q1:=P.pr hlow1 (hp id off k s ey)
      rw [(f3 id q1.1).2,q1.2]
    obtain ⟨h',k1,k2⟩:=B8y (q:=q) (M:=M) (x6:=x6) hD hv hL h62 hfc e (j + 1) M2 (W0 R x.2) h2 (by omega) (by omega) (C9j hR hx) f2 hy2 (fun id off k s ey=>(f3 id (P.pr hlow1 (hp id off k s ey)).1).1)
    refine ⟨h',?_,k2⟩
    rw [B9B]
    simp only [C8,E7,c0,decide_true,G4,a1,a2,A2J,M3,Nat.zero_add,Nat.add_zero,A3h,hfc,f1,I8,w1]
    exact k1
theorem B8k {D:Dev} {n m:Int} {f:Cell} {g:A0} {q:Nat} {fc:Val} (hD:okD D) (hv:IsView g f D) (hq:1000 < q)
    (hfc:∀ a h,L6 Q7 fc [a] h=A14 [a,.c (.p (g.length + 3) 0),.c (.p g.length 0),.c (.p (g.length + 5) 0)] h) :
    ∀ (e i M:Nat) (R:List Int) (h:A0),e < M → 130 ≤ e + i → i ≤ 1000 → RowI (K3 D n) i R → OfP D n (vwC D.length n m f) g R h →
      ∃ h',A5F q M (.c (.p (g.length + 3) 0)) (.c (.p (g.length + 5) 0)) fc (.c (.i .i64 (i:Int))) h=A5G q q (.c (.p (g.length + 3) 0)) (.c (.sl h'.length 0 0 7)) (.c (.i .i64 0)) (h' ++ [some (Row.mk [] true)]) ∧ OfP D n (vwC D.length n m f) g (A0g (K3 D n) e i R) h'
  | e,i,0,R,h,hm,_,_,_,_=>by omega
  | e,i,M + 1,R,h,hm,h130,hi,hI,P=>by
    obtain ⟨L,es,h1,h2,h3,h4,h5,h6,h7⟩:=P.rw_
    have hRl:=B12 hI.nd hI.rg
    have t4:=F4 (off:=0) h1 rfl rfl
    have t3:=F4 (off:=0) P.r3 rfl rfl
    have w1:=E2 (show i + 1 < 9223372036854775808 by omega)
    by_cases c:i < (1 :: R).length
    · have c':i < R.length + 1:=by simpa using c
      have c0:(i:Int) < (R.length + 1:Nat):=by omega
      obtain ⟨e,rfl⟩:∃ e',e=e' + 1:=⟨e - 1,by omega⟩
      have ad:B9 1 (.c (.sl L 0 (R.length + 1) 1)) (.c (.i .i64 (i:Int)))=some (.c (.p L i)):=by rw [H8 c'];simp
      have l1:A4 h (.c (.p L i))=some (.c (.i .i64 (1 :: R)[i])):=F4 h2 (by rw [T9,List.getElem?_eq_getElem c];rfl) rfl
      have hmem:(1 :: R)[i] ∈ R:=by
        have:=List.getElem_mem c
        rw [List.mem_cons] at this
        rcases this with e | e
        · rw [e];exact hI.hd
        · exact e
      obtain ⟨cs,g1,g2,g3⟩:=P.look hmem
      have hst:=hI.step (fun a=>A76) c
      rw [A0g,dif_pos c]
      obtain ⟨a,ha⟩:∃ a,a=(1 :: R)[i]:=⟨_,rfl⟩
      rw [← ha] at l1 g1 g3 hst ⊢
      obtain ⟨x,y,rfl,hx,hy⟩:=g1
      have hyl:=hy.len
      have f6:A0M (.a (ndC (N4 D n a).ino (N4 D n a).kind (N4 D n a).links (N4 D n a).parent (N4 D n a).size x y)) 6=some (.c y):=rfl
      have hny:(N4 D n a).names=K3 D n a:=rfl
      rw [hny] at hy hyl
      have n224:=B7u (D:=D) (n:=n) (i:=a)
      obtain ⟨h8,k1,k2⟩:=B8y (q:=q) (M:=M) (x6:=.c (.i .i64 (i:Int))) hD hv (L:=K3 D n a) (y:=y) A76 (by omega) hfc (K3 D n a).length 0 q R h (by omega) (by omega) hI.rg P hy (fun id off k s ey=>g2 id off k s (by simp [ndC,ey]))
      rw [List.drop_zero] at k2
      rw [I8,C8,w1] at k1
      obtain ⟨h',p1,p2⟩:=B8k (q:=q) hD hv hq hfc e (i + 1) M _ h8 (by omega) (by omega) (by omega) hst k2
      refine ⟨h',?_,p2⟩
      rw [B9A]
      simp only [C8,t4,Y9,E7,c0,decide_true,G4,t3,ad,l1,g3,Q4,f6,hyl,List.append_nil]
      exact k1.trans p1
    · have c':¬ i < R.length + 1:=by simpa using c
      have c0:¬ ((i:Int) < (R.length + 1:Nat)):=by omega
      have ew:A0g (K3 D n) e i R=R:=by
        cases e with
        | zero=>rfl
        | succ e=>rw [A0g,dif_neg c]
      rw [ew]
      refine ⟨h,?_,P⟩
      rw [B9A]
      simp only [C8,t4,Y9,E7,c0,decide_false,G7]
theorem IsNds.snoc {h:A0} {cs:List Cell} {x:Nd} (hx:IsNd h cs x):∀ {t:List Nd} {C:List Cell},IsNds h C t → IsNds h (C ++ cs) (t ++ [x])
  | [],C,hC=>by
    have hC:C=[]:=hC
    subst hC
    exact ⟨cs,[],by simp,hx,rfl⟩
  | y :: t,C,⟨c1,c2,e,h1,h2⟩=>by
    subst e
    exact ⟨c1,c2 ++ cs,by simp,h1,IsNds.snoc hx h2⟩
def V2 (D:Dev) (n:Int) (R:List Int) (k:Nat):List Nd:=((List.range k).filter fun (i:Nat)=>decide ((i:Int) ∈ R)).map fun (i:Nat)=>N4 D n (i:Int)
theorem B9b {D:Dev} {n:Int} {R:List Int} {k:Nat} (h:(k:Int) ∈ R):V2 D n R (k + 1)=V2 D n R k ++ [N4 D n k]:=by
  simp [V2,List.range_succ,List.filter_append,h]
theorem B9a {D:Dev} {n:Int} {R:List Int} {k:Nat} (h:¬ (k:Int) ∈ R):V2 D n R (k + 1)=V2 D n R k:=by
  simp [V2,List.range_succ,List.filter_append,h]
theorem C90 {D:Dev} {n:Int} {R:List Int} {k:Nat}:(V2 D n R k).length ≤ k:=by
  have:=List.length_filter_le (fun (i:Nat)=>decide ((i:Int) ∈ R)) (List.range k)
  simpa [V2] using this
theorem B1O {D:Dev} {n:Int} {V:List Cell} {g H:A0} {R:List Int} {q:Nat} (P:OfP D n V g R H):∀ (e k M id:Nat) (C:List Cell) (h:A0),k + e=129 → e < M → Low H.length H h → H.length ≤ id → rd h id=some ⟨C,true⟩ → IsNds H C (V2 D n R k) →
    ∃ v h',A5G q M (.c (.p (g.length + 3) 0)) (.c (.sl id 0 (V2 D n R k).length 7)) (.c (.i .i64 (k:Int))) h=some (v,h') ∧ IsTree h' v (V2 D n R 129) ∧ Low H.length H h'
  | e,k,0,id,C,h,_,hm,_,_,_,_=>by omega
  | 0,k,M + 1,id,C,h,hk,hm,hlow,hid,hr,hC=>by
    have e0:k=129:=by omega
    subst e0
    have c0:¬ ((129:Nat):Int) < 129:=by omega
    rw [B2M]
    have hx:=hC.noX
    exact ⟨_,h,by simp only [C8,E7,c0,decide_false,G7] <;> rfl,⟨C,Has.row hr hx.2 hx.1,hC.since hlow⟩,hlow⟩
  | e + 1,k,M + 1,id,C,h,hk,hm,hlow,hid,hr,hC=>by
    have c0:(k:Int) < 129:=by omega
    have w1:=E2 (show k + 1 < 9223372036854775808 by omega)
    have Ph:=P.since hlow
    have t3:=F4 (off:=0) Ph.r3 rfl rfl
    have ht:=C90 (D:=D) (n:=n) (R:=R) (k:=k)
    by_cases c:(k:Int) ∈ R
    · obtain ⟨cs,g1,g2,g3⟩:=P.look c
      obtain ⟨cs',g1',_,g3'⟩:=Ph.look c
      have ecs:cs'=cs:=by
        have r2:∀ z ok,O9 h (some .i64) z ok (.c (.m (g.length + 2))) (.c (.i .i64 (k:Int)))=some (Q4 ok (.a cs) true):=by
          intro z ok
          rw [← g3 z ok]
          obtain ⟨L,es,_,_,_,_,h5,_⟩:=P.rw_
          simp only [O9,A2x,h5,hlow.rd h5]
        have h3:=r2 (.c .ns) false
        rw [g3' (.c .ns) false] at h3
        simpa [Q4] using h3
      subst ecs
      have s0:=A0y (h:=h) g1.length
      have hcl:=g1.length
      have l7:A3 (h ++ [some (Row.mk cs' true)]) 7 (.c (.p h.length 0))=some (.a cs'):=F6 F1 hcl
      have ef:A7 [Cell.i .i64 0,.i .i64 0,.i .i64 0,.i .i64 0,.i .i64 0,.ns,.ns] [(0,7,.a cs')]=some cs':=by
        simp only [A7,A0S]
        rw [if_pos ⟨hcl,by decide⟩]
        rw [lay_all (by rw [hcl];rfl)]
      have hx:=hC.noX
      obtain ⟨h2,a1,a2,a3,a4,a5⟩:=push (g:=H) (n:=(V2 D n R k).length) (sz:=7) (ys:=cs') (h:=h ++ [some ⟨cs',true⟩]) (hlow.new _) (B6 hr) hx.2 hid hcl (by omega) (by omega)
      obtain ⟨v,h',f1,f2,f3⟩:=B1O (q:=q) P e (k + 1) M ((h ++ [some (Row.mk cs' true)]).length + 1) (C ++ cs') h2 (by omega) (by omega) a3 (by omega) a2 (by rw [B9b c];exact hC.snoc g1)
      refine ⟨v,h',?_,f2,f3⟩
      have el:(V2 D n R (k + 1)).length=(V2 D n R k).length + 1:=by rw [B9b c];simp
      rw [el] at f1
      rw [B2M]
      simp only [C8,E7,c0,decide_true,G4,t3,g3',Q4,L5,List.getElem?_cons_zero,List.getElem?_cons_succ,Option.map_some,N5,L7,s0,l7,ef,a1,B9z,I8,w1]
      exact f1
    · obtain ⟨L,es,_,_,_,_,h5,h6,_⟩:=Ph.rw_
      have lk:=B1C (z:=.a [Cell.i .i64 0,.i .i64 0,.i .i64 0,.i .i64 0,.i .i64 0,.ns,.ns]) (ok:=true) h5 h6 c
      have s0:=A0y (h:=h) (cs:=[Cell.i .i64 0,.i .i64 0,.i .i64 0,.i .i64 0,.i .i64 0,.ns,.ns]) rfl
      obtain ⟨v,h',f1,f2,f3⟩:=B1O (q:=q) P e (k + 1) M id C (h ++ [some ⟨[Cell.i .i64 0,.i .i64 0,.i .i64 0,.i .i64 0,.i .i64 0,.ns,.ns],true⟩]) (by omega) (by omega) (hlow.new _) hid (B6 hr) (by rw [B9a c];exact hC)
      refine ⟨v,h',?_,f2,f3⟩
      rw [B9a c] at f1
      rw [B2M]
      simp only [C8,E7,c0,decide_true,G4,t3,lk,Q4,L5,List.getElem?_cons_zero,List.getElem?_cons_succ,Option.map_some,N5,L7,s0,G7,B9z,I8,w1]
      exact f1
theorem B9C {D:Dev} {n m:Int} {f:Cell} {h:A0} (hD:okD D) (hv:IsView h f D) :
    ∃ v h',A15 [.a (vwC D.length n m f)] h=some (v,h') ∧ IsTree h' v (F9 D n) ∧ Low h.length h h':=by
  obtain ⟨V,hV⟩:∃ V,V=vwC D.length n m f:=⟨_,rfl⟩
  have hVl:V.length=4:=by rw [hV];rfl
  have hIno:=B20 (n:=n) (m:=m) (i:=1) (h:=h ++ [some (Row.mk V true),some (Row.mk [] true)]) hD (hv.more _)
  rw [B1p,← hV] at hIno
  have f0:∀ k l s p d,A0M (.a (A5 k l s p d)) 0=some (.c (.i .i64 k)):=fun _ _ _ _ _=>rfl
  unfold F9
  by_cases c:kdV D n 1=2
  · rw [if_pos c]
    have ef:A7 [Cell.i .i64 0] [(0,1,.c (.i .i64 1))]=some [.i .i64 1]:=rfl
    obtain ⟨H,hH⟩:∃ H,H=h ++ [some (Row.mk V true),some (Row.mk [] true),some (D8 []),some (Row.mk [.m (h.length + 2)] true),some (Row.mk [.i .i64 1] true),some (Row.mk [.sl (h.length + 4) 0 1 1] true)]:=⟨_,rfl⟩
    have lH:H.length=h.length + 6:=by rw [hH];simp
    have emk:W6 38 [.c (.p (h.length + 3) 0),.c (.p h.length 0),.c (.p (h.length + 5) 0)]=some (.c (.f 38 [(h.length + 3,0),(h.length,0),(h.length + 5,0)])):=rfl
    have hfc:∀ a h',L6 Q7 (.c (.f 38 [(h.length + 3,0),(h.length,0),(h.length + 5,0)])) [a] h'=A14 [a,.c (.p (h.length + 3) 0),.c (.p h.length 0),.c (.p (h.length + 5) 0)] h':=fun _ _=>Eq.trans rfl rfl
    have P0:OfP D n (vwC D.length n m f) h [] H:=by
      rw [← hV,hH]
      refine ⟨(Low.refl (Nat.le_refl _)).new _,by simp,by simp,by simp,h.length + 4,[],by simp,by simp [encI],by omega,by omega,by simp,rfl,fun j e he=>by simp at he⟩
    obtain ⟨h2,f1,f2,_⟩:=B8x (a:=1) hD hv P0 (by simp)
    have es:W0 [] 1=[1]:=rfl
    rw [es] at f2
    obtain ⟨h3,g1,g2⟩:=B8k (q:=2000) hD hv (by omega) hfc 130 0 2000 [1] h2 (by omega) (by omega) (by omega) RowI.one f2
    change OfP D n (vwC D.length n m f) h (U4 D n) h3 at g2
    obtain ⟨v,h',k1,k2,k3⟩:=B1O (q:=2000) g2 129 0 2000 h3.length [] (h3 ++ [some (Row.mk [] true)]) (by omega) (by omega) ((Low.refl (Nat.le_refl _)).new _) (Nat.le_refl _) (by simp) rfl
    refine ⟨v,h',B3x (n:=2000) ?_,k2,?_⟩
    · have e5:(h ++ [some (Row.mk V true),some (Row.mk [] true),some (D8 [])]).length=h.length + 3:=by simp
      have s1:E4 (h ++ [some (Row.mk V true),some (Row.mk [] true),some (D8 []),some (Row.mk [.nm] true)]) (.c (.p (h.length + 3) 0)) (.c (.m (h.length + 2)))=some (h ++ [some (Row.mk V true),some (Row.mk [] true),some (D8 []),some (Row.mk [.m (h.length + 2)] true)]):=by rw [A2h];rfl
      have s2:E4 (h ++ [some (Row.mk V true),some (Row.mk [] true),some (D8 []),some (Row.mk [.m (h.length + 2)] true),some (Row.mk [.i .i64 1] true),some (Row.mk [.ns] true)]) (.c (.p (h.length + 5) 0)) (.c (.sl (h.length + 4) 0 1 1))=some H:=by rw [A2h,hH];rfl
      rw [B28,← hV]
      simp only [esc,W5,Q0,hVl,hIno,f0,c,Nat.add_assoc,Nat.reduceAdd,s1,ef,s2,emk,hfc,f1]
      exact g1.trans k1
    · exact g2.low.trans ⟨by have:=g2.low.2.1;omega,k3.2.1,fun id hid=>by
        have:=g2.low.2.1
        rw [k3.2.2 id (by omega)]⟩
  · rw [if_neg c]
    refine ⟨.c (.sl (h.length + 2) 0 0 7),h ++ [some (Row.mk V true),some (Row.mk [] true),some (Row.mk [] true)],B3x (n:=0) ?_,⟨[],Has.row (rw:=true) (by simp) rfl rfl,rfl⟩,(Low.refl (Nat.le_refl _)).new _⟩
    rw [B28,← hV]
    simp only [esc,W5,Q0,hVl,hIno,f0,c]
end Go.Proofs.Yteckncopbicmcaa
end
section
namespace Go.Proofs.Yteckncopbicmcaa
open Go Go.Esc
theorem B8a {h:A0} {mid:Nat} {es:E6} {R:List Int} {a:Int} {x:Cell} (hr:rd h mid=some (D8 es)) (hk:KeysI es R) (ha:a ∉ R):U6 h (some .i64) (.c (.m mid)) (.c (.i .i64 a)) (.c x)=some (h.set mid (some (D8 (es ++ [(.i .i64 a,.c x)])))):=by
  simp only [U6,Z5,A2D,hr,Option.bind_some,A3m]
  rw [if_pos (hk.ok a)]
  unfold X7 T1
  rw [A7Y hk ha]
theorem B3I {a b:List UInt8} (h:a.length + b.length ≤ 1073741824):A2 .add (.c (.s a)) (.c (.s b))=some (.c (.s (a ++ b))):=by
  simp [A2,A2G,h]
def W2 (s:List (Int × List UInt8)):E6:=s.map fun p=>(.i .i64 p.1,.c (.s p.2))
theorem A8U {s:List (Int × List UInt8)}:KeysI (W2 s) (s.map (·.1)):=by simp [KeysI,W2]
structure PW (g:A0) (mid rid oid:Nat) (s:I7) (h:A0):Prop where
  low:Low g.length g h
  gm:g.length ≤ mid
  gr:g.length ≤ rid
  go:g.length ≤ oid
  mr:mid ≠ rid
  mo:mid ≠ oid
  ro:rid ≠ oid
  map:rd h mid=some (D8 (W2 s.1))
  row:rd h rid=some ⟨encI (s.1.map (·.1)),true⟩
  out:rd h oid=some ⟨encS s.2,true⟩
theorem PW.more {g h:A0} {mid rid oid:Nat} {s:I7} (P:PW g mid rid oid s h) (t:A0):PW g mid rid oid s (h ++ t) :=
  ⟨P.low.new _,P.gm,P.gr,P.go,P.mr,P.mo,P.ro,B6 P.map,B6 P.row,B6 P.out⟩
def Off (h:A0) (mid rid oid:Nat) (y:Cell):Prop:=∀ id off k s,y=.sl id off k s → id < h.length ∧ id ≠ mid ∧ id ≠ rid ∧ id ≠ oid
theorem B21 {g:A0} {q M c i:Nat} {L:List Ent} {y:Cell} {x0:Val} {s0:I7} {a:Int} {p:List UInt8} {mid:Nat} (hc:c ≤ 100) (hL:∀ e ∈ L,e.1.length ≤ c) (h62:L.length ≤ 1000000) (hi:i < s0.1.length) (hap:s0.1[i]? = some (a,p)) (hp:p.length ≤ i * (c + 1)) (h0:s0.2.length ≤ 1000000) (hi6:i ≤ 1000000) :
    ∀ (e k M2 rid oid:Nat) (s:I7) (h:A0),k + e=L.length → e < M2 → WayJ c i p s0 k s → PW g mid rid oid s h → Has h (.c y) 2 L.length (D9 L) → Off h mid rid oid y →
      ∃ rid' oid' h',A8P q M M2 x0 (.c (.m mid)) (.c (.sl rid 0 s.1.length 1)) (.c (.sl oid 0 s.2.length 1)) (.c (.i .i64 (i:Int))) (.c y) (.c (.i .i64 (L.length:Int))) (.c (.i .i64 (k:Int))) h =
        A8M q M x0 (.c (.m mid)) (.c (.sl rid' 0 (A0h p s (L.drop k)).1.length 1)) (.c (.sl oid' 0 (A0h p s (L.drop k)).2.length 1)) (.c (.i .i64 (i:Int))) h' ∧ PW g mid rid' oid' (A0h p s (L.drop k)) h'
  | e,k,0,rid,oid,s,h,_,hm,_,_,_,_=>by omega
  | 0,k,M2 + 1,rid,oid,s,h,hk,hm,J,P,hy,ho=>by
    have c0:¬ ((k:Int) < (L.length:Nat)):=by omega
    rw [B9I,List.drop_of_length_le (by omega)]
    exact ⟨rid,oid,h,by simp only [C8,E7,c0,decide_false,G7];rfl,P⟩
  | e + 1,k,M2 + 1,rid,oid,s,h,hk,hm,J,P,hy,ho=>by
    have hkl:k < L.length:=by omega
    have c0:(k:Int) < (L.length:Nat):=by omega
    have w1:=E2 (show k + 1 < 9223372036854775808 by omega)
    obtain ⟨ad,a1,a2⟩:=A4X hy hkl
    have hx:=hL L[k] (List.getElem_mem hkl)
    rw [List.drop_eq_getElem_cons hkl,A8T]
    obtain ⟨x,hxe⟩:∃ x,x=L[k]:=⟨_,rfl⟩
    rw [← hxe] at a2 hx ⊢
    have J':=J.step hi hp hx
    have hout:=J.out
    have hpl:=J.pre.length_le
    have hlen:=J.len
    have hsi:s.1[i]? = some (a,p):=by
      have:=List.prefix_iff_getElem?.1 J.pre i hi
      rw [this,← hap,List.getElem?_eq_getElem hi]
    obtain ⟨H,hH⟩:∃ H,H=h ++ [some (Row.mk (E1 (some x)) true)]:=⟨_,rfl⟩
    have se:A8 (h ++ [some (Row.mk [.s [],.i .i64 0] true)]) 2 (.c (.p h.length 0)) (.a (E1 (some x)))=some H:=by rw [hH];exact A2J
    have PH:PW g mid rid oid s H:=by rw [hH];exact P.more _
    have lH:H.length=h.length + 1:=by rw [hH];simp
    have rx:rd H h.length=some ⟨E1 (some x),true⟩:=by rw [hH];exact F1
    have e0:A4 H (.c (.p h.length 0))=some (.c (.s x.1)):=by rw [hH];exact B0Y
    have e1:A4 H (.c (.p h.length 1))=some (.c (.i .i64 x.2)):=by rw [hH];exact A3h
    have adr:B9 1 (.c (.sl rid 0 s.1.length 1)) (.c (.i .i64 (i:Int)))=some (.c (.p rid i)):=by rw [H8 (by omega)];simp
    have lr:A4 H (.c (.p rid i))=some (.c (.i .i64 a)):=F4 PH.row (by rw [T9,List.getElem?_map,hsi];rfl) rfl
    have lk:=B1D (z:=.c (.s [])) (ok:=false) (j:=i) (p:=.c (.s p)) PH.map A8U J.nd (by unfold W2;rw [List.getElem?_map,hsi];rfl)
    have hmul:i * (c + 1) ≤ 1000000 * 101:=Nat.mul_le_mul hi6 (by omega)
    have sa:=B3I (a:=p) (b:=[47]) (by simp;omega)
    have sb:=B3I (a:=p ++ [47]) (b:=x.1) (by simp;omega)
    rw [List.append_assoc,List.singleton_append] at sb
    have ef:∀ z,A7 [Cell.s []] [(0,1,.c (.s z))]=some (encS [z]):=fun _=>rfl
    obtain ⟨H2,b1,b2,b3,b4⟩:=A5n (h:=H) (n:=s.2.length) (sz:=1) (ys:=encS [p ++ 47 :: x.1]) PH.out (by rw [P7,Nat.mul_one]) rfl (by omega) (by omega)
    have eS:encS s.2 ++ encS [p ++ 47 :: x.1]=encS (s.2 ++ [p ++ 47 :: x.1]):=by simp [encS]
    rw [eS] at b2
    have rl:=B7 PH.row
    have ol:=B7 PH.out
    have gl:=PH.low.2.1
    have ml:=B7 PH.map
    have r2:=b3 rid _ PH.ro PH.row
    have m2:=b3 mid _ PH.mo PH.map
    have x2:=b3 h.length _ (by have:=B7 P.out;omega) rx
    have l2:=B7 b2
    have e1':A4 H2 (.c (.p h.length 1))=some (.c (.i .i64 x.2)):=F4 x2 rfl rfl
    have low2:Low g.length g H2:=PH.low.trans (b4 _ PH.go (by have:=PH.low.2.1;omega))
    have hyH2:∀ id off kk ss,y=.sl id off kk ss → rd H2 id=rd h id:=fun id off kk ss ey=>by
      have h1:=ho id off kk ss ey
      have:rd H id=rd h id:=by rw [hH,H6 h1.1]
      cases hr:rd h id with
      | none =>
        exfalso
        rcases hy with ⟨e0,_⟩ | ⟨id',off',r',e0,hr',_⟩
        · rw [ey] at e0;cases e0
        · rw [ey] at e0;cases e0;rw [hr] at hr';cases hr'
      | some r=>exact b3 id r h1.2.2.2 (this.trans hr)
    rw [B9I]
    by_cases cm:x.2 ∈ s.1.map (·.1)
    · have ew:T5 p s x=(s.1,s.2 ++ [p ++ 47 :: x.1]):=by unfold T5;rw [if_pos cm]
      rw [ew] at J' ⊢
      obtain ⟨j,hj⟩:=List.mem_iff_getElem?.1 cm
      rw [List.getElem?_map,Option.map_eq_some_iff] at hj
      obtain ⟨z,hz,hz2⟩:=hj
      have lk2:=B1D (z:=.c (.s [])) (ok:=true) (a:=x.2) (j:=j) (p:=.c (.s z.2)) m2 A8U J.nd (by unfold W2;rw [List.getElem?_map,hz,Option.map_some,hz2])
      obtain ⟨rid',oid',h',f1,f2⟩:=B21 (q:=q) (M:=M) (x0:=x0) hc hL h62 hi hap hp h0 hi6 e (k + 1) M2 rid (H.length + 1) (s.1,s.2 ++ [p ++ 47 :: x.1]) H2 (by omega) (by omega) J' ⟨low2,P.gm,P.gr,by omega,P.mr,by omega,by omega,m2,r2,b2⟩ (A45 hy hyH2) (fun id off kk ss ey=>by have:=ho id off kk ss ey;exact ⟨by omega,this.2.1,this.2.2.1,by omega⟩)
      refine ⟨rid',oid',h',?_,f2⟩
      have el:(s.2 ++ [p ++ 47 :: x.1]).length=s.2.length + 1:=by simp
      rw [el] at f1
      simp only [C8,E7,c0,decide_true,G4,a1,a2,se,adr,lr,lk,Q4,sa,M3,Nat.add_zero,Nat.zero_add,e0,sb,ef,List.append_nil,b1,e1',lk2,L5,List.getElem?_cons_zero,List.getElem?_cons_succ,Option.map_some,L7,A0m,Bool.not_true,G7,B9G,I8,w1]
      exact f1
    · have ew:T5 p s x=(s.1 ++ [(x.2,p ++ 47 :: x.1)],s.2 ++ [p ++ 47 :: x.1]):=by unfold T5;rw [if_neg cm]
      rw [ew] at J' ⊢
      have lk2:=B1C (z:=.c (.s [])) (ok:=true) m2 A8U cm
      have pm:=B8a (x:=.s (p ++ 47 :: x.1)) m2 A8U cm
      have eM:W2 s.1 ++ [(.i .i64 x.2,.c (.s (p ++ 47 :: x.1)))]=W2 (s.1 ++ [(x.2,p ++ 47 :: x.1)]):=by simp [W2]
      rw [eM] at pm
      obtain ⟨H3,hH3⟩:∃ H3,H3=H2.set mid (some (D8 (W2 (s.1 ++ [(x.2,p ++ 47 :: x.1)])))):=⟨_,rfl⟩
      rw [← hH3] at pm
      have lH3:H3.length=H2.length:=by rw [hH3];simp
      have xm:h.length ≠ mid:=by have:=B7 P.map;omega
      have e1'':A4 H3 (.c (.p h.length 1))=some (.c (.i .i64 x.2)):=F4 (by rw [hH3,D2 (Ne.symm xm)];exact x2) rfl rfl
      have r3:rd H3 rid=some ⟨encI (s.1.map (·.1)),true⟩:=by rw [hH3,D2 P.mr];exact r2
      have o3:rd H3 (H.length + 1)=some ⟨encS (s.2 ++ [p ++ 47 :: x.1]),true⟩:=by rw [hH3,D2 (by omega)];exact b2
      have m3:rd H3 mid=some (D8 (W2 (s.1 ++ [(x.2,p ++ 47 :: x.1)]))):=by rw [hH3];exact G8 (by omega)
      have ef2:A7 [Cell.i .i64 0] [(0,1,.c (.i .i64 x.2))]=some (encI [x.2]):=rfl
      obtain ⟨H4,d1,d2,d3,d4⟩:=A5n (h:=H3) (n:=s.1.length) (sz:=1) (ys:=encI [x.2]) r3 (by rw [H0,List.length_map,Nat.mul_one]) rfl (by omega) (by omega)
      have eR:encI (s.1.map (·.1)) ++ encI [x.2]=encI ((s.1 ++ [(x.2,p ++ 47 :: x.1)]).map (·.1)):=by rw [← A7q];simp
      rw [eR] at d2
      have l4:=B7 d2
      have o4:=d3 _ _ (by omega) o3
      have m4:=d3 _ _ P.mr m3
      have low3:Low g.length g H3:=by rw [hH3];exact low2.set P.gm _
      have low4:Low g.length g H4:=low3.trans (d4 _ P.gr (by have:=low3.2.1;omega))
      have hyH4:∀ id off kk ss,y=.sl id off kk ss → rd H4 id=rd h id:=fun id off kk ss ey=>by
        have h1:=ho id off kk ss ey
        have h2:=hyH2 id off kk ss ey
        rw [← h2]
        have h3:rd H3 id=rd H2 id:=by rw [hH3,D2 (Ne.symm h1.2.1)]
        cases hr:rd H2 id with
        | none =>
          exfalso
          rcases hy with ⟨e0,_⟩ | ⟨id',off',r',e0,hr',_⟩
          · rw [ey] at e0;cases e0
          · rw [ey] at e0;cases e0;rw [← h2,hr] at hr';cases hr'
        | some r=>exact d3 id r h1.2.2.1 (h3.trans hr)
      obtain ⟨rid',oid',h',f1,f2⟩:=B21 (q:=q) (M:=M) (x0:=x0) hc hL h62 hi hap hp h0 hi6 e (k + 1) M2 (H3.length + 1) (H.length + 1) (s.1 ++ [(x.2,p ++ 47 :: x.1)],s.2 ++ [p ++ 47 :: x.1]) H4 (by omega) (by omega) J' ⟨low4,P.gm,by omega,by omega,by omega,by omega,by omega,m4,d2,o4⟩ (A45 hy hyH4) (fun id off kk ss ey=>by have:=ho id off kk ss ey;exact ⟨by omega,this.2.1,by omega,by omega⟩)
      refine ⟨rid',oid',h',?_,f2⟩
      have el:(s.2 ++ [p ++ 47 :: x.1]).length=s.2.length + 1:=by simp
      have el2:(s.1 ++ [(x.2,p ++ 47 :: x.1)]).length=s.1.length + 1:=by simp
      rw [el,el2] at f1
      simp only [C8,E7,c0,decide_true,G4,a1,a2,se,adr,lr,lk,Q4,sa,M3,Nat.add_zero,Nat.zero_add,e0,sb,ef,List.append_nil,b1,e1',lk2,L5,List.getElem?_cons_zero,List.getElem?_cons_succ,Option.map_some,L7,A0m,Bool.not_false,pm,e1'',ef2,d1,B9G,I8,w1]
      exact f1
theorem A8V {v:Val} {t:List Nd} {g:A0} {q c mid:Nat} (hv:IsTree g v t) (hs:small t) (hc:c ≤ 100) (hN:∀ a,∀ e ∈ G1 t a,e.1.length ≤ c) (hT:G3 t ≤ 900000) (hq:1000001 < q) :
    ∀ (e i M rid oid:Nat) (s:I7) (h:A0),e < M → G3 t + 2 ≤ e + i → WayI c (G1 t) i s → PW g mid rid oid s h →
      ∃ rid' oid' h',A8N q M v (.c (.m mid)) (.c (.sl rid 0 s.1.length 1)) (.c (.sl oid 0 s.2.length 1)) (.c (.i .i64 (i:Int))) h =
        bnd (A0H [.c (.sl oid' 0 (ways (G1 t) e i s).2.length 1)] h') (fun p17=>some (p17.1,p17.2)) ∧ PW g mid rid' oid' (ways (G1 t) e i s) h'
  | e,i,0,rid,oid,s,h,hm,_,_,_=>by omega
  | e,i,M + 1,rid,oid,s,h,hm,hT2,hI,P=>by
    have htot:=hI.tot
    have hhi:=hI.hi
    have w1:=E2 (show i + 1 < 9223372036854775808 by omega)
    by_cases c1:i < s.1.length
    · have c0:(i:Int) < (s.1.length:Nat):=by omega
      obtain ⟨e,rfl⟩:∃ e',e=e' + 1:=⟨e - 1,by omega⟩
      have adr:B9 1 (.c (.sl rid 0 s.1.length 1)) (.c (.i .i64 (i:Int)))=some (.c (.p rid i)):=by rw [H8 c1];simp
      have lr:A4 h (.c (.p rid i))=some (.c (.i .i64 (s.1[i]).1)):=F4 P.row (by rw [T9,List.getElem?_map,List.getElem?_eq_getElem c1];rfl) rfl
      have hst:=hI.step hN c1
      have hB:=hI.begin (s.1[i]).2
      have htx:=hI.txt i _ (List.getElem?_eq_getElem c1)
      have hap:s.1[i]? = some ((s.1[i]).1,(s.1[i]).2):=List.getElem?_eq_getElem c1
      rw [ways,dif_pos c1]
      obtain ⟨a,ha⟩:∃ a,a=(s.1[i]).1:=⟨_,rfl⟩
      obtain ⟨p,hp⟩:∃ p,p=(s.1[i]).2:=⟨_,rfl⟩
      rw [← ha] at lr hst hap ⊢
      rw [← hp] at hst hB htx hap ⊢
      cases hf:J3 t a with
      | none =>
        have hte:G1 t a=[]:=by unfold G1;rw [hf]
        have hF:=B9s (hv.since P.low) hs hf
        have s0:=A0y (h:=h) (cs:=ndC 0 0 0 0 0 .ns .ns) rfl
        have k1:A4 (h ++ [some (Row.mk (ndC 0 0 0 0 0 .ns .ns) true)]) (.c (.p h.length 1))=some (.c (.i .i64 0)):=by rw [T6];rfl
        have n02:¬ (0:Int)=2:=by decide
        rw [hte] at hst ⊢
        obtain ⟨rid',oid',h',f1,f2⟩:=A8V (q:=q) hv hs hc hN hT hq e (i + 1) M rid oid s _ (by omega) (by omega) hst (P.more [some ⟨ndC 0 0 0 0 0 .ns .ns,true⟩])
        refine ⟨rid',oid',h',?_,f2⟩
        rw [A8O]
        generalize ndC 0 0 0 0 0 .ns .ns=Z at *
        simp only [C8,Y9,E7,c0,decide_true,G4,adr,lr,hF,L5,List.getElem?_cons_zero,List.getElem?_cons_succ,Option.map_some,N5,L7,s0,M3,Nat.zero_add,k1,A19,n02,ne_eq,not_false_eq_true,B2Q,I8,w1]
        exact f1
      | some x =>
        have hF:=B9t (hv.since P.low) hs hf
        have hsx:=(hs.2 x (List.mem_of_find?_eq_some hf)).2
        obtain ⟨H,hH⟩:∃ H,H=h ++ [some (Row.mk (A1 x.data) true),some (Row.mk (D9 x.names) true)]:=⟨_,rfl⟩
        rw [← hH] at hF
        have lH:H.length=h.length + 2:=by rw [hH];simp
        obtain ⟨N,hNd⟩:∃ N,N=ndC x.ino x.kind x.links x.parent x.size (.sl h.length 0 x.data.length 1) (.sl (h.length + 1) 0 x.names.length 2):=⟨_,rfl⟩
        rw [← hNd] at hF
        have s0:=A0y (h:=H) (cs:=N) (by rw [hNd];rfl)
        have k1:A4 (H ++ [some (Row.mk N true)]) (.c (.p H.length 1))=some (.c (.i .i64 x.kind)):=by rw [T6,hNd];rfl
        have k6:A4 (H ++ [some (Row.mk N true)]) (.c (.p H.length 6))=some (.c (.sl (h.length + 1) 0 x.names.length 2)):=by rw [T6,hNd];rfl
        have P1:PW g mid rid oid s (H ++ [some (Row.mk N true)]):=by rw [hH];exact (P.more _).more _
        by_cases ck:x.kind=2
        · have hte:G1 t a=x.names:=by unfold G1;rw [hf];dsimp only;rw [if_pos ck]
          have hNx:=hN a
          rw [hte] at hst hNx ⊢
          have hy:Has (H ++ [some (Row.mk N true)]) (.c (.sl (h.length + 1) 0 x.names.length 2)) 2 x.names.length (D9 x.names):=by
            refine Has.row (rw:=true) (B6 ?_) A1g A7v
            rw [hH];simp
          have m1:=B7 P.map
          have m2:=B7 P.row
          have m3:=B7 P.out
          obtain ⟨rid1,oid1,h1,g1,g2⟩:=B21 (q:=q) (M:=M) (x0:=v) (y:=.sl (h.length + 1) 0 x.names.length 2) (a:=a) hc hNx hsx c1 hap htx (by omega) (by omega) x.names.length 0 q rid oid s _ (by omega) (by omega) hB P1 hy (fun id off kk ss ey=>by cases ey;simp;omega)
          rw [List.drop_zero] at g1 g2
          obtain ⟨rid',oid',h',f1,f2⟩:=A8V (q:=q) hv hs hc hN hT hq e (i + 1) M rid1 oid1 _ h1 (by omega) (by omega) hst g2
          refine ⟨rid',oid',h',?_,f2⟩
          rw [A8O]
          simp only [C8,Y9,E7,c0,decide_true,G4,adr,lr,hF,L5,List.getElem?_cons_zero,List.getElem?_cons_succ,Option.map_some,N5,L7,s0,M3,Nat.zero_add,k1,A19,ck,ne_eq,not_true_eq_false,decide_false,G7,k6]
          rw [B2Q,I8,C8,w1] at g1
          exact g1.trans f1
        · have hte:G1 t a=[]:=by unfold G1;rw [hf];dsimp only;rw [if_neg ck]
          rw [hte] at hst ⊢
          obtain ⟨rid',oid',h',f1,f2⟩:=A8V (q:=q) hv hs hc hN hT hq e (i + 1) M rid oid s _ (by omega) (by omega) hst P1
          refine ⟨rid',oid',h',?_,f2⟩
          rw [A8O]
          simp only [C8,Y9,E7,c0,decide_true,G4,adr,lr,hF,L5,List.getElem?_cons_zero,List.getElem?_cons_succ,Option.map_some,N5,L7,s0,M3,Nat.zero_add,k1,A19,ck,ne_eq,not_false_eq_true,B2Q,I8,w1]
          exact f1
    · have c0:¬ ((i:Int) < (s.1.length:Nat)):=by omega
      have ew:ways (G1 t) e i s=s:=by
        cases e with
        | zero=>rfl
        | succ e=>rw [ways,dif_neg c1]
      rw [ew]
      refine ⟨rid,oid,h,?_,P⟩
      rw [A8O]
      simp only [C8,Y9,E7,c0,decide_false,G7]
theorem B9F {v:Val} {t:List Nd} {c:Nat} {h:A0} (hv:IsTree h v t) (hs:small t) (hc:c ≤ 100) (hN:∀ a,∀ e ∈ G1 t a,e.1.length ≤ c) (hT:G3 t ≤ 900000) :
    A16 [v] h=some (.c (.sl h.length 0 (V9 t).length 1),h ++ [some ⟨encS (V9 t),true⟩]):=by
  have key:∀ g,IsTree g v t → ∃ v' g',A6K (1000002 + G3 t) [v] g=some (v',g') ∧ Out g.length g' v' 1 (V9 t).length (encS (V9 t)):=by
    intro g hv
    have hKn:KeysI [] []:=rfl
    have pm:=B8a (h:=g ++ [some (Row.mk [] true),some (D8 [])]) (mid:=g.length + 1) (x:=.s []) (a:=1) (by simp) hKn (by simp)
    have em:(g ++ [some (Row.mk [] true),some (D8 [])]).set (g.length + 1) (some (D8 ([] ++ [(.i .i64 1,.c (.s []))])))=g ++ [some (Row.mk [] true),some (D8 (W2 [(1,[])]))]:=by
      simp [List.set_append,W2]
    rw [em] at pm
    have P0:PW g (g.length + 1) (g.length + 2) (g.length + 3) ([(1,[])],[]) (g ++ [some (Row.mk [] true),some (D8 (W2 [(1,[])])),some (Row.mk [.i .i64 1] true),some (Row.mk [] true)]) :=
      ⟨(Low.refl (Nat.le_refl _)).new _,by omega,by omega,by omega,by omega,by omega,by omega,by simp,by simp [encI],by simp [encS]⟩
    obtain ⟨rid,oid,h',f1,P⟩:=A8V (q:=1000002 + G3 t) hv hs hc hN hT (by omega) (G3 t + 2) 0 (1000002 + G3 t) (g.length + 2) (g.length + 3) ([(1,[])],[]) _ (by omega) (by omega) WayI.one P0
    have ho:=B7Z hN
    have hso:=B7k (h:=h') (v:=.c (.sl oid 0 (outW t).length 1)) (nv:=(outW t).length) (l:=outW t) (Has.row P.out (by rw [P7,Nat.mul_one]) (A77 _)) (by omega)
    have ef:A7 [Cell.i .i64 0] [(0,1,.c (.i .i64 1))]=some [.i .i64 1]:=rfl
    have hl:=P.low.2.1
    refine ⟨_,_,?_,by rw [P7,Nat.mul_one],h'.length,rfl,hl,F1⟩
    rw [C1h]
    simp only [List.append_assoc,List.cons_append,List.nil_append,List.length_append,List.length_cons,List.length_nil,Nat.zero_add,Nat.reduceAdd,pm,C8,ef]
    refine f1.trans ?_
    change bnd (A0H [.c (.sl oid 0 (outW t).length 1)] h') _=_
    rw [hso,C8]
    rfl
  obtain ⟨v',g',e,ho⟩:=key (ro h) hv.ro
  exact C3w e (by simpa [N7] using ho) (by simp)
end Go.Proofs.Yteckncopbicmcaa
end
noncomputable section
namespace Go.Proofs.Yteckncopbicmcaa
open Go Go.Esc
set_option maxRecDepth 100000
def A_el25_small:AFn:=⟨.seq [] (.ops [aO 0 (.nilrow 256)]) (.seq [1] (.ops [aO 4 (.mkSl 256 (List.replicate 256 (.i .u8 0)) (.v (.c (.i .i64 16))) (.v (.c (.i .i64 16)))),aO 1 (.mv (.t 4))]) (.seq [1] (.ops [aO 6 (.mv (.t 1)),aO 7 (.build ([.i .i64 0,.i .i64 0,.i .u64 0]) [(0,1,(.v (.c (.i .i64 16)))),(1,1,(.v (.c (.i .i64 8))))]),aO 8 (.call 41 [(.t 7)]),aO 5 (.mv (.t 8)),aO 9 (.ext (.t 5) 0),aO 10 (.ext (.t 5) 1),aO 11 (.iAddrL 256 (.t 6) (.v (.c (.i .i64 0)))),aN (.storeN 256 (.t 11) (.t 9))]) (.seq [1,2] (.ops [aO 12 (.build ([.i .i64 0,.i .i64 0,.i .i64 0,.i .i64 0,.i .i64 0,.i .i64 0,.i .i64 0,.i .i64 0,.i .i64 0,.i .i64 0,.i .i64 0]) [(0,1,(.v (.c (.i .i64 2)))),(1,1,(.v (.c (.i .i64 1)))),(3,1,(.v (.c (.i .i64 1))))]),aO 2 (.alloc ([.i .i64 0,.i .i64 0,.i .i64 0,.i .i64 0,.i .i64 0,.i .i64 0,.i .i64 0,.i .i64 0,.i .i64 0,.i .i64 0,.i .i64 0])),aN (.storeN 11 (.t 2) (.t 12))]) (.seq [1,2] (.ops [aO 13 (.fAddr (.t 2) 4),aO 14 (.iAddrA 6 1 (.t 13) (.v (.c (.i .i64 0)))),aN (.store1 (.t 14) (.v (.c (.i .i64 5))))]) (.seq [1] (.drawS 0 [aO 16 (.mv (.t 1)),aO 17 (.mv (.t 1)),aO 18 (.iAddrL 256 (.t 17) (.v (.c (.i .i64 2)))),aO 19 (.loadN 256 (.t 18)),aO 20 (.loadN 11 (.t 2)),aO 21 (.call 42 [(.t 19),(.v (.c (.i .i64 0))),(.t 20)]),aO 15 (.mv (.t 21)),aO 22 (.ext (.t 15) 0),aO 23 (.ext (.t 15) 1),aO 24 (.iAddrL 256 (.t 16) (.v (.c (.i .i64 2))))] (aN (.storeN 256 (.t 24) (.t 22))) [] []) (.seq [1] (.ops [aO 26 (.mv (.t 1)),aO 27 (.mv (.t 1)),aO 28 (.iAddrL 256 (.t 27) (.v (.c (.i .i64 2)))),aO 29 (.loadN 256 (.t 28)),aO 30 (.build ([.i .i64 0,.i .i64 0,.i .i64 0,.i .i64 0,.i .i64 0,.i .i64 0,.i .i64 0,.i .i64 0,.i .i64 0,.i .i64 0,.i .i64 0]) [(0,1,(.v (.c (.i .i64 1)))),(1,1,(.v (.c (.i .i64 1)))),(2,1,(.v (.c (.i .i64 2))))]),aO 31 (.call 42 [(.t 29),(.v (.c (.i .i64 1))),(.t 30)]),aO 25 (.mv (.t 31)),aO 32 (.ext (.t 25) 0),aO 33 (.ext (.t 25) 1),aO 34 (.iAddrL 256 (.t 26) (.v (.c (.i .i64 2)))),aN (.storeN 256 (.t 34) (.t 32))]) (.seq [1,3] (.ops [aO 35 (.build ([.i .i64 0] ++ List.replicate 32 (.i .i64 0)) []),aO 3 (.alloc ([.i .i64 0] ++ List.replicate 32 (.i .i64 0))),aN (.storeN 33 (.t 3) (.t 35))]) (.seq [1,3] (.ops [aO 36 (.fAddr (.t 3) 1),aO 37 (.iAddrA 32 1 (.t 36) (.v (.c (.i .i64 0)))),aN (.store1 (.t 37) (.v (.c (.i .i64 6))))]) (.seq [1] (.ops [aO 39 (.mv (.t 1)),aO 40 (.loadN 33 (.t 3)),aO 41 (.call 43 [(.t 40)]),aO 38 (.mv (.t 41)),aO 42 (.ext (.t 38) 0),aO 43 (.ext (.t 38) 1),aO 44 (.iAddrL 256 (.t 39) (.v (.c (.i .i64 5)))),aN (.storeN 256 (.t 44) (.t 42))]) (.seq [1] (.ops [aO 46 (.mv (.t 1)),aO 47 (.build ([.s [],.i .i64 0]) [(0,1,(.v (.c (.s [97])))),(1,1,(.v (.c (.i .i64 2))))]),aO 48 (.build ([.s [],.i .i64 0]) [(0,1,(.v (.c (.s [98])))),(1,1,(.v (.c (.i .i64 3))))]),aO 49 (.buildSl 2 2 (([.s [],.i .i64 0]) ++ ([.s [],.i .i64 0])) [(0,2,(.t 47)),(2,2,(.t 48))]),aO 50 (.call 44 [(.t 49)]),aO 45 (.mv (.t 50)),aO 51 (.ext (.t 45) 0),aO 52 (.ext (.t 45) 1),aO 53 (.iAddrL 256 (.t 46) (.v (.c (.i .i64 6)))),aN (.storeN 256 (.t 53) (.t 51))]) (.seq [0] (.ops [aO 54 (.mv (.t 1)),aO 0 (.mv (.t 54))]) .ret))))))))))),[.tmp 0]⟩
def A87:A9:=B0 41 A12 (B0 42 A07 (B0 43 A1T (B0 44 A30 C0)))
def A5W (n:Nat) (args:List Val) (h:A0):A6:=ax A87 n A_el25_small.code A_el25_small.fin (params 0 args) h
theorem C0i (n:Nat) (h:A0):A5W n [] h=bnd (A0P (.c (.i .i64 16)) (.c (.i .i64 16))) fun n1=>bnd (A7 ([.i .i64 0,.i .i64 0,.i .u64 0]) [(0,1,.c (.i .i64 16)),(1,1,.c (.i .i64 8))]) fun c2=>bnd (A12 [(.a c2)] ((h ++ [some (Row.mk ([]) true)]) ++ [some (Row.mk (rows (List.replicate 256 (.i .u8 0)) n1) true)])) fun p3=>bnd (C3 p3.1 0) fun v4=>bnd (C3 p3.1 1) fun v5=>bnd (B9 256 (.c (.sl (h ++ [some (Row.mk ([]) true)]).length 0 n1 256)) (.c (.i .i64 0))) fun v6=>bnd (A8 p3.2 256 v6 v4) fun h7=>bnd (A7 ([.i .i64 0,.i .i64 0,.i .i64 0,.i .i64 0,.i .i64 0,.i .i64 0,.i .i64 0,.i .i64 0,.i .i64 0,.i .i64 0,.i .i64 0]) [(0,1,.c (.i .i64 2)),(1,1,.c (.i .i64 1)),(3,1,.c (.i .i64 1))]) fun c8=>bnd (A8 (h7 ++ [some (Row.mk ([.i .i64 0,.i .i64 0,.i .i64 0,.i .i64 0,.i .i64 0,.i .i64 0,.i .i64 0,.i .i64 0,.i .i64 0,.i .i64 0,.i .i64 0]) true)]) 11 (.c (.p h7.length 0)) (.a c8)) fun h9=>bnd (B4 (.c (.p h7.length 0)) 4) fun v10=>bnd (D6 6 1 v10 (.c (.i .i64 0))) fun v11=>bnd (E4 h9 v11 (.c (.i .i64 5))) fun h12=>bnd (B9 256 (.c (.sl (h ++ [some (Row.mk ([]) true)]).length 0 n1 256)) (.c (.i .i64 2))) fun v13=>bnd (A3 h12 256 v13) fun v14=>bnd (A3 h12 11 (.c (.p h7.length 0))) fun v15=>bnd (quiet (h12 ++ []) (A07 [v14,.c (.i .i64 0),v15] (h12 ++ []))) fun p16=>bnd (C3 p16.1 0) fun v17=>bnd (C3 p16.1 1) fun v18=>bnd (B9 256 (.c (.sl (h ++ [some (Row.mk ([]) true)]).length 0 n1 256)) (.c (.i .i64 2))) fun v19=>bnd (A8 p16.2 256 v19 v17) fun h20=>bnd (B9 256 (.c (.sl (h ++ [some (Row.mk ([]) true)]).length 0 n1 256)) (.c (.i .i64 2))) fun v21=>bnd (A3 h20 256 v21) fun v22=>bnd (A7 ([.i .i64 0,.i .i64 0,.i .i64 0,.i .i64 0,.i .i64 0,.i .i64 0,.i .i64 0,.i .i64 0,.i .i64 0,.i .i64 0,.i .i64 0]) [(0,1,.c (.i .i64 1)),(1,1,.c (.i .i64 1)),(2,1,.c (.i .i64 2))]) fun c23=>bnd (A07 [v22,.c (.i .i64 1),(.a c23)] h20) fun p24=>bnd (C3 p24.1 0) fun v25=>bnd (C3 p24.1 1) fun v26=>bnd (B9 256 (.c (.sl (h ++ [some (Row.mk ([]) true)]).length 0 n1 256)) (.c (.i .i64 2))) fun v27=>bnd (A8 p24.2 256 v27 v25) fun h28=>bnd (A7 ([.i .i64 0] ++ List.replicate 32 (.i .i64 0)) []) fun c29=>bnd (A8 (h28 ++ [some (Row.mk ([.i .i64 0] ++ List.replicate 32 (.i .i64 0)) true)]) 33 (.c (.p h28.length 0)) (.a c29)) fun h30=>bnd (B4 (.c (.p h28.length 0)) 1) fun v31=>bnd (D6 32 1 v31 (.c (.i .i64 0))) fun v32=>bnd (E4 h30 v32 (.c (.i .i64 6))) fun h33=>bnd (A3 h33 33 (.c (.p h28.length 0))) fun v34=>bnd (A1T [v34] h33) fun p35=>bnd (C3 p35.1 0) fun v36=>bnd (C3 p35.1 1) fun v37=>bnd (B9 256 (.c (.sl (h ++ [some (Row.mk ([]) true)]).length 0 n1 256)) (.c (.i .i64 5))) fun v38=>bnd (A8 p35.2 256 v38 v36) fun h39=>bnd (A7 ([.s [],.i .i64 0]) [(0,1,.c (.s [97])),(1,1,.c (.i .i64 2))]) fun c40=>bnd (A7 ([.s [],.i .i64 0]) [(0,1,.c (.s [98])),(1,1,.c (.i .i64 3))]) fun c41=>bnd (A7 (([.s [],.i .i64 0]) ++ ([.s [],.i .i64 0])) [(0,2,(.a c40)),(2,2,(.a c41))]) fun c42=>bnd (A30 [(.c (.sl h39.length 0 2 2))] (h39 ++ [some (Row.mk (c42) true)])) fun p43=>bnd (C3 p43.1 0) fun v44=>bnd (C3 p43.1 1) fun v45=>bnd (B9 256 (.c (.sl (h ++ [some (Row.mk ([]) true)]).length 0 n1 256)) (.c (.i .i64 6))) fun v46=>bnd (A8 p43.2 256 v46 v44) fun h47=>some ((.c (.sl (h ++ [some (Row.mk ([]) true)]).length 0 n1 256)),h47):=by kernel_rfl
theorem K_el25_small:FnK Try.prog 36 A_el25_small A87 A5W:=.mk' (B1 B3t (B1 C3p (B1 B3k (B1 C1u C2)))) Try.func36 (by kernel_rfl) (fun _ _ _=>C1)
def A4a:Fun:=tidy (Lim A_el25_small A87)
theorem C1S:SOk Try.prog 36 A4a:=K_el25_small.sok
theorem C1T:V4 A5W A4a:=K_el25_small.out
def A_el25_works:AFn:=⟨.seq [] (.ops [aO 0 (.mv (.v (.c (.b false))))]) (.seq [1,2] (.ops [aO 7 (.call 36 []),aO 8 (.call 7 [(.t 7)]),aO 6 (.mv (.t 8)),aO 9 (.ext (.t 6) 0),aO 10 (.ext (.t 6) 1),aO 1 (.alloc ([.i .i64 0,.i .i64 0,.i .u64 0,.nf])),aN (.storeN 4 (.t 1) (.t 9)),aO 2 (.mv (.t 10))]) (.seq [2,3] (.ops [aO 11 (.loadN 4 (.t 1)),aO 12 (.call 15 [(.t 11)]),aO 3 (.mv (.t 12))]) (.seq [2,3,4,5] (.ops [aO 14 (.mv (.t 3)),aO 15 (.buildSl 1 1 ([.s []]) [(0,1,(.v (.c (.s [97]))))]),aO 16 (.call 19 [(.t 14),(.t 15)]),aO 13 (.mv (.t 16)),aO 17 (.ext (.t 13) 0),aO 18 (.ext (.t 13) 1),aO 4 (.mv (.t 17)),aO 5 (.mv (.t 18))]) (.seq [0] (.ops [aO 19 (.mv (.t 2)),aO 20 (.bin .eql (.t 19) (.v (.c (.i .i64 0)))),aO 21 (.mv (.t 20)),aG 22 21 true (.mv (.t 3)),aG 23 21 true (.len (.t 22)),aG 24 21 true (.bin .eql (.t 23) (.v (.c (.i .i64 2)))),aO 25 (.pick (.t 21) (.t 24) (.v (.c (.b false)))),aO 26 (.mv (.t 25)),aG 27 26 true (.mv (.t 4)),aG 28 26 true (.bin .eql (.t 27) (.v (.c (.i .i64 2)))),aO 29 (.pick (.t 26) (.t 28) (.v (.c (.b false)))),aO 30 (.mv (.t 29)),aG 31 30 true (.mv (.t 5)),aO 32 (.pick (.t 30) (.t 31) (.v (.c (.b false)))),aO 33 (.mv (.t 32)),aG 34 33 true (.mv (.t 3)),aG 35 33 true (.iAddrL 7 (.t 34) (.v (.c (.i .i64 0)))),aG 36 33 true (.fAddr (.t 35) 6),aG 37 33 true (.load1 (.t 36)),aG 38 33 true (.len (.t 37)),aG 39 33 true (.bin .eql (.t 38) (.v (.c (.i .i64 1)))),aO 40 (.pick (.t 33) (.t 39) (.v (.c (.b false)))),aO 41 (.mv (.t 40)),aG 42 41 true (.mv (.t 3)),aG 43 41 true (.iAddrL 7 (.t 42) (.v (.c (.i .i64 1)))),aG 44 41 true (.fAddr (.t 43) 4),aG 45 41 true (.load1 (.t 44)),aG 46 41 true (.bin .eql (.t 45) (.v (.c (.i .i64 2)))),aO 47 (.pick (.t 41) (.t 46) (.v (.c (.b false)))),aO 48 (.mv (.t 47)),aG 49 48 true (.mv (.t 3)),aG 50 48 true (.call 18 [(.t 49)]),aG 51 48 true (.buildSl 1 1 ([.s []]) [(0,1,(.v (.c (.s [47,97]))))]),aG 52 48 true (.call 37 [(.t 50),(.t 51)]),aO 53 (.pick (.t 48) (.t 52) (.v (.c (.b false)))),aO 54 (.mv (.t 53)),aG 55 54 true (.mv (.t 3)),aG 56 54 true (.call 16 [(.t 55),(.v (.c (.i .i64 2)))]),aG 57 54 true (.bin .eql (.t 56) (.v (.c (.i .i64 1)))),aO 58 (.pick (.t 54) (.t 57) (.v (.c (.b false)))),aO 0 (.mv (.t 58))]) .ret)))),[.tmp 0]⟩
def A88:A9:=B0 36 A4a (B0 7 A0k (B0 15 A15 (B0 19 A13 (B0 18 A16 (B0 37 A4b (B0 16 A4I C0))))))
def A5X (n:Nat) (args:List Val) (h:A0):A6:=ax A88 n A_el25_works.code A_el25_works.fin (params 0 args) h
theorem C0j (n:Nat) (h:A0):A5X n [] h=bnd (A4a [] h) fun p1=>bnd (A0k [p1.1] p1.2) fun p2=>bnd (C3 p2.1 0) fun v3=>bnd (C3 p2.1 1) fun v4=>bnd (A8 (p2.2 ++ [some (Row.mk ([.i .i64 0,.i .i64 0,.i .u64 0,.nf]) true)]) 4 (.c (.p p2.2.length 0)) v3) fun h5=>bnd (A3 h5 4 (.c (.p p2.2.length 0))) fun v6=>bnd (A15 [v6] h5) fun p7=>bnd (A7 ([.s []]) [(0,1,.c (.s [97]))]) fun c8=>bnd (A13 [p7.1,(.c (.sl p7.2.length 0 1 1))] (p7.2 ++ [some (Row.mk (c8) true)])) fun p9=>bnd (C3 p9.1 0) fun v10=>bnd (C3 p9.1 1) fun v11=>bnd (A2 .eql v4 (.c (.i .i64 0))) fun v12=>bnd (gd v12 true (some (p7.1,p9.2)) (some (.no,p9.2))) fun p13=>bnd (gd v12 true (bnd (E8 p13.1) fun v14=>some (v14,p13.2)) (some (.no,p13.2))) fun p15=>bnd (gd v12 true (bnd (A2 .eql p15.1 (.c (.i .i64 2))) fun v16=>some (v16,p15.2)) (some (.no,p15.2))) fun p17=>bnd (D3 v12 p17.1 (.c (.b false))) fun v18=>bnd (gd v18 true (some (v10,p17.2)) (some (.no,p17.2))) fun p19=>bnd (gd v18 true (bnd (A2 .eql p19.1 (.c (.i .i64 2))) fun v20=>some (v20,p19.2)) (some (.no,p19.2))) fun p21=>bnd (D3 v18 p21.1 (.c (.b false))) fun v22=>bnd (gd v22 true (some (v11,p21.2)) (some (.no,p21.2))) fun p23=>bnd (D3 v22 p23.1 (.c (.b false))) fun v24=>bnd (gd v24 true (some (p7.1,p23.2)) (some (.no,p23.2))) fun p25=>bnd (gd v24 true (bnd (B9 7 p25.1 (.c (.i .i64 0))) fun v26=>some (v26,p25.2)) (some (.no,p25.2))) fun p27=>bnd (gd v24 true (bnd (B4 p27.1 6) fun v28=>some (v28,p27.2)) (some (.no,p27.2))) fun p29=>bnd (gd v24 true (bnd (A4 p29.2 p29.1) fun v30=>some (v30,p29.2)) (some (.no,p29.2))) fun p31=>bnd (gd v24 true (bnd (E8 p31.1) fun v32=>some (v32,p31.2)) (some (.no,p31.2))) fun p33=>bnd (gd v24 true (bnd (A2 .eql p33.1 (.c (.i .i64 1))) fun v34=>some (v34,p33.2)) (some (.no,p33.2))) fun p35=>bnd (D3 v24 p35.1 (.c (.b false))) fun v36=>bnd (gd v36 true (some (p7.1,p35.2)) (some (.no,p35.2))) fun p37=>bnd (gd v36 true (bnd (B9 7 p37.1 (.c (.i .i64 1))) fun v38=>some (v38,p37.2)) (some (.no,p37.2))) fun p39=>bnd (gd v36 true (bnd (B4 p39.1 4) fun v40=>some (v40,p39.2)) (some (.no,p39.2))) fun p41=>bnd (gd v36 true (bnd (A4 p41.2 p41.1) fun v42=>some (v42,p41.2)) (some (.no,p41.2))) fun p43=>bnd (gd v36 true (bnd (A2 .eql p43.1 (.c (.i .i64 2))) fun v44=>some (v44,p43.2)) (some (.no,p43.2))) fun p45=>bnd (D3 v36 p45.1 (.c (.b false))) fun v46=>bnd (gd v46 true (some (p7.1,p45.2)) (some (.no,p45.2))) fun p47=>bnd (gd v46 true (bnd (A16 [p47.1] p47.2) fun p48=>some (p48.1,p48.2)) (some (.no,p47.2))) fun p49=>bnd (gd v46 true (bnd (A7 ([.s []]) [(0,1,.c (.s [47,97]))]) fun c50=>some ((.c (.sl p49.2.length 0 1 1)),(p49.2 ++ [some (Row.mk (c50) true)]))) (some (.no,p49.2))) fun p51=>bnd (gd v46 true (bnd (A4b [p49.1,p51.1] p51.2) fun p52=>some (p52.1,p52.2)) (some (.no,p51.2))) fun p53=>bnd (D3 v46 p53.1 (.c (.b false))) fun v54=>bnd (gd v54 true (some (p7.1,p53.2)) (some (.no,p53.2))) fun p55=>bnd (gd v54 true (bnd (A4I [p55.1,.c (.i .i64 2)] p55.2) fun p56=>some (p56.1,p56.2)) (some (.no,p55.2))) fun p57=>bnd (gd v54 true (bnd (A2 .eql p57.1 (.c (.i .i64 1))) fun v58=>some (v58,p57.2)) (some (.no,p57.2))) fun p59=>bnd (D3 v54 p59.1 (.c (.b false))) fun v60=>some (v60,p59.2):=by kernel_rfl
theorem K_el25_works:FnK Try.prog 14 A_el25_works A88 A5X:=.mk' (B1 C1S (B1 B3B (B1 B3y (B1 B3u (B1 B3z (B1 C1X (B1 C3s C2))))))) Try.func14 (by kernel_rfl) (fun _ _ _=>C1)
def A1Q:Fun:=tidy (Lim A_el25_works A88)
theorem C1V:SOk Try.prog 14 A1Q:=K_el25_works.sok
theorem C1U:D5 A5X A1Q:=K_el25_works.flat
end Go.Proofs.Yteckncopbicmcaa
end
section
namespace Go.Proofs.Yteckncopbicmcaa
open Go Go.Esc
theorem B2U {h:A0} {v:Val} {t:List Nd} (ht:IsTree h v t) {i:Nat} (hi:i < t.length) :
    ∃ id o cs,B9 7 v (.c (.i .i64 (i:Int)))=some (.c (.p id o)) ∧ A3 h 7 (.c (.p id o))=some (.a cs) ∧ (∀ k c,cs[k]? = some c → A4 h (.c (.p id (o + k)))=some (.c c)) ∧ IsNd h cs t[i]:=by
  obtain ⟨cs,h1,h2⟩:=ht
  have hcs:=h2.noX
  obtain ⟨id,off,rfl,hid,hA,hB⟩:=h1.sl (by omega)
  refine ⟨id,off + i * 7,_,H8 hi,hB (i * 7) 7 (by rw [hcs.2];omega),fun k c hk=>?_,h2.at (List.getElem?_eq_getElem hi)⟩
  have hk7:k < 7:=by
    have:=(List.getElem?_eq_some_iff.1 hk).1
    simp at this;omega
  rw [List.getElem?_take_of_lt hk7,List.getElem?_drop] at hk
  have:=hA _ _ hk
  rwa [← Nat.add_assoc] at this
theorem C9U {t:List Nd} {c:Nat} (h:∀ x ∈ t,∀ e ∈ x.names,e.1.length ≤ c):∀ a,∀ e ∈ G1 t a,e.1.length ≤ c:=by
  intro a e he
  unfold G1 at he
  cases hf:J3 t a with
  | none=>rw [hf] at he;cases he
  | some x =>
    rw [hf] at he
    dsimp only at he
    split at he
    · exact h x (List.mem_of_find?_eq_some hf) e he
    · cases he
def d25:List Int:=[5,0,0,0,0,0,0]
def ino25a:List UInt8:=C6 (zeros 256) (32 * 0) (I9 2 1 0 1 d25)
def ino25:List UInt8:=C6 ino25a (32 * 1) (I9 1 1 2 0 (zI 7))
def idx25:List UInt8:=R7 0 (6 :: zI 31)
def A65:List UInt8:=Z9 [([97],2),([98],3)]
def D25a:Dev:=(List.replicate 16 (zeros 256)).set 0 (A0d 16 8 0)
def D25b:Dev:=D25a.set 2 ino25a
def D25c:Dev:=D25b.set 2 ino25
def D25d:Dev:=D25c.set 5 idx25
def D25:Dev:=D25d.set 6 A65
theorem B1o:ino25a.length=256:=by decide +kernel
theorem B6l:ino25.length=256:=by decide +kernel
theorem B50:idx25.length=256:=B1g rfl
theorem okD25a:okD D25a:=(B7V 16).set A5B
theorem okD25b:okD D25b:=okD25a.set B1o
theorem okD25c:okD D25c:=okD25b.set B6l
theorem okD25d:okD D25d:=okD25c.set B50
theorem A8k:okD D25:=okD25d.set B7p
theorem B1x:D25a.length=16:=by unfold D25a;rw [List.length_set,List.length_replicate]
theorem B1y:D25b.length=16:=by unfold D25b;rw [List.length_set,B1x]
theorem B6P:D25c.length=16:=by unfold D25c;rw [List.length_set,B1y]
theorem B6Q:D25d.length=16:=by unfold D25d;rw [List.length_set,B6P]
theorem B6O:D25.length=16:=by unfold D25;rw [List.length_set,B6Q]
theorem C43:A1f D25=true:=by decide +kernel
theorem C45:J2 D25=8:=by decide +kernel
theorem C44:A0U D25=0:=by decide +kernel
def T25:List Nd:=[⟨1,2,1,1,0,[],[([97],2)]⟩,⟨2,1,1,0,2,[0,0],[]⟩]
theorem C94:F9 D25 8=T25:=by decide +kernel
theorem C4l:N1 T25 1 [[97]]=some 2:=by decide +kernel
theorem C77:V9 T25=[[47,97]]:=by decide +kernel
theorem C4U:A2p T25 2=1:=by decide +kernel
theorem B2k:small T25:=⟨by decide,by decide⟩
theorem A5y {g:A0} {D D':Dev} {i q:Nat} {b:List UInt8} {l:List (Option Row)} (hD:okD D) (hb:b.length=256) (hi:i < D.length) (hq:q=i * 256) (he:D.set i b=D') :
    A8 (g ++ some (Row.mk (D0 D) true) :: l) 256 (.c (.p g.length q)) (.a (A1 b))=some (g ++ some (Row.mk (D0 D') true) :: l):=by
  subst hq;subst he
  have s1:=C9I (D:=D) (i:=i) hD hb hi
  rw [W8]
  simp only [List.getElem?_cons_zero,Option.join_some,s1,B1F,List.set_cons_zero]
theorem B6M {g:A0} {D:Dev} {i q:Nat} {b:List UInt8} {l:List (Option Row)} (hD:okD D) (hi:i < D.length) (hq:q=i * 256) (he:D[i]=b) :
    A3 (g ++ some (Row.mk (D0 D) true) :: l) 256 (.c (.p g.length q))=some (.a (A1 b)):=by
  subst hq;subst he
  rw [W5]
  have hc:=A2m hD hi
  simp only [List.getElem?_cons_zero,Option.join_some,ldN,Option.bind_some]
  rw [if_pos ⟨by rw [X0 hD];omega,by simp⟩,hc]
set_option maxHeartbeats 2000000 in
theorem C9C (h:A0):A4a [] h=some (.c (.sl h.length 0 16 256),h ++ [some ⟨D0 D25,true⟩]):=by
  have key:∀ g,∃ v g',A5W 0 [] g=some (v,g') ∧ Out g.length g' v 256 16 (D0 D25):=by
    intro g
    obtain ⟨G,hG⟩:∃ G,G=g ++ [some (Row.mk [] true)]:=⟨_,rfl⟩
    have lG:G.length=g.length + 1:=by rw [hG];simp
    have mk:A0P (.c (.i .i64 16)) (.c (.i .i64 16))=some 16:=rfl
    have ef1:A7 [Cell.i .i64 0,.i .i64 0,.i .u64 0] [(0,1,.c (.i .i64 16)),(1,1,.c (.i .i64 8))]=some (F5 16 8 0):=rfl
    have hp:=fun h=>B82 (b:=16) (n:=8) (m:=0) (h:=h) (by omega) (by omega)
    have hm:I3 16 8=true:=by decide
    simp only [hm,cond_true] at hp
    have a0:B9 256 (.c (.sl G.length 0 16 256)) (.c (.i .i64 0))=some (.c (.p G.length 0)):=rfl
    have a2:B9 256 (.c (.sl G.length 0 16 256)) (.c (.i .i64 2))=some (.c (.p G.length 512)):=rfl
    have a5:B9 256 (.c (.sl G.length 0 16 256)) (.c (.i .i64 5))=some (.c (.p G.length 1280)):=rfl
    have a6:B9 256 (.c (.sl G.length 0 16 256)) (.c (.i .i64 6))=some (.c (.p G.length 1536)):=rfl
    have s0:=A5y (g:=G) (D:=List.replicate 16 (zeros 256)) (i:=0) (q:=0) (l:=[]) (B7V 16) (A5B (b:=16) (n:=8) (m:=0)) (by simp) rfl (show _=D25a from rfl)
    have ef2:A7 [Cell.i .i64 0,.i .i64 0,.i .i64 0,.i .i64 0,.i .i64 0,.i .i64 0,.i .i64 0,.i .i64 0,.i .i64 0,.i .i64 0,.i .i64 0] [(0,1,.c (.i .i64 2)),(1,1,.c (.i .i64 1)),(3,1,.c (.i .i64 1))]=some (A5 2 1 0 1 (zI 7)):=rfl
    have r2:A8 (G ++ [some (Row.mk (D0 D25a) true),some (Row.mk [Cell.i .i64 0,.i .i64 0,.i .i64 0,.i .i64 0,.i .i64 0,.i .i64 0,.i .i64 0,.i .i64 0,.i .i64 0,.i .i64 0,.i .i64 0] true)]) 11 (.c (.p (G.length + 1) 0)) (.a (A5 2 1 0 1 (zI 7)))=some (G ++ [some (Row.mk (D0 D25a) true),some (Row.mk (A5 2 1 0 1 (zI 7)) true)]):=by rw [A2i];rfl
    have fa4:∀ q,B4 (.c (.p q 0)) 4=some (.c (.p q 4)):=fun q=>by simp [B4]
    have ad:∀ q,D6 6 1 (.c (.p q 4)) (.c (.i .i64 0))=some (.c (.p q 4)):=fun q=>rfl
    have r3:E4 (G ++ [some (Row.mk (D0 D25a) true),some (Row.mk (A5 2 1 0 1 (zI 7)) true)]) (.c (.p (G.length + 1) 4)) (.c (.i .i64 5))=some (G ++ [some (Row.mk (D0 D25a) true),some (Row.mk (A5 2 1 0 1 d25) true)]):=by rw [A2h];rfl
    have l2:=B6M (g:=G) (D:=D25a) (i:=2) (q:=512) (b:=zeros 256) (l:=[some (Row.mk (A5 2 1 0 1 d25) true)]) okD25a (by rw [B1x];omega) rfl rfl
    have l11:A3 (G ++ [some (Row.mk (D0 D25a) true),some (Row.mk (A5 2 1 0 1 d25) true)]) 11 (.c (.p (G.length + 1) 0))=some (.a (A5 2 1 0 1 d25)):=by rw [A0O];rfl
    have hT:∀ h,A07 [.a (A1 (zeros 256)),.c (.i .i64 0),.a (A5 2 1 0 1 d25)] h=some (.t [.a (A1 ino25a),.c (.i .i64 0)],h):=fun h=>B86 (j:=0) (k:=2) (l:=1) (s:=0) (p:=1) (d:=d25) (b:=zeros 256) (h:=h) zeros_length rfl (by omega) (by decide)
    have s2:=A5y (g:=G) (D:=D25a) (i:=2) (q:=512) (l:=[some (Row.mk (A5 2 1 0 1 d25) true)]) okD25a B1o (by rw [B1x];omega) rfl (show _=D25b from rfl)
    have l2b:=B6M (g:=G) (D:=D25b) (i:=2) (q:=512) (b:=ino25a) (l:=[some (Row.mk (A5 2 1 0 1 d25) true)]) okD25b (by rw [B1y];omega) rfl (by unfold D25b;rw [List.getElem_set_self])
    have ef2b:A7 [Cell.i .i64 0,.i .i64 0,.i .i64 0,.i .i64 0,.i .i64 0,.i .i64 0,.i .i64 0,.i .i64 0,.i .i64 0,.i .i64 0,.i .i64 0] [(0,1,.c (.i .i64 1)),(1,1,.c (.i .i64 1)),(2,1,.c (.i .i64 2))]=some (A5 1 1 2 0 (zI 7)):=rfl
    have hT2:∀ h,A07 [.a (A1 ino25a),.c (.i .i64 1),.a (A5 1 1 2 0 (zI 7))] h=some (.t [.a (A1 ino25),.c (.i .i64 0)],h):=fun h=>B86 (j:=1) (k:=1) (l:=1) (s:=2) (p:=0) (d:=zI 7) (b:=ino25a) (h:=h) B1o rfl (by omega) (by decide)
    have s2b:=A5y (g:=G) (D:=D25b) (i:=2) (q:=512) (l:=[some (Row.mk (A5 2 1 0 1 d25) true)]) okD25b B6l (by rw [B1y];omega) rfl (show _=D25c from rfl)
    have ez:[Cell.i .i64 0] ++ List.replicate 32 (Cell.i .i64 0)=encI (0 :: zI 32):=A2S
    have ef3:A7 (encI (0 :: zI 32)) []=some (encI (0 :: zI 32)):=rfl
    have r4:A8 (G ++ [some (Row.mk (D0 D25c) true),some (Row.mk (A5 2 1 0 1 d25) true),some (Row.mk (encI (0 :: zI 32)) true)]) 33 (.c (.p (G.length + 2) 0)) (.a (encI (0 :: zI 32)))=some (G ++ [some (Row.mk (D0 D25c) true),some (Row.mk (A5 2 1 0 1 d25) true),some (Row.mk (encI (0 :: zI 32)) true)]):=by rw [A2i];rfl
    have fa1:∀ q,B4 (.c (.p q 0)) 1=some (.c (.p q 1)):=fun q=>by simp [B4]
    have ad0:∀ q,D6 32 1 (.c (.p q 1)) (.c (.i .i64 0))=some (.c (.p q 1)):=fun q=>rfl
    have r5:E4 (G ++ [some (Row.mk (D0 D25c) true),some (Row.mk (A5 2 1 0 1 d25) true),some (Row.mk (encI (0 :: zI 32)) true)]) (.c (.p (G.length + 2) 1)) (.c (.i .i64 6))=some (G ++ [some (Row.mk (D0 D25c) true),some (Row.mk (A5 2 1 0 1 d25) true),some (Row.mk (encI (0 :: 6 :: zI 31)) true)]):=by rw [A2h];rfl
    have l33:A3 (G ++ [some (Row.mk (D0 D25c) true),some (Row.mk (A5 2 1 0 1 d25) true),some (Row.mk (encI (0 :: 6 :: zI 31)) true)]) 33 (.c (.p (G.length + 2) 0))=some (.a (encI (0 :: 6 :: zI 31))):=by rw [A0O];rfl
    have hX:=fun h=>B6f (d:=0) (t:=6 :: zI 31) (h:=h) rfl
    have hok:okX 0 (6 :: zI 31)=true:=by decide +kernel
    rw [hok,cond_true,cond_true] at hX
    have eX:R7 0 (6 :: zI 31)=idx25:=rfl
    rw [eX] at hX
    have s5:=A5y (g:=G) (D:=D25c) (i:=5) (q:=1280) (l:=[some (Row.mk (A5 2 1 0 1 d25) true),some (Row.mk (encI (0 :: 6 :: zI 31)) true)]) okD25c B50 (by rw [B6P];omega) rfl (show _=D25d from rfl)
    have ef4:A7 [Cell.s [],.i .i64 0] [(0,1,.c (.s [97])),(1,1,.c (.i .i64 2))]=some [.s [97],.i .i64 2]:=rfl
    have ef5:A7 [Cell.s [],.i .i64 0] [(0,1,.c (.s [98])),(1,1,.c (.i .i64 3))]=some [.s [98],.i .i64 3]:=rfl
    have ef6:A7 [Cell.s [],.i .i64 0,.s [],.i .i64 0] [(0,2,.a [.s [97],.i .i64 2]),(2,2,.a [.s [98],.i .i64 3])]=some (D9 [([97],2),([98],3)]):=rfl
    have hN1:=C4v (h:=G ++ [some (Row.mk (D0 D25d) true),some (Row.mk (A5 2 1 0 1 d25) true),some (Row.mk (encI (0 :: 6 :: zI 31)) true),some (Row.mk (D9 [([97],2),([98],3)]) true)]) (v:=.c (.sl (G.length + 3) 0 2 2)) (nv:=2) (l:=[([97],2),([98],3)]) (Has.tr (by simp) rfl rfl) (by simp)
    have eN1:Z9 [([97],2),([98],3)]=A65:=rfl
    rw [eN1] at hN1
    have s6:=A5y (g:=G) (D:=D25d) (i:=6) (q:=1536) (l:=[some (Row.mk (A5 2 1 0 1 d25) true),some (Row.mk (encI (0 :: 6 :: zI 31)) true),some (Row.mk (D9 [([97],2),([98],3)]) true)]) okD25d (b:=A65) B7p (by rw [B6Q];omega) rfl (show D25d.set 6 A65=D25 from rfl)
    rw [C0i]
    simp only [C8z,ez]
    refine ⟨.c (.sl G.length 0 16 256),G ++ [some (Row.mk (D0 D25) true),some (Row.mk (A5 2 1 0 1 d25) true),some (Row.mk (encI (0 :: 6 :: zI 31)) true),some (Row.mk (D9 [([97],2),([98],3)]) true)],?_,by rw [X0 A8k,B6O],G.length,rfl,by omega,by simp⟩
    generalize D0 D25=q1 at *
    generalize D0 D25a=q2 at *
    generalize D0 D25b=q3 at *
    generalize D0 D25c=q4 at *
    generalize D0 D25d=q5 at *
    generalize encI (0 :: zI 32)=x0 at *
    generalize encI (0 :: 6 :: zI 31)=x2 at *
    generalize A5 2 1 0 1 (zI 7)=i0 at *
    generalize A5 1 1 2 0 (zI 7)=i2 at *
    generalize A5 2 1 0 1 d25=i1 at *
    generalize D9 [([97],2),([98],3)]=e1 at *
    generalize A1 (zeros 256)=z at *
    simp only [C8,L5,List.getElem?_cons_zero,List.getElem?_cons_succ,Option.map_some,L7,N5,mk,ef1,hp,← hG,a0,s0,ef2,List.append_assoc,List.cons_append,List.nil_append,List.append_nil,List.length_append,List.length_cons,List.length_nil,Nat.zero_add,Nat.reduceAdd,r2,fa4,ad,r3,a2,l2,l11,hT,B8g,s2,l2b,ef2b,hT2,s2b,ef3,r4,fa1,ad0,r5,l33,hX,a5,s5,ef4,ef5,ef6,hN1,a6,s6]
  obtain ⟨v,g',e,ho⟩:=key (ro h)
  exact C1T e (by simpa [N7] using ho) (B03)
set_option maxHeartbeats 2000000 in
theorem B22 (h:A0):A1Q [] h=some (.c (.b true),h):=by
  have key:∀ g,∃ g',A5X 0 [] g=some (.c (.b true),g'):=by
    intro g
    have l16:=B6O
    have hS:=C9C g
    obtain ⟨f,t,hO,hv⟩:=B9Q (v:=.c (.sl g.length 0 16 256)) (h:=g ++ [some (Row.mk (D0 D25) true)]) (D:=D25) (by rw [l16];exact Has.tr (by simp) (by rw [X0 A8k,l16]) (A5j _)) A8k C43 (by rw [l16];omega)
    rw [C45,C44] at hO
    obtain ⟨H,hH⟩:∃ H,H=g ++ [some (Row.mk (D0 D25) true)] ++ t:=⟨_,rfl⟩
    rw [← hH] at hO hv
    obtain ⟨V,hV⟩:∃ V,V=vwC D25.length 8 0 f:=⟨_,rfl⟩
    have hVl:V.length=4:=by rw [hV];rfl
    have hS4:A8 (H ++ [some (Row.mk [.i .i64 0,.i .i64 0,.i .u64 0,.nf] true)]) 4 (.c (.p H.length 0)) (.a V)=some (H ++ [some (Row.mk V true)]):=by rw [hV,W8];rfl
    obtain ⟨v,h1,hT,ht,_⟩:=B9C (n:=8) (m:=0) (h:=H ++ [some (Row.mk V true)]) A8k (hv.more _)
    rw [C94] at ht
    rw [← hV] at hT hO
    have l4:A3 (H ++ [some (Row.mk V true)]) 4 (.c (.p H.length 0))=some (.a V):=F6 F1 hVl
    have ef:A7 [Cell.s []] [(0,1,.c (.s [97]))]=some (encS [[97]]):=rfl
    have ef2:A7 [Cell.s []] [(0,1,.c (.s [47,97]))]=some (encS [[47,97]]):=rfl
    have ht1:=ht.more [some (Row.mk (encS [[97]]) true)]
    have hA:=B9i (w:=.c (.sl h1.length 0 1 1)) (ps:=[[97]]) ht1 B2k (Has.tr F1 rfl rfl) (by simp)
    rw [C4l] at hA
    have hlen:=ht.len
    obtain ⟨id0,o0,cs0,b1,b2,b3,b4⟩:=B2U ht1 (i:=0) (by decide)
    obtain ⟨id1,o1,cs1,c1,c2,c3,c4⟩:=B2U ht1 (i:=1) (by decide)
    obtain ⟨x0,y0,rfl,_,hy0⟩:=b4
    obtain ⟨x1,y1,rfl,_,_⟩:=c4
    have k6:=b3 6 y0 rfl
    have hyl:=hy0.len
    have k4:=c3 4 (.i .i64 2) rfl
    have hP:=B9F (c:=1) ht1 B2k (by omega) (C9U (by decide)) (by decide)
    rw [C77] at hP
    obtain ⟨H1,hH1⟩:∃ H1,H1=h1 ++ [some (Row.mk (encS [[97]]) true)]:=⟨_,rfl⟩
    rw [← hH1] at hA k6 k4 hP ht1
    obtain ⟨H2,hH2⟩:∃ H2,H2=H1 ++ [some (Row.mk (encS [[47,97]]) true),some (Row.mk (encS [[47,97]]) true)]:=⟨_,rfl⟩
    have hX:=C8r (v:=.c (.sl H1.length 0 1 1)) (u:=.c (.sl (H1.length + 1) 0 1 1)) (nv:=1) (nu:=1) (l:=[[47,97]]) (r:=[[47,97]]) (h:=H2) (Has.tr (by rw [hH2];simp) rfl rfl) (Has.tr (by rw [hH2];simp) rfl rfl) (by simp)
    have hC:=D0b (a:=2) (h:=H2) (by rw [hH2];exact ht1.more _) B2k
    rw [C4U] at hC
    have e11:[[(47:UInt8),97]].length=1:=rfl
    rw [e11] at hP
    have t2:T25.length=2:=rfl
    rw [t2] at hlen
    have yl:T25[0].names.length=1:=rfl
    rw [yl] at hyl
    have i0:((0:Nat):Int)=0:=rfl
    have i1:((1:Nat):Int)=1:=rfl
    have i2:((2:Nat):Int)=2:=rfl
    rw [i0] at b1
    rw [i1] at c1 hyl hC
    rw [i2] at hlen
    rw [C0j]
    refine ⟨H2,?_⟩
    generalize encS [[97]]=z1 at *
    generalize encS [[47,97]]=z2 at *
    simp only [esc,Nat.reduceAdd,hS,hO,hS4,l4,hT,ef,ef2,← hH1,hA,atC,Option.getD_some,Option.isSome_some,eq_self,hlen,b1,k6,hyl,c1,k4,hP,← hH2,hX,hC]
  obtain ⟨g',e⟩:=key (ro h)
  exact C1U e rfl
end Go.Proofs.Yteckncopbicmcaa
end
section
namespace Go.Proofs.Yteckncopbicmcaa
open Go Go.Esc
theorem C8x {D:Dev} {n a:Int} (h2:kdV D n 1=2) (ha:a ∈ U4 D n):kdV D n a=1 ∨ kdV D n a=2:=by
  obtain ⟨j,_,hi⟩:=A8t (D:=D) (n:=n)
  by_cases c:a=1
  · subst c;exact .inr h2
  · obtain ⟨b,_,e,he,rfl⟩:=hi.by_ a ha c
    exact B7v e he
theorem B9e {D:Dev} {n:Int} {x:Nd} (hx:x ∈ F9 D n):kdV D n 1=2 ∧ x.ino ∈ U4 D n ∧ (x.kind=1 ∨ x.kind=2) ∧ x.names=K3 D n x.ino ∧ x.data=K0 D n x.ino ∧ x.kind=kdV D n x.ino:=by
  obtain ⟨h1,h2,h3⟩:=B2t.1 hx
  refine ⟨h1,h2,?_,by rw [h3];rfl,by rw [h3];rfl,by rw [h3];rfl⟩
  have:=C8x h1 h2
  rw [h3];exact this
theorem B2s {D:Dev} {n:Int}:(F9 D n).length ≤ 129:=by
  unfold F9
  split
  · have:=List.length_filter_le (fun (i:Nat)=>decide ((i:Int) ∈ U4 D n)) (List.range 129)
    simpa using this
  · simp
theorem C40 {D:Dev} {n i:Int}:(K0 D n i).length ≤ 34304:=by
  unfold K0
  rw [C8q]
  unfold J4
  split <;> omega
theorem B2u {D:Dev} {n:Int} {x:Nd} (hx:x ∈ F9 D n):x.names.length ≤ 224 ∧ ∀ e ∈ x.names,e.1.length ≤ 24:=by
  obtain ⟨_,_,_,hn,_⟩:=B9e hx
  rw [hn]
  exact ⟨B7u,fun e he=>(A4Z (B6S (List.mem_filter.1 he).1)).2⟩
theorem A8I {D:Dev} {n:Int}:small (F9 D n):=by
  refine ⟨by have:=B2s (D:=D) (n:=n);omega,fun x hx=>?_⟩
  obtain ⟨_,_,_,hn,hd,_⟩:=B9e hx
  have h1:=(B2u hx).1
  have h2:=C40 (D:=D) (n:=n) (i:=x.ino)
  rw [hd]
  omega
theorem C96 {D:Dev} {n:Int}:G3 (F9 D n) ≤ 28896:=by
  have key:∀ t:List Nd,(∀ x ∈ t,x.names.length ≤ 224) → G3 t ≤ 224 * t.length:=by
    intro t
    induction t with
    | nil=>intro _;simp [G3]
    | cons x t ih =>
      intro h
      have h1:=h x (by simp)
      have h2:=ih fun y hy=>h y (by simp [hy])
      have h3:G3 (x :: t)=x.names.length + G3 t:=by simp [G3]
      rw [h3,List.length_cons];omega
  have h1:=key _ fun x hx=>(B2u (D:=D) (n:=n) hx).1
  have h2:=B2s (D:=D) (n:=n)
  omega
theorem B2v {D:Dev} {n:Int}:∀ a,∀ e ∈ G1 (F9 D n) a,e.1.length ≤ 24:=by
  intro a e he
  unfold G1 at he
  cases hf:J3 (F9 D n) a with
  | none=>rw [hf] at he;cases he
  | some x =>
    rw [hf] at he
    dsimp only at he
    split at he
    · exact (B2u (List.mem_of_find?_eq_some hf)).2 e he
    · cases he
theorem C7W {t:List Nd} {c:Nat} (hN:∀ a,∀ e ∈ G1 t a,e.1.length ≤ c):∀ p ∈ outW t,p.length ≤ (G3 t + 1) * (c + 1):=by
  have s1:∀ (q:List UInt8) (B:Nat),q.length + (c + 1) ≤ B → ∀ (es:List Ent) (s:I7),(∀ e ∈ es,e.1.length ≤ c) → (∀ p ∈ s.2,p.length ≤ B) → ∀ p ∈ (A0h q s es).2,p.length ≤ B:=by
    intro q B hB es
    induction es with
    | nil=>intro s _ h;exact h
    | cons e es ih =>
      intro s he h
      rw [A8T]
      refine ih _ (fun x hx=>he x (by simp [hx])) fun p hp=>?_
      unfold T5 at hp
      dsimp only at hp
      rw [List.mem_append] at hp
      rcases hp with hp | hp
      · exact h p hp
      · simp at hp;subst hp
        have:=he e (by simp)
        simp;omega
  have s2:∀ (e i:Nat) (s:I7),WayI c (G1 t) i s → (∀ p ∈ s.2,p.length ≤ (G3 t + 1) * (c + 1)) → ∀ p ∈ (ways (G1 t) e i s).2,p.length ≤ (G3 t + 1) * (c + 1):=by
    intro e
    induction e with
    | zero=>intro i s _ h;exact h
    | succ e ih =>
      intro i s hI h
      unfold ways
      by_cases hl:i < s.1.length
      · rw [dif_pos hl]
        refine ih (i + 1) _ (hI.step hN hl) (s1 _ _ ?_ _ _ (hN _) h)
        have h1:=hI.txt i _ (List.getElem?_eq_getElem hl)
        have h2:=hI.tot.2
        have h3:i * (c + 1) ≤ G3 t * (c + 1):=Nat.mul_le_mul_right _ (by omega)
        have h4:(G3 t + 1) * (c + 1)=G3 t * (c + 1) + (c + 1):=by rw [Nat.add_mul,Nat.one_mul]
        omega
      · rw [dif_neg hl];exact h
  exact s2 _ _ _ WayI.one fun p hp=>by cases hp
theorem B2b:∀ (l acc:List UInt8),(O5 l acc).length ≤ l.length + 1
  | [],acc=>by simp [O5]
  | c :: l,acc=>by
    rw [O5]
    split
    · have:=B2b l []
      simp;omega
    · have:=B2b l (acc ++ [c])
      simp;omega
end Go.Proofs.Yteckncopbicmcaa
end
noncomputable section
namespace Go.Proofs.Yteckncopbicmcaa
open Go Go.Esc
set_option maxRecDepth 100000
def B5a:ACode:=.seq [5,6,7,8] (.seq [5,6,7,8,35] (.ops [aO 32 (.mv (.t 8)),aO 33 (.mv (.t 5)),aO 34 (.len (.t 33)),aO 35 (.bin .lss (.t 32) (.t 34))]) (.cond (.t 35) .skip (.exit 0))) (.seq [5,6,7,8] (.block 1 (.ops [aO 38 (.mv (.t 7)),aO 39 (.mv (.t 5)),aO 40 (.mv (.t 8)),aO 41 (.iAddrL 7 (.t 39) (.t 40)),aO 42 (.fAddr (.t 41) 6),aO 43 (.load1 (.t 42)),aO 44 (.len (.t 43)),aO 45 (.bin .add (.t 38) (.t 44)),aO 7 (.mv (.t 45))])) (.ops [aO 36 (.mv (.t 8)),aO 37 (.bin .add (.t 36) (.v (.c (.i .i64 1)))),aO 8 (.mv (.t 37))]))
def B5f:ACode:=.ops [aO 59 (.mv (.t 12)),aO 60 (.bin .add (.t 59) (.v (.c (.i .i64 1)))),aO 12 (.mv (.t 60))]
def B0T:ACode:=.seq [5,6,7,9,10,11,12] (.seq [5,6,7,9,10,11,12,58] (.ops [aO 52 (.mv (.t 12)),aO 53 (.mv (.t 6)),aO 54 (.mv (.t 9)),aO 55 (.iAddrL 1 (.t 53) (.t 54)),aO 56 (.load1 (.t 55)),aO 57 (.lenS (.t 56)),aO 58 (.bin .leq (.t 52) (.t 57))]) (.cond (.t 58) .skip (.exit 4))) (.seq [5,6,7,9,10,11,12] (.block 5 (.seq [5,6,7,9,10,11,12,76] (.ops [aO 61 (.mv (.t 12)),aO 62 (.mv (.t 6)),aO 63 (.mv (.t 9)),aO 64 (.iAddrL 1 (.t 62) (.t 63)),aO 65 (.load1 (.t 64)),aO 66 (.lenS (.t 65)),aO 67 (.bin .eql (.t 61) (.t 66)),aO 68 (.mv (.t 67)),aG 69 68 false (.mv (.t 6)),aG 70 68 false (.mv (.t 9)),aG 71 68 false (.iAddrL 1 (.t 69) (.t 70)),aG 72 68 false (.load1 (.t 71)),aG 73 68 false (.mv (.t 12)),aG 74 68 false (.idxS (.t 72) (.t 73)),aG 75 68 false (.bin .eql (.t 74) (.v (.c (.i .u8 47)))),aO 76 (.pick (.t 68) (.v (.c (.b true))) (.t 75))]) (.cond (.t 76) (.seq [5,6,7,9,10,12] (.ops [aO 77 (.mv (.t 10)),aO 78 (.mv (.t 6)),aO 79 (.mv (.t 9)),aO 80 (.iAddrL 1 (.t 78) (.t 79)),aO 81 (.load1 (.t 80)),aO 82 (.mv (.t 11)),aO 83 (.mv (.t 12)),aO 84 (.slS (.t 81) (some (.t 82)) (some (.t 83))),aO 85 (.buildSl 1 1 ([.s []]) [(0,1,(.t 84))]),aO 86 (.app 1 (.t 77) (.t 85)),aO 10 (.mv (.t 86))]) (.ops [aO 87 (.mv (.t 12)),aO 88 (.bin .add (.t 87) (.v (.c (.i .i64 1)))),aO 11 (.mv (.t 88))])) .skip))) B5f)
def B5d:ACode:=.seq [5,6,7,9,14] (.ops [aO 90 (.mv (.t 5)),aO 91 (.mv (.t 10)),aO 92 (.call 19 [(.t 90),(.t 91)]),aO 89 (.mv (.t 92)),aO 93 (.ext (.t 89) 0),aO 94 (.ext (.t 89) 1),aO 13 (.mv (.t 93)),aO 14 (.mv (.t 94))]) (.seq [5,6,7,9,112] (.draw 0 [aO 95 (.mv (.t 14)),aO 96 (.un .not (.t 95)),aO 97 (.mv (.t 96)),aG 98 97 false (.mv (.t 9)),aG 99 97 false (.bin .gtr (.t 98) (.v (.c (.i .i64 0)))),aG 100 97 false (.mv (.t 99)),aG 101 100 true (.mv (.t 6)),aG 102 100 true (.mv (.t 9)),aG 103 100 true (.bin .sub (.t 102) (.v (.c (.i .i64 1)))),aG 104 100 true (.iAddrL 1 (.t 101) (.t 103)),aG 105 100 true (.load1 (.t 104)),aG 106 100 true (.mv (.t 6)),aG 107 100 true (.mv (.t 9)),aG 108 100 true (.iAddrL 1 (.t 106) (.t 107)),aG 109 100 true (.load1 (.t 108))] [aG 110 100 true (.bin .geq (.t 105) (.t 109)),aG 111 97 false (.pick (.t 100) (.t 110) (.v (.c (.b false)))),aO 112 (.pick (.t 97) (.v (.c (.b true))) (.t 111))]) (.cond (.t 112) (.seq [2] (.ops [aO 2 (.mv (.v (.c (.b false))))]) .ret) .skip))
def B5e:ACode:=.ops [aO 50 (.mv (.t 9)),aO 51 (.bin .add (.t 50) (.v (.c (.i .i64 1)))),aO 9 (.mv (.t 51))]
def B0S:ACode:=.seq [5,6,7,9] (.seq [5,6,7,9,49] (.ops [aO 46 (.mv (.t 9)),aO 47 (.mv (.t 6)),aO 48 (.len (.t 47)),aO 49 (.bin .lss (.t 46) (.t 48))]) (.cond (.t 49) .skip (.exit 2))) (.seq [5,6,7,9] (.block 3 (.seq [5,6,7,9,10] (.ops [aO 10 (.nilrow 1)]) (.seq [5,6,7,9,10,11] (.ops [aO 11 (.mv (.v (.c (.i .i64 1))))]) (.seq [5,6,7,9,10] (.seq [5,6,7,9,10,11,12] (.ops [aO 12 (.mv (.v (.c (.i .i64 1))))]) (.block 4 (.loop [5,6,7,9,10,11,12] B0T))) B5d)))) B5e)
def B5c:ACode:=.seq [2] (.ops [aO 113 (.mv (.t 6)),aO 114 (.len (.t 113)),aO 115 (.mv (.t 7)),aO 116 (.bin .leq (.t 114) (.t 115)),aO 117 (.mv (.t 116)),aG 118 117 true (.call 14 []),aO 119 (.pick (.t 117) (.t 118) (.v (.c (.b false)))),aO 2 (.mv (.t 119))]) .ret
def B5b:ACode:=.seq [6,7] (.seq [5,6,7,9] (.ops [aO 9 (.mv (.v (.c (.i .i64 0))))]) (.block 2 (.loop [5,6,7,9] B0S))) B5c
def A_el25_TreePaths:AFn:=⟨.seq [0] (.ops [aO 2 (.mv (.v (.c (.b false))))]) (.seq [0] (.seq [0,17] (.ops [aO 15 (.mv (.t 0)),aO 16 (.len (.t 15)),aO 17 (.bin .gtr (.t 16) (.v (.c (.i .i64 60))))]) (.cond (.t 17) (.seq [2] (.ops [aO 18 (.call 14 []),aO 2 (.mv (.t 18))]) .ret) .skip)) (.seq [3,4] (.ops [aO 20 (.mv (.t 0)),aO 21 (.call 8 [(.t 20)]),aO 22 (.call 7 [(.t 21)]),aO 19 (.mv (.t 22)),aO 23 (.ext (.t 19) 0),aO 24 (.ext (.t 19) 1),aO 3 (.alloc ([.i .i64 0,.i .i64 0,.i .u64 0,.nf])),aN (.storeN 4 (.t 3) (.t 23)),aO 4 (.mv (.t 24))]) (.seq [3] (.seq [3,26] (.ops [aO 25 (.mv (.t 4)),aO 26 (.bin .neq (.t 25) (.v (.c (.i .i64 0))))]) (.cond (.t 26) (.seq [2] (.ops [aO 27 (.call 14 []),aO 2 (.mv (.t 27))]) .ret) .skip)) (.seq [5] (.ops [aO 28 (.loadN 4 (.t 3)),aO 29 (.call 15 [(.t 28)]),aO 5 (.mv (.t 29))]) (.seq [5,6] (.ops [aO 30 (.mv (.t 5)),aO 31 (.call 18 [(.t 30)]),aO 6 (.mv (.t 31))]) (.seq [5,6,7] (.ops [aO 7 (.mv (.v (.c (.i .i64 0))))]) (.seq [5,6,7] (.seq [5,6,7,8] (.ops [aO 8 (.mv (.v (.c (.i .i64 0))))]) (.block 0 (.loop [5,6,7,8] B5a))) B5b))))))),[.tmp 2]⟩
def V3:A9:=B0 14 A1Q (B0 8 A39 (B0 7 A0k (B0 15 A15 (B0 18 A16 (B0 19 A13 C0)))))
def C5n (n:Nat):B3 (Val × A0):=E3 [5,6,7] (ax V3 n B5b) A_el25_TreePaths.fin
def C5o (n:Nat):B3 (Val × A0):=D7 0 (C5n n)
def A7o (n m:Nat) (x5 x6 x7 x8:Val) (h:A0):A6:=D1 (ax V3 n B5a) [5,6,7,8] (C5o n) m [(5,x5),(6,x6),(7,x7),(8,x8)] h
def A5V (n:Nat) (args:List Val) (h:A0):A6:=ax V3 n A_el25_TreePaths.code A_el25_TreePaths.fin (params 0 args) h
def C5p (n:Nat):B3 (Val × A0):=E3 [6,7] (ax V3 n B5c) A_el25_TreePaths.fin
def B0W (n:Nat):B3 (Val × A0):=D7 2 (C5p n)
def A4V (n m:Nat) (x5 x6 x7 x9:Val) (h:A0):A6:=D1 (ax V3 n B0S) [5,6,7,9] (B0W n) m [(5,x5),(6,x6),(7,x7),(9,x9)] h
def C5q (n m:Nat):B3 (Val × A0):=T0 [5,6,7,9] (D1 (ax V3 n B0S) [5,6,7,9] (B0W n) m) (B0W n)
def C5r (n m:Nat):B3 (Val × A0):=E3 [5,6,7,9] (ax V3 n B5e) (C5q n m)
def C5s (n m:Nat):B3 (Val × A0):=D7 3 (C5r n m)
def C5t (n m:Nat):B3 (Val × A0):=E3 [5,6,7,9,10] (ax V3 n B5d) (C5s n m)
def B0X (n m:Nat):B3 (Val × A0):=D7 4 (C5t n m)
def A3e (n m m2:Nat) (x5 x6 x7 x9 x10 x11 x12:Val) (h:A0):A6:=D1 (ax V3 n B0T) [5,6,7,9,10,11,12] (B0X n m) m2 [(5,x5),(6,x6),(7,x7),(9,x9),(10,x10),(11,x11),(12,x12)] h
def C5u (n m m2:Nat):B3 (Val × A0):=T0 [5,6,7,9,10,11,12] (D1 (ax V3 n B0T) [5,6,7,9,10,11,12] (B0X n m) m2) (B0X n m)
def B0U (n m m2:Nat) (x5 x6 x7 x9 x10 x11 x12:Val) (h:A0):A6:=hold ((ax V3 n B5f) (C5u n m m2) [(5,x5),(6,x6),(7,x7),(9,x9),(10,x10),(11,x11),(12,x12)] h)
theorem C0h (n:Nat) (a0:Val) (h:A0):A5V n [a0] h=bnd (E8 a0) fun v1=>bnd (A2 .gtr v1 (.c (.i .i64 60))) fun v2=>cnd v2 (bnd (A1Q [] h) fun p3=>some (p3.1,p3.2)) (bnd (A39 [a0] h) fun p4=>bnd (A0k [p4.1] p4.2) fun p5=>bnd (C3 p5.1 0) fun v6=>bnd (C3 p5.1 1) fun v7=>bnd (A8 (p5.2 ++ [some (Row.mk ([.i .i64 0,.i .i64 0,.i .u64 0,.nf]) true)]) 4 (.c (.p p5.2.length 0)) v6) fun h8=>bnd (A2 .neq v7 (.c (.i .i64 0))) fun v9=>cnd v9 (bnd (A1Q [] h8) fun p10=>some (p10.1,p10.2)) (bnd (A3 h8 4 (.c (.p p5.2.length 0))) fun v11=>bnd (A15 [v11] h8) fun p12=>bnd (A16 [p12.1] p12.2) fun p13=>A7o n n p12.1 p13.1 (.c (.i .i64 0)) (.c (.i .i64 0)) p13.2)):=by kernel_rfl
theorem B5g (n m:Nat) (x5 x6 x7 x8:Val) (h:A0):A7o n (m + 1) x5 x6 x7 x8 h=bnd (E8 x5) fun v14=>bnd (A2 .lss x8 v14) fun v15=>cnd v15 (bnd (B9 7 x5 x8) fun v16=>bnd (B4 v16 6) fun v17=>bnd (A4 h v17) fun v18=>bnd (E8 v18) fun v19=>bnd (A2 .add x7 v19) fun v20=>bnd (A2 .add x8 (.c (.i .i64 1))) fun v21=>A7o n m x5 x6 v20 v21 h) (A4V n n x5 x6 x7 (.c (.i .i64 0)) h):=by kernel_rfl
theorem B5h (n m:Nat) (x5 x6 x7 x9:Val) (h:A0):A4V n (m + 1) x5 x6 x7 x9 h=bnd (E8 x6) fun v22=>bnd (A2 .lss x9 v22) fun v23=>cnd v23 (A3e n m n x5 x6 x7 x9 (.c (.sl h.length 0 0 1)) (.c (.i .i64 1)) (.c (.i .i64 1)) (h ++ [some (Row.mk ([]) true)])) (bnd (E8 x6) fun v24=>bnd (A2 .leq v24 x7) fun v25=>bnd (gd v25 true (bnd (A1Q [] h) fun p26=>some (p26.1,p26.2)) (some (.no,h))) fun p27=>bnd (D3 v25 p27.1 (.c (.b false))) fun v28=>some (v28,p27.2)):=by kernel_rfl
theorem A3f (n m m2:Nat) (x5 x6 x7 x9 x10 x11 x12:Val) (h:A0):A3e n m (m2 + 1) x5 x6 x7 x9 x10 x11 x12 h=bnd (B9 1 x6 x9) fun v29=>bnd (A4 h v29) fun v30=>bnd (W4 v30) fun v31=>bnd (A2 .leq x12 v31) fun v32=>cnd v32 (bnd (B9 1 x6 x9) fun v33=>bnd (A4 h v33) fun v34=>bnd (W4 v34) fun v35=>bnd (A2 .eql x12 v35) fun v36=>bnd (gd v36 false (some (x6,h)) (some (.no,h))) fun p37=>bnd (gd v36 false (some (x9,p37.2)) (some (.no,p37.2))) fun p38=>bnd (gd v36 false (bnd (B9 1 p37.1 p38.1) fun v39=>some (v39,p38.2)) (some (.no,p38.2))) fun p40=>bnd (gd v36 false (bnd (A4 p40.2 p40.1) fun v41=>some (v41,p40.2)) (some (.no,p40.2))) fun p42=>bnd (gd v36 false (some (x12,p42.2)) (some (.no,p42.2))) fun p43=>bnd (gd v36 false (bnd (Y8 p42.1 p43.1) fun v44=>some (v44,p43.2)) (some (.no,p43.2))) fun p45=>bnd (gd v36 false (bnd (A2 .eql p45.1 (.c (.i .u8 47))) fun v46=>some (v46,p45.2)) (some (.no,p45.2))) fun p47=>bnd (D3 v36 (.c (.b true)) p47.1) fun v48=>cnd v48 (bnd (B9 1 x6 x9) fun v49=>bnd (A4 p47.2 v49) fun v50=>bnd (A27 v50 (some x11) (some x12)) fun v51=>bnd (A7 ([.s []]) [(0,1,v51)]) fun c52=>bnd (F0 (p47.2 ++ [some (Row.mk (c52) true)]) 1 x10 (.c (.sl p47.2.length 0 1 1))) fun p53=>bnd (A2 .add x12 (.c (.i .i64 1))) fun v54=>B0U n m m2 x5 x6 x7 x9 p53.1 v54 x12 p53.2) (B0U n m m2 x5 x6 x7 x9 x10 x11 x12 p47.2)) (bnd (A13 [x5,x10] h) fun p55=>bnd (C3 p55.1 0) fun v56=>bnd (C3 p55.1 1) fun v57=>bnd (aun .not v57) fun v58=>bnd (gd v58 false (some (x9,(p55.2 ++ []))) (some (.no,(p55.2 ++ [])))) fun p59=>bnd (gd v58 false (bnd (A2 .gtr p59.1 (.c (.i .i64 0))) fun v60=>some (v60,p59.2)) (some (.no,p59.2))) fun p61=>bnd (gd v58 false (some (p61.1,p61.2)) (some (.no,p61.2))) fun p62=>bnd (gd p62.1 true (some (x6,p62.2)) (some (.no,p62.2))) fun p63=>bnd (gd p62.1 true (some (x9,p63.2)) (some (.no,p63.2))) fun p64=>bnd (gd p62.1 true (bnd (A2 .sub p64.1 (.c (.i .i64 1))) fun v65=>some (v65,p64.2)) (some (.no,p64.2))) fun p66=>bnd (gd p62.1 true (bnd (B9 1 p63.1 p66.1) fun v67=>some (v67,p66.2)) (some (.no,p66.2))) fun p68=>bnd (gd p62.1 true (bnd (A4 p55.2 p68.1) fun v69=>some (v69,p68.2)) (some (.no,p68.2))) fun p70=>bnd (gd p62.1 true (some (x6,p70.2)) (some (.no,p70.2))) fun p71=>bnd (gd p62.1 true (some (x9,p71.2)) (some (.no,p71.2))) fun p72=>bnd (gd p62.1 true (bnd (B9 1 p71.1 p72.1) fun v73=>some (v73,p72.2)) (some (.no,p72.2))) fun p74=>bnd (gd p62.1 true (bnd (A4 p55.2 p74.1) fun v75=>some (v75,p74.2)) (some (.no,p74.2))) fun p76=>bnd (gd p62.1 true (bnd (A2 .geq p70.1 p76.1) fun v77=>some (v77,p76.2)) (some (.no,p76.2))) fun p78=>bnd (gd v58 false (bnd (D3 p62.1 p78.1 (.c (.b false))) fun v79=>some (v79,p78.2)) (some (.no,p78.2))) fun p80=>bnd (D3 v58 (.c (.b true)) p80.1) fun v81=>cnd v81 (some ((.c (.b false)),p80.2)) (bnd (A2 .add x9 (.c (.i .i64 1))) fun v82=>A4V n m x5 x6 x7 v82 p80.2)):=by kernel_rfl
theorem B0V (n m m2:Nat) (x5 x6 x7 x9 x10 x11 x12:Val) (h:A0):B0U n m m2 x5 x6 x7 x9 x10 x11 x12 h=bnd (A2 .add x12 (.c (.i .i64 1))) fun v83=>A3e n m m2 x5 x6 x7 x9 x10 x11 v83 h:=by kernel_rfl
theorem K_el25_TreePaths:FnK Try.prog 5 A_el25_TreePaths V3 A5V:=.mk' (B1 C1V (B1 C1O (B1 B3B (B1 B3y (B1 B3z (B1 B3u C2)))))) Try.func5 (by kernel_rfl) (fun _ _ _=>C1)
def A96:Fun:=tidy (Lim A_el25_TreePaths V3)
theorem C1R:SOk Try.prog 5 A96:=K_el25_TreePaths.sok
theorem C1Q:D5 A5V A96:=K_el25_TreePaths.flat
end Go.Proofs.Yteckncopbicmcaa
end
section
namespace Go.Proofs.Yteckncopbicmcaa
open Go Go.Esc
theorem C4j {p:List UInt8} {b k:Nat} (hb:b ≤ k) (hk:k ≤ p.length):A27 (.c (.s p)) (some (.c (.i .i64 (b:Int)))) (some (.c (.i .i64 (k:Int))))=some (.c (.s ((p.take k).drop b))):=by
  simp [A27,bound,hb,hk]
theorem C3L {a b:List UInt8}:A2 .geq (.c (.s a)) (.c (.s b))=some (.c (.b (!G0 a b))):=by simp [A2,A2G]
section
variable {g:A0} {v:Val} {t:List Nd} {sid:Nat} {P:F7}
theorem A8n {q M:Nat} {x5 x7:Val} {i:Nat} {p:List UInt8} (hr:rd g sid=some ⟨encS P,true⟩) (hi:P[i]? = some p) (hp:p.length ≤ 900000) {K:Val → A0 → A6}
    (hK:∀ (m2:Nat) (x10 x11:Val) (h:A0),Low g.length g h → A3e q M (m2 + 1) x5 (.c (.sl sid 0 P.length 1)) x7 (.c (.i .i64 (i:Int))) x10 x11 (.c (.i .i64 ((p.length + 1:Nat):Int))) h=K x10 h) :
    ∀ (e k b M2 rid:Nat) (L:F7) (h:A0),k + e=p.length + 1 → e < M2 → 1 ≤ k → b ≤ k → L.length ≤ k → Low g.length g h → g.length ≤ rid → rd h rid=some ⟨encS L,true⟩ →
      ∃ rid' L' h',A3e q M M2 x5 (.c (.sl sid 0 P.length 1)) x7 (.c (.i .i64 (i:Int))) (.c (.sl rid 0 L.length 1)) (.c (.i .i64 (b:Int))) (.c (.i .i64 (k:Int))) h=K (.c (.sl rid' 0 L'.length 1)) h' ∧ Low g.length g h' ∧ rd h' rid'=some ⟨encS L',true⟩ ∧
        L'=L ++ (if k ≤ p.length then O5 (p.drop k) ((p.take k).drop b) else [])
  | e,k,b,0,rid,L,h,_,hm,_,_,_,_,_,_=>by omega
  | 0,k,b,M2 + 1,rid,L,h,hk,hm,h1,hb,hL,hlow,hrid,hrr=>by
    have e0:k=p.length + 1:=by omega
    subst e0
    exact ⟨rid,L,h,hK M2 _ _ h hlow,hlow,hrr,by rw [if_neg (by omega),List.append_nil]⟩
  | e + 1,k,b,M2 + 1,rid,L,h,hk,hm,h1,hb,hL,hlow,hrid,hrr=>by
    have hil:=(List.getElem?_eq_some_iff.1 hi).1
    have ad:B9 1 (.c (.sl sid 0 P.length 1)) (.c (.i .i64 (i:Int)))=some (.c (.p sid i)):=by rw [H8 hil];simp
    have l1:A4 h (.c (.p sid i))=some (.c (.s p)):=F4 (hlow.rd hr) (by rw [Z2,hi];rfl) rfl
    have c0:(k:Int) ≤ (p.length:Nat):=by omega
    have hkl:k ≤ p.length:=by omega
    have w1:=E2 (show k + 1 < 9223372036854775808 by omega)
    have sl:=C4j hb hkl
    have ef:∀ z,A7 [Cell.s []] [(0,1,.c (.s z))]=some (encS [z]):=fun _=>rfl
    obtain ⟨h2,b1,b2,b3,b4⟩:=A5n (h:=h) (n:=L.length) (sz:=1) (ys:=encS [(p.take k).drop b]) hrr (by rw [P7,Nat.mul_one]) rfl (by omega) (by omega)
    have eS:encS L ++ encS [(p.take k).drop b]=encS (L ++ [(p.take k).drop b]):=by simp [encS]
    rw [eS] at b2
    have low2:Low g.length g h2:=hlow.trans (b4 _ hrid (by have:=hlow.2.1;omega))
    have eL:(L ++ [(p.take k).drop b]).length=L.length + 1:=by simp
    rw [if_pos hkl]
    by_cases ck:k=p.length
    · subst ck
      obtain ⟨rid',L',h',f1,f2,f3,f4⟩:=A8n (q:=q) (M:=M) (x5:=x5) (x7:=x7) hr hi hp hK e (p.length + 1) (p.length + 1) M2 (h.length + 1) _ h2 (by omega) (by omega) (by omega) (by omega) (by omega) low2 (by have:=hlow.2.1;omega) b2
      refine ⟨rid',L',h',?_,f2,f3,?_⟩
      · rw [eL] at f1
        rw [A3f]
        simp only [C8,ad,l1,A4M,A22,c0,decide_true,G4,Y6,eq_self,B1b,Z0,cond_true,sl,ef,b1,I8,w1,B0V]
        exact f1
      · rw [f4,if_neg (by omega),List.append_nil,List.drop_length]
        rfl
    · have hk2:k < p.length:=by omega
      have c1:¬ ((k:Int)=(p.length:Nat)):=by omega
      have hx:=A3j (s:=p) (i:=k) (k:=.i64) hk2
      rw [List.drop_eq_getElem_cons hk2,O5]
      by_cases cs:p[k]=47
      · rw [if_pos cs]
        rw [cs] at hx
        have e47:((47:UInt8).toNat:Int)=47:=rfl
        rw [e47] at hx
        obtain ⟨rid',L',h',f1,f2,f3,f4⟩:=A8n (q:=q) (M:=M) (x5:=x5) (x7:=x7) hr hi hp hK e (k + 1) (k + 1) M2 (h.length + 1) _ h2 (by omega) (by omega) (by omega) (by omega) (by omega) low2 (by have:=hlow.2.1;omega) b2
        refine ⟨rid',L',h',?_,f2,f3,?_⟩
        · rw [eL] at f1
          rw [A3f]
          simp only [C8,ad,l1,A4M,A22,c0,decide_true,G4,Y6,c1,decide_false,A41,hx,eq_self,Z0,cond_false,sl,ef,b1,I8,w1,B0V]
          exact f1
        · have e0:(p.take (k + 1)).drop (k + 1)=[]:=List.drop_eq_nil_of_le (by rw [List.length_take];omega)
          rw [f4,if_pos (by omega),e0,List.append_assoc];rfl
      · rw [if_neg cs]
        have n47:¬ (((p[k]).toNat:Nat):Int)=47:=by
          intro e
          apply cs
          apply UInt8.toNat_inj.1
          have e47:(47:UInt8).toNat=47:=rfl
          omega
        obtain ⟨rid',L',h',f1,f2,f3,f4⟩:=A8n (q:=q) (M:=M) (x5:=x5) (x7:=x7) hr hi hp hK e (k + 1) b M2 rid L h (by omega) (by omega) (by omega) (by omega) (by omega) hlow hrid hrr
        refine ⟨rid',L',h',?_,f2,f3,?_⟩
        · rw [A3f]
          simp only [C8,ad,l1,A4M,A22,c0,decide_true,G4,Y6,c1,decide_false,A41,hx,n47,Z0,cond_false,G7,I8,w1,B0V]
          exact f1
        · rw [f4,if_pos (by omega)]
          have e1:(p.take (k + 1)).drop b=(p.take k).drop b ++ [p[k]]:=by
            rw [List.take_add_one,List.getElem?_eq_getElem hk2,Option.toList_some,List.drop_append_of_le_length (by simp;omega)]
          rw [e1]
theorem B2q {q N:Nat} (hv:IsTree g v t) (hs:small t) (hr:rd g sid=some ⟨encS P,true⟩) (hup:Up P) (hat:∀ p ∈ P,(N1 t 1 (T3 p)).isSome=true) (hlen:∀ p ∈ P,p.length ≤ 900000) (hP:P.length ≤ N) (hq:1000000 < q) (hP6:P.length ≤ 1000000) (hN:N ≤ 1000000) :
    ∀ (e i M:Nat) (h:A0),i + e=P.length → e < M → Low g.length g h →
      ∃ h',A4V q M v (.c (.sl sid 0 P.length 1)) (.c (.i .i64 (N:Int))) (.c (.i .i64 (i:Int))) h=some (.c (.b true),h')
  | e,i,0,h,_,hm,_=>by omega
  | 0,i,M + 1,h,hi,hm,hlow=>by
    have c0:¬ ((i:Int) < (P.length:Nat)):=by omega
    have c1:((P.length:Nat):Int) ≤ (N:Nat):=by omega
    rw [B5h]
    exact ⟨h,by simp only [C8,Y9,E7,c0,decide_false,G7,A22,c1,decide_true,A7C,B22,Z0,cond_true]⟩
  | e + 1,i,M + 1,h,hi,hm,hlow=>by
    have hil:i < P.length:=by omega
    have c0:(i:Int) < (P.length:Nat):=by omega
    have hmem:P[i] ∈ P:=List.getElem_mem hil
    have w1:=E2 (show i + 1 < 9223372036854775808 by omega)
    have hlp:=hlen _ hmem
    have hap:=hat _ hmem
    have hpi:P[i]? = some P[i]:=List.getElem?_eq_getElem hil
    obtain ⟨p,hpe⟩:∃ p,p=P[i]:=⟨_,rfl⟩
    have hpi':=hpi
    rw [← hpe] at hlp hap hpi
    obtain ⟨rid,L,h1,f1,f2,f3,f4⟩:=A8n (q:=q) (M:=M) (x5:=v) (x7:=.c (.i .i64 (N:Int))) hr hpi hlp (K:=fun x10 h=>A3e q M 1 v (.c (.sl sid 0 P.length 1)) (.c (.i .i64 (N:Int))) (.c (.i .i64 (i:Int))) x10 (.c (.i .i64 0)) (.c (.i .i64 ((p.length + 1:Nat):Int))) h)
      (fun m2 x10 x11 h hl=>by
        have ad:B9 1 (.c (.sl sid 0 P.length 1)) (.c (.i .i64 (i:Int)))=some (.c (.p sid i)):=by rw [H8 hil];simp
        have l1:A4 h (.c (.p sid i))=some (.c (.s p)):=F4 (hl.rd hr) (by rw [Z2,hpi];rfl) rfl
        have c2:¬ (((p.length + 1:Nat):Int) ≤ (p.length:Nat)):=by omega
        rw [A3f,A3f q M 0]
        simp only [C8,ad,l1,A4M,A22,c2,decide_false,G7])
      p.length 1 1 q h.length [] (h ++ [some (Row.mk [] true)]) (by omega) (by omega) (by omega) (by omega) (by simp) (hlow.new _) hlow.2.1 (by simp [encS])
    have eL:L=T3 p:=by
      rw [f4,List.nil_append]
      cases p with
      | nil=>rfl
      | cons c p=>rw [if_pos (by simp)];rfl
    subst eL
    have hsl:(T3 p).length ≤ 1000000:=by
      cases p with
      | nil=>simp [T3]
      | cons c p =>
        have:=B2b p []
        simp at hlp
        simp [T3];omega
    have hA:=B9i (w:=.c (.sl rid 0 (T3 p).length 1)) (ps:=T3 p) (hv.since f2) hs (Has.row f3 (by rw [P7,Nat.mul_one]) (A77 _)) hsl
    obtain ⟨a,ha⟩:=Option.isSome_iff_exists.1 hap
    rw [ha] at hA
    obtain ⟨h',k1⟩:=B2q (q:=q) hv hs hr hup hat hlen hP hq hP6 hN e (i + 1) M h1 (by omega) (by omega) f2
    refine ⟨h',?_⟩
    have ad:B9 1 (.c (.sl sid 0 P.length 1)) (.c (.i .i64 (i:Int)))=some (.c (.p sid i)):=by rw [H8 hil];simp
    have l1:A4 h1 (.c (.p sid i))=some (.c (.s p)):=F4 (f2.rd hr) (by rw [Z2,hpi];rfl) rfl
    have c2:¬ (((p.length + 1:Nat):Int) ≤ (p.length:Nat)):=by omega
    rw [B5h]
    simp only [C8,Y9,E7,c0,decide_true,G4]
    refine f1.trans ?_
    rw [A3f]
    rcases Nat.eq_zero_or_pos i with rfl | hpos
    · simp only [esc,ad,l1,c2,hA,atC,Option.getD_some,Option.isSome_some,show ¬ (0:Int) < ((0:Nat):Int) by omega,w1]
      exact k1
    · have cp:(0:Int) < (i:Int):=by omega
      obtain ⟨j,rfl⟩:∃ j,i=j + 1:=⟨i - 1,by omega⟩
      have w:IntKind.wrap .i64 (((j + 1:Nat):Int) - 1)=(j:Int):=by rw [wrap_i64 (by omega) (by omega)];omega
      have ad2:B9 1 (.c (.sl sid 0 P.length 1)) (.c (.i .i64 (j:Int)))=some (.c (.p sid j)):=by rw [H8 (by omega)];simp
      have l2:A4 h1 (.c (.p sid j))=some (.c (.s P[j])):=F4 (f2.rd hr) (by rw [Z2,List.getElem?_eq_getElem (by omega)];rfl) rfl
      have hb:G0 P[j] p=true:=by
        rw [hpe]
        exact List.pairwise_iff_getElem.1 hup j (j + 1) (by omega) hil (by omega)
      simp only [esc,ad,l1,c2,hA,atC,Option.getD_some,Option.isSome_some,cp,w,ad2,l2,C3L,hb,w1]
      exact k1
theorem B8W {q:Nat} {x6:Val} (hv:IsTree g v t) (hs:small t):∀ (e i M c:Nat),i + e=t.length → e < M → c ≤ i * 1000000 →
    A7o q M v x6 (.c (.i .i64 (c:Int))) (.c (.i .i64 (i:Int))) g=A4V q q v x6 (.c (.i .i64 ((c + G3 (t.drop i):Nat):Int))) (.c (.i .i64 0)) g
  | e,i,0,c,_,hm,_=>by omega
  | 0,i,M + 1,c,hi,hm,hc=>by
    have hl:=hv.len
    have c0:¬ ((i:Int) < (t.length:Nat)):=by omega
    rw [B5g,List.drop_of_length_le (by omega)]
    simp only [C8,hl,E7,c0,decide_false,G7];rfl
  | e + 1,i,M + 1,c,hi,hm,hc=>by
    have hl:=hv.len
    have h6:=hs.1
    have hil:i < t.length:=by omega
    have c0:(i:Int) < (t.length:Nat):=by omega
    have hx:=(hs.2 _ (List.getElem_mem hil)).2
    obtain ⟨id,o,cs,a1,a2,a3,a4⟩:=B2U hv hil
    obtain ⟨x,y,rfl,_,hy⟩:=a4
    have g6:=a3 6 y rfl
    have hyl:=hy.len
    have w1:=E2 (show i + 1 < 9223372036854775808 by omega)
    have w2:IntKind.wrap .i64 ((c:Int) + ((t[i]).names.length:Nat))=((c + (t[i]).names.length:Nat):Int):=by rw [wrap_i64 (by omega) (by omega)];omega
    have ih:=B8W (q:=q) (x6:=x6) hv hs e (i + 1) M (c + (t[i]).names.length) (by omega) (by omega) (by omega)
    have et:G3 (t.drop i)=(t[i]).names.length + G3 (t.drop (i + 1)):=by rw [List.drop_eq_getElem_cons hil];unfold G3;rw [List.map_cons,List.sum_cons]
    rw [B5g,et,← Nat.add_assoc]
    simp only [C8,hl,E7,c0,decide_true,G4,a1,M3,g6,hyl,I8,w1,w2]
    exact ih
end
theorem C95 {v:Val} {D:Dev} {h:A0} (hv:Has h v 256 D.length (D0 D)) (hD:okD D):A96 [v] h=some (.c (.b true),h):=by
  have key:∀ g,Has g v 256 D.length (D0 D) → ∃ g',A5V 1000001 [v] g=some (.c (.b true),g'):=by
    intro g hv
    have hl:=hv.len
    have n13:¬ (13:Int)=0:=by decide
    rw [C0h]
    by_cases c0:(60:Int) < (D.length:Nat)
    · exact ⟨_,by simp only [esc,hl,c0,B22] <;> rfl⟩
    · have hT:=C92 hv hD (by omega)
      have hH:Has (g ++ [some ⟨D0 D,true⟩]) (.c (.sl g.length 0 D.length 256)) 256 D.length (D0 D):=Has.tr (by simp) (X0 hD) (A5j D)
      cases cd:A1f D with
      | false =>
        obtain ⟨t,hO⟩:=D0E hH hD cd
        have hS4:A8 (g ++ [some (Row.mk (D0 D) true)] ++ t ++ [some (Row.mk [.i .i64 0,.i .i64 0,.i .u64 0,.nf] true)]) 4 (.c (.p (g ++ [some (Row.mk (D0 D) true)] ++ t).length 0)) (.a (vwC 0 0 0 .nf))=some (g ++ [some (Row.mk (D0 D) true)] ++ t ++ [some (Row.mk (vwC 0 0 0 .nf) true)]):=by rw [W8];rfl
        generalize g ++ [some (Row.mk (D0 D) true)] ++ t=H at *
        generalize vwC 0 0 0 .nf=V at *
        exact ⟨_,by simp only [C8,hl,A6X,c0,decide_false,G7,hT,hO,L5,List.getElem?_cons_zero,List.getElem?_cons_succ,Option.map_some,N5,L7,hS4,A19,ne_eq,n13,not_false_eq_true,decide_true,G4,B22] <;> rfl⟩
      | true =>
        obtain ⟨f,t,hO,hw⟩:=B9Q hH hD cd (by omega)
        obtain ⟨H,hHe⟩:∃ H,H=g ++ [some (Row.mk (D0 D) true)] ++ t:=⟨_,rfl⟩
        rw [← hHe] at hO hw
        obtain ⟨H1,hH1⟩:∃ H1,H1=H ++ [some (Row.mk (vwC D.length (J2 D) (A0U D) f) true)]:=⟨_,rfl⟩
        have hS4:A8 (H ++ [some (Row.mk [.i .i64 0,.i .i64 0,.i .u64 0,.nf] true)]) 4 (.c (.p H.length 0)) (.a (vwC D.length (J2 D) (A0U D) f))=some H1:=by rw [W8,hH1];rfl
        have r1:rd H1 H.length=some ⟨vwC D.length (J2 D) (A0U D) f,true⟩:=by rw [hH1];exact F1
        have hw1:IsView H1 f D:=by rw [hH1];exact hw.more _
        have l4:=F6 (n:=4) r1 rfl
        obtain ⟨tv,H2,t1,t2,t3⟩:=B9C (n:=J2 D) (m:=A0U D) hD hw1
        have htot:=C96 (D:=D) (n:=J2 D)
        have hPa:=B9F (c:=24) t2 A8I (by omega) B2v (by omega)
        obtain ⟨H3,hH3⟩:∃ H3,H3=H2 ++ [some (Row.mk (encS (V9 (F9 D (J2 D)))) true)]:=⟨_,rfl⟩
        rw [← hH3] at hPa
        have t3':IsTree H3 tv (F9 D (J2 D)):=by rw [hH3];exact t2.more _
        have hlenP:(V9 (F9 D (J2 D))).length ≤ G3 (F9 D (J2 D)):=Nat.le_trans (B8L _) (B7Z B2v)
        have hsum:=B8W (q:=1000001) (x6:=.c (.sl H2.length 0 (V9 (F9 D (J2 D))).length 1)) t3' A8I (F9 D (J2 D)).length 0 1000001 0 (by omega) (by have:=B2s (D:=D) (n:=J2 D);omega) (by omega)
        rw [List.drop_zero,Nat.zero_add] at hsum
        by_cases hne:kdV D (J2 D) 1=2
        · obtain ⟨h',k1⟩:=B2q (q:=1000001) (sid:=H2.length) (P:=V9 (F9 D (J2 D))) (N:=G3 (F9 D (J2 D))) t3' A8I (by rw [hH3];exact F1) (B2l _) (fun p hp=>C78 hne p ((A5x _ _).1 hp)) (fun p hp=>by
            have h1:=C7W B2v p ((A5x _ _).1 hp)
            have h2:(G3 (F9 D (J2 D)) + 1) * (24 + 1) ≤ (28896 + 1) * 25:=Nat.mul_le_mul (by omega) (by omega)
            omega) hlenP (by omega) (by omega) (by omega) (V9 (F9 D (J2 D))).length 0 1000001 H3 (by omega) (by omega) (Low.refl (Nat.le_refl _))
          refine ⟨h',?_⟩
          generalize vwC D.length (J2 D) (A0U D) f=V at *
          simp only [C8,hl,A6X,c0,decide_false,G7,hT,hO,L5,List.getElem?_cons_zero,List.getElem?_cons_succ,Option.map_some,N5,L7,hS4,A19,ne_eq,eq_self,not_true_eq_false,l4,t1,hPa]
          exact hsum.trans k1
        · have et:F9 D (J2 D)=[]:=by unfold F9;rw [if_neg hne]
          have eP:V9 (F9 D (J2 D))=[]:=by rw [et];decide +kernel
          obtain ⟨h',k1⟩:=B2q (q:=1000001) (sid:=H2.length) (P:=V9 (F9 D (J2 D))) (N:=G3 (F9 D (J2 D))) t3' A8I (by rw [hH3];exact F1) (B2l _) (fun p hp=>by rw [eP] at hp;cases hp) (fun p hp=>by rw [eP] at hp;cases hp) hlenP (by omega) (by omega) (by omega) (V9 (F9 D (J2 D))).length 0 1000001 H3 (by omega) (by omega) (Low.refl (Nat.le_refl _))
          refine ⟨h',?_⟩
          generalize vwC D.length (J2 D) (A0U D) f=V at *
          simp only [C8,hl,A6X,c0,decide_false,G7,hT,hO,L5,List.getElem?_cons_zero,List.getElem?_cons_succ,Option.map_some,N5,L7,hS4,A19,ne_eq,eq_self,not_true_eq_false,l4,t1,hPa]
          exact hsum.trans k1
  obtain ⟨g',e⟩:=key (ro h) hv.ro
  exact C1Q e rfl
end Go.Proofs.Yteckncopbicmcaa
end
section
namespace Go.Proofs.Yteckncopbicmcaa
open Go
def A8C:List Char:=(([104,97,114,110,101,115,115,32,51,49,54,98,101,55,55,56,49,56,49,48,51,52,100,97,50,48,101,52,97,51,101,52,51,52,99,57,98,57,102,98,54,100,100,57,101,102,102,56,55,53,101,98,52,54,101,102,100,49,100,102,57,48,49,49,97,99,98,52,98,55,49,97,32,99,117,116,32,97,116,32,101,115,99,104,101,97,116,47,101,115,99,104,101,97,116,108,97,119,50,52,46,68,114,101,97,100,79,110,99,101,32,101,115,99,104,101,97,116,47,101,115,99,104,101,97,116,108,97,119,50,53,46,84,114,101,101,67,108,111,115,101,115,32,101,115,99,104,101,97,116,47,101,115,99,104,101,97,116,108,97,119,50,53,46,84,114,101,101,80,97,116,104,115]:List Nat).map Char.ofNat)
set_option maxRecDepth 100000
theorem C7X:ownKnob Try.prog.godebug=none:=by kernel_rfl
theorem C6U:laidOutB Try.prog=true:=by kernel_rfl
theorem start_eq:Try.prog.initOrder=String.ofList A8C:=by kernel_rfl
theorem C9K:Try.prog.initOrder.toList=A8C:=by rw [start_eq,String.toList_ofList]
def startRest:List (List Char):=(([[99,117,116],[97,116],[101,115,99,104,101,97,116,47,101,115,99,104,101,97,116,108,97,119,50,52,46,68,114,101,97,100,79,110,99,101],[101,115,99,104,101,97,116,47,101,115,99,104,101,97,116,108,97,119,50,53,46,84,114,101,101,67,108,111,115,101,115],[101,115,99,104,101,97,116,47,101,115,99,104,101,97,116,108,97,119,50,53,46,84,114,101,101,80,97,116,104,115]]:List (List Nat)).map (fun l=>l.map Char.ofNat))
theorem C9G:wordsSigns A8C=(([104,97,114,110,101,115,115]:List Nat).map Char.ofNat) :: (([51,49,54,98,101,55,55,56,49,56,49,48,51,52,100,97,50,48,101,52,97,51,101,52,51,52,99,57,98,57,102,98,54,100,100,57,101,102,102,56,55,53,101,98,52,54,101,102,100,49,100,102,57,48,49,49,97,99,98,52,98,55,49,97]:List Nat).map Char.ofNat) :: startRest:=by kernel_rfl
theorem C9M:isSumSigns ((([51,49,54,98,101,55,55,56,49,56,49,48,51,52,100,97,50,48,101,52,97,51,101,52,51,52,99,57,98,57,102,98,54,100,100,57,101,102,102,56,55,53,101,98,52,54,101,102,100,49,100,102,57,48,49,49,97,99,98,52,98,55,49,97]:List Nat).map Char.ofNat))=true:=by decide +kernel
theorem C6d : ((([104, 97, 114, 110, 101, 115, 115] : List Nat).map Char.ofNat) == "harness".toList) = true := by decide +kernel
theorem C4q (h s : List Char) (r : List (List Char)) (h1 : (h == "harness".toList) = true) (h2 : isSumSigns s = true) : behindMainWord (h :: s :: r) = r := by
  unfold behindMainWord
  simp only [h1,h2,Bool.true_or,Bool.true_and,if_true]
theorem C4p:behindMainWord (wordsSigns A8C)=startRest:=by rw [C9G];exact C4q _ _ _ C6d C9M
theorem start_words:behindMainWord (wordsSigns Try.prog.initOrder.toList)=startRest:=by rw [C9K];exact C4p
def C9J:List (List Char):=startRest.drop 1
theorem B11 : startRest = "cut".toList :: C9J := by decide +kernel
theorem C68 {P : Program} {rest : List (List Char)} (h : behindMainWord (wordsSigns P.initOrder.toList) = "cut".toList :: rest) : P.make = some .cut := by
  have e1 : ("cut".toList == "gc".toList) = false := by decide +kernel
  have e2 : ("cut".toList == "spec".toList) = false := by decide +kernel
  have e3 : ("cut".toList == "cut".toList) = true := by decide +kernel
  unfold Program.make
  rw [h]
  simp only [e1,e2,e3,Bool.or_self,Bool.true_or,Bool.false_eq_true,if_false,if_true]
theorem C69:Try.prog.make=some .cut:=C68 (start_words.trans B11)
theorem B8V {w:List Char} {ws:List (List Char)}:∀ os:List String,(os.all fun o=>!(w == o.toList))=true → stripLifts os (w :: ws)=([],w :: ws)
  | [],_=>rfl
  | o :: os,h=>by
    simp only [List.all_cons,Bool.and_eq_true,Bool.not_eq_true'] at h
    unfold stripLifts
    rw [h.1,if_neg (by simp)]
    exact B8V os h.2
theorem B8U (rest : List (List Char)) : stripLifts liftWords ("cut".toList :: rest) = ([], "cut".toList :: rest) := B8V _ (by decide +kernel)
theorem C6V:Try.prog.laysLater=false:=by kernel_rfl
theorem C8s:Try.prog.bearsReflect=false:=by kernel_rfl
theorem C46:Try.prog.doorFits []=true:=by kernel_rfl
theorem C5D {P : Program} {rest : List (List Char)} (h : behindMainWord (wordsSigns P.initOrder.toList) = "cut".toList :: rest) (h1 : P.laysLater = false) (h2 : P.bearsReflect = false) (h3 : P.doorFits [] = true) : P.mayEnter = true := by
  unfold Program.mayEnter
  rw [h]
  simp only [B8U,h1,h2,h3]
  simp
theorem C7b:Try.prog.mayEnter=true:=C5D (start_words.trans B11) C6V C8s C46
theorem C61 {P : Program} {rest : List (List Char)} (h : behindMainWord (wordsSigns P.initOrder.toList) = "cut".toList :: rest) : P.liftsFinal = false := by
  unfold Program.liftsFinal Program.headLifts
  rw [h]
  simp only [B8U]
  simp
theorem C62:Try.prog.liftsFinal=false:=C61 (start_words.trans B11)
end Go.Proofs.Yteckncopbicmcaa
end
