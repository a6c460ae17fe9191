/- What the proof of this claim leans on, part 5. -/
import Derived.Test.YteckncopbicmcaaGreatFTreeTellsp4
set_option linter.all false
section
namespace Go.Proofs.YteckncopbicmcaaGreat
open Go Go.Esc
def F3 (t:List Nd) (a:Int):List Ent:=match K1 t a with
  | some x=>if x.kind=2 then x.names else []
  | none=>[]
def G4 (t:List Nd):Nat:=(t.map fun x=>x.names.length).sum
def small (t:List Nd):Prop:=t.length ≤ 1000000 ∧ ∀ x ∈ t,x.data.length ≤ 1000000 ∧ x.names.length ≤ 1000000
abbrev I8:=List (Int × List UInt8) × E9
def Q7 (q:List UInt8) (s:I8) (e:Ent):I8:=(if e.2 ∈ s.1.map (·.1) then s.1 else s.1 ++ [(e.2,q ++ 47 :: e.1)],s.2 ++ [q ++ 47 :: e.1])
def V9 (q:List UInt8) (s:I8) (es:List Ent):I8:=es.foldl (Q7 q) s
def ways (N:Int → List Ent):Nat → Nat → I8 → I8
  | 0,_,s=>s
  | e + 1,i,s=>if h:i < s.1.length then ways N e (i + 1) (V9 (s.1[i]).2 s (N (s.1[i]).1)) else s
def outW (t:List Nd):E9:=(ways (F3 t) (G4 t + 2) 0 ([(1,[])],[])).2
def Q3 (t:List Nd):E9:=J8 (outW t)
theorem A9L {q:List UInt8} {s:I8} {e:Ent} {es:List Ent}:V9 q s (e :: es)=V9 q (Q7 q s e) es:=rfl
theorem D3S {q:List UInt8} {s:I8} {e:Ent}:s.1 <+: (Q7 q s e).1:=by
  unfold Q7
  dsimp only
  split
  · exact List.prefix_refl _
  · exact List.prefix_append _ _
structure WayI (c:Nat) (N:Int → List Ent) (i:Nat) (s:I8):Prop where
  nd:(s.1.map (·.1)).Nodup
  len:s.1.length ≤ 1 + s.2.length
  out:s.2.length=((s.1.take i).map fun p=>(N p.1).length).sum
  txt:∀ (j:Nat) (p:Int × List UInt8),s.1[j]? = some p → p.2.length ≤ j * (c + 1)
  hi:i ≤ s.1.length
theorem WayI.one {c:Nat} {N:Int → List Ent}:WayI c N 0 ([(1,[])],[]) :=
  ⟨by simp,by simp,rfl,fun j p h=>by
    cases j with
    | zero=>simp at h;subst h;simp
    | succ j=>simp at h,by simp⟩
structure WayJ (c i:Nat) (q:List UInt8) (s:I8) (k:Nat) (s':I8):Prop where
  nd:(s'.1.map (·.1)).Nodup
  pre:s.1 <+: s'.1
  len:s'.1.length ≤ 1 + s'.2.length
  out:s'.2.length=s.2.length + k
  txt:∀ (j:Nat) (p:Int × List UInt8),s'.1[j]? = some p → p.2.length ≤ j * (c + 1)
theorem WayJ.step {c i:Nat} {q:List UInt8} {s s':I8} {k:Nat} {e:Ent} (h:WayJ c i q s k s') (hi:i < s.1.length) (hq:q.length ≤ i * (c + 1)) (he:e.1.length ≤ c):WayJ c i q s (k + 1) (Q7 q s' e):=by
  have hpl:=h.pre.length_le
  refine ⟨?_,h.pre.trans D3S,?_,?_,fun j p hj=>?_⟩
  · unfold Q7
    dsimp only
    split
    · exact h.nd
    · rename_i hn
      rw [List.map_append,List.nodup_append]
      exact ⟨h.nd,by simp,fun a ha b hb e=>by simp at hb;subst hb;subst e;exact hn ha⟩
  · have:=h.len
    unfold Q7
    dsimp only
    split <;> simp <;> omega
  · have:=h.out
    unfold Q7
    simp;omega
  · unfold Q7 at hj
    dsimp only at hj
    split at hj
    · exact h.txt j p hj
    · by_cases hl:j < s'.1.length
      · rw [List.getElem?_append_left hl] at hj;exact h.txt j p hj
      · rw [List.getElem?_append_right (by omega)] at hj
        cases hjj:j - s'.1.length with
        | zero =>
          rw [hjj] at hj
          simp at hj
          subst hj
          have h1:i * (c + 1) + (c + 1) ≤ j * (c + 1):=by
            rw [← Nat.succ_mul]
            exact Nat.mul_le_mul_right _ (by omega)
          simp
          omega
        | succ y=>rw [hjj] at hj;simp at hj
theorem WayJ.all {c i:Nat} {q:List UInt8} {s:I8} (hi:i < s.1.length) (hq:q.length ≤ i * (c + 1)):∀ (es:List Ent) (k:Nat) (s':I8),(∀ e ∈ es,e.1.length ≤ c) → WayJ c i q s k s' → WayJ c i q s (k + es.length) (V9 q s' es)
  | [],k,s',_,h=>h
  | e :: es,k,s',he,h=>by
    rw [A9L,List.length_cons,show k + (es.length + 1)=k + 1 + es.length by omega]
    exact WayJ.all hi hq es (k + 1) _ (fun x hx=>he x (by simp [hx])) (h.step hi hq (he e (by simp)))
theorem WayI.begin {c:Nat} {N:Int → List Ent} {i:Nat} {s:I8} (h:WayI c N i s) (q:List UInt8):WayJ c i q s 0 s :=
  ⟨h.nd,List.prefix_refl _,h.len,by omega,h.txt⟩
theorem D2V {α:Type} {l m:List α} {i:Nat} (h:l <+: m) (hi:i ≤ l.length):m.take i=l.take i:=by
  obtain ⟨t,rfl⟩:=h
  rw [List.take_append_of_le_length hi]
theorem WayI.step {c:Nat} {N:Int → List Ent} (hN:∀ a,∀ e ∈ N a,e.1.length ≤ c) {i:Nat} {s:I8} (h:WayI c N i s) (hi:i < s.1.length):WayI c N (i + 1) (V9 (s.1[i]).2 s (N (s.1[i]).1)):=by
  have hq:(s.1[i]).2.length ≤ i * (c + 1):=h.txt i _ (List.getElem?_eq_getElem hi)
  have J:=WayJ.all hi hq (N (s.1[i]).1) 0 s (hN _) (h.begin _)
  have hpl:=J.pre.length_le
  refine ⟨J.nd,J.len,?_,J.txt,by omega⟩
  rw [J.out,h.out,List.take_add_one]
  have h2:(V9 (s.1[i]).2 s (N (s.1[i]).1)).1[i]? = some s.1[i]:=List.prefix_iff_getElem?.1 J.pre i hi
  rw [h2,D2V J.pre (by omega),List.map_append,List.sum_append,Option.toList_some,List.map_cons,List.map_nil,List.sum_cons,List.sum_nil,Nat.zero_add,Nat.add_zero]
theorem B6V {K:List Int} (hK:K.Nodup):∀ t:List Nd,(K.map fun a=>(F3 t a).length).sum ≤ G4 t
  | []=>by
    have:∀ K:List Int,(K.map fun a=>(F3 [] a).length).sum=0:=by
      intro K
      induction K with
      | nil=>rfl
      | cons a K ih=>rw [List.map_cons,List.sum_cons,ih];rfl
    rw [this];exact Nat.zero_le _
  | x :: t=>by
    have key:∀ K:List Int,K.Nodup → (K.map fun a=>(F3 (x :: t) a).length).sum ≤ (if x.ino ∈ K then x.names.length else 0) + (K.map fun a=>(F3 t a).length).sum:=by
      intro K hK
      induction K with
      | nil=>simp
      | cons a K ih =>
        have ih:=ih hK.of_cons
        rw [List.map_cons,List.sum_cons,List.map_cons,List.sum_cons]
        by_cases e:x.ino=a
        · have hn:x.ino ∉ K:=by rw [e];exact (List.nodup_cons.1 hK).1
          rw [if_neg hn] at ih
          rw [if_pos (by simp [e])]
          have h1:(F3 (x :: t) a).length ≤ x.names.length:=by
            unfold F3 K1
            rw [List.find?_cons_of_pos (by simpa using e)]
            dsimp only
            split <;> simp
          omega
        · have h1:F3 (x :: t) a=F3 t a:=by
            unfold F3 K1
            rw [List.find?_cons_of_neg (by simpa using e)]
          rw [h1]
          have h2:(x.ino ∈ a :: K) ↔ x.ino ∈ K:=by simp [e]
          simp only [h2]
          omega
    have h1:=key K hK
    have h2:=B6V hK t
    have h3:G4 (x :: t)=x.names.length + G4 t:=by simp [G4]
    rw [h3]
    split at h1 <;> omega
theorem WayI.tot {c:Nat} {t:List Nd} {i:Nat} {s:I8} (h:WayI c (F3 t) i s):s.2.length ≤ G4 t ∧ s.1.length ≤ G4 t + 1:=by
  have h1:=h.out
  have h2:(((s.1.take i).map (·.1)).map fun a=>(F3 t a).length).sum ≤ G4 t:=by
    refine B6V ?_ t
    rw [List.map_take]
    exact h.nd.sublist (List.take_sublist _ _)
  rw [List.map_map] at h2
  have h3:=h.len
  have h4:s.2.length ≤ G4 t:=by rw [h1];exact h2
  omega
theorem C1S {c:Nat} {t:List Nd} (hN:∀ a,∀ e ∈ F3 t a,e.1.length ≤ c):∀ (e i:Nat) (s:I8),WayI c (F3 t) i s → ∃ j,WayI c (F3 t) j (ways (F3 t) e i s)
  | 0,i,s,h=>⟨i,h⟩
  | e + 1,i,s,h=>by
    unfold ways
    by_cases hl:i < s.1.length
    · rw [dif_pos hl];exact C1S hN e (i + 1) _ (h.step hN hl)
    · rw [dif_neg hl];exact ⟨i,h⟩
theorem B2Z {c:Nat} {t:List Nd} (hN:∀ a,∀ e ∈ F3 t a,e.1.length ≤ c):(outW t).length ≤ G4 t:=by
  obtain ⟨j,h⟩:=C1S hN (G4 t + 2) 0 _ WayI.one
  exact h.tot.1
def B3z (x:Nd) (s:List UInt8):Option Int:=match x.names.find? fun e=>decide (e.1=s) with
  | some e=>if 0 ≤ e.2 then some e.2 else none
  | none=>none
def A2t (t:List Nd):Int → E9 → Option Int
  | a,[]=>if (K1 t a).isSome=true then some a else none
  | a,s :: r=>match K1 t a with
    | none=>none
    | some x=>match B3z x s with
      | some b=>A2t t b r
      | none=>none
end Go.Proofs.YteckncopbicmcaaGreat
end
noncomputable section
namespace Go.Proofs.YteckncopbicmcaaGreat
open Go Go.Esc
set_option maxRecDepth 100000
def C1L:ACode:=.ops [aO 51 (.bin .add (.t 30) (.v (.c (.i .i64 1)))),aO 30 (.mv (.t 51))]
def B30:ACode:=.seq [2,4,6,28,29,30,31] (.ops [aO 31 (.bin .lss (.t 30) (.t 29))]) (.seq [2,4,6,28,29,30] (.cond (.t 31) .skip (.exit 0)) (.seq [2,4,6,28,29,30] (.block 1 (.seq [2,4,6,8,28,29,30] (.ops [aO 32 (.iAddrL 2 (.t 28) (.t 30)),aO 33 (.loadN 2 (.t 32)),aO 8 (.alloc ([.s [],.i .i64 0])),aN (.storeN 2 (.t 8) (.t 33))]) (.seq [2,4,6,8,9,28,29,30] (.ops [aO 34 (.loadN 4 (.t 2)),aO 35 (.fAddr (.t 8) 1),aO 36 (.load1 (.t 35)),aO 37 (.call 19 [(.t 34),(.t 36)]),aO 38 (.fld1 (.t 37) 0),aO 9 (.mv (.t 38))]) (.seq [2,4,6,8,28,29,30,44] (.ops [aO 39 (.mv (.t 9)),aO 40 (.bin .eql (.t 39) (.v (.c (.i .i64 1)))),aO 41 (.mv (.t 40)),aG 42 41 false (.mv (.t 9)),aG 43 41 false (.bin .eql (.t 42) (.v (.c (.i .i64 2)))),aO 44 (.pick (.t 41) (.v (.c (.b true))) (.t 43))]) (.cond (.t 44) (.ops [aO 45 (.fAddr (.t 6) 6),aO 46 (.load1 (.t 45)),aO 47 (.loadN 2 (.t 8)),aO 48 (.buildSl 2 1 (([.s [],.i .i64 0])) [(0,2,(.t 47))]),aO 49 (.app 2 (.t 46) (.t 48)),aO 50 (.fAddr (.t 6) 6),aN (.store1 (.t 50) (.t 49))]) .skip))))) C1L))
def C1K:ACode:=.seq [4] (.ops [aO 52 (.loadN 7 (.t 6)),aN (.storeN 7 (.t 4) (.t 52))]) .ret
def A_tree_node:AFn:=⟨.seq [1,2,4] (.ops [aO 2 (.box (.t 0)),aO 4 (.alloc ([.i .i64 0,.i .i64 0,.i .i64 0,.i .i64 0,.i .i64 0,.ns,.ns]))]) (.seq [1,2,4,5] (.ops [aO 10 (.loadN 4 (.t 2)),aO 11 (.mv (.t 1)),aO 12 (.call 19 [(.t 10),(.t 11)]),aO 5 (.alloc ([.i .i64 0,.i .i64 0,.i .i64 0,.i .i64 0,.i .i64 0,.i .i64 0,.i .i64 0,.i .i64 0,.i .i64 0,.i .i64 0,.i .i64 0])),aN (.storeN 11 (.t 5) (.t 12))]) (.seq [2,4,5,6] (.draw 1 [aO 13 (.mv (.t 1)),aO 14 (.fAddr (.t 5) 0),aO 15 (.load1 (.t 14)),aO 16 (.fAddr (.t 5) 1),aO 17 (.load1 (.t 16)),aO 18 (.fAddr (.t 5) 3),aO 19 (.load1 (.t 18)),aO 20 (.loadN 11 (.t 5)),aO 21 (.call 197 [(.t 20)]),aO 22 (.loadN 4 (.t 2)),aO 23 (.loadN 11 (.t 5)),aO 24 (.call 64 [(.t 22),(.t 23)]),aO 25 (.build ([.i .i64 0,.i .i64 0,.i .i64 0,.i .i64 0,.i .i64 0,.ns,.ns]) [(0,1,(.t 13)),(1,1,(.t 15)),(2,1,(.t 17)),(3,1,(.t 19)),(4,1,(.t 21)),(5,1,(.t 24))]),aS 6 0 (.alloc ([.i .i64 0,.i .i64 0,.i .i64 0,.i .i64 0,.i .i64 0,.ns,.ns]))] [aN (.storeN 7 (.t 6) (.t 25))]) (.seq [4,6] (.seq [2,4,6,28,29,30] (.ops [aO 26 (.loadN 4 (.t 2)),aO 27 (.loadN 11 (.t 5)),aO 28 (.call 28 [(.t 26),(.t 27)]),aO 29 (.len (.t 28)),aO 30 (.mv (.v (.c (.i .i64 0))))]) (.block 0 (.loop [2,4,6,28,29,30] B30))) C1K))),[.cellN 4 7]⟩
def A1V:B0:=B1 19 A0P (B1 197 A1g (B1 64 A4O (B1 28 A4A C0)))
def D3F (n:Nat):A9 (Val × A0):=E4 [4,6] (ax A1V n C1K) A_tree_node.fin
def B33 (n:Nat):A9 (Val × A0):=D6 0 (D3F n)
def A9I (n m:Nat) (x2 x4 x6 x28 x29 x30:Val) (h:A0):A6:=C6 (ax A1V n B30) [2,4,6,28,29,30] (B33 n) m [(2,x2),(4,x4),(6,x6),(28,x28),(29,x29),(30,x30)] h
def A7r (n:Nat) (args:List Val) (h:A0):A6:=ax A1V n A_tree_node.code A_tree_node.fin (params 0 args) h
def D3G (n m:Nat):A9 (Val × A0):=P9 [2,4,6,28,29,30] (C6 (ax A1V n B30) [2,4,6,28,29,30] (B33 n) m) (B33 n)
def B31 (n m:Nat) (x2 x4 x6 x28 x29 x30:Val) (h:A0):A6:=hold ((ax A1V n C1L) (D3G n m) [(2,x2),(4,x4),(6,x6),(28,x28),(29,x29),(30,x30)] h)
theorem C3u (n:Nat) (a0 a1:Val) (h:A0):A7r n [a0,a1] h=bnd (cells? a0) fun c1=>bnd (A4 ((h ++ [some (Row.mk (c1) true)]) ++ [some (Row.mk ([.i .i64 0,.i .i64 0,.i .i64 0,.i .i64 0,.i .i64 0,.ns,.ns]) true)]) 4 (.c (.p h.length 0))) fun v2=>bnd (A0P [v2,a1] ((h ++ [some (Row.mk (c1) true)]) ++ [some (Row.mk ([.i .i64 0,.i .i64 0,.i .i64 0,.i .i64 0,.i .i64 0,.ns,.ns]) true)])) fun p3=>bnd (B4 (p3.2 ++ [some (Row.mk ([.i .i64 0,.i .i64 0,.i .i64 0,.i .i64 0,.i .i64 0,.i .i64 0,.i .i64 0,.i .i64 0,.i .i64 0,.i .i64 0,.i .i64 0]) true)]) 11 (.c (.p p3.2.length 0)) p3.1) fun h4=>bnd (A7 (.c (.p p3.2.length 0)) 0) fun v5=>bnd (A3 h4 v5) fun v6=>bnd (A7 (.c (.p p3.2.length 0)) 1) fun v7=>bnd (A3 h4 v7) fun v8=>bnd (A7 (.c (.p p3.2.length 0)) 3) fun v9=>bnd (A3 h4 v9) fun v10=>bnd (A4 h4 11 (.c (.p p3.2.length 0))) fun v11=>bnd (quiet (h4 ++ [none]) (A1g [v11] (h4 ++ [none]))) fun p12=>bnd (A4 h4 4 (.c (.p h.length 0))) fun v13=>bnd (A4 h4 11 (.c (.p p3.2.length 0))) fun v14=>bnd (quiet p12.2 (A4O [v13,v14] p12.2)) fun p15=>bnd (A8 ([.i .i64 0,.i .i64 0,.i .i64 0,.i .i64 0,.i .i64 0,.ns,.ns]) [(0,1,a1),(1,1,v6),(2,1,v8),(3,1,v10),(4,1,p12.1),(5,1,p15.1)]) fun c16=>bnd (B4 (p15.2.set (h4.length + 0) (some (Row.mk ([.i .i64 0,.i .i64 0,.i .i64 0,.i .i64 0,.i .i64 0,.ns,.ns]) true))) 7 (.c (.p (h4.length + 0) 0)) (.a c16)) fun h17=>bnd (A4 h17 4 (.c (.p h.length 0))) fun v18=>bnd (A4 h17 11 (.c (.p p3.2.length 0))) fun v19=>bnd (A4A [v18,v19] h17) fun p20=>bnd (D5 p20.1) fun v21=>A9I n n (.c (.p h.length 0)) (.c (.p (h ++ [some (Row.mk (c1) true)]).length 0)) (.c (.p (h4.length + 0) 0)) p20.1 v21 (.c (.i .i64 0)) p20.2:=by kernel_rfl
theorem C1M (n m:Nat) (x2 x4 x6 x28 x29 x30:Val) (h:A0):A9I n (m + 1) x2 x4 x6 x28 x29 x30 h=bnd (A2 .lss x30 x29) fun v22=>cnd v22 (bnd (B7 2 x28 x30) fun v23=>bnd (A4 h 2 v23) fun v24=>bnd (B4 (h ++ [some (Row.mk ([.s [],.i .i64 0]) true)]) 2 (.c (.p h.length 0)) v24) fun h25=>bnd (A4 h25 4 x2) fun v26=>bnd (A7 (.c (.p h.length 0)) 1) fun v27=>bnd (A3 h25 v27) fun v28=>bnd (A0P [v26,v28] h25) fun p29=>bnd (A0S p29.1 0) fun v30=>bnd (A2 .eql v30 (.c (.i .i64 1))) fun v31=>bnd (gd v31 false (some (v30,p29.2)) (some (.no,p29.2))) fun p32=>bnd (gd v31 false (bnd (A2 .eql p32.1 (.c (.i .i64 2))) fun v33=>some (v33,p32.2)) (some (.no,p32.2))) fun p34=>bnd (C4 v31 (.c (.b true)) p34.1) fun v35=>cnd v35 (bnd (A7 x6 6) fun v36=>bnd (A3 p34.2 v36) fun v37=>bnd (A4 p34.2 2 (.c (.p h.length 0))) fun v38=>bnd (A8 (([.s [],.i .i64 0])) [(0,2,v38)]) fun c39=>bnd (F0 (p34.2 ++ [some (Row.mk (c39) true)]) 2 v37 (.c (.sl p34.2.length 0 1 2))) fun p40=>bnd (A7 x6 6) fun v41=>bnd (E7 p40.2 v41 p40.1) fun h42=>B31 n m x2 x4 x6 x28 x29 x30 h42) (B31 n m x2 x4 x6 x28 x29 x30 p34.2)) (bnd (A4 h 7 x6) fun v43=>bnd (B4 h 7 x4 v43) fun h44=>mp (A4 h44 7 x4) fun v=>(v,h44)):=by kernel_rfl
theorem B32 (n m:Nat) (x2 x4 x6 x28 x29 x30:Val) (h:A0):B31 n m x2 x4 x6 x28 x29 x30 h=bnd (A2 .add x30 (.c (.i .i64 1))) fun v45=>A9I n m x2 x4 x6 x28 x29 v45 h:=by kernel_rfl
theorem K_tree_node:FnK Tryz.prog 125 A_tree_node A1V A7r:=.mk' (B3 B4G (B3 B4n (B3 C4z (B3 C3T C2)))) Tryz.func125 (by kernel_rfl) (fun _ _ _=>C1)
def A3i:Fun:=tidy (Lim A_tree_node A1V)
theorem C6a:SOk Tryz.prog 125 A3i:=K_tree_node.sok
theorem B4E:A7A A7r A3i:=K_tree_node.tidy
def A_tree_Of_1:AFn:=⟨.seq [0,1,2,3,6] (.ops [aO 8 (.load1 (.t 1)),aO 9 (.mv (.t 0)),aO 10 (.look (some .i64) (.a ([.i .i64 0,.i .i64 0,.i .i64 0,.i .i64 0,.i .i64 0,.ns,.ns])) true (.t 8) (.t 9)),aO 7 (.mv (.t 10)),aO 11 (.ext (.t 7) 0),aO 12 (.ext (.t 7) 1),aO 5 (.alloc ([.i .i64 0,.i .i64 0,.i .i64 0,.i .i64 0,.i .i64 0,.ns,.ns])),aN (.storeN 7 (.t 5) (.t 11)),aO 6 (.mv (.t 12))]) (.seq [0,1,2,3,14] (.ops [aO 13 (.mv (.t 6)),aO 14 (.un .not (.t 13))]) (.cond (.t 14) (.seq [0,3] (.draw 0 [aO 15 (.load1 (.t 1)),aO 16 (.mv (.t 0)),aO 17 (.loadN 4 (.t 2)),aO 18 (.mv (.t 0)),aO 19 (.call 125 [(.t 17),(.t 18)])] [aN (.mput (some .i64) (.t 15) (.t 16) (.t 19))]) (.ops [aO 20 (.load1 (.t 3)),aO 21 (.mv (.t 0)),aO 22 (.buildSl 1 1 ([.i .i64 0]) [(0,1,(.t 21))]),aO 23 (.app 1 (.t 20) (.t 22)),aN (.store1 (.t 3) (.t 23))])) .skip)),[]⟩
def B0x:B0:=B1 125 A3i C0
def B04 (n:Nat) (args:List Val) (h:A0):A6:=ax B0x n A_tree_Of_1.code A_tree_Of_1.fin (params 0 args) h
theorem B4b (n:Nat) (a0 a1 a2 a3:Val) (h:A0):B04 n [a0,a1,a2,a3] h=bnd (A3 h a1) fun v1=>bnd (P4 h (some .i64) (.a ([.i .i64 0,.i .i64 0,.i .i64 0,.i .i64 0,.i .i64 0,.ns,.ns])) true v1 a0) fun v2=>bnd (C5 v2 0) fun v3=>bnd (C5 v2 1) fun v4=>bnd (B4 (h ++ [some (Row.mk ([.i .i64 0,.i .i64 0,.i .i64 0,.i .i64 0,.i .i64 0,.ns,.ns]) true)]) 7 (.c (.p h.length 0)) v3) fun h5=>bnd (aun .not v4) fun v6=>cnd v6 (bnd (A3 h5 a1) fun v7=>bnd (A4 h5 4 a2) fun v8=>bnd (quiet (h5 ++ []) (A3i [v8,a0] (h5 ++ []))) fun p9=>bnd (U9 p9.2 (some .i64) v7 a0 p9.1) fun h10=>bnd (A3 h10 a3) fun v11=>bnd (A8 ([.i .i64 0]) [(0,1,a0)]) fun c12=>bnd (F0 (h10 ++ [some (Row.mk (c12) true)]) 1 v11 (.c (.sl h10.length 0 1 1))) fun p13=>bnd (E7 p13.2 a3 p13.1) fun h14=>D3 [] h14) (D3 [] h5):=by kernel_rfl
theorem K_tree_Of_1:FnK Tryz.prog 124 A_tree_Of_1 B0x B04:=.mk' (B3 C6a C2) Tryz.func124 (by kernel_rfl) (fun _ _ _=>C1)
def A2g:Fun:=Lim A_tree_Of_1 B0x
theorem C53:SOk Tryz.prog 124 A2g:=K_tree_Of_1.ok
theorem B4B:OfT B04 A2g:=K_tree_Of_1.of
def C1p:ACode:=.seq [3,4,5,6,34,35,36,37] (.ops [aO 37 (.bin .lss (.t 36) (.t 35))]) (.seq [3,4,5,6,34,35,36] (.cond (.t 37) .skip (.exit 2)) (.seq [3,4,5,6,34,35,36] (.block 3 (.seq [3,4,5,6,8,34,35,36] (.ops [aO 38 (.iAddrL 2 (.t 34) (.t 36)),aO 39 (.loadN 2 (.t 38)),aO 8 (.alloc ([.s [],.i .i64 0])),aN (.storeN 2 (.t 8) (.t 39))]) (.ops [aO 40 (.mv (.t 5)),aO 41 (.fAddr (.t 8) 1),aO 42 (.load1 (.t 41)),aO 43 (.callV (.t 40) [(.t 42)])]))) (.ops [aO 44 (.bin .add (.t 36) (.v (.c (.i .i64 1)))),aO 36 (.mv (.t 44))])))
def C1q:ACode:=.ops [aO 26 (.mv (.t 6)),aO 27 (.bin .add (.t 26) (.v (.c (.i .i64 1)))),aO 6 (.mv (.t 27))]
def B3N:ACode:=.seq [3,4,5,6] (.seq [3,4,5,6,25] (.ops [aO 22 (.mv (.t 6)),aO 23 (.load1 (.t 4)),aO 24 (.len (.t 23)),aO 25 (.bin .lss (.t 22) (.t 24))]) (.cond (.t 25) .skip (.exit 0))) (.seq [3,4,5,6] (.block 1 (.seq [3,4,5,6,34,35,36] (.draw 0 [aO 28 (.load1 (.t 3)),aO 29 (.load1 (.t 4)),aO 30 (.mv (.t 6)),aO 31 (.iAddrL 1 (.t 29) (.t 30)),aO 32 (.load1 (.t 31)),aO 33 (.look (some .i64) (.a ([.i .i64 0,.i .i64 0,.i .i64 0,.i .i64 0,.i .i64 0,.ns,.ns])) false (.t 28) (.t 32)),aO 34 (.fld1 (.t 33) 6),aO 35 (.len (.t 34)),aO 36 (.mv (.v (.c (.i .i64 0))))] []) (.block 2 (.loop [3,4,5,6,34,35,36] C1p)))) C1q)
def C1s:ACode:=.ops [aO 59 (.bin .add (.t 45) (.v (.c (.i .i64 1)))),aO 45 (.mv (.t 59))]
def B3O:ACode:=.seq [3,9,45,46] (.ops [aO 46 (.bin .lss (.t 45) (.v (.c (.i .i64 129))))]) (.seq [3,9,45] (.cond (.t 46) .skip (.exit 4)) (.seq [3,9,45] (.block 5 (.seq [3,9,10,45] (.ops [aO 47 (.mv (.t 45)),aO 10 (.mv (.t 47))]) (.seq [3,9,11,12,45] (.ops [aO 49 (.load1 (.t 3)),aO 50 (.mv (.t 10)),aO 51 (.look (some .i64) (.a ([.i .i64 0,.i .i64 0,.i .i64 0,.i .i64 0,.i .i64 0,.ns,.ns])) true (.t 49) (.t 50)),aO 48 (.mv (.t 51)),aO 52 (.ext (.t 48) 0),aO 53 (.ext (.t 48) 1),aO 11 (.alloc ([.i .i64 0,.i .i64 0,.i .i64 0,.i .i64 0,.i .i64 0,.ns,.ns])),aN (.storeN 7 (.t 11) (.t 52)),aO 12 (.mv (.t 53))]) (.seq [3,9,11,45,54] (.ops [aO 54 (.mv (.t 12))]) (.cond (.t 54) (.ops [aO 55 (.mv (.t 9)),aO 56 (.loadN 7 (.t 11)),aO 57 (.buildSl 7 1 (([.i .i64 0,.i .i64 0,.i .i64 0,.i .i64 0,.i .i64 0,.ns,.ns])) [(0,7,(.t 56))]),aO 58 (.app 7 (.t 55) (.t 57)),aO 9 (.mv (.t 58))]) .skip))))) C1s))
def C1r:ACode:=.seq [2] (.ops [aO 60 (.mv (.t 9)),aO 2 (.mv (.t 60))]) .ret
def C1o:ACode:=.seq [3,9] (.ops [aO 9 (.nilrow 7)]) (.seq [9] (.seq [3,9,45] (.ops [aO 45 (.mv (.v (.c (.i .i64 0))))]) (.block 4 (.loop [3,9,45] B3O))) C1r)
def A_tree_Of__Of_1:AFn:=⟨.seq [1] (.ops [aO 1 (.box (.t 0)),aO 2 (.nilrow 7)]) (.seq [1] (.seq [1,16] (.ops [aO 13 (.loadN 4 (.t 1)),aO 14 (.call 19 [(.t 13),(.v (.c (.i .i64 1)))]),aO 15 (.fld1 (.t 14) 0),aO 16 (.bin .neq (.t 15) (.v (.c (.i .i64 2))))]) (.cond (.t 16) (.seq [2] (.ops [aO 2 (.nilrow 7)]) .ret) .skip)) (.seq [1,3] (.ops [aO 17 (.mkMap),aO 3 (.alloc ([.nm])),aN (.store1 (.t 3) (.t 17))]) (.seq [1,3,4] (.ops [aO 18 (.buildSl 1 1 ([.i .i64 0]) [(0,1,(.v (.c (.i .i64 1))))]),aO 4 (.alloc ([.ns])),aN (.store1 (.t 4) (.t 18))]) (.seq [3,4,5] (.ops [aO 19 (.mkf 124 [(.t 3),(.t 1),(.t 4)]),aO 5 (.mv (.t 19))]) (.seq [3,4,5] (.ops [aO 20 (.mv (.t 5)),aO 21 (.callV (.t 20) [(.v (.c (.i .i64 1)))])]) (.seq [3] (.seq [3,4,5,6] (.ops [aO 6 (.mv (.v (.c (.i .i64 0))))]) (.block 0 (.loop [3,4,5,6] B3N))) C1o)))))),[.tmp 2]⟩
def Q8:B0:=B1 19 A0P (B1 124 A2g C0)
def D3n (n:Nat):A9 (Val × A0):=E4 [3] (ax Q8 n C1o) A_tree_Of__Of_1.fin
def B3Q (n:Nat):A9 (Val × A0):=D6 0 (D3n n)
def A6h (n m:Nat) (x3 x4 x5 x6:Val) (h:A0):A6:=C6 (ax Q8 n B3N) [3,4,5,6] (B3Q n) m [(3,x3),(4,x4),(5,x5),(6,x6)] h
def B05 (n:Nat) (args:List Val) (h:A0):A6:=ax Q8 n A_tree_Of__Of_1.code A_tree_Of__Of_1.fin (params 0 args) h
def D3o (n m:Nat):A9 (Val × A0):=P9 [3,4,5,6] (C6 (ax Q8 n B3N) [3,4,5,6] (B3Q n) m) (B3Q n)
def D3p (n m:Nat):A9 (Val × A0):=E4 [3,4,5,6] (ax Q8 n C1q) (D3o n m)
def D3q (n m:Nat):A9 (Val × A0):=D6 1 (D3p n m)
def D3r (n m:Nat):A9 (Val × A0):=D6 2 (D3q n m)
def A9B (n m m2:Nat) (x3 x4 x5 x6 x34 x35 x36:Val) (h:A0):A6:=C6 (ax Q8 n C1p) [3,4,5,6,34,35,36] (D3r n m) m2 [(3,x3),(4,x4),(5,x5),(6,x6),(34,x34),(35,x35),(36,x36)] h
def D3s (n:Nat):A9 (Val × A0):=E4 [9] (ax Q8 n C1r) A_tree_Of__Of_1.fin
def B3R (n:Nat):A9 (Val × A0):=D6 4 (D3s n)
def A6i (n m:Nat) (x3 x9 x45:Val) (h:A0):A6:=C6 (ax Q8 n B3O) [3,9,45] (B3R n) m [(3,x3),(9,x9),(45,x45)] h
def D3t (n m:Nat):A9 (Val × A0):=P9 [3,9,45] (C6 (ax Q8 n B3O) [3,9,45] (B3R n) m) (B3R n)
def B3P (n m:Nat) (x3 x9 x45:Val) (h:A0):A6:=hold ((ax Q8 n C1s) (D3t n m) [(3,x3),(9,x9),(45,x45)] h)
theorem B4c (n:Nat) (a0:Val) (h:A0):B05 n [a0] h=bnd (cells? a0) fun c1=>bnd (A4 ((h ++ [some (Row.mk (c1) true)]) ++ [some (Row.mk ([]) true)]) 4 (.c (.p h.length 0))) fun v2=>bnd (A0P [v2,.c (.i .i64 1)] ((h ++ [some (Row.mk (c1) true)]) ++ [some (Row.mk ([]) true)])) fun p3=>bnd (A0S p3.1 0) fun v4=>bnd (A2 .neq v4 (.c (.i .i64 2))) fun v5=>cnd v5 (some ((.c (.sl p3.2.length 0 0 7)),(p3.2 ++ [some (Row.mk ([]) true)]))) (bnd (E7 ((p3.2 ++ [some (E6 [])]) ++ [some (Row.mk ([.nm]) true)]) (.c (.p (p3.2 ++ [some (E6 [])]).length 0)) (.c (.m p3.2.length))) fun h6=>bnd (A8 ([.i .i64 0]) [(0,1,.c (.i .i64 1))]) fun c7=>bnd (E7 ((h6 ++ [some (Row.mk (c7) true)]) ++ [some (Row.mk ([.ns]) true)]) (.c (.p (h6 ++ [some (Row.mk (c7) true)]).length 0)) (.c (.sl h6.length 0 1 1))) fun h8=>bnd (X2 124 [(.c (.p (p3.2 ++ [some (E6 [])]).length 0)),(.c (.p h.length 0)),(.c (.p (h6 ++ [some (Row.mk (c7) true)]).length 0))]) fun v9=>bnd (L7 Q8 v9 [.c (.i .i64 1)] h8) fun p10=>A6h n n (.c (.p (p3.2 ++ [some (E6 [])]).length 0)) (.c (.p (h6 ++ [some (Row.mk (c7) true)]).length 0)) v9 (.c (.i .i64 0)) p10.2):=by kernel_rfl
theorem C1u (n m:Nat) (x3 x4 x5 x6:Val) (h:A0):A6h n (m + 1) x3 x4 x5 x6 h=bnd (A3 h x4) fun v11=>bnd (D5 v11) fun v12=>bnd (A2 .lss x6 v12) fun v13=>cnd v13 (bnd (A3 h x3) fun v14=>bnd (A3 h x4) fun v15=>bnd (B7 1 v15 x6) fun v16=>bnd (A3 h v16) fun v17=>bnd (P4 h (some .i64) (.a ([.i .i64 0,.i .i64 0,.i .i64 0,.i .i64 0,.i .i64 0,.ns,.ns])) false v14 v17) fun v18=>bnd (A0S v18 6) fun v19=>bnd (D5 v19) fun v20=>A9B n m n x3 x4 x5 x6 v19 v20 (.c (.i .i64 0)) (h ++ [])) (A6i n n x3 (.c (.sl h.length 0 0 7)) (.c (.i .i64 0)) (h ++ [some (Row.mk ([]) true)])):=by kernel_rfl
theorem C1v (n m m2:Nat) (x3 x4 x5 x6 x34 x35 x36:Val) (h:A0):A9B n m (m2 + 1) x3 x4 x5 x6 x34 x35 x36 h=bnd (A2 .lss x36 x35) fun v21=>cnd v21 (bnd (B7 2 x34 x36) fun v22=>bnd (A4 h 2 v22) fun v23=>bnd (B4 (h ++ [some (Row.mk ([.s [],.i .i64 0]) true)]) 2 (.c (.p h.length 0)) v23) fun h24=>bnd (A7 (.c (.p h.length 0)) 1) fun v25=>bnd (A3 h24 v25) fun v26=>bnd (L7 Q8 x5 [v26] h24) fun p27=>bnd (A2 .add x36 (.c (.i .i64 1))) fun v28=>A9B n m m2 x3 x4 x5 x6 x34 x35 v28 p27.2) (bnd (A2 .add x6 (.c (.i .i64 1))) fun v29=>A6h n m x3 x4 x5 v29 h):=by kernel_rfl
theorem B3S (n m:Nat) (x3 x9 x45:Val) (h:A0):A6i n (m + 1) x3 x9 x45 h=bnd (A2 .lss x45 (.c (.i .i64 129))) fun v30=>cnd v30 (bnd (A3 h x3) fun v31=>bnd (P4 h (some .i64) (.a ([.i .i64 0,.i .i64 0,.i .i64 0,.i .i64 0,.i .i64 0,.ns,.ns])) true v31 x45) fun v32=>bnd (C5 v32 0) fun v33=>bnd (C5 v32 1) fun v34=>bnd (B4 (h ++ [some (Row.mk ([.i .i64 0,.i .i64 0,.i .i64 0,.i .i64 0,.i .i64 0,.ns,.ns]) true)]) 7 (.c (.p h.length 0)) v33) fun h35=>cnd v34 (bnd (A4 h35 7 (.c (.p h.length 0))) fun v36=>bnd (A8 (([.i .i64 0,.i .i64 0,.i .i64 0,.i .i64 0,.i .i64 0,.ns,.ns])) [(0,7,v36)]) fun c37=>bnd (F0 (h35 ++ [some (Row.mk (c37) true)]) 7 x9 (.c (.sl h35.length 0 1 7))) fun p38=>B3P n m x3 p38.1 x45 p38.2) (B3P n m x3 x9 x45 h35)) (some (x9,h)):=by kernel_rfl
theorem C1t (n m:Nat) (x3 x9 x45:Val) (h:A0):B3P n m x3 x9 x45 h=bnd (A2 .add x45 (.c (.i .i64 1))) fun v39=>A6i n m x3 x9 v39 h:=by kernel_rfl
theorem K_tree_Of__Of_1:FnK Tryz.prog 60 A_tree_Of__Of_1 Q8 B05:=.mk' (B3 B4G (B3 C53 C2)) Tryz.func60 (by kernel_rfl) (fun _ _ _=>C1)
def A5k:Fun:=Lim A_tree_Of__Of_1 Q8
theorem C54:SOk Tryz.prog 60 A5k:=K_tree_Of__Of_1.ok
theorem B4C:OfT B05 A5k:=K_tree_Of__Of_1.of
def C1f:ACode:=.seq [1,4,8,9,10,11] (.ops [aO 11 (.bin .lss (.t 10) (.t 9))]) (.seq [1,4,8,9,10] (.cond (.t 11) .skip (.exit 0)) (.seq [1,4,8,9,10] (.block 1 (.seq [1,4,7,8,9,10] (.ops [aO 12 (.iAddrL 7 (.t 8) (.t 10)),aO 13 (.loadN 7 (.t 12)),aO 7 (.alloc ([.i .i64 0,.i .i64 0,.i .i64 0,.i .i64 0,.i .i64 0,.ns,.ns])),aN (.storeN 7 (.t 7) (.t 13))]) (.seq [1,4,7,8,9,10,17] (.ops [aO 14 (.fAddr (.t 7) 0),aO 15 (.load1 (.t 14)),aO 16 (.mv (.t 1)),aO 17 (.bin .eql (.t 15) (.t 16))]) (.cond (.t 17) (.seq [4,7] (.ops [aO 18 (.buildSl 1 0 ([]) []),aO 19 (.fAddr (.t 7) 5),aO 20 (.load1 (.t 19)),aO 21 (.app 1 (.t 18) (.t 20)),aO 22 (.fAddr (.t 7) 5),aN (.store1 (.t 22) (.t 21))]) (.seq [4,7] (.ops [aO 23 (.buildSl 2 0 ([]) []),aO 24 (.fAddr (.t 7) 6),aO 25 (.load1 (.t 24)),aO 26 (.app 2 (.t 23) (.t 25)),aO 27 (.fAddr (.t 7) 6),aN (.store1 (.t 27) (.t 26))]) (.seq [4,5] (.ops [aO 28 (.loadN 7 (.t 7)),aN (.storeN 7 (.t 4) (.t 28)),aO 5 (.mv (.v (.c (.b true))))]) .ret))) .skip)))) (.ops [aO 29 (.bin .add (.t 10) (.v (.c (.i .i64 1)))),aO 10 (.mv (.t 29))])))
def C1g:ACode:=.seq [4,5] (.ops [aO 30 (.build ([.i .i64 0,.i .i64 0,.i .i64 0,.i .i64 0,.i .i64 0,.ns,.ns]) []),aN (.storeN 7 (.t 4) (.t 30)),aO 5 (.mv (.v (.c (.b false))))]) .ret
def A_tree_Find:AFn:=⟨.seq [0,1,4] (.ops [aO 4 (.alloc ([.i .i64 0,.i .i64 0,.i .i64 0,.i .i64 0,.i .i64 0,.ns,.ns])),aO 5 (.mv (.v (.c (.b false))))]) (.seq [4] (.seq [1,4,8,9,10] (.ops [aO 8 (.mv (.t 0)),aO 9 (.len (.t 8)),aO 10 (.mv (.v (.c (.i .i64 0))))]) (.block 0 (.loop [1,4,8,9,10] C1f))) C1g),[.cellN 4 7,.tmp 5]⟩
def A4m:B0:=C0
def D3j (n:Nat):A9 (Val × A0):=E4 [4] (ax A4m n C1g) A_tree_Find.fin
def D3k (n:Nat):A9 (Val × A0):=D6 0 (D3j n)
def A2Z (n m:Nat) (x1 x4 x8 x9 x10:Val) (h:A0):A6:=C6 (ax A4m n C1f) [1,4,8,9,10] (D3k n) m [(1,x1),(4,x4),(8,x8),(9,x9),(10,x10)] h
def A29 (n:Nat) (args:List Val) (h:A0):A6:=ax A4m n A_tree_Find.code A_tree_Find.fin (params 0 args) h
theorem B4a (n:Nat) (a0 a1:Val) (h:A0):A29 n [a0,a1] h=bnd (D5 a0) fun v1=>A2Z n n a1 (.c (.p h.length 0)) a0 v1 (.c (.i .i64 0)) (h ++ [some (Row.mk ([.i .i64 0,.i .i64 0,.i .i64 0,.i .i64 0,.i .i64 0,.ns,.ns]) true)]):=by kernel_rfl
theorem B3M (n m:Nat) (x1 x4 x8 x9 x10:Val) (h:A0):A2Z n (m + 1) x1 x4 x8 x9 x10 h=bnd (A2 .lss x10 x9) fun v2=>cnd v2 (bnd (B7 7 x8 x10) fun v3=>bnd (A4 h 7 v3) fun v4=>bnd (B4 (h ++ [some (Row.mk ([.i .i64 0,.i .i64 0,.i .i64 0,.i .i64 0,.i .i64 0,.ns,.ns]) true)]) 7 (.c (.p h.length 0)) v4) fun h5=>bnd (A7 (.c (.p h.length 0)) 0) fun v6=>bnd (A3 h5 v6) fun v7=>bnd (A2 .eql v7 x1) fun v8=>cnd v8 (bnd (A8 ([]) []) fun c9=>bnd (A7 (.c (.p h.length 0)) 5) fun v10=>bnd (A3 (h5 ++ [some (Row.mk (c9) true)]) v10) fun v11=>bnd (F0 (h5 ++ [some (Row.mk (c9) true)]) 1 (.c (.sl h5.length 0 0 1)) v11) fun p12=>bnd (A7 (.c (.p h.length 0)) 5) fun v13=>bnd (E7 p12.2 v13 p12.1) fun h14=>bnd (A8 ([]) []) fun c15=>bnd (A7 (.c (.p h.length 0)) 6) fun v16=>bnd (A3 (h14 ++ [some (Row.mk (c15) true)]) v16) fun v17=>bnd (F0 (h14 ++ [some (Row.mk (c15) true)]) 2 (.c (.sl h14.length 0 0 2)) v17) fun p18=>bnd (A7 (.c (.p h.length 0)) 6) fun v19=>bnd (E7 p18.2 v19 p18.1) fun h20=>bnd (A4 h20 7 (.c (.p h.length 0))) fun v21=>bnd (B4 h20 7 x4 v21) fun h22=>D3 [A4 h22 7 x4,some (.c (.b true))] h22) (bnd (A2 .add x10 (.c (.i .i64 1))) fun v23=>A2Z n m x1 x4 x8 x9 v23 h5)) (bnd (A8 ([.i .i64 0,.i .i64 0,.i .i64 0,.i .i64 0,.i .i64 0,.ns,.ns]) []) fun c24=>bnd (B4 h 7 x4 (.a c24)) fun h25=>D3 [A4 h25 7 x4,some (.c (.b false))] h25):=by kernel_rfl
theorem K_tree_Find:FnK Tryz.prog 100 A_tree_Find A4m A29:=.mk' (C2) Tryz.func100 (by kernel_rfl) (fun _ _ _=>C1)
def Z2:Fun:=tidy (Lim A_tree_Find A4m)
theorem B4z:SOk Tryz.prog 100 Z2:=K_tree_Find.sok
theorem C50:C9 A29 Z2:=K_tree_Find.flat
theorem C51:A7A A29 Z2:=K_tree_Find.tidy
def C1N:ACode:=.seq [1,9,10,11,12] (.ops [aO 12 (.bin .lss (.t 11) (.t 10))]) (.seq [1,9,10,11] (.cond (.t 12) .skip (.exit 0)) (.seq [1,9,10,11] (.block 1 (.seq [1,7,9,10,11] (.ops [aO 13 (.iAddrL 2 (.t 9) (.t 11)),aO 14 (.loadN 2 (.t 13)),aO 7 (.alloc ([.s [],.i .i64 0])),aN (.storeN 2 (.t 7) (.t 14))]) (.seq [1,7,9,10,11,18] (.ops [aO 15 (.fAddr (.t 7) 0),aO 16 (.load1 (.t 15)),aO 17 (.mv (.t 1)),aO 18 (.bin .eql (.t 16) (.t 17))]) (.cond (.t 18) (.seq [4,5] (.draw 0 [aO 19 (.fAddr (.t 7) 1),aO 20 (.load1 (.t 19)),aO 21 (.fAddr (.t 7) 1),aO 22 (.load1 (.t 21)),aO 23 (.bin .geq (.t 22) (.v (.c (.i .i64 0)))),aO 4 (.mv (.t 20))] [aO 5 (.mv (.t 23))]) .ret) .skip)))) (.ops [aO 24 (.bin .add (.t 11) (.v (.c (.i .i64 1)))),aO 11 (.mv (.t 24))])))
def C1O:ACode:=.seq [4,5] (.ops [aO 4 (.mv (.v (.c (.i .i64 0)))),aO 5 (.mv (.v (.c (.b false))))]) .ret
def A_tree_told:AFn:=⟨.seq [1,2] (.ops [aO 2 (.box (.t 0)),aO 4 (.mv (.v (.c (.i .i64 0)))),aO 5 (.mv (.v (.c (.b false))))]) (.seq [] (.seq [1,9,10,11] (.ops [aO 8 (.fAddr (.t 2) 6),aO 9 (.load1 (.t 8)),aO 10 (.len (.t 9)),aO 11 (.mv (.v (.c (.i .i64 0))))]) (.block 0 (.loop [1,9,10,11] C1N))) C1O),[.tmp 4,.tmp 5]⟩
def A4q:B0:=C0
def D3I (n:Nat):A9 (Val × A0):=E4 [] (ax A4q n C1O) A_tree_told.fin
def D3J (n:Nat):A9 (Val × A0):=D6 0 (D3I n)
def A9J (n m:Nat) (x1 x9 x10 x11:Val) (h:A0):A6:=C6 (ax A4q n C1N) [1,9,10,11] (D3J n) m [(1,x1),(9,x9),(10,x10),(11,x11)] h
def A7s (n:Nat) (args:List Val) (h:A0):A6:=ax A4q n A_tree_told.code A_tree_told.fin (params 0 args) h
theorem C3v (n:Nat) (a0 a1:Val) (h:A0):A7s n [a0,a1] h=bnd (cells? a0) fun c1=>bnd (A7 (.c (.p h.length 0)) 6) fun v2=>bnd (A3 (h ++ [some (Row.mk (c1) true)]) v2) fun v3=>bnd (D5 v3) fun v4=>A9J n n a1 v3 v4 (.c (.i .i64 0)) (h ++ [some (Row.mk (c1) true)]):=by kernel_rfl
theorem C1P (n m:Nat) (x1 x9 x10 x11:Val) (h:A0):A9J n (m + 1) x1 x9 x10 x11 h=bnd (A2 .lss x11 x10) fun v5=>cnd v5 (bnd (B7 2 x9 x11) fun v6=>bnd (A4 h 2 v6) fun v7=>bnd (B4 (h ++ [some (Row.mk ([.s [],.i .i64 0]) true)]) 2 (.c (.p h.length 0)) v7) fun h8=>bnd (A7 (.c (.p h.length 0)) 0) fun v9=>bnd (A3 h8 v9) fun v10=>bnd (A2 .eql v10 x1) fun v11=>cnd v11 (bnd (A7 (.c (.p h.length 0)) 1) fun v12=>bnd (A3 h8 v12) fun v13=>bnd (A7 (.c (.p h.length 0)) 1) fun v14=>bnd (A3 h8 v14) fun v15=>bnd (A2 .geq v15 (.c (.i .i64 0))) fun v16=>D3 [some v13,some v16] (h8 ++ [])) (bnd (A2 .add x11 (.c (.i .i64 1))) fun v17=>A9J n m x1 x9 x10 v17 h8)) (D3 [some (.c (.i .i64 0)),some (.c (.b false))] h):=by kernel_rfl
theorem K_tree_told:FnK Tryz.prog 169 A_tree_told A4q A7s:=.mk' (C2) Tryz.func169 (by kernel_rfl) (fun _ _ _=>C1)
def A5m:Fun:=tidy (Lim A_tree_told A4q)
theorem C6c:SOk Tryz.prog 169 A5m:=K_tree_told.sok
theorem C6b:C9 A7s A5m:=K_tree_told.flat
def C08:ACode:=.seq [0,6,13,14,15,33] (.ops [aO 32 (.mv (.t 10)),aO 33 (.un .not (.t 32))]) (.cond (.t 33) (.seq [4,5] (.ops [aO 4 (.mv (.v (.c (.i .i64 0)))),aO 5 (.mv (.v (.c (.b false))))]) .ret) .skip)
def C07:ACode:=.ops [aO 34 (.bin .add (.t 15) (.v (.c (.i .i64 1)))),aO 15 (.mv (.t 34))]
def B3C:ACode:=.seq [0,6,13,14,15,16] (.ops [aO 16 (.bin .lss (.t 15) (.t 14))]) (.seq [0,6,13,14,15] (.cond (.t 16) .skip (.exit 0)) (.seq [0,6,13,14,15] (.block 1 (.seq [0,6,8,13,14,15] (.ops [aO 17 (.iAddrL 1 (.t 13) (.t 15)),aO 18 (.load1 (.t 17)),aO 8 (.mv (.t 18))]) (.seq [0,6,8,9,10,13,14,15] (.ops [aO 20 (.mv (.t 0)),aO 21 (.mv (.t 6)),aO 22 (.call 100 [(.t 20),(.t 21)]),aO 19 (.mv (.t 22)),aO 23 (.ext (.t 19) 0),aO 24 (.ext (.t 19) 1),aO 9 (.alloc ([.i .i64 0,.i .i64 0,.i .i64 0,.i .i64 0,.i .i64 0,.ns,.ns])),aN (.storeN 7 (.t 9) (.t 23)),aO 10 (.mv (.t 24))]) (.seq [0,6,10,13,14,15] (.seq [0,6,8,9,10,13,14,15,25] (.ops [aO 25 (.mv (.t 10))]) (.cond (.t 25) (.ops [aO 27 (.loadN 7 (.t 9)),aO 28 (.mv (.t 8)),aO 29 (.call 169 [(.t 27),(.t 28)]),aO 26 (.mv (.t 29)),aO 30 (.ext (.t 26) 0),aO 31 (.ext (.t 26) 1),aO 6 (.mv (.t 30)),aO 10 (.mv (.t 31))]) .skip)) C08)))) C07))
def C06:ACode:=.seq [6] (.seq [6,12] (.ops [aO 36 (.mv (.t 0)),aO 37 (.mv (.t 6)),aO 38 (.call 100 [(.t 36),(.t 37)]),aO 35 (.mv (.t 38)),aO 39 (.ext (.t 35) 0),aO 40 (.ext (.t 35) 1),aO 11 (.alloc ([.i .i64 0,.i .i64 0,.i .i64 0,.i .i64 0,.i .i64 0,.ns,.ns])),aN (.storeN 7 (.t 11) (.t 39)),aO 12 (.mv (.t 40))]) (.seq [6,42] (.ops [aO 41 (.mv (.t 12)),aO 42 (.un .not (.t 41))]) (.cond (.t 42) (.seq [4,5] (.ops [aO 4 (.mv (.v (.c (.i .i64 0)))),aO 5 (.mv (.v (.c (.b false))))]) .ret) .skip))) (.seq [4,5] (.ops [aO 43 (.mv (.t 6)),aO 4 (.mv (.t 43)),aO 5 (.mv (.v (.c (.b true))))]) .ret)
def A_tree_At:AFn:=⟨.seq [0,1] (.ops [aO 4 (.mv (.v (.c (.i .i64 0)))),aO 5 (.mv (.v (.c (.b false))))]) (.seq [0,1,6] (.ops [aO 6 (.mv (.v (.c (.i .i64 1))))]) (.seq [0,6] (.seq [0,6,13,14,15] (.ops [aO 13 (.mv (.t 1)),aO 14 (.len (.t 13)),aO 15 (.mv (.v (.c (.i .i64 0))))]) (.block 0 (.loop [0,6,13,14,15] B3C))) C06)),[.tmp 4,.tmp 5]⟩
def A1f:B0:=B1 100 Z2 (B1 169 A5m C0)
def D29 (n:Nat):A9 (Val × A0):=E4 [0,6] (ax A1f n C06) A_tree_At.fin
def B3F (n:Nat):A9 (Val × A0):=D6 0 (D29 n)
def A9y (n m:Nat) (x0 x6 x13 x14 x15:Val) (h:A0):A6:=C6 (ax A1f n B3C) [0,6,13,14,15] (B3F n) m [(0,x0),(6,x6),(13,x13),(14,x14),(15,x15)] h
def A7n (n:Nat) (args:List Val) (h:A0):A6:=ax A1f n A_tree_At.code A_tree_At.fin (params 0 args) h
def D3a (n m:Nat):A9 (Val × A0):=P9 [0,6,13,14,15] (C6 (ax A1f n B3C) [0,6,13,14,15] (B3F n) m) (B3F n)
def D3b (n m:Nat):A9 (Val × A0):=E4 [0,6,13,14,15] (ax A1f n C07) (D3a n m)
def D3c (n m:Nat):A9 (Val × A0):=D6 1 (D3b n m)
def B3D (n m:Nat) (x0 x6 x10 x13 x14 x15:Val) (h:A0):A6:=hold ((ax A1f n C08) (D3c n m) [(0,x0),(6,x6),(10,x10),(13,x13),(14,x14),(15,x15)] h)
theorem C3o (n:Nat) (a0 a1:Val) (h:A0):A7n n [a0,a1] h=bnd (D5 a1) fun v1=>A9y n n a0 (.c (.i .i64 1)) a1 v1 (.c (.i .i64 0)) h:=by kernel_rfl
theorem C09 (n m:Nat) (x0 x6 x13 x14 x15:Val) (h:A0):A9y n (m + 1) x0 x6 x13 x14 x15 h=bnd (A2 .lss x15 x14) fun v2=>cnd v2 (bnd (B7 1 x13 x15) fun v3=>bnd (A3 h v3) fun v4=>bnd (Z2 [x0,x6] h) fun p5=>bnd (C5 p5.1 0) fun v6=>bnd (C5 p5.1 1) fun v7=>bnd (B4 (p5.2 ++ [some (Row.mk ([.i .i64 0,.i .i64 0,.i .i64 0,.i .i64 0,.i .i64 0,.ns,.ns]) true)]) 7 (.c (.p p5.2.length 0)) v6) fun h8=>cnd v7 (bnd (A4 h8 7 (.c (.p p5.2.length 0))) fun v9=>bnd (A5m [v9,v4] h8) fun p10=>bnd (C5 p10.1 0) fun v11=>bnd (C5 p10.1 1) fun v12=>B3D n m x0 v11 v12 x13 x14 x15 p10.2) (B3D n m x0 x6 v7 x13 x14 x15 h8)) (bnd (Z2 [x0,x6] h) fun p13=>bnd (C5 p13.1 0) fun v14=>bnd (C5 p13.1 1) fun v15=>bnd (B4 (p13.2 ++ [some (Row.mk ([.i .i64 0,.i .i64 0,.i .i64 0,.i .i64 0,.i .i64 0,.ns,.ns]) true)]) 7 (.c (.p p13.2.length 0)) v14) fun h16=>bnd (aun .not v15) fun v17=>cnd v17 (D3 [some (.c (.i .i64 0)),some (.c (.b false))] h16) (D3 [some x6,some (.c (.b true))] h16)):=by kernel_rfl
theorem B3E (n m:Nat) (x0 x6 x10 x13 x14 x15:Val) (h:A0):B3D n m x0 x6 x10 x13 x14 x15 h=bnd (aun .not x10) fun v18=>cnd v18 (D3 [some (.c (.i .i64 0)),some (.c (.b false))] h) (bnd (A2 .add x15 (.c (.i .i64 1))) fun v19=>A9y n m x0 x6 x13 x14 v19 h):=by kernel_rfl
theorem K_tree_At:FnK Tryz.prog 97 A_tree_At A1f A7n:=.mk' (B3 B4z (B3 C6c C2)) Tryz.func97 (by kernel_rfl) (fun _ _ _=>C1)
def A5i:Fun:=tidy (Lim A_tree_At A1f)
theorem C5X:SOk Tryz.prog 97 A5i:=K_tree_At.sok
theorem C5W:C9 A7n A5i:=K_tree_At.flat
def C1x:ACode:=.ops [aO 74 (.bin .add (.t 38) (.v (.c (.i .i64 1)))),aO 38 (.mv (.t 74))]
def B3V:ACode:=.seq [0,3,4,5,6,36,37,38,39] (.ops [aO 39 (.bin .lss (.t 38) (.t 37))]) (.seq [0,3,4,5,6,36,37,38] (.cond (.t 39) .skip (.exit 2)) (.seq [0,3,4,5,6,36,37,38] (.block 3 (.seq [0,3,4,5,6,10,36,37,38] (.ops [aO 40 (.iAddrL 2 (.t 36) (.t 38)),aO 41 (.loadN 2 (.t 40)),aO 10 (.alloc ([.s [],.i .i64 0])),aN (.storeN 2 (.t 10) (.t 41))]) (.seq [0,3,4,5,6,10,11,36,37,38] (.draw 0 [aO 42 (.mv (.t 3)),aO 43 (.mv (.t 4)),aO 44 (.mv (.t 6)),aO 45 (.iAddrL 1 (.t 43) (.t 44)),aO 46 (.load1 (.t 45)),aO 47 (.look (some .i64) (.c (.s [])) false (.t 42) (.t 46)),aO 48 (.bin .add (.t 47) (.v (.c (.s [47])))),aO 49 (.fAddr (.t 10) 0),aO 50 (.load1 (.t 49))] [aO 51 (.bin .add (.t 48) (.t 50)),aO 11 (.mv (.t 51))]) (.seq [0,3,4,5,6,10,11,36,37,38] (.ops [aO 52 (.mv (.t 5)),aO 53 (.mv (.t 11)),aO 54 (.buildSl 1 1 ([.s []]) [(0,1,(.t 53))]),aO 55 (.app 1 (.t 52) (.t 54)),aO 5 (.mv (.t 55))]) (.seq [0,3,4,5,6,10,11,13,36,37,38] (.ops [aO 57 (.mv (.t 3)),aO 58 (.fAddr (.t 10) 1),aO 59 (.load1 (.t 58)),aO 60 (.look (some .i64) (.c (.s [])) true (.t 57) (.t 59)),aO 56 (.mv (.t 60)),aO 61 (.ext (.t 56) 0),aO 62 (.ext (.t 56) 1),aO 12 (.mv (.t 61)),aO 13 (.mv (.t 62))]) (.seq [0,3,4,5,6,10,11,36,37,38,64] (.ops [aO 63 (.mv (.t 13)),aO 64 (.un .not (.t 63))]) (.cond (.t 64) (.seq [0,3,4,5,6,10,36,37,38] (.ops [aO 65 (.mv (.t 3)),aO 66 (.fAddr (.t 10) 1),aO 67 (.load1 (.t 66)),aO 68 (.mv (.t 11)),aN (.mput (some .i64) (.t 65) (.t 67) (.t 68))]) (.ops [aO 69 (.mv (.t 4)),aO 70 (.fAddr (.t 10) 1),aO 71 (.load1 (.t 70)),aO 72 (.buildSl 1 1 ([.i .i64 0]) [(0,1,(.t 71))]),aO 73 (.app 1 (.t 69) (.t 72)),aO 4 (.mv (.t 73))])) .skip))))))) C1x))
def B3U:ACode:=.ops [aO 21 (.mv (.t 6)),aO 22 (.bin .add (.t 21) (.v (.c (.i .i64 1)))),aO 6 (.mv (.t 22))]
def B3T:ACode:=.seq [0,3,4,5,6] (.seq [0,3,4,5,6,20] (.ops [aO 17 (.mv (.t 6)),aO 18 (.mv (.t 4)),aO 19 (.len (.t 18)),aO 20 (.bin .lss (.t 17) (.t 19))]) (.cond (.t 20) .skip (.exit 0))) (.seq [0,3,4,5,6] (.block 1 (.seq [0,3,4,5,6,7] (.ops [aO 24 (.mv (.t 0)),aO 25 (.mv (.t 4)),aO 26 (.mv (.t 6)),aO 27 (.iAddrL 1 (.t 25) (.t 26)),aO 28 (.load1 (.t 27)),aO 29 (.call 100 [(.t 24),(.t 28)]),aO 23 (.mv (.t 29)),aO 30 (.ext (.t 23) 0),aO 31 (.ext (.t 23) 1),aO 7 (.alloc ([.i .i64 0,.i .i64 0,.i .i64 0,.i .i64 0,.i .i64 0,.ns,.ns])),aN (.storeN 7 (.t 7) (.t 30)),aO 8 (.mv (.t 31))]) (.seq [0,3,4,5,6,7] (.seq [0,3,4,5,6,7,34] (.ops [aO 32 (.fAddr (.t 7) 1),aO 33 (.load1 (.t 32)),aO 34 (.bin .neq (.t 33) (.v (.c (.i .i64 2))))]) (.cond (.t 34) (.exit 1) .skip)) (.seq [0,3,4,5,6,36,37,38] (.ops [aO 35 (.fAddr (.t 7) 6),aO 36 (.load1 (.t 35)),aO 37 (.len (.t 36)),aO 38 (.mv (.v (.c (.i .i64 0))))]) (.block 2 (.loop [0,3,4,5,6,36,37,38] B3V)))))) B3U)
def C1w:ACode:=.seq [2] (.ops [aO 75 (.mv (.t 5)),aO 76 (.call 86 [(.t 75)]),aO 2 (.mv (.t 76))]) .ret
def A_tree_Paths:AFn:=⟨.seq [0] (.ops [aO 2 (.nilrow 1)]) (.seq [0,3] (.ops [aO 14 (.mkMap),aN (.mput (some .i64) (.t 14) (.v (.c (.i .i64 1))) (.v (.c (.s [])))),aO 15 (.mv (.t 14)),aO 3 (.mv (.t 15))]) (.seq [0,3,4] (.ops [aO 16 (.buildSl 1 1 ([.i .i64 0]) [(0,1,(.v (.c (.i .i64 1))))]),aO 4 (.mv (.t 16))]) (.seq [0,3,4,5] (.ops [aO 5 (.nilrow 1)]) (.seq [5] (.seq [0,3,4,5,6] (.ops [aO 6 (.mv (.v (.c (.i .i64 0))))]) (.block 0 (.loop [0,3,4,5,6] B3T))) C1w)))),[.tmp 2]⟩
def Y8:B0:=B1 100 Z2 (B1 86 A0N C0)
def D3v (n:Nat):A9 (Val × A0):=E4 [5] (ax Y8 n C1w) A_tree_Paths.fin
def B3Y (n:Nat):A9 (Val × A0):=D6 0 (D3v n)
def A9D (n m:Nat) (x0 x3 x4 x5 x6:Val) (h:A0):A6:=C6 (ax Y8 n B3T) [0,3,4,5,6] (B3Y n) m [(0,x0),(3,x3),(4,x4),(5,x5),(6,x6)] h
def A7p (n:Nat) (args:List Val) (h:A0):A6:=ax Y8 n A_tree_Paths.code A_tree_Paths.fin (params 0 args) h
def C1A (n m:Nat):A9 (Val × A0):=P9 [0,3,4,5,6] (C6 (ax Y8 n B3T) [0,3,4,5,6] (B3Y n) m) (B3Y n)
def A9C (n m:Nat) (x0 x3 x4 x5 x6:Val) (h:A0):A6:=hold ((ax Y8 n B3U) (C1A n m) [(0,x0),(3,x3),(4,x4),(5,x5),(6,x6)] h)
def D3w (n m:Nat):A9 (Val × A0):=E4 [0,3,4,5,6] (ax Y8 n B3U) (C1A n m)
def D3x (n m:Nat):A9 (Val × A0):=D6 1 (D3w n m)
def B3Z (n m:Nat):A9 (Val × A0):=D6 2 (D3x n m)
def A9F (n m m2:Nat) (x0 x3 x4 x5 x6 x36 x37 x38:Val) (h:A0):A6:=C6 (ax Y8 n B3V) [0,3,4,5,6,36,37,38] (B3Z n m) m2 [(0,x0),(3,x3),(4,x4),(5,x5),(6,x6),(36,x36),(37,x37),(38,x38)] h
def D3y (n m m2:Nat):A9 (Val × A0):=P9 [0,3,4,5,6,36,37,38] (C6 (ax Y8 n B3V) [0,3,4,5,6,36,37,38] (B3Z n m) m2) (B3Z n m)
def B3X (n m m2:Nat) (x0 x3 x4 x5 x6 x36 x37 x38:Val) (h:A0):A6:=hold ((ax Y8 n C1x) (D3y n m m2) [(0,x0),(3,x3),(4,x4),(5,x5),(6,x6),(36,x36),(37,x37),(38,x38)] h)
theorem C3r (n:Nat) (a0:Val) (h:A0):A7p n [a0] h=bnd (U9 ((h ++ [some (Row.mk ([]) true)]) ++ [some (E6 [])]) (some .i64) (.c (.m (h ++ [some (Row.mk ([]) true)]).length)) (.c (.i .i64 1)) (.c (.s []))) fun h1=>bnd (A8 ([.i .i64 0]) [(0,1,.c (.i .i64 1))]) fun c2=>A9D n n a0 (.c (.m (h ++ [some (Row.mk ([]) true)]).length)) (.c (.sl h1.length 0 1 1)) (.c (.sl (h1 ++ [some (Row.mk (c2) true)]).length 0 0 1)) (.c (.i .i64 0)) ((h1 ++ [some (Row.mk (c2) true)]) ++ [some (Row.mk ([]) true)]):=by kernel_rfl
theorem A9E (n m:Nat) (x0 x3 x4 x5 x6:Val) (h:A0):A9D n (m + 1) x0 x3 x4 x5 x6 h=bnd (D5 x4) fun v3=>bnd (A2 .lss x6 v3) fun v4=>cnd v4 (bnd (B7 1 x4 x6) fun v5=>bnd (A3 h v5) fun v6=>bnd (Z2 [x0,v6] h) fun p7=>bnd (C5 p7.1 0) fun v8=>bnd (C5 p7.1 1) fun v9=>bnd (B4 (p7.2 ++ [some (Row.mk ([.i .i64 0,.i .i64 0,.i .i64 0,.i .i64 0,.i .i64 0,.ns,.ns]) true)]) 7 (.c (.p p7.2.length 0)) v8) fun h10=>bnd (A7 (.c (.p p7.2.length 0)) 1) fun v11=>bnd (A3 h10 v11) fun v12=>bnd (A2 .neq v12 (.c (.i .i64 2))) fun v13=>cnd v13 (A9C n m x0 x3 x4 x5 x6 h10) (bnd (A7 (.c (.p p7.2.length 0)) 6) fun v14=>bnd (A3 h10 v14) fun v15=>bnd (D5 v15) fun v16=>A9F n m n x0 x3 x4 x5 x6 v15 v16 (.c (.i .i64 0)) h10)) (bnd (A0N [x5] h) fun p17=>some (p17.1,p17.2)):=by kernel_rfl
theorem B3W (n m:Nat) (x0 x3 x4 x5 x6:Val) (h:A0):A9C n m x0 x3 x4 x5 x6 h=bnd (A2 .add x6 (.c (.i .i64 1))) fun v18=>A9D n m x0 x3 x4 x5 v18 h:=by kernel_rfl
theorem C1B (n m m2:Nat) (x0 x3 x4 x5 x6 x36 x37 x38:Val) (h:A0):A9F n m (m2 + 1) x0 x3 x4 x5 x6 x36 x37 x38 h=bnd (A2 .lss x38 x37) fun v19=>cnd v19 (bnd (B7 2 x36 x38) fun v20=>bnd (A4 h 2 v20) fun v21=>bnd (B4 (h ++ [some (Row.mk ([.s [],.i .i64 0]) true)]) 2 (.c (.p h.length 0)) v21) fun h22=>bnd (B7 1 x4 x6) fun v23=>bnd (A3 h22 v23) fun v24=>bnd (P4 h22 (some .i64) (.c (.s [])) false x3 v24) fun v25=>bnd (A2 .add v25 (.c (.s [47]))) fun v26=>bnd (A7 (.c (.p h.length 0)) 0) fun v27=>bnd (A3 h22 v27) fun v28=>bnd (A2 .add v26 v28) fun v29=>bnd (A8 ([.s []]) [(0,1,v29)]) fun c30=>bnd (F0 ((h22 ++ []) ++ [some (Row.mk (c30) true)]) 1 x5 (.c (.sl (h22 ++ []).length 0 1 1))) fun p31=>bnd (A7 (.c (.p h.length 0)) 1) fun v32=>bnd (A3 p31.2 v32) fun v33=>bnd (P4 p31.2 (some .i64) (.c (.s [])) true x3 v33) fun v34=>bnd (C5 v34 0) fun v35=>bnd (C5 v34 1) fun v36=>bnd (aun .not v36) fun v37=>cnd v37 (bnd (A7 (.c (.p h.length 0)) 1) fun v38=>bnd (A3 p31.2 v38) fun v39=>bnd (U9 p31.2 (some .i64) x3 v39 v29) fun h40=>bnd (A7 (.c (.p h.length 0)) 1) fun v41=>bnd (A3 h40 v41) fun v42=>bnd (A8 ([.i .i64 0]) [(0,1,v42)]) fun c43=>bnd (F0 (h40 ++ [some (Row.mk (c43) true)]) 1 x4 (.c (.sl h40.length 0 1 1))) fun p44=>B3X n m m2 x0 x3 p44.1 p31.1 x6 x36 x37 x38 p44.2) (B3X n m m2 x0 x3 x4 p31.1 x6 x36 x37 x38 p31.2)) (A9C n m x0 x3 x4 x5 x6 h):=by kernel_rfl
theorem C1z (n m m2:Nat) (x0 x3 x4 x5 x6 x36 x37 x38:Val) (h:A0):B3X n m m2 x0 x3 x4 x5 x6 x36 x37 x38 h=bnd (A2 .add x38 (.c (.i .i64 1))) fun v45=>A9F n m m2 x0 x3 x4 x5 x6 x36 x37 v45 h:=by kernel_rfl
theorem K_tree_Paths:FnK Tryz.prog 41 A_tree_Paths Y8 A7p:=.mk' (B3 B4z (B3 B4w C2)) Tryz.func41 (by kernel_rfl) (fun _ _ _=>C1)
def A2h:Fun:=tidy (Lim A_tree_Paths Y8)
theorem B4D:SOk Tryz.prog 41 A2h:=K_tree_Paths.sok
theorem C55:U6 A7p A2h:=K_tree_Paths.out
def C1c:ACode:=.ops [aO 29 (.bin .add (.t 19) (.v (.c (.i .i64 1)))),aO 19 (.mv (.t 29))]
def B3H:ACode:=.seq [1,5,10,11,12,17,18,19,20] (.ops [aO 20 (.bin .lss (.t 19) (.t 18))]) (.seq [1,5,10,11,12,17,18,19] (.cond (.t 20) .skip (.exit 2)) (.seq [1,5,10,11,12,17,18,19] (.block 3 (.seq [1,5,9,10,11,12,17,18,19] (.ops [aO 21 (.iAddrL 2 (.t 17) (.t 19)),aO 22 (.loadN 2 (.t 21)),aO 9 (.alloc ([.s [],.i .i64 0])),aN (.storeN 2 (.t 9) (.t 22))]) (.seq [1,5,10,11,12,17,18,19,26] (.ops [aO 23 (.fAddr (.t 9) 1),aO 24 (.load1 (.t 23)),aO 25 (.mv (.t 1)),aO 26 (.bin .eql (.t 24) (.t 25))]) (.cond (.t 26) (.ops [aO 27 (.mv (.t 5)),aO 28 (.bin .add (.t 27) (.v (.c (.i .i64 1)))),aO 5 (.mv (.t 28))]) .skip)))) C1c))
def C1b:ACode:=.ops [aO 30 (.bin .add (.t 12) (.v (.c (.i .i64 1)))),aO 12 (.mv (.t 30))]
def B3G:ACode:=.seq [1,5,10,11,12,13] (.ops [aO 13 (.bin .lss (.t 12) (.t 11))]) (.seq [1,5,10,11,12] (.cond (.t 13) .skip (.exit 0)) (.seq [1,5,10,11,12] (.block 1 (.seq [1,5,7,10,11,12] (.ops [aO 14 (.iAddrL 7 (.t 10) (.t 12)),aO 15 (.loadN 7 (.t 14)),aO 7 (.alloc ([.i .i64 0,.i .i64 0,.i .i64 0,.i .i64 0,.i .i64 0,.ns,.ns])),aN (.storeN 7 (.t 7) (.t 15))]) (.seq [1,5,10,11,12,17,18,19] (.ops [aO 16 (.fAddr (.t 7) 6),aO 17 (.load1 (.t 16)),aO 18 (.len (.t 17)),aO 19 (.mv (.v (.c (.i .i64 0))))]) (.block 2 (.loop [1,5,10,11,12,17,18,19] B3H))))) C1b))
def C1a:ACode:=.seq [4] (.ops [aO 31 (.mv (.t 5)),aO 4 (.mv (.t 31))]) .ret
def A_tree_Count:AFn:=⟨.seq [0,1] (.ops [aO 4 (.mv (.v (.c (.i .i64 0))))]) (.seq [0,1,5] (.ops [aO 5 (.mv (.v (.c (.i .i64 0))))]) (.seq [5] (.seq [1,5,10,11,12] (.ops [aO 10 (.mv (.t 0)),aO 11 (.len (.t 10)),aO 12 (.mv (.v (.c (.i .i64 0))))]) (.block 0 (.loop [1,5,10,11,12] B3G))) C1a)),[.tmp 4]⟩
def A0k:B0:=C0
def D3e (n:Nat):A9 (Val × A0):=E4 [5] (ax A0k n C1a) A_tree_Count.fin
def B3J (n:Nat):A9 (Val × A0):=D6 0 (D3e n)
def A6g (n m:Nat) (x1 x5 x10 x11 x12:Val) (h:A0):A6:=C6 (ax A0k n B3G) [1,5,10,11,12] (B3J n) m [(1,x1),(5,x5),(10,x10),(11,x11),(12,x12)] h
def A7o (n:Nat) (args:List Val) (h:A0):A6:=ax A0k n A_tree_Count.code A_tree_Count.fin (params 0 args) h
def D3f (n m:Nat):A9 (Val × A0):=P9 [1,5,10,11,12] (C6 (ax A0k n B3G) [1,5,10,11,12] (B3J n) m) (B3J n)
def D3g (n m:Nat):A9 (Val × A0):=E4 [1,5,10,11,12] (ax A0k n C1b) (D3f n m)
def D3h (n m:Nat):A9 (Val × A0):=D6 1 (D3g n m)
def B3K (n m:Nat):A9 (Val × A0):=D6 2 (D3h n m)
def A9z (n m m2:Nat) (x1 x5 x10 x11 x12 x17 x18 x19:Val) (h:A0):A6:=C6 (ax A0k n B3H) [1,5,10,11,12,17,18,19] (B3K n m) m2 [(1,x1),(5,x5),(10,x10),(11,x11),(12,x12),(17,x17),(18,x18),(19,x19)] h
def D3i (n m m2:Nat):A9 (Val × A0):=P9 [1,5,10,11,12,17,18,19] (C6 (ax A0k n B3H) [1,5,10,11,12,17,18,19] (B3K n m) m2) (B3K n m)
def B3I (n m m2:Nat) (x1 x5 x10 x11 x12 x17 x18 x19:Val) (h:A0):A6:=hold ((ax A0k n C1c) (D3i n m m2) [(1,x1),(5,x5),(10,x10),(11,x11),(12,x12),(17,x17),(18,x18),(19,x19)] h)
theorem C3p (n:Nat) (a0 a1:Val) (h:A0):A7o n [a0,a1] h=bnd (D5 a0) fun v1=>A6g n n a1 (.c (.i .i64 0)) a0 v1 (.c (.i .i64 0)) h:=by kernel_rfl
theorem C1e (n m:Nat) (x1 x5 x10 x11 x12:Val) (h:A0):A6g n (m + 1) x1 x5 x10 x11 x12 h=bnd (A2 .lss x12 x11) fun v2=>cnd v2 (bnd (B7 7 x10 x12) fun v3=>bnd (A4 h 7 v3) fun v4=>bnd (B4 (h ++ [some (Row.mk ([.i .i64 0,.i .i64 0,.i .i64 0,.i .i64 0,.i .i64 0,.ns,.ns]) true)]) 7 (.c (.p h.length 0)) v4) fun h5=>bnd (A7 (.c (.p h.length 0)) 6) fun v6=>bnd (A3 h5 v6) fun v7=>bnd (D5 v7) fun v8=>A9z n m n x1 x5 x10 x11 x12 v7 v8 (.c (.i .i64 0)) h5) (some (x5,h)):=by kernel_rfl
theorem B3L (n m m2:Nat) (x1 x5 x10 x11 x12 x17 x18 x19:Val) (h:A0):A9z n m (m2 + 1) x1 x5 x10 x11 x12 x17 x18 x19 h=bnd (A2 .lss x19 x18) fun v9=>cnd v9 (bnd (B7 2 x17 x19) fun v10=>bnd (A4 h 2 v10) fun v11=>bnd (B4 (h ++ [some (Row.mk ([.s [],.i .i64 0]) true)]) 2 (.c (.p h.length 0)) v11) fun h12=>bnd (A7 (.c (.p h.length 0)) 1) fun v13=>bnd (A3 h12 v13) fun v14=>bnd (A2 .eql v14 x1) fun v15=>cnd v15 (bnd (A2 .add x5 (.c (.i .i64 1))) fun v16=>B3I n m m2 x1 v16 x10 x11 x12 x17 x18 x19 h12) (B3I n m m2 x1 x5 x10 x11 x12 x17 x18 x19 h12)) (bnd (A2 .add x12 (.c (.i .i64 1))) fun v17=>A6g n m x1 x5 x10 x11 v17 h):=by kernel_rfl
theorem C1d (n m m2:Nat) (x1 x5 x10 x11 x12 x17 x18 x19:Val) (h:A0):B3I n m m2 x1 x5 x10 x11 x12 x17 x18 x19 h=bnd (A2 .add x19 (.c (.i .i64 1))) fun v18=>A9z n m m2 x1 x5 x10 x11 x12 x17 x18 v18 h:=by kernel_rfl
theorem K_tree_Count:FnK Tryz.prog 98 A_tree_Count A0k A7o:=.mk' (C2) Tryz.func98 (by kernel_rfl) (fun _ _ _=>C1)
def A5j:Fun:=tidy (Lim A_tree_Count A0k)
theorem C5Z:SOk Tryz.prog 98 A5j:=K_tree_Count.sok
theorem C5Y:C9 A7o A5j:=K_tree_Count.flat
def C1G:ACode:=.seq [3,45,46,47,48] (.ops [aO 48 (.bin .lss (.t 47) (.t 46))]) (.seq [3,45,46,47] (.cond (.t 48) .skip (.exit 0)) (.seq [3,45,46,47] (.block 1 (.seq [3,5,6,45,46,47] (.ops [aO 49 (.mv (.t 47)),aO 50 (.iAddrL 2 (.t 45) (.t 47)),aO 51 (.loadN 2 (.t 50)),aO 6 (.alloc ([.s [],.i .i64 0])),aO 5 (.mv (.t 49)),aN (.storeN 2 (.t 6) (.t 51))]) (.seq [3,45,46,47,58] (.draw 0 [aO 52 (.loadN 2 (.t 6)),aO 53 (.fAddr (.t 3) 6),aO 54 (.load1 (.t 53)),aO 55 (.mv (.t 5)),aO 56 (.iAddrL 2 (.t 54) (.t 55)),aO 57 (.loadN 2 (.t 56))] [aO 58 (.eqA true ([.s,.i .i64]) (.t 52) (.t 57))]) (.cond (.t 58) (.seq [4] (.ops [aO 4 (.mv (.v (.c (.b false))))]) .ret) .skip)))) (.ops [aO 59 (.bin .add (.t 47) (.v (.c (.i .i64 1)))),aO 47 (.mv (.t 59))])))
def C1H:ACode:=.seq [4] (.ops [aO 4 (.mv (.v (.c (.b true))))]) .ret
def A_tree_alike:AFn:=⟨.seq [2,3] (.ops [aO 2 (.box (.t 0)),aO 3 (.box (.t 1)),aO 4 (.mv (.v (.c (.b false))))]) (.seq [2,3] (.seq [2,3,43] (.ops [aO 7 (.fAddr (.t 2) 0),aO 8 (.load1 (.t 7)),aO 9 (.fAddr (.t 3) 0),aO 10 (.load1 (.t 9)),aO 11 (.bin .neq (.t 8) (.t 10)),aO 12 (.mv (.t 11)),aG 13 12 false (.fAddr (.t 2) 1),aG 14 12 false (.load1 (.t 13)),aG 15 12 false (.fAddr (.t 3) 1),aG 16 12 false (.load1 (.t 15)),aG 17 12 false (.bin .neq (.t 14) (.t 16)),aO 18 (.pick (.t 12) (.v (.c (.b true))) (.t 17)),aO 19 (.mv (.t 18)),aG 20 19 false (.fAddr (.t 2) 4),aG 21 19 false (.load1 (.t 20)),aG 22 19 false (.fAddr (.t 3) 4),aG 23 19 false (.load1 (.t 22)),aG 24 19 false (.bin .neq (.t 21) (.t 23)),aO 25 (.pick (.t 19) (.v (.c (.b true))) (.t 24)),aO 26 (.mv (.t 25)),aG 27 26 false (.fAddr (.t 2) 5),aG 28 26 false (.load1 (.t 27)),aG 29 26 false (.b2s (.t 28)),aG 30 26 false (.fAddr (.t 3) 5),aG 31 26 false (.load1 (.t 30)),aG 32 26 false (.b2s (.t 31)),aG 33 26 false (.bin .neq (.t 29) (.t 32)),aO 34 (.pick (.t 26) (.v (.c (.b true))) (.t 33)),aO 35 (.mv (.t 34)),aG 36 35 false (.fAddr (.t 2) 6),aG 37 35 false (.load1 (.t 36)),aG 38 35 false (.len (.t 37)),aG 39 35 false (.fAddr (.t 3) 6),aG 40 35 false (.load1 (.t 39)),aG 41 35 false (.len (.t 40)),aG 42 35 false (.bin .neq (.t 38) (.t 41)),aO 43 (.pick (.t 35) (.v (.c (.b true))) (.t 42))]) (.cond (.t 43) (.seq [4] (.ops [aO 4 (.mv (.v (.c (.b false))))]) .ret) .skip)) (.seq [] (.seq [3,45,46,47] (.ops [aO 44 (.fAddr (.t 2) 6),aO 45 (.load1 (.t 44)),aO 46 (.len (.t 45)),aO 47 (.mv (.v (.c (.i .i64 0))))]) (.block 0 (.loop [3,45,46,47] C1G))) C1H)),[.tmp 4]⟩
def A4p:B0:=C0
def D3C (n:Nat):A9 (Val × A0):=E4 [] (ax A4p n C1H) A_tree_alike.fin
def D3D (n:Nat):A9 (Val × A0):=D6 0 (D3C n)
def A9H (n m:Nat) (x3 x45 x46 x47:Val) (h:A0):A6:=C6 (ax A4p n C1G) [3,45,46,47] (D3D n) m [(3,x3),(45,x45),(46,x46),(47,x47)] h
def A7q (n:Nat) (args:List Val) (h:A0):A6:=ax A4p n A_tree_alike.code A_tree_alike.fin (params 0 args) h
theorem C3t (n:Nat) (a0 a1:Val) (h:A0):A7q n [a0,a1] h=bnd (cells? a0) fun c1=>bnd (cells? a1) fun c2=>bnd (A7 (.c (.p h.length 0)) 0) fun v3=>bnd (A3 ((h ++ [some (Row.mk (c1) true)]) ++ [some (Row.mk (c2) true)]) v3) fun v4=>bnd (A7 (.c (.p (h ++ [some (Row.mk (c1) true)]).length 0)) 0) fun v5=>bnd (A3 ((h ++ [some (Row.mk (c1) true)]) ++ [some (Row.mk (c2) true)]) v5) fun v6=>bnd (A2 .neq v4 v6) fun v7=>bnd (gd v7 false (bnd (A7 (.c (.p h.length 0)) 1) fun v8=>some (v8,((h ++ [some (Row.mk (c1) true)]) ++ [some (Row.mk (c2) true)]))) (some (.no,((h ++ [some (Row.mk (c1) true)]) ++ [some (Row.mk (c2) true)])))) fun p9=>bnd (gd v7 false (bnd (A3 p9.2 p9.1) fun v10=>some (v10,p9.2)) (some (.no,p9.2))) fun p11=>bnd (gd v7 false (bnd (A7 (.c (.p (h ++ [some (Row.mk (c1) true)]).length 0)) 1) fun v12=>some (v12,p11.2)) (some (.no,p11.2))) fun p13=>bnd (gd v7 false (bnd (A3 p13.2 p13.1) fun v14=>some (v14,p13.2)) (some (.no,p13.2))) fun p15=>bnd (gd v7 false (bnd (A2 .neq p11.1 p15.1) fun v16=>some (v16,p15.2)) (some (.no,p15.2))) fun p17=>bnd (C4 v7 (.c (.b true)) p17.1) fun v18=>bnd (gd v18 false (bnd (A7 (.c (.p h.length 0)) 4) fun v19=>some (v19,p17.2)) (some (.no,p17.2))) fun p20=>bnd (gd v18 false (bnd (A3 p20.2 p20.1) fun v21=>some (v21,p20.2)) (some (.no,p20.2))) fun p22=>bnd (gd v18 false (bnd (A7 (.c (.p (h ++ [some (Row.mk (c1) true)]).length 0)) 4) fun v23=>some (v23,p22.2)) (some (.no,p22.2))) fun p24=>bnd (gd v18 false (bnd (A3 p24.2 p24.1) fun v25=>some (v25,p24.2)) (some (.no,p24.2))) fun p26=>bnd (gd v18 false (bnd (A2 .neq p22.1 p26.1) fun v27=>some (v27,p26.2)) (some (.no,p26.2))) fun p28=>bnd (C4 v18 (.c (.b true)) p28.1) fun v29=>bnd (gd v29 false (bnd (A7 (.c (.p h.length 0)) 5) fun v30=>some (v30,p28.2)) (some (.no,p28.2))) fun p31=>bnd (gd v29 false (bnd (A3 p31.2 p31.1) fun v32=>some (v32,p31.2)) (some (.no,p31.2))) fun p33=>bnd (gd v29 false (bnd (N8 p33.2 p33.1) fun v34=>some (v34,p33.2)) (some (.no,p33.2))) fun p35=>bnd (gd v29 false (bnd (A7 (.c (.p (h ++ [some (Row.mk (c1) true)]).length 0)) 5) fun v36=>some (v36,p35.2)) (some (.no,p35.2))) fun p37=>bnd (gd v29 false (bnd (A3 p37.2 p37.1) fun v38=>some (v38,p37.2)) (some (.no,p37.2))) fun p39=>bnd (gd v29 false (bnd (N8 p39.2 p39.1) fun v40=>some (v40,p39.2)) (some (.no,p39.2))) fun p41=>bnd (gd v29 false (bnd (A2 .neq p35.1 p41.1) fun v42=>some (v42,p41.2)) (some (.no,p41.2))) fun p43=>bnd (C4 v29 (.c (.b true)) p43.1) fun v44=>bnd (gd v44 false (bnd (A7 (.c (.p h.length 0)) 6) fun v45=>some (v45,p43.2)) (some (.no,p43.2))) fun p46=>bnd (gd v44 false (bnd (A3 p46.2 p46.1) fun v47=>some (v47,p46.2)) (some (.no,p46.2))) fun p48=>bnd (gd v44 false (bnd (D5 p48.1) fun v49=>some (v49,p48.2)) (some (.no,p48.2))) fun p50=>bnd (gd v44 false (bnd (A7 (.c (.p (h ++ [some (Row.mk (c1) true)]).length 0)) 6) fun v51=>some (v51,p50.2)) (some (.no,p50.2))) fun p52=>bnd (gd v44 false (bnd (A3 p52.2 p52.1) fun v53=>some (v53,p52.2)) (some (.no,p52.2))) fun p54=>bnd (gd v44 false (bnd (D5 p54.1) fun v55=>some (v55,p54.2)) (some (.no,p54.2))) fun p56=>bnd (gd v44 false (bnd (A2 .neq p50.1 p56.1) fun v57=>some (v57,p56.2)) (some (.no,p56.2))) fun p58=>bnd (C4 v44 (.c (.b true)) p58.1) fun v59=>cnd v59 (some ((.c (.b false)),p58.2)) (bnd (A7 (.c (.p h.length 0)) 6) fun v60=>bnd (A3 p58.2 v60) fun v61=>bnd (D5 v61) fun v62=>A9H n n (.c (.p (h ++ [some (Row.mk (c1) true)]).length 0)) v61 v62 (.c (.i .i64 0)) p58.2):=by kernel_rfl
theorem C1I (n m:Nat) (x3 x45 x46 x47:Val) (h:A0):A9H n (m + 1) x3 x45 x46 x47 h=bnd (A2 .lss x47 x46) fun v63=>cnd v63 (bnd (B7 2 x45 x47) fun v64=>bnd (A4 h 2 v64) fun v65=>bnd (B4 (h ++ [some (Row.mk ([.s [],.i .i64 0]) true)]) 2 (.c (.p h.length 0)) v65) fun h66=>bnd (A4 h66 2 (.c (.p h.length 0))) fun v67=>bnd (A7 x3 6) fun v68=>bnd (A3 h66 v68) fun v69=>bnd (B7 2 v69 x47) fun v70=>bnd (A4 h66 2 v70) fun v71=>bnd (aeq true ([.s,.i .i64]) v67 v71) fun v72=>cnd v72 (some ((.c (.b false)),(h66 ++ []))) (bnd (A2 .add x47 (.c (.i .i64 1))) fun v73=>A9H n m x3 x45 x46 v73 (h66 ++ []))) (some ((.c (.b true)),h)):=by kernel_rfl
theorem K_tree_alike:FnK Tryz.prog 99 A_tree_alike A4p A7q:=.mk' (C2) Tryz.func99 (by kernel_rfl) (fun _ _ _=>C1)
def A5l:Fun:=tidy (Lim A_tree_alike A4p)
theorem C59:SOk Tryz.prog 99 A5l:=K_tree_alike.sok
theorem C58:C9 A7q A5l:=K_tree_alike.flat
def C1k:ACode:=.seq [0,1,12,13,14] (.ops [aO 14 (.bin .lss (.t 13) (.t 12))]) (.seq [0,1,12,13] (.cond (.t 14) .skip (.exit 0)) (.seq [0,1,12,13] (.block 1 (.seq [0,1,5,12,13] (.ops [aO 15 (.mv (.t 13)),aO 5 (.mv (.t 15))]) (.seq [0,1,12,13,25] (.draw 0 [aO 16 (.mv (.t 0)),aO 17 (.mv (.t 5)),aO 18 (.iAddrL 7 (.t 16) (.t 17)),aO 19 (.loadN 7 (.t 18)),aO 20 (.mv (.t 1)),aO 21 (.mv (.t 5)),aO 22 (.iAddrL 7 (.t 20) (.t 21)),aO 23 (.loadN 7 (.t 22))] [aO 24 (.call 99 [(.t 19),(.t 23)]),aO 25 (.un .not (.t 24))]) (.cond (.t 25) (.seq [4] (.ops [aO 4 (.mv (.v (.c (.b false))))]) .ret) .skip)))) (.ops [aO 26 (.bin .add (.t 13) (.v (.c (.i .i64 1)))),aO 13 (.mv (.t 26))])))
def C1l:ACode:=.seq [4] (.ops [aO 4 (.mv (.v (.c (.b true))))]) .ret
def A_tree_Like:AFn:=⟨.seq [0,1] (.ops [aO 4 (.mv (.v (.c (.b false))))]) (.seq [0,1] (.seq [0,1,10] (.ops [aO 6 (.mv (.t 0)),aO 7 (.len (.t 6)),aO 8 (.mv (.t 1)),aO 9 (.len (.t 8)),aO 10 (.bin .neq (.t 7) (.t 9))]) (.cond (.t 10) (.seq [4] (.ops [aO 4 (.mv (.v (.c (.b false))))]) .ret) .skip)) (.seq [] (.seq [0,1,12,13] (.ops [aO 11 (.mv (.t 0)),aO 12 (.len (.t 11)),aO 13 (.mv (.v (.c (.i .i64 0))))]) (.block 0 (.loop [0,1,12,13] C1k))) C1l)),[.tmp 4]⟩
def A4n:B0:=B1 99 A5l C0
def D3l (n:Nat):A9 (Val × A0):=E4 [] (ax A4n n C1l) A_tree_Like.fin
def D3m (n:Nat):A9 (Val × A0):=D6 0 (D3l n)
def A9A (n m:Nat) (x0 x1 x12 x13:Val) (h:A0):A6:=C6 (ax A4n n C1k) [0,1,12,13] (D3m n) m [(0,x0),(1,x1),(12,x12),(13,x13)] h
def B03 (n:Nat) (args:List Val) (h:A0):A6:=ax A4n n A_tree_Like.code A_tree_Like.fin (params 0 args) h
theorem C3q (n:Nat) (a0 a1:Val) (h:A0):B03 n [a0,a1] h=bnd (D5 a0) fun v1=>bnd (D5 a1) fun v2=>bnd (A2 .neq v1 v2) fun v3=>cnd v3 (some ((.c (.b false)),h)) (bnd (D5 a0) fun v4=>A9A n n a0 a1 v4 (.c (.i .i64 0)) h):=by kernel_rfl
theorem C1n (n m:Nat) (x0 x1 x12 x13:Val) (h:A0):A9A n (m + 1) x0 x1 x12 x13 h=bnd (A2 .lss x13 x12) fun v5=>cnd v5 (bnd (B7 7 x0 x13) fun v6=>bnd (A4 h 7 v6) fun v7=>bnd (B7 7 x1 x13) fun v8=>bnd (A4 h 7 v8) fun v9=>bnd (A5l [v7,v9] (h ++ [])) fun p10=>bnd (aun .not p10.1) fun v11=>cnd v11 (some ((.c (.b false)),p10.2)) (bnd (A2 .add x13 (.c (.i .i64 1))) fun v12=>A9A n m x0 x1 x12 v12 p10.2)) (some ((.c (.b true)),h)):=by kernel_rfl
theorem K_tree_Like:FnK Tryz.prog 39 A_tree_Like A4n B03:=.mk' (B3 C59 C2) Tryz.func39 (by kernel_rfl) (fun _ _ _=>C1)
def A2f:Fun:=tidy (Lim A_tree_Like A4n)
theorem B4A:SOk Tryz.prog 39 A2f:=K_tree_Like.sok
theorem C52:C9 B03 A2f:=K_tree_Like.flat
def C1C:ACode:=.seq [0,1,11,12,13] (.ops [aO 13 (.bin .lss (.t 12) (.t 11))]) (.seq [0,1,11,12] (.cond (.t 13) .skip (.exit 0)) (.seq [0,1,11,12] (.block 1 (.seq [0,1,5,11,12] (.ops [aO 14 (.mv (.t 12)),aO 5 (.mv (.t 14))]) (.seq [0,1,11,12,38] (.draw 0 [aO 15 (.mv (.t 0)),aO 16 (.mv (.t 5)),aO 17 (.iAddrL 7 (.t 15) (.t 16)),aO 18 (.fAddr (.t 17) 2),aO 19 (.load1 (.t 18)),aO 20 (.mv (.t 1)),aO 21 (.mv (.t 5)),aO 22 (.iAddrL 7 (.t 20) (.t 21)),aO 23 (.fAddr (.t 22) 2),aO 24 (.load1 (.t 23)),aO 25 (.bin .neq (.t 19) (.t 24)),aO 26 (.mv (.t 25)),aG 27 26 false (.mv (.t 0)),aG 28 26 false (.mv (.t 5)),aG 29 26 false (.iAddrL 7 (.t 27) (.t 28)),aG 30 26 false (.fAddr (.t 29) 3),aG 31 26 false (.load1 (.t 30)),aG 32 26 false (.mv (.t 1)),aG 33 26 false (.mv (.t 5)),aG 34 26 false (.iAddrL 7 (.t 32) (.t 33)),aG 35 26 false (.fAddr (.t 34) 3),aG 36 26 false (.load1 (.t 35))] [aG 37 26 false (.bin .neq (.t 31) (.t 36)),aO 38 (.pick (.t 26) (.v (.c (.b true))) (.t 37))]) (.cond (.t 38) (.seq [4] (.ops [aO 4 (.mv (.v (.c (.b false))))]) .ret) .skip)))) (.ops [aO 39 (.bin .add (.t 12) (.v (.c (.i .i64 1)))),aO 12 (.mv (.t 39))])))
def C1D:ACode:=.seq [4] (.ops [aO 4 (.mv (.v (.c (.b true))))]) .ret
def A_tree_Same:AFn:=⟨.seq [0,1] (.ops [aO 4 (.mv (.v (.c (.b false))))]) (.seq [0,1] (.seq [0,1,9] (.ops [aO 6 (.mv (.t 0)),aO 7 (.mv (.t 1)),aO 8 (.call 39 [(.t 6),(.t 7)]),aO 9 (.un .not (.t 8))]) (.cond (.t 9) (.seq [4] (.ops [aO 4 (.mv (.v (.c (.b false))))]) .ret) .skip)) (.seq [] (.seq [0,1,11,12] (.ops [aO 10 (.mv (.t 0)),aO 11 (.len (.t 10)),aO 12 (.mv (.v (.c (.i .i64 0))))]) (.block 0 (.loop [0,1,11,12] C1C))) C1D)),[.tmp 4]⟩
def A4o:B0:=B1 39 A2f C0
def D3z (n:Nat):A9 (Val × A0):=E4 [] (ax A4o n C1D) A_tree_Same.fin
def D3A (n:Nat):A9 (Val × A0):=D6 0 (D3z n)
def A9G (n m:Nat) (x0 x1 x11 x12:Val) (h:A0):A6:=C6 (ax A4o n C1C) [0,1,11,12] (D3A n) m [(0,x0),(1,x1),(11,x11),(12,x12)] h
def B06 (n:Nat) (args:List Val) (h:A0):A6:=ax A4o n A_tree_Same.code A_tree_Same.fin (params 0 args) h
theorem C3s (n:Nat) (a0 a1:Val) (h:A0):B06 n [a0,a1] h=bnd (A2f [a0,a1] h) fun p1=>bnd (aun .not p1.1) fun v2=>cnd v2 (some ((.c (.b false)),p1.2)) (bnd (D5 a0) fun v3=>A9G n n a0 a1 v3 (.c (.i .i64 0)) p1.2):=by kernel_rfl
theorem C1F (n m:Nat) (x0 x1 x11 x12:Val) (h:A0):A9G n (m + 1) x0 x1 x11 x12 h=bnd (A2 .lss x12 x11) fun v4=>cnd v4 (bnd (B7 7 x0 x12) fun v5=>bnd (A7 v5 2) fun v6=>bnd (A3 h v6) fun v7=>bnd (B7 7 x1 x12) fun v8=>bnd (A7 v8 2) fun v9=>bnd (A3 h v9) fun v10=>bnd (A2 .neq v7 v10) fun v11=>bnd (gd v11 false (some (x0,(h ++ []))) (some (.no,(h ++ [])))) fun p12=>bnd (gd v11 false (some (x12,p12.2)) (some (.no,p12.2))) fun p13=>bnd (gd v11 false (bnd (B7 7 p12.1 p13.1) fun v14=>some (v14,p13.2)) (some (.no,p13.2))) fun p15=>bnd (gd v11 false (bnd (A7 p15.1 3) fun v16=>some (v16,p15.2)) (some (.no,p15.2))) fun p17=>bnd (gd v11 false (bnd (A3 h p17.1) fun v18=>some (v18,p17.2)) (some (.no,p17.2))) fun p19=>bnd (gd v11 false (some (x1,p19.2)) (some (.no,p19.2))) fun p20=>bnd (gd v11 false (some (x12,p20.2)) (some (.no,p20.2))) fun p21=>bnd (gd v11 false (bnd (B7 7 p20.1 p21.1) fun v22=>some (v22,p21.2)) (some (.no,p21.2))) fun p23=>bnd (gd v11 false (bnd (A7 p23.1 3) fun v24=>some (v24,p23.2)) (some (.no,p23.2))) fun p25=>bnd (gd v11 false (bnd (A3 h p25.1) fun v26=>some (v26,p25.2)) (some (.no,p25.2))) fun p27=>bnd (gd v11 false (bnd (A2 .neq p19.1 p27.1) fun v28=>some (v28,p27.2)) (some (.no,p27.2))) fun p29=>bnd (C4 v11 (.c (.b true)) p29.1) fun v30=>cnd v30 (some ((.c (.b false)),p29.2)) (bnd (A2 .add x12 (.c (.i .i64 1))) fun v31=>A9G n m x0 x1 x11 v31 p29.2)) (some ((.c (.b true)),h)):=by kernel_rfl
theorem K_tree_Same:FnK Tryz.prog 38 A_tree_Same A4o B06:=.mk' (B3 B4A C2) Tryz.func38 (by kernel_rfl) (fun _ _ _=>C1)
def A3h:Fun:=tidy (Lim A_tree_Same A4o)
theorem C57:SOk Tryz.prog 38 A3h:=K_tree_Same.sok
theorem C56:C9 B06 A3h:=K_tree_Same.flat
end Go.Proofs.YteckncopbicmcaaGreat
end
section
namespace Go.Proofs.YteckncopbicmcaaGreat
open Go Go.Esc
theorem C79 {l:List Ent} {x:Ent}:D0 (l ++ [x])=D0 l ++ E3 (some x):=by simp [D0]
theorem A0t {l:List Ent}:(D0 l).length=l.length * 2:=by
  induction l with
  | nil=>rfl
  | cons x l ih=>simp only [D0,List.map_cons,List.flatten_cons,List.length_append,List.length_cons,E3,List.length_nil] at ih ⊢;omega
theorem B11 {l:List Ent}:F9 (D0 l)=true:=by
  induction l with
  | nil=>rfl
  | cons x l ih =>
    have:D0 (x :: l)=E3 (some x) ++ D0 l:=rfl
    rw [this,A8o,ih];rfl
theorem A5C {l:List Ent}:noX (D0 l)=true:=by
  induction l with
  | nil=>rfl
  | cons x l ih =>
    have:D0 (x :: l)=[.s x.1,.i .i64 x.2] ++ D0 l:=rfl
    rw [this]
    simp [noX,Cell.isX] at ih ⊢
    exact ih
theorem B9B {F:List UInt8 → Int} {B:A0} {b q mid sid:Nat} {S:E9} {es:F4} (hm:MapN es F S) (hb:b + 5 < B.length) (hs:rd B sid=some ⟨encS S,true⟩) (h5:rd B (b + 5)=some ⟨[.m mid],true⟩) (h4:rd B mid=some (E6 es)) (h62:S.length < 1000000) :
    ∀ (e i M id:Nat) (h:A0),i + e=S.length → e < M → Low b B h → id ≠ b + 5 → id ≠ sid → id ≠ mid → b ≤ id → (∀ j r,j=b + 5 ∨ j=sid ∨ j=mid → rd B j=some r → rd h j=some r) → rd h id=some ⟨D0 ((S.take i).map fun s=>(s,F s)),true⟩ → B.length ≤ h.length →
      ∃ v' h',A7Z q M (.c (.p (b + 5) 0)) (.c (.sl id 0 i 2)) (.c (.sl sid 0 S.length 1)) (.c (.i .i64 (S.length:Int))) (.c (.i .i64 (i:Int))) h=some (v',h') ∧ Out b h' v' 2 S.length (D0 (S.map fun s=>(s,F s)))
  | e,i,0,id,h,_,hm,_,_,_,_,_,_,_,_=>by omega
  | 0,i,M + 1,id,h,hi,hm0,hlow,n5,ns,n4,hbi,hk,hr,hl=>by
    have c0:¬ (i:Int) < (S.length:Nat):=by omega
    have ei:i=S.length:=by omega
    subst ei
    rw [B59]
    rw [List.take_length] at hr
    refine ⟨.c (.sl id 0 S.length 2),h,by simp only [B9,D7,c0,decide_false,F1],by rw [A0t];simp,id,rfl,hbi,hr⟩
  | e + 1,i,M + 1,id,h,hi,hm0,hlow,n5,ns,n4,hbi,hk,hr,hl=>by
    have hil:i < S.length:=by omega
    have c0:(i:Int) < (S.length:Nat):=by omega
    have ad:B7 1 (.c (.sl sid 0 S.length 1)) (.c (.i .i64 (i:Int)))=some (.c (.p sid i)):=by rw [G8 hil];simp
    have l1:A3 h (.c (.p sid i))=some (.c (.s S[i])):=D8 (hk sid _ (.inr (.inl rfl)) hs) (by rw [A0s,List.getElem?_eq_getElem hil];rfl) rfl
    have l5:A3 h (.c (.p (b + 5) 0))=some (.c (.m mid)):=D8 (hk _ _ (.inl rfl) h5) rfl rfl
    have lk:=C9V (s:=S[i]) (hk _ _ (.inr (.inr rfl)) h4) hm (List.getElem_mem hil)
    have ef:A8 [Cell.s [],.i .i64 0] [(0,1,.c (.s S[i])),(1,1,.c (.i .i64 (F S[i])))]=some (E3 (some (S[i],F S[i]))):=rfl
    have ef2:A8 [Cell.s [],.i .i64 0] [(0,2,.a (E3 (some (S[i],F S[i]))))]=some (E3 (some (S[i],F S[i]))):=rfl
    have el:((S.take i).map fun s=>(s,F s)).length=i:=by simp;omega
    obtain ⟨h2,a1,a2,a3,a4⟩:=A1G (n:=i) (sz:=2) (ys:=E3 (some (S[i],F S[i]))) hr (by rw [A0t,el]) rfl (by omega) (by omega)
    have et:D0 ((S.take i).map fun s=>(s,F s)) ++ E3 (some (S[i],F S[i]))=D0 ((S.take (i + 1)).map fun s=>(s,F s)):=by
      rw [List.take_add_one,List.getElem?_eq_getElem hil,List.map_append,D0]
      simp [D0]
    rw [et] at a2
    have w1:=E2 (show i + 1 < 9223372036854775808 by omega)
    have hlt2:=B8 a2
    obtain ⟨v',h',f1,f2⟩:=B9B (q:=q) hm hb hs h5 h4 h62 e (i + 1) M (h.length + 1) h2 (by omega) (by omega) (hlow.trans (a4 _ hbi (by have:=hlow.1;omega))) (by omega)
      (fun e1=>by have:=B8 hs;omega) (fun e1=>by have:=B8 h4;omega) (by omega) (fun j r hj hjr=>a3 _ _ (by rcases hj with rfl | rfl | rfl <;> omega) (hk j r hj hjr)) a2 (by omega)
    rw [B59]
    refine ⟨v',h',?_,f2⟩
    simp only [B9,D7,c0,decide_true,F6,ad,l1,l5,lk,ef,ef2,a1,I0,w1]
    exact f1
theorem C7J {D:Dev} {n m k l s p:Int} {d:List Int} {f:Cell} {h:A0} (hD:okD D) (hd:d.length=7) (hv:IsView h f D) :
    A4A [.a (vwC D.length n m f),.a (A5 k l s p d)] h=some (.c (.sl h.length 0 (V4 D n k d).length 2),h ++ [some ⟨D0 (V4 D n k d),true⟩]):=by
  have key:∀ g,IsView g f D → ∃ v g',A6t 300 [.a (vwC D.length n m f),.a (A5 k l s p d)] g=some (v,g') ∧ Out g.length g' v 2 (V4 D n k d).length (D0 (V4 D n k d)):=by
    intro g hv
    have hIl:(A5 k l s p d).length=11:=by simp [A5,G6,hd]
    have hbl:=B5J (D:=D) (n:=n) (k:=k) (d:=d)
    obtain ⟨V,hV⟩:∃ V,V=vwC D.length n m f:=⟨_,rfl⟩
    obtain ⟨I,hI⟩:∃ I,I=A5 k l s p d:=⟨_,rfl⟩
    have hVl:V.length=4:=by rw [hV];rfl
    have hIl':I.length=11:=by rw [hI];exact hIl
    obtain ⟨G,hG⟩:∃ G,G=g ++ [some (Row.mk V true),some (Row.mk I true),some (Row.mk [] true),some (Row.mk [.ns] true),some (E6 []),some (Row.mk [.m (g.length + 4)] true)]:=⟨_,rfl⟩
    obtain ⟨G2,hG2⟩:∃ G2,G2=G ++ [some (Row.mk V true),some (Row.mk I true),some (Row.mk (encI (J5 D n k d)) true)]:=⟨_,rfl⟩
    have lG:G.length=g.length + 6:=by rw [hG];simp
    have lG2:G2.length=g.length + 9:=by rw [hG2];simp [lG]
    have hB:=C8M (n:=n) (m:=m) (k:=k) (l:=l) (s:=s) (p:=p) (h:=G ++ [some (Row.mk V true),some (Row.mk I true)]) hD hd (by rw [hG];exact (hv.more _).more _)
    rw [← hV,← hI] at hB
    have hB2:(G ++ [some (Row.mk V true),some (Row.mk I true)]) ++ [some (Row.mk (encI (J5 D n k d)) true)]=G2:=by rw [hG2];simp
    rw [hB2] at hB
    have lB:(G ++ [some (Row.mk V true),some (Row.mk I true)]).length=g.length + 8:=by simp [lG]
    rw [lB] at hB
    have emk:X2 85 [.c (.p g.length 0),.c (.p (g.length + 1) 0),.c (.p (g.length + 3) 0),.c (.p (g.length + 5) 0)]=some (.c (.f 85 [(g.length,0),(g.length + 1,0),(g.length + 3,0),(g.length + 5,0)])):=rfl
    have hcv:∀ (x y:Val) (h:A0),L7 A0j (.c (.f 85 [(g.length,0),(g.length + 1,0),(g.length + 3,0),(g.length + 5,0)])) [x,y] h=A4B [x,y,.c (.p g.length 0),.c (.p (g.length + 1) 0),.c (.p (g.length + 3) 0),.c (.p (g.length + 5) 0)] h:=fun _ _ _=>Eq.trans rfl rfl
    have P0:ListP D n k d V I (J5 D n k d) g [] 0 [] G2:=by
      refine ⟨VarC.nil ?_,Nat.le_refl _,?_,?_,?_,?_,?_,?_,⟨[],?_,MapN.nil _⟩,fun j hj=>by simp at hj⟩
      · rw [hG2,hG];simp
      · rw [hG2,hG];exact ((Low.refl (Nat.le_refl _)).new _).new _
      · rw [hG2,hG];simp
      · rw [hG2,hG];simp
      · rw [hG2,← lG];simp
      · rw [hG2,show g.length + 8=G.length + 2 by omega];simp
      · rw [hG2,hG];simp
      · rw [hG2,hG];simp
    obtain ⟨h',f1,f2⟩:=B5I (σ:=List Tld) (L0:=fun M x h=>A70 300 M (.c (.f 85 [(g.length,0),(g.length + 1,0),(g.length + 3,0),(g.length + 5,0)])) (.c (.p (g.length + 6) 0)) (.c (.sl (g.length + 8) 0 (J5 D n k d).length 1)) (.c (.i .i64 ((J5 D n k d).length:Nat))) x h)
      (L1:=fun M m2 x7 x14 x21 x22 x23 h=>A71 300 M m2 (.c (.f 85 [(g.length,0),(g.length + 1,0),(g.length + 3,0),(g.length + 5,0)])) (.c (.p (g.length + 6) 0)) x7 (.c (.sl (g.length + 8) 0 (J5 D n k d).length 1)) (.c (.i .i64 ((J5 D n k d).length:Nat))) x14 x21 x22 x23 h)
      (C:=fun x y h=>L7 A0j (.c (.f 85 [(g.length,0),(g.length + 1,0),(g.length + 3,0),(g.length + 5,0)])) [x,y] h)
      (N:=300) (x3:=.c (.p (g.length + 6) 0)) (n:=n) (m:=m) (f:=f) (sid:=g.length + 8) (L:=J5 D n k d) hD (fun rs c s h=>ListP D n k d V I (J5 D n k d) g rs c s h) (fun s t=>s ++ [t]) (by omega)
      (fun M x h=>by rw [C7S])
      (fun M v9 x v w M2 y h=>by rw [C7T])
      (fun rs c s h P=>⟨by rw [← hV];exact G0 P.r6 hVl,hv.since P.low,P.r8⟩)
      (fun rs c s h t P=>P.more t) (fun rs c s h r P=>P.one r) (fun i rs c s h P=>P.less) (fun rs c c' s h P hc=>P.wide hc)
      (fun rs c st h1 no x P hc hno hx=>by
        obtain ⟨h2,e1,e2,e3⟩:=C9R (t:=((no,x.1,x.2.2),x.2.1)) (n:=n) (m:=m) (k:=k) (l:=l) (s0:=s) (p:=p) (c:=c) hD hd hv (by omega) (by have:=D1l (C9U hx).1;exact this) (by rw [← hV,← hI];exact P)
        rw [← hV,← hI] at e2
        exact ⟨h2,by rw [hcv];exact e1,e2,e3⟩)
      (by omega) (J5 D n k d).length 0 300 [] [] G2 (by omega) (by omega) P0
    rw [List.drop_zero] at f2
    have efold:∀ (L:List Tld) (s0:List Tld),L.foldl (fun s t=>s ++ [t]) s0=s0 ++ L:=by
      intro L
      induction L with
      | nil=>intro s0;simp
      | cons t L ih=>intro s0;rw [List.foldl_cons,ih];simp
    rw [efold,List.nil_append] at f2
    change ListP D n k d V I (J5 D n k d) g [] (7 * (J5 D n k d).length) (O1 D n k d) h' at f2
    have hS:A4E [.a V,.a I,.c (.f 85 [(g.length,0),(g.length + 1,0),(g.length + 3,0),(g.length + 5,0)])] G=some (.t [],h'):=by
      refine C3Z (n:=300) ?_
      rw [C2f]
      have g4:A4 (G ++ [some (Row.mk V true),some (Row.mk I true)]) 4 (.c (.p G.length 0))=some (.a V):=by rw [X1];exact Q0 hVl
      have g11:A4 (G ++ [some (Row.mk V true),some (Row.mk I true)]) 11 (.c (.p (G.length + 1) 0))=some (.a I):=by rw [A0T];exact Q0 hIl'
      simp only [Z6,B9,List.append_assoc,List.cons_append,List.nil_append,List.length_append,List.length_cons,List.length_nil,Nat.zero_add,g4,g11,hB,A0m]
      rw [lG]
      exact f1
    obtain ⟨x,hx,hdx⟩:=f2.var
    have hN:=B8W (D:=D) (n:=n) (k:=k) (d:=d) (s:=O1 D n k d)
    have hlen:=f2.len
    have hlt:=B8 f2.r8
    have hH:Has (h' ++ [some (Row.mk [] true)]) (.c x) 1 (I4 D n k d (O1 D n k d)).length (encS (I4 D n k d (O1 D n k d))):=by
      rcases hdx with ⟨e1,e2,rfl⟩ | ⟨id,rfl,hr,hl,_,_⟩
      · exact .inl ⟨rfl,e1,e2⟩
      · exact Has.row (rw:=true) (B6 hr) hl (A3H _)
    have hSo:=B8T hH (by omega)
    obtain ⟨es,r4,hm⟩:=f2.r4
    have hm2:MapN es (A3y D n k d) (J8 (I4 D n k d (O1 D n k d))):=⟨hm.1,fun s hs=>hm.2 s ((B3u _ _).1 hs)⟩
    have hsl:=C0A (I4 D n k d (O1 D n k d))
    have lh:(h' ++ [some (Row.mk [] true)]).length=h'.length + 1:=by simp
    rw [lh] at hSo
    obtain ⟨v',g',o1,o2⟩:=B9B (F:=A3y D n k d) (B:=h' ++ [some (Row.mk [] true)] ++ [some (Row.mk (encS (J8 (I4 D n k d (O1 D n k d)))) true)]) (b:=g.length) (q:=300) (mid:=g.length + 4) (sid:=h'.length + 1) (S:=J8 (I4 D n k d (O1 D n k d))) hm2 (by simp;omega) (by rw [← lh];exact E8) (B6 (B6 f2.r5)) (B6 (B6 r4)) (by omega)
      (J8 (I4 D n k d (O1 D n k d))).length 0 300 h'.length (h' ++ [some (Row.mk [] true)] ++ [some (Row.mk (encS (J8 (I4 D n k d (O1 D n k d)))) true)]) (by omega) (by omega) (Low.refl (by simp;omega)) (by omega) (by omega) (by omega) (by omega) (fun j r _ hj=>hj) (by simp [D0]) (Nat.le_refl _)
    have eL:(V4 D n k d).length=(J8 (I4 D n k d (O1 D n k d))).length:=by simp [V4]
    refine ⟨v',g',?_,by rw [eL];exact o2⟩
    have t1:A3 (h' ++ [some (Row.mk [] true)]) (.c (.p (g.length + 3) 0))=some (.c x):=D8 (B6 hx) rfl (by
      rcases hdx with ⟨_,_,rfl⟩ | ⟨id,rfl,_⟩ <;> rfl)
    have s5:E7 (g ++ [some (Row.mk V true),some (Row.mk I true),some (Row.mk [] true),some (Row.mk [.ns] true),some (E6 []),some (Row.mk [.nm] true)]) (.c (.p (g.length + 5) 0)) (.c (.m (g.length + 4)))=some G:=by
      rw [A2r,hG];rfl
    have g4:A4 G 4 (.c (.p g.length 0))=some (.a V):=by rw [hG,X1];exact Q0 hVl
    have g11:A4 G 11 (.c (.p (g.length + 1) 0))=some (.a I):=by rw [hG,A0T];exact Q0 hIl'
    rw [C2c,← hV,← hI]
    simp only [Z6,B9,List.append_assoc,List.cons_append,List.nil_append,List.length_append,List.length_cons,List.length_nil,Nat.zero_add,Nat.reduceAdd,s5,g4,g11,emk,hS,t1]
    rw [hSo]
    simp only [B9,A0m]
    exact o1
  obtain ⟨v,g',e,ho⟩:=key (ro h) hv.ro
  exact C3U e (by simpa [M9] using ho) B11
end Go.Proofs.YteckncopbicmcaaGreat
end
section
namespace Go.Proofs.YteckncopbicmcaaGreat
open Go Go.Esc
def ndC (i k l p s:Int) (x y:Cell):List Cell:=[.i .i64 i,.i .i64 k,.i .i64 l,.i .i64 p,.i .i64 s,x,y]
def IsNd (h:A0) (cs:List Cell) (nd:Nd):Prop:=∃ x y,cs=ndC nd.ino nd.kind nd.links nd.parent nd.size x y ∧ Has h (.c x) 1 nd.data.length (A1 nd.data) ∧ Has h (.c y) 2 nd.names.length (D0 nd.names)
def IsNds (h:A0):List Cell → List Nd → Prop
  | cs,[]=>cs=[]
  | cs,x :: t=>∃ c1 c2,cs=c1 ++ c2 ∧ IsNd h c1 x ∧ IsNds h c2 t
def IsTree (h:A0) (v:Val) (t:List Nd):Prop:=∃ cs,Has h v 7 t.length cs ∧ IsNds h cs t
theorem B7u {h:A0} {x:Cell} {sz n:Nat} {cs:List Cell} (hv:Has h (.c x) sz n cs):x.isX=false:=by
  rcases hv with ⟨e,_⟩ | ⟨id,off,r,e,_⟩ <;> cases e <;> rfl
theorem IsNd.length {h:A0} {cs:List Cell} {x:Nd} (hx:IsNd h cs x):cs.length=7:=by
  obtain ⟨a,b,rfl,_⟩:=hx;rfl
theorem IsNd.noX {h:A0} {cs:List Cell} {x:Nd} (hx:IsNd h cs x):noX cs=true:=by
  obtain ⟨a,b,rfl,h1,h2⟩:=hx
  simp only [Esc.noX,ndC,List.all_cons,List.all_nil,B7u h1,B7u h2];rfl
theorem IsNds.noX {h:A0}:∀ {t:List Nd} {cs:List Cell},IsNds h cs t → noX cs=true ∧ cs.length=t.length * 7
  | [],_,hx=>by
    have hx:_=[]:=hx
    subst hx;exact ⟨rfl,rfl⟩
  | x :: t,_,⟨c1,c2,e,h1,h2⟩=>by
    subst e
    have h3:=h1.noX
    have h4:=IsNds.noX h2
    refine ⟨?_,by rw [List.length_append,h1.length,h4.2,List.length_cons];omega⟩
    have h5:=h4.1
    unfold Esc.noX at h3 h5 ⊢
    rw [List.all_append,h3,h5];rfl
theorem IsNd.ro {h:A0} {cs:List Cell} {x:Nd} (hx:IsNd h cs x):IsNd (ro h) cs x:=by
  obtain ⟨a,b,e,h1,h2⟩:=hx
  exact ⟨a,b,e,h1.ro,h2.ro⟩
theorem IsNd.since {g h:A0} {cs:List Cell} {x:Nd} (hx:IsNd g cs x) (h1:Low g.length g h):IsNd h cs x:=by
  obtain ⟨a,b,e,h2,h3⟩:=hx
  exact ⟨a,b,e,h2.since h1,h3.since h1⟩
theorem IsNds.ro {h:A0}:∀ {t:List Nd} {cs:List Cell},IsNds h cs t → IsNds (Esc.ro h) cs t
  | [],_,hx=>hx
  | x :: t,_,⟨c1,c2,e,h1,h2⟩=>⟨c1,c2,e,h1.ro,IsNds.ro h2⟩
theorem IsNds.since {g h:A0} (h1:Low g.length g h):∀ {t:List Nd} {cs:List Cell},IsNds g cs t → IsNds h cs t
  | [],_,hx=>hx
  | x :: t,_,⟨c1,c2,e,h2,h3⟩=>⟨c1,c2,e,h2.since h1,IsNds.since h1 h3⟩
theorem IsTree.ro {h:A0} {v:Val} {t:List Nd} (ht:IsTree h v t):IsTree (Esc.ro h) v t:=by
  obtain ⟨cs,h1,h2⟩:=ht
  exact ⟨cs,h1.ro,h2.ro⟩
theorem IsTree.since {g h:A0} {v:Val} {t:List Nd} (ht:IsTree g v t) (h1:Low g.length g h):IsTree h v t:=by
  obtain ⟨cs,h2,h3⟩:=ht
  exact ⟨cs,h2.since h1,h3.since h1⟩
theorem IsTree.more {g:A0} {v:Val} {t:List Nd} (ht:IsTree g v t) (l:A0):IsTree (g ++ l) v t:=ht.since ((Low.refl (Nat.le_refl _)).new l)
theorem IsTree.len {h:A0} {v:Val} {t:List Nd} (ht:IsTree h v t):D5 v=some (.c (.i .i64 t.length)):=by
  obtain ⟨cs,h1,_⟩:=ht
  exact h1.len
theorem IsNds.at {h:A0}:∀ {t:List Nd} {cs:List Cell},IsNds h cs t → ∀ {i:Nat} {x:Nd},t[i]? = some x → IsNd h ((cs.drop (i * 7)).take 7) x
  | [],_,_,i,x,hx=>by simp at hx
  | y :: t,_,⟨c1,c2,e,h1,h2⟩,0,x,hx=>by
    subst e
    simp at hx
    subst hx
    rw [Nat.zero_mul,List.drop_zero,List.take_left' h1.length]
    exact h1
  | y :: t,_,⟨c1,c2,e,h1,h2⟩,i + 1,x,hx=>by
    subst e
    rw [show (i + 1) * 7=7 + i * 7 by omega,← List.drop_drop,List.drop_left' h1.length]
    exact IsNds.at h2 (by simpa using hx)
theorem IsTree.at {h:A0} {v:Val} {t:List Nd} (ht:IsTree h v t) {i:Nat} (hi:i < t.length) :
    ∃ a cs,B7 7 v (.c (.i .i64 (i:Int)))=some a ∧ A4 h 7 a=some (.a cs) ∧ IsNd h cs t[i]:=by
  obtain ⟨cs,h1,h2⟩:=ht
  have hcs:=h2.noX
  obtain ⟨id,off,rfl,hid,_,hB⟩:=h1.sl (by omega)
  refine ⟨.c (.p id (off + i * 7)),_,G8 hi,hB (i * 7) 7 (by rw [hcs.2];omega),h2.at (List.getElem?_eq_getElem hi)⟩
theorem Y4 {h:A0} {cs:List Cell} (hc:cs.length=7):B4 (h ++ [some (Row.mk [.i .i64 0,.i .i64 0,.i .i64 0,.i .i64 0,.i .i64 0,.ns,.ns] true)]) 7 (.c (.p h.length 0)) (.a cs)=some (h ++ [some ⟨cs,true⟩]):=by
  exact (storeAll E8 rfl hc).trans (by simp)
theorem B2d {v:Val} {t:List Nd} {a:Int} {g:A0} {q:Nat} (hv:IsTree g v t) (hs:small t):∀ (e i M:Nat) (h:A0),i + e=t.length → e < M → Low (g.length + 1) (g ++ [some (Row.mk (ndC 0 0 0 0 0 .ns .ns) true)]) h →
    match K1 (t.drop i) a with
    | some x=>∃ j1 j2 h',A2Z q M (.c (.i .i64 a)) (.c (.p g.length 0)) v (.c (.i .i64 (t.length:Int))) (.c (.i .i64 (i:Int))) h=some (.t [.a (ndC x.ino x.kind x.links x.parent x.size (.sl j1 0 x.data.length 1) (.sl j2 0 x.names.length 2)),.c (.b true)],h') ∧
        g.length ≤ j1 ∧ g.length ≤ j2 ∧ j1 ≠ j2 ∧ rd h' j1=some ⟨A1 x.data,true⟩ ∧ rd h' j2=some ⟨D0 x.names,true⟩ ∧ Low g.length g h'
    | none=>∃ h',A2Z q M (.c (.i .i64 a)) (.c (.p g.length 0)) v (.c (.i .i64 (t.length:Int))) (.c (.i .i64 (i:Int))) h=some (.t [.a (ndC 0 0 0 0 0 .ns .ns),.c (.b false)],h')
  | e,i,0,h,_,hm,_=>by omega
  | 0,i,M + 1,h,hi,hm,hlow=>by
    have e0:i=t.length:=by omega
    subst e0
    have c0:¬ ((t.length:Nat):Int) < (t.length:Nat):=by omega
    rw [List.drop_length]
    have hr:rd h g.length=some ⟨ndC 0 0 0 0 0 .ns .ns,true⟩:=by rw [hlow.2.2 _ (by omega)];exact E8
    have ef:A8 [Cell.i .i64 0,.i .i64 0,.i .i64 0,.i .i64 0,.i .i64 0,.ns,.ns] []=some (ndC 0 0 0 0 0 .ns .ns):=rfl
    have s1:=storeAll (n:=7) hr rfl (xs:=ndC 0 0 0 0 0 .ns .ns) rfl
    have l1:A4 (h.set g.length (some (Row.mk (ndC 0 0 0 0 0 .ns .ns) true))) 7 (.c (.p g.length 0))=some (.a (ndC 0 0 0 0 0 .ns .ns)):=G0 (G3 (B8 hr)) rfl
    show ∃ h',_
    rw [B3M]
    generalize ndC 0 0 0 0 0 .ns .ns=z at *
    exact ⟨_,by simp only [B9,D7,c0,decide_false,F1,ef,s1,l1,A1e,B22,A09] <;> rfl⟩
  | e + 1,i,M + 1,h,hi,hm,hlow=>by
    have hil:i < t.length:=by omega
    have c0:(i:Int) < (t.length:Nat):=by omega
    have hgl:Low g.length g h:=by
      refine ⟨Nat.le_refl _,by have:=hlow.2.1;simp at this;omega,fun id hid=>?_⟩
      rw [hlow.2.2 id (by omega),G5 hid]
    obtain ⟨ad,cs,a1,a2,a3⟩:=(hv.since hgl).at hil
    have s0:=Y4 (h:=h) a3.length
    obtain ⟨x,y,rfl,hx,hy⟩:=a3
    obtain ⟨nd,hnd⟩:∃ nd,nd=t[i]:=⟨_,rfl⟩
    rw [← hnd] at a2 s0 hx hy
    have hsm:=hs.2 t[i] (List.getElem_mem hil)
    rw [← hnd] at hsm
    have g0:A3 (h ++ [some (Row.mk (ndC nd.ino nd.kind nd.links nd.parent nd.size x y) true)]) (.c (.p h.length 0))=some (.c (.i .i64 nd.ino)):=by rw [T8];rfl
    have w1:=E2 (show i + 1 < 9223372036854775808 by have:=hs.1;omega)
    rw [List.drop_eq_getElem_cons hil,← hnd]
    by_cases c:nd.ino=a
    · subst c
      have hf:K1 (nd :: t.drop (i + 1)) nd.ino=some nd:=by
        unfold K1
        rw [List.find?_cons_of_pos (by simp)]
      rw [hf]
      show ∃ j1 j2 h',_
      obtain ⟨H,hH⟩:∃ H,H=h ++ [some (Row.mk (ndC nd.ino nd.kind nd.links nd.parent nd.size x y) true)]:=⟨_,rfl⟩
      have lH:H.length=h.length + 1:=by rw [hH];simp
      have hgr:g.length + 1 ≤ h.length:=by have:=hlow.2.1;simpa using this
      have rH:rd H h.length=some ⟨ndC nd.ino nd.kind nd.links nd.parent nd.size x y,true⟩:=by rw [hH];exact E8
      have rg:rd H g.length=some ⟨ndC 0 0 0 0 0 .ns .ns,true⟩:=by rw [hH];exact B6 (by rw [hlow.2.2 _ (by omega)];exact E8)
      have hxH:Has (H ++ [some (Row.mk [] true)]) (.c x) 1 nd.data.length (A1 nd.data):=by rw [hH];exact (hx.more _).more _
      have p1:=A5s (h:=H ++ [some (Row.mk [] true)]) (id:=H.length) (by rw [E8]) hxH (by omega) (by omega)
      have e1:(H ++ [some (Row.mk [] true)]).length=h.length + 2:=by simp [lH]
      rw [e1] at p1
      obtain ⟨H1,hH1⟩:∃ H1,H1=(H ++ [some (Row.mk [] true)]).set H.length none ++ [some (Row.mk (A1 nd.data) true)]:=⟨_,rfl⟩
      rw [← hH1] at p1
      have lH1:H1.length=h.length + 3:=by rw [hH1];simp [lH]
      have keep1:∀ id r,id < H.length → rd H id=some r → rd H1 id=some r:=fun id r hid hr=>by
        rw [hH1];refine B6 ?_
        rw [C7 (by omega)];exact B6 hr
      have r1:rd H1 h.length=some ⟨ndC nd.ino nd.kind nd.links nd.parent nd.size x y,true⟩:=keep1 _ _ (by omega) rH
      have s1:=N5 (x:=.sl (h.length + 2) 0 nd.data.length 1) (off:=5) r1 (by simp [ndC])
      have eset:(ndC nd.ino nd.kind nd.links nd.parent nd.size x y).set 5 (.sl (h.length + 2) 0 nd.data.length 1)=ndC nd.ino nd.kind nd.links nd.parent nd.size (.sl (h.length + 2) 0 nd.data.length 1) y:=rfl
      rw [eset] at s1
      obtain ⟨H2,hH2⟩:∃ H2,H2=H1.set h.length (some (Row.mk (ndC nd.ino nd.kind nd.links nd.parent nd.size (.sl (h.length + 2) 0 nd.data.length 1) y) true)):=⟨_,rfl⟩
      rw [← hH2] at s1
      have lH2:H2.length=h.length + 3:=by rw [hH2];simp [lH1]
      have rdat2:rd H2 (h.length + 2)=some ⟨A1 nd.data,true⟩:=by
        rw [hH2,C7 (by omega),hH1]
        have:=E8 (h:=(H ++ [some (Row.mk [] true)]).set H.length none) (r:=Row.mk (A1 nd.data) true)
        rw [List.length_set,e1] at this
        exact this
      have r2:rd H2 h.length=some ⟨ndC nd.ino nd.kind nd.links nd.parent nd.size (.sl (h.length + 2) 0 nd.data.length 1) y,true⟩:=by rw [hH2];exact G3 (by omega)
      have lowH2:Low h.length h H2:=by
        refine ⟨Nat.le_refl _,by omega,fun id hid=>?_⟩
        rw [hH2,C7 (by omega),hH1,G5 (by simp [lH];omega),C7 (by omega),G5 (by omega),hH,G5 hid]
      have hyH:Has (H2 ++ [some (Row.mk [] true)]) (.c y) 2 nd.names.length (D0 nd.names):=(hy.since lowH2).more _
      have p2:=A5s (h:=H2 ++ [some (Row.mk [] true)]) (id:=H2.length) (by rw [E8]) hyH (by omega) (by omega)
      have e2:(H2 ++ [some (Row.mk [] true)]).length=h.length + 4:=by simp [lH2]
      rw [e2] at p2
      obtain ⟨H3,hH3⟩:∃ H3,H3=(H2 ++ [some (Row.mk [] true)]).set H2.length none ++ [some (Row.mk (D0 nd.names) true)]:=⟨_,rfl⟩
      rw [← hH3] at p2
      have lH3:H3.length=h.length + 5:=by rw [hH3];simp [lH2]
      have keep3:∀ id r,id < H2.length → rd H2 id=some r → rd H3 id=some r:=fun id r hid hr=>by
        rw [hH3];refine B6 ?_
        rw [C7 (by omega)];exact B6 hr
      have r3:=keep3 _ _ (by omega) r2
      have s2:=N5 (x:=.sl (h.length + 4) 0 nd.names.length 2) (off:=6) r3 (by simp [ndC])
      have eset2:(ndC nd.ino nd.kind nd.links nd.parent nd.size (.sl (h.length + 2) 0 nd.data.length 1) y).set 6 (.sl (h.length + 4) 0 nd.names.length 2)=ndC nd.ino nd.kind nd.links nd.parent nd.size (.sl (h.length + 2) 0 nd.data.length 1) (.sl (h.length + 4) 0 nd.names.length 2):=rfl
      rw [eset2] at s2
      obtain ⟨N,hN⟩:∃ N,N=ndC nd.ino nd.kind nd.links nd.parent nd.size (.sl (h.length + 2) 0 nd.data.length 1) (.sl (h.length + 4) 0 nd.names.length 2):=⟨_,rfl⟩
      have hNl:N.length=7:=by rw [hN];rfl
      rw [← hN] at s2
      obtain ⟨H4,hH4⟩:∃ H4,H4=H3.set h.length (some (Row.mk N true)):=⟨_,rfl⟩
      rw [← hH4] at s2
      have r4:rd H4 h.length=some ⟨N,true⟩:=by rw [hH4];exact G3 (by omega)
      have rg4:rd H4 g.length=some ⟨ndC 0 0 0 0 0 .ns .ns,true⟩:=by
        rw [hH4,C7 (by omega)]
        refine keep3 _ _ (by omega) ?_
        rw [hH2,C7 (by omega)]
        exact keep1 _ _ (by omega) rg
      have l4:=G0 (n:=7) r4 hNl
      have s5:=storeAll (n:=7) rg4 rfl (xs:=N) hNl
      have l5:A4 (H4.set g.length (some (Row.mk N true))) 7 (.c (.p g.length 0))=some (.a N):=G0 (G3 (B8 rg4)) hNl
      have v5:A3 (H ++ [some (Row.mk [] true)]) (.c (.p h.length 5))=some (.c x):=D8 (B6 rH) rfl (by simp)
      have v6:A3 (H2 ++ [some (Row.mk [] true)]) (.c (.p h.length 6))=some (.c y):=D8 (B6 r2) rfl (by simp)
      refine ⟨h.length + 2,h.length + 4,H4.set g.length (some (Row.mk N true)),?_,by omega,by omega,by omega,?_,?_,?_⟩
      · rw [← hH] at g0
        rw [B3M,← hN]
        have ef:A8 ([]:List Cell) []=some []:=rfl
        simp only [B9,D7,c0,decide_true,F6,a1,a2,s0,I9,Nat.add_zero,Nat.zero_add,g0,A0l,eq_self,decide_true,ef,← hH,v5,p1,s1,v6,p2,s2,l4,s5,l5,A1e,B22,A09]
      · rw [C7 (by omega),hH4,C7 (by omega)]
        exact keep3 _ _ (by omega) rdat2
      · rw [C7 (by omega),hH4,C7 (by omega),hH3]
        have:=E8 (h:=(H2 ++ [some (Row.mk [] true)]).set H2.length none) (r:=Row.mk (D0 nd.names) true)
        rw [List.length_set,e2] at this
        exact this
      · refine ⟨Nat.le_refl _,by simp [hH4,lH3];omega,fun id hid=>?_⟩
        rw [C7 (by omega),hH4,C7 (by omega),hH3,G5 (by simp [lH2];omega),C7 (by omega),G5 (by omega),lowH2.2.2 id (by omega)]
        exact hgl.2.2 id hid
    · have hf:K1 (nd :: t.drop (i + 1)) a=K1 (t.drop (i + 1)) a:=by
        unfold K1
        rw [List.find?_cons_of_neg (by simpa using c)]
      have ih:=B2d (q:=q) (a:=a) hv hs e (i + 1) M (h ++ [some (Row.mk (ndC nd.ino nd.kind nd.links nd.parent nd.size x y) true)]) (by omega) (by omega) (hlow.new _)
      have estep:A2Z q (M + 1) (.c (.i .i64 a)) (.c (.p g.length 0)) v (.c (.i .i64 (t.length:Int))) (.c (.i .i64 (i:Int))) h=A2Z q M (.c (.i .i64 a)) (.c (.p g.length 0)) v (.c (.i .i64 (t.length:Int))) (.c (.i .i64 ((i + 1:Nat):Int))) (h ++ [some (Row.mk (ndC nd.ino nd.kind nd.links nd.parent nd.size x y) true)]):=by
        rw [B3M]
        simp only [B9,D7,c0,decide_true,F6,a1,a2,s0,I9,Nat.add_zero,Nat.zero_add,g0,A0l,c,decide_false,F1,I0,w1]
      rw [hf,estep]
      exact ih
theorem C1j {v:Val} {t:List Nd} {a:Int} {x:Nd} {h:A0} (hv:IsTree h v t) (hs:small t) (hf:K1 t a=some x) :
    Z2 [v,.c (.i .i64 a)] h=some (.t [.a (ndC x.ino x.kind x.links x.parent x.size (.sl h.length 0 x.data.length 1) (.sl (h.length + 1) 0 x.names.length 2)),.c (.b true)],h ++ [some ⟨A1 x.data,true⟩,some ⟨D0 x.names,true⟩]):=by
  have key:=B2d (q:=t.length + 1) (a:=a) hv.ro hs t.length 0 (t.length + 1) (ro h ++ [some (Row.mk (ndC 0 0 0 0 0 .ns .ns) true)]) (by omega) (by omega) (Low.refl (by simp))
  rw [List.drop_zero,hf] at key
  obtain ⟨j1,j2,g',e,h1,h2,h3,h4,h5,h6⟩:=key
  rw [M9] at h1 h2
  have hl:=hv.ro.len
  have e2:A29 (t.length + 1) [v,.c (.i .i64 a)] (ro h)=some (.t [.a (ndC x.ino x.kind x.links x.parent x.size (.sl j1 0 x.data.length 1) (.sl j2 0 x.names.length 2)),.c (.b true)],g'):=by
    rw [B4a,hl,B9]
    exact e
  have n1:=A2N h4 (by simp)
  have n2:=A2N h5 B11
  have hc1:H7 g' h.length [] (ndC x.ino x.kind x.links x.parent x.size (.sl j1 0 x.data.length 1) (.sl j2 0 x.names.length 2))=some (ndC x.ino x.kind x.links x.parent x.size (.sl h.length 0 x.data.length 1) (.sl (h.length + 1) 0 x.names.length 2),[j1,j2]):=by
    have q1:¬ j1 < h.length:=by omega
    have q2:¬ j2 < h.length:=by omega
    simp [ndC,H7,Cell.low,Cell.flat,q1,q2,h1,h2,n1,n2,Ne.symm h3]
  have hc2:H7 g' h.length [j1,j2] [.b true]=some ([.b true],[j1,j2]):=A1n (by simp)
  rw [C51 e2 (v2:=.t [.a (ndC x.ino x.kind x.links x.parent x.size (.sl h.length 0 x.data.length 1) (.sl (h.length + 1) 0 x.names.length 2)),.c (.b true)]) (ids:=[j1,j2]) (by
    simp only [J9,P5,hc1,hc2,Option.bind_some,Option.map_some])]
  simp [h4,h5]
theorem C1i {v:Val} {t:List Nd} {a:Int} {h:A0} (hv:IsTree h v t) (hs:small t) (hf:K1 t a=none) :
    Z2 [v,.c (.i .i64 a)] h=some (.t [.a (ndC 0 0 0 0 0 .ns .ns),.c (.b false)],h):=by
  have key:=B2d (q:=t.length + 1) (a:=a) hv.ro hs t.length 0 (t.length + 1) (ro h ++ [some (Row.mk (ndC 0 0 0 0 0 .ns .ns) true)]) (by omega) (by omega) (Low.refl (by simp))
  rw [List.drop_zero,hf] at key
  obtain ⟨g',e⟩:=key
  have hl:=hv.ro.len
  have e2:A29 (t.length + 1) [v,.c (.i .i64 a)] (ro h)=some (.t [.a (ndC 0 0 0 0 0 .ns .ns),.c (.b false)],g'):=by
    rw [B4a,hl,B9]
    exact e
  exact C50 e2 rfl
theorem C1h {v:Val} {t:List Nd} {a:Int} {h:A0} (hv:IsTree h v t) (hs:small t) :
    ∃ cs l,Z2 [v,.c (.i .i64 a)] h=some (.t [.a cs,.c (.b (K1 t a).isSome)],h ++ l) ∧ IsNd (h ++ l) cs ((K1 t a).getD ⟨0,0,0,0,0,[],[]⟩):=by
  cases hf:K1 t a with
  | some x=>exact ⟨_,_,C1j hv hs hf,_,_,rfl,Has.tr (by simp) (show (A1 x.data).length=x.data.length * 1 by rw [B5,Nat.mul_one]) (O6 _),Has.tr (by simp) A0t A5C⟩
  | none=>exact ⟨_,[],by rw [C1i hv hs hf,List.append_nil];rfl,_,_,rfl,.inl ⟨rfl,rfl,rfl⟩,.inl ⟨rfl,rfl,rfl⟩⟩
end Go.Proofs.YteckncopbicmcaaGreat
end
section
namespace Go.Proofs.YteckncopbicmcaaGreat
open Go Go.Esc
theorem A01 {h:A0} {y:Cell} {l:List Ent} (hy:Has h (.c y) 2 l.length (D0 l)) {i:Nat} (hi:i < l.length):∃ a,B7 2 (.c y) (.c (.i .i64 (i:Int)))=some a ∧ A4 h 2 a=some (.a (E3 (some l[i]))):=by
  obtain ⟨id,off,e,hid,_,hB⟩:=hy.sl (by omega)
  cases e
  refine ⟨.c (.p id (off + i * 2)),G8 hi,?_⟩
  rw [hB (i * 2) 2 (by rw [A0t];omega),A2D l i hi]
theorem A1d {h:A0} {x:Ent}:B4 (h ++ [some (Row.mk [.s [],.i .i64 0] true)]) 2 (.c (.p h.length 0)) (.a (E3 (some x)))=some (h ++ [some ⟨E3 (some x),true⟩]):=by rw [A0o];rfl
theorem B10 {h:A0} {x:Ent}:A3 (h ++ [some (Row.mk (E3 (some x)) true)]) (.c (.p h.length 0))=some (.c (.s x.1)):=by rw [T8];rfl
theorem A3w {h:A0} {x:Ent}:A3 (h ++ [some (Row.mk (E3 (some x)) true)]) (.c (.p h.length 1))=some (.c (.i .i64 x.2)):=by rw [T8];rfl
def S5 (l:List Ent) (s:List UInt8):Int × Bool:=match l.find? fun e=>decide (e.1=s) with
  | some e=>(e.2,decide (0 ≤ e.2))
  | none=>(0,false)
theorem C05 {y:Cell} {l:List Ent} {s:List UInt8} {g:A0} {q:Nat} (hy:Has g (.c y) 2 l.length (D0 l)) (h62:l.length ≤ 1000000):∀ (e i M:Nat) (h:A0),i + e=l.length → e < M → Low g.length g h →
    ∃ h',A9J q M (.c (.s s)) (.c y) (.c (.i .i64 (l.length:Int))) (.c (.i .i64 (i:Int))) h=some (.t [.c (.i .i64 (S5 (l.drop i) s).1),.c (.b (S5 (l.drop i) s).2)],h')
  | e,i,0,h,_,hm,_=>by omega
  | 0,i,M + 1,h,hi,hm,hlow=>by
    have c0:¬ ((i:Int) < (l.length:Nat)):=by omega
    rw [C1P,List.drop_of_length_le (by omega)]
    exact ⟨_,by simp only [B9,D7,c0,decide_false,F1,A1e,A09,S5,List.find?_nil] <;> rfl⟩
  | e + 1,i,M + 1,h,hi,hm,hlow=>by
    have hil:i < l.length:=by omega
    have c0:(i:Int) < (l.length:Nat):=by omega
    obtain ⟨a,a1,a2⟩:=A01 (hy.since hlow) hil
    have w1:=E2 (show i + 1 < 9223372036854775808 by omega)
    rw [List.drop_eq_getElem_cons hil]
    obtain ⟨x,hx⟩:∃ x,x=l[i]:=⟨_,rfl⟩
    rw [← hx] at a2 ⊢
    rw [C1P]
    by_cases c:x.1=s
    · have et:S5 (x :: l.drop (i + 1)) s=(x.2,decide (0 ≤ x.2)):=by
        unfold S5
        rw [List.find?_cons_of_pos (by simpa using c)]
      rw [et]
      exact ⟨_,by simp only [B9,D7,c0,decide_true,F6,a1,a2,A1d,I9,Nat.zero_add,Nat.add_zero,B10,A3w,B1f,c,A1e,A09,B4J] <;> rfl⟩
    · have et:S5 (x :: l.drop (i + 1)) s=S5 (l.drop (i + 1)) s:=by
        unfold S5
        rw [List.find?_cons_of_neg (by simpa using c)]
      obtain ⟨h',f1⟩:=C05 (q:=q) (s:=s) hy h62 e (i + 1) M (h ++ [some ⟨E3 (some x),true⟩]) (by omega) (by omega) (hlow.new _)
      rw [et]
      refine ⟨h',?_⟩
      simp only [B9,D7,c0,decide_true,F6,a1,a2,A1d,I9,Nat.zero_add,Nat.add_zero,B10,B1f,c,decide_false,F1,I0,w1]
      exact f1
theorem D3H {cs:List Cell} {x:Nd} {s:List UInt8} {h:A0} (hx:IsNd h cs x) (h62:x.names.length ≤ 1000000) :
    A5m [.a cs,.c (.s s)] h=some (.t [.c (.i .i64 (S5 x.names s).1),.c (.b (S5 x.names s).2)],h):=by
  have key:∀ g,IsNd g cs x → ∃ g',A7s (x.names.length + 1) [.a cs,.c (.s s)] g=some (.t [.c (.i .i64 (S5 x.names s).1),.c (.b (S5 x.names s).2)],g'):=by
    rintro g ⟨a,b,rfl,_,hy⟩
    have hl:=hy.len
    have g6:A3 (g ++ [some (Row.mk (ndC x.ino x.kind x.links x.parent x.size a b) true)]) (.c (.p g.length 6))=some (.c b):=by rw [T8];rfl
    obtain ⟨h',f1⟩:=C05 (q:=x.names.length + 1) (s:=s) (hy.more [some (Row.mk (ndC x.ino x.kind x.links x.parent x.size a b) true)]) h62 x.names.length 0 (x.names.length + 1) _ (by omega) (by omega) (Low.refl (Nat.le_refl _))
    rw [List.drop_zero] at f1
    rw [C3v]
    generalize ndC x.ino x.kind x.links x.parent x.size a b=z at *
    refine ⟨h',?_⟩
    simp only [Z6,B9,I9,Nat.zero_add,g6,hl]
    exact f1
  obtain ⟨g',e⟩:=key (ro h) hx.ro
  exact C6b e rfl
theorem D24 {x:Nd} {s:List UInt8}:B3z x s=if (S5 x.names s).2=true then some (S5 x.names s).1 else none:=by
  unfold B3z S5
  cases x.names.find? fun e=>decide (e.1=s) with
  | none=>rfl
  | some e =>
    by_cases c:0 ≤ e.2
    · simp [c]
    · simp [c]
def atC (o:Option Int):List Part:=[.c (.i .i64 (o.getD 0)),.c (.b o.isSome)]
theorem B5k {v w:Val} {t:List Nd} {ps:E9} {g:A0} {q:Nat} (hv:IsTree g v t) (hs:small t) (hw:Has g w 1 ps.length (encS ps)) (h62:ps.length ≤ 1000000):∀ (e i M:Nat) (a:Int) (h:A0),i + e=ps.length → e < M → Low g.length g h →
    ∃ h',A9y q M v (.c (.i .i64 a)) w (.c (.i .i64 (ps.length:Int))) (.c (.i .i64 (i:Int))) h=some (.t (atC (A2t t a (ps.drop i))),h')
  | e,i,0,a,h,_,hm,_=>by omega
  | 0,i,M + 1,a,h,hi,hm,hlow=>by
    have c0:¬ ((i:Int) < (ps.length:Nat)):=by omega
    obtain ⟨cs,l,f1,f2⟩:=C1h (a:=a) (hv.since hlow) hs
    have s0:=Y4 (h:=h ++ l) f2.length
    rw [C09,List.drop_of_length_le (by omega),A2t]
    cases hf:(K1 t a).isSome with
    | true =>
      rw [hf] at f1
      rw [if_pos rfl]
      exact ⟨_,by simp only [B9,D7,c0,decide_false,F1,f1,O0,List.getElem?_cons_zero,List.getElem?_cons_succ,Option.map_some,O7,S4,s0,S9,Bool.not_true,A1e,A09,atC,Option.getD_some,Option.isSome_some] <;> rfl⟩
    | false =>
      rw [hf] at f1
      rw [if_neg (by simp)]
      exact ⟨_,by simp only [B9,D7,c0,decide_false,F1,F6,f1,O0,List.getElem?_cons_zero,List.getElem?_cons_succ,Option.map_some,O7,S4,s0,S9,Bool.not_false,A1e,A09,atC,Option.getD_none,Option.isSome_none] <;> rfl⟩
  | e + 1,i,M + 1,a,h,hi,hm,hlow=>by
    have hil:i < ps.length:=by omega
    have c0:(i:Int) < (ps.length:Nat):=by omega
    have w1:=E2 (show i + 1 < 9223372036854775808 by omega)
    obtain ⟨id,off,rfl,hid,hA,_⟩:=(hw.since hlow).sl (by omega)
    have ad:B7 1 (.c (.sl id off ps.length 1)) (.c (.i .i64 (i:Int)))=some (.c (.p id (off + i))):=by rw [G8 hil,Nat.mul_one]
    have l1:A3 h (.c (.p id (off + i)))=some (.c (.s ps[i])):=hA i _ (by rw [A0s,List.getElem?_eq_getElem hil];rfl)
    obtain ⟨cs,l,f1,f2⟩:=C1h (a:=a) (hv.since hlow) hs
    have s0:=Y4 (h:=h ++ l) f2.length
    have l7:A4 (h ++ l ++ [some (Row.mk cs true)]) 7 (.c (.p (h ++ l).length 0))=some (.a cs):=G0 E8 f2.length
    rw [List.drop_eq_getElem_cons hil,C09,A2t]
    obtain ⟨s,hse⟩:∃ s,s=ps[i]:=⟨_,rfl⟩
    rw [← hse] at l1 ⊢
    cases hf:K1 t a with
    | none =>
      rw [hf] at f1
      exact ⟨_,by simp only [B9,D7,c0,decide_true,F6,ad,l1,f1,O0,List.getElem?_cons_zero,List.getElem?_cons_succ,Option.map_some,O7,S4,s0,Option.isSome_none,F1,B3E,S9,Bool.not_false,A1e,A09,atC,Option.getD_none] <;> rfl⟩
    | some x =>
      rw [hf] at f1 f2
      rw [Option.getD_some] at f2
      have hx62:=(hs.2 x (List.mem_of_find?_eq_some hf)).2
      have ht:=D3H (s:=s) (h:=h ++ l ++ [some (Row.mk cs true)]) (f2.since ((Low.refl (Nat.le_refl _)).new _)) hx62
      dsimp only
      rw [D24]
      cases hc:(S5 x.names s).2 with
      | false =>
        rw [hc] at ht
        rw [if_neg (by simp)]
        exact ⟨_,by simp only [B9,D7,c0,decide_true,F6,ad,l1,f1,O0,List.getElem?_cons_zero,List.getElem?_cons_succ,Option.map_some,O7,S4,s0,Option.isSome_some,l7,ht,B3E,S9,Bool.not_false,A1e,A09,atC,Option.getD_none,Option.isSome_none] <;> rfl⟩
      | true =>
        rw [hc] at ht
        rw [if_pos rfl]
        obtain ⟨h',k1⟩:=B5k (q:=q) hv hs hw h62 e (i + 1) M (S5 x.names s).1 (h ++ l ++ [some ⟨cs,true⟩]) (by omega) (by omega) ((hlow.new l).new _)
        refine ⟨h',?_⟩
        simp only [B9,D7,c0,decide_true,F6,ad,l1,f1,O0,List.getElem?_cons_zero,List.getElem?_cons_succ,Option.map_some,O7,S4,s0,Option.isSome_some,l7,ht,B3E,S9,Bool.not_true,F1,I0,w1]
        exact k1
theorem D28 {v w:Val} {t:List Nd} {ps:E9} {h:A0} (hv:IsTree h v t) (hs:small t) (hw:Has h w 1 ps.length (encS ps)) (h62:ps.length ≤ 1000000) :
    A5i [v,w] h=some (.t (atC (A2t t 1 ps)),h):=by
  have key:∀ g,IsTree g v t → Has g w 1 ps.length (encS ps) → ∃ g',A7n (ps.length + 1) [v,w] g=some (.t (atC (A2t t 1 ps)),g'):=by
    intro g hv hw
    obtain ⟨h',f1⟩:=B5k (q:=ps.length + 1) hv hs hw h62 ps.length 0 (ps.length + 1) 1 g (by omega) (by omega) (Low.refl (Nat.le_refl _))
    rw [List.drop_zero] at f1
    rw [C3o,hw.len,B9]
    exact ⟨h',f1⟩
  obtain ⟨g',e⟩:=key (ro h) hv.ro hw.ro
  exact C5W e (by simp [Val.flat,atC])
theorem B1S {y:Cell} {l:List Ent} {a:Int} {g:A0} {q:Nat} {x10 x11 x12:Val} (hy:Has g (.c y) 2 l.length (D0 l)) (h62:l.length ≤ 1000000):∀ (e i M2 M:Nat) (c:Nat) (h:A0),i + e=l.length → e < M2 → c + e < 4000000000000000000 → Low g.length g h →
    ∃ h',A9z q M M2 (.c (.i .i64 a)) (.c (.i .i64 (c:Int))) x10 x11 x12 (.c y) (.c (.i .i64 (l.length:Int))) (.c (.i .i64 (i:Int))) h=bnd (A2 .add x12 (.c (.i .i64 1))) (fun v17=>A6g q M (.c (.i .i64 a)) (.c (.i .i64 ((c + ((l.drop i).filter fun e=>decide (e.2=a)).length:Nat):Int))) x10 x11 v17 h') ∧ Low g.length g h'
  | e,i,0,M,c,h,_,hm,_,_=>by omega
  | 0,i,M2 + 1,M,c,h,hi,hm,hc,hlow=>by
    have c0:¬ ((i:Int) < (l.length:Nat)):=by omega
    rw [B3L,List.drop_of_length_le (by omega)]
    exact ⟨h,by simp only [B9,D7,c0,decide_false,F1];rfl,hlow⟩
  | e + 1,i,M2 + 1,M,c,h,hi,hm,hc,hlow=>by
    have hil:i < l.length:=by omega
    have c0:(i:Int) < (l.length:Nat):=by omega
    obtain ⟨ad,a1,a2⟩:=A01 (hy.since hlow) hil
    have w1:=E2 (show i + 1 < 9223372036854775808 by omega)
    have w2:=E2 (show c + 1 < 9223372036854775808 by omega)
    rw [List.drop_eq_getElem_cons hil]
    obtain ⟨x,hx⟩:∃ x,x=l[i]:=⟨_,rfl⟩
    rw [← hx] at a2 ⊢
    by_cases ce:x.2=a
    · obtain ⟨h',f1,f2⟩:=B1S (q:=q) (a:=a) (x10:=x10) (x11:=x11) (x12:=x12) hy h62 e (i + 1) M2 M (c + 1) (h ++ [some ⟨E3 (some x),true⟩]) (by omega) (by omega) (by omega) (hlow.new _)
      refine ⟨h',?_,f2⟩
      rw [B3L,List.filter_cons_of_pos (by simpa using ce),List.length_cons,show c + (((l.drop (i + 1)).filter fun e=>decide (e.2=a)).length + 1)=c + 1 + ((l.drop (i + 1)).filter fun e=>decide (e.2=a)).length by omega]
      simp only [B9,D7,c0,decide_true,F6,a1,a2,A1d,I9,Nat.zero_add,Nat.add_zero,A3w,A0l,ce,I0,w1,w2,C1d]
      exact f1
    · obtain ⟨h',f1,f2⟩:=B1S (q:=q) (a:=a) (x10:=x10) (x11:=x11) (x12:=x12) hy h62 e (i + 1) M2 M c (h ++ [some ⟨E3 (some x),true⟩]) (by omega) (by omega) (by omega) (hlow.new _)
      refine ⟨h',?_,f2⟩
      rw [B3L,List.filter_cons_of_neg (by simpa using ce)]
      simp only [B9,D7,c0,decide_true,F6,a1,a2,A1d,I9,Nat.zero_add,Nat.add_zero,A3w,A0l,ce,decide_false,F1,I0,w1,C1d]
      exact f1
theorem C0X {v:Val} {t:List Nd} {a:Int} {g:A0} {q:Nat} (hv:IsTree g v t) (hs:small t) (hq:1000000 < q):∀ (e i M c:Nat) (h:A0),i + e=t.length → e < M → c ≤ i * 1000000 → Low g.length g h →
    ∃ h',A6g q M (.c (.i .i64 a)) (.c (.i .i64 (c:Int))) v (.c (.i .i64 (t.length:Int))) (.c (.i .i64 (i:Int))) h=some (.c (.i .i64 ((c + A2A (t.drop i) a:Nat):Int)),h')
  | e,i,0,c,h,_,hm,_,_=>by omega
  | 0,i,M + 1,c,h,hi,hm,hc,hlow=>by
    have c0:¬ ((i:Int) < (t.length:Nat)):=by omega
    rw [C1e,List.drop_of_length_le (by omega)]
    exact ⟨h,by simp only [B9,D7,c0,decide_false,F1];rfl⟩
  | e + 1,i,M + 1,c,h,hi,hm,hc,hlow=>by
    have hil:i < t.length:=by omega
    have c0:(i:Int) < (t.length:Nat):=by omega
    have h6:=hs.1
    have w1:=E2 (show i + 1 < 9223372036854775808 by omega)
    obtain ⟨ad,cs,a1,a2,a3⟩:=(hv.since hlow).at hil
    have s0:=Y4 (h:=h) a3.length
    obtain ⟨x,y,rfl,hx,hy⟩:=a3
    have hsm:=(hs.2 t[i] (List.getElem_mem hil)).2
    rw [List.drop_eq_getElem_cons hil]
    obtain ⟨nd,hnd⟩:∃ nd,nd=t[i]:=⟨_,rfl⟩
    rw [← hnd] at a2 s0 hx hy hsm ⊢
    have hl:=hy.len
    have g6:A3 (h ++ [some (Row.mk (ndC nd.ino nd.kind nd.links nd.parent nd.size x y) true)]) (.c (.p h.length 6))=some (.c y):=by rw [T8];rfl
    obtain ⟨h1,f1,f2⟩:=B1S (q:=q) (a:=a) (x10:=v) (x11:=.c (.i .i64 (t.length:Int))) (x12:=.c (.i .i64 (i:Int))) (hy.more [some (Row.mk (ndC nd.ino nd.kind nd.links nd.parent nd.size x y) true)]) hsm nd.names.length 0 q M c _ (by omega) (by omega) (by omega) (Low.refl (Nat.le_refl _))
    rw [List.drop_zero,I0,B9,w1] at f1
    have hfl:(nd.names.filter fun e=>decide (e.2=a)).length ≤ nd.names.length:=List.length_filter_le _ _
    obtain ⟨h',k1⟩:=C0X (a:=a) hv hs hq e (i + 1) M (c + (nd.names.filter fun e=>decide (e.2=a)).length) h1 (by omega) (by omega) (by omega) (hlow.trans (by
      have:=f2.2.1
      refine ⟨hlow.2.1 |> fun _=>by have:=hlow.2.1;omega,by simp at this;omega,fun id hid=>?_⟩
      have h3:=hlow.2.1
      rw [f2.2.2 id (by simp;omega),G5 (by omega)]))
    have ec:A2A (nd :: t.drop (i + 1)) a=(nd.names.filter fun e=>decide (e.2=a)).length + A2A (t.drop (i + 1)) a:=by simp [A2A]
    rw [ec,← Nat.add_assoc]
    refine ⟨h',?_⟩
    rw [C1e]
    simp only [B9,D7,c0,decide_true,F6,a1,a2,s0,I9,Nat.zero_add,g6,hl]
    exact f1.trans k1
theorem D3d {v:Val} {t:List Nd} {a:Int} {h:A0} (hv:IsTree h v t) (hs:small t):A5j [v,.c (.i .i64 a)] h=some (.c (.i .i64 (A2A t a:Nat)),h):=by
  have key:∀ g,IsTree g v t → ∃ g',A7o (t.length + 1000001) [v,.c (.i .i64 a)] g=some (.c (.i .i64 (A2A t a:Nat)),g'):=by
    intro g hv
    obtain ⟨h',f1⟩:=C0X (q:=t.length + 1000001) (a:=a) hv hs (by omega) t.length 0 (t.length + 1000001) 0 g (by omega) (by omega) (by omega) (Low.refl (Nat.le_refl _))
    rw [List.drop_zero,Nat.zero_add] at f1
    rw [C3p,hv.len,B9]
    exact ⟨h',f1⟩
  obtain ⟨g',e⟩:=key (ro h) hv.ro
  exact C5Y e rfl
end Go.Proofs.YteckncopbicmcaaGreat
end
section
namespace Go.Proofs.YteckncopbicmcaaGreat
open Go Go.Esc
def HeldX (h:A0) (x:Cell) (cs:List Cell) (n sz r:Nat):Prop:=(n=0 ∧ cs=[] ∧ x=.ns) ∨ ∃ id,x=.sl id 0 n sz ∧ rd h id=some ⟨cs,true⟩ ∧ cs.length=n * sz ∧ id ≠ r
theorem HeldX.keep {h h':A0} {x:Cell} {cs:List Cell} {n sz r:Nat} (hx:HeldX h x cs n sz r) (hk:∀ id m,x=.sl id 0 m sz → rd h' id=rd h id):HeldX h' x cs n sz r:=by
  rcases hx with hx | ⟨id,e,hr,hl,hne⟩
  · exact .inl hx
  · exact .inr ⟨id,e,by rw [hk id n e];exact hr,hl,hne⟩
theorem HeldX.lt {h:A0} {x:Cell} {cs:List Cell} {n sz r id m:Nat} (hx:HeldX h x cs n sz r) (e:x=.sl id 0 m sz):id < h.length:=by
  rcases hx with ⟨_,_,e2⟩ | ⟨id',e2,hr,_,_⟩
  · rw [e] at e2;cases e2
  · rw [e] at e2;cases e2;exact B8 hr
theorem B69 {h:A0} {x:Cell} {cs0 cs ys:List Cell} {r off n sz:Nat} (hr:rd h r=some ⟨cs0,true⟩) (hx:cs0[off]? = some x) (hd:HeldX h x cs n sz r) (hl:n ≤ 100000) (hy:ys.length=sz) (hsz:0 < sz) :
    ∃ id h2 h3,A3 h (.c (.p r off))=some (.c x) ∧ F0 (h ++ [some ⟨ys,true⟩]) sz (.c x) (.c (.sl h.length 0 1 sz))=some (.c (.sl id 0 (n + 1) sz),h2) ∧ E7 h2 (.c (.p r off)) (.c (.sl id 0 (n + 1) sz))=some h3 ∧
      rd h3 r=some ⟨cs0.set off (.sl id 0 (n + 1) sz),true⟩ ∧ h.length < id ∧ rd h3 id=some ⟨cs ++ ys,true⟩ ∧ (cs ++ ys).length=(n + 1) * sz ∧ (∀ j,j < h.length → j ≠ r → (∀ m,x ≠ .sl j 0 m sz) → rd h3 j=rd h j) ∧ h.length < h3.length:=by
  have hrl:=B8 hr
  have l1:A3 h (.c (.p r off))=some (.c x):=D8 hr hx (by simp)
  have hof:off < cs0.length:=(List.getElem?_eq_some_iff.1 hx).1
  have e1:(h ++ [some (Row.mk ys true)]).length=h.length + 1:=by simp
  rcases hd with ⟨rfl,rfl,rfl⟩ | ⟨id,rfl,hi,hcl,hne⟩
  · have hA:=B1u (h:=h ++ [some ⟨ys,true⟩]) (jd:=h.length) (m:=1) (sz:=sz) (ys:=ys) (by simp) (by omega) hsz (by omega)
    rw [e1] at hA
    have hr2:rd (h ++ [some (Row.mk ys true)] ++ [some (Row.mk ys true)]) r=some ⟨cs0,true⟩:=B6 (B6 hr)
    have s1:=N5 (x:=.sl (h.length + 1) 0 1 sz) (off:=off) hr2 hof
    refine ⟨h.length + 1,_,_,l1,hA,s1,G3 (B8 hr2),by omega,?_,by simp [hy],fun j hj hjr _=>?_,by simp⟩
    · rw [C7 (by omega)]
      have:=E8 (h:=h ++ [some (Row.mk ys true)]) (r:=⟨ys,true⟩)
      rw [e1] at this
      exact this
    · rw [C7 (Ne.symm hjr),G5 (by simp;omega),G5 hj]
  · have hil:=B8 hi
    have hA:=A0V (h:=h ++ [some ⟨ys,true⟩]) (id:=id) (jd:=h.length) (n:=n) (m:=1) (sz:=sz) (cs:=cs) (ys:=ys) (rw:=true) (B6 hi) hcl (by simp) (by omega) rfl hsz (by omega)
    rw [e1] at hA
    have hr2:rd ((h ++ [some (Row.mk ys true)]).set id none ++ [some (Row.mk (cs ++ ys) true)]) r=some ⟨cs0,true⟩:=by
      refine B6 ?_
      rw [C7 hne];exact B6 hr
    have s1:=N5 (x:=.sl (h.length + 1) 0 (n + 1) sz) (off:=off) hr2 hof
    refine ⟨h.length + 1,_,_,l1,hA,s1,G3 (B8 hr2),by omega,?_,by simp [hcl,hy,Nat.add_mul],fun j hj hjr hjx=>?_,by simp;omega⟩
    · rw [C7 (by omega)]
      have:=E8 (h:=(h ++ [some (Row.mk ys true)]).set id none) (r:=⟨cs ++ ys,true⟩)
      rw [List.length_set,e1] at this
      exact this
    · have hji:j ≠ id:=fun e=>hjx n (by rw [e])
      rw [C7 (Ne.symm hjr),G5 (by simp;omega),C7 (Ne.symm hji),G5 hj]
end Go.Proofs.YteckncopbicmcaaGreat
end
section
namespace Go.Proofs.YteckncopbicmcaaGreat
open Go Go.Esc
structure NodeP (D:Dev) (n:Int) (V:List Cell) (z:Nd) (L:List Ent) (g:A0) (F:List Ent) (h:A0):Prop where
  low:Low g.length g h
  r0:rd h g.length=some ⟨V,true⟩
  r1:rd h (g.length + 1)=some ⟨ndC 0 0 0 0 0 .ns .ns,true⟩
  r4:rd h (g.length + 4)=some ⟨A1 z.data,true⟩
  r5:rd h (g.length + 5)=some ⟨D0 L,true⟩
  r3:∃ x,rd h (g.length + 3)=some ⟨ndC z.ino z.kind z.links z.parent z.size (.sl (g.length + 4) 0 z.data.length 1) x,true⟩ ∧ HeldX h x (D0 F) F.length 2 (g.length + 3) ∧ ∀ id m,x=.sl id 0 m 2 → g.length + 6 ≤ id
theorem NodeP.more {D:Dev} {n:Int} {V:List Cell} {z:Nd} {L:List Ent} {g h:A0} {F:List Ent} (P:NodeP D n V z L g F h) (t:A0):NodeP D n V z L g F (h ++ t):=by
  obtain ⟨x,h1,h2,h3⟩:=P.r3
  exact ⟨P.low.new _,B6 P.r0,B6 P.r1,B6 P.r4,B6 P.r5,x,B6 h1,h2.keep fun id m e=>G5 (h2.lt e),h3⟩
theorem B2W {D:Dev} {n m:Int} {f:Cell} {g:A0} {q:Nat} {z:Nd} {L:List Ent} (hD:okD D) (hv:IsView g f D) (h62:L.length ≤ 10000):∀ (e i M:Nat) (F:List Ent) (h:A0),i + e=L.length → e < M → F.length ≤ i → NodeP D n (vwC D.length n m f) z L g F h →
    ∃ x h',A9I q M (.c (.p g.length 0)) (.c (.p (g.length + 1) 0)) (.c (.p (g.length + 3) 0)) (.c (.sl (g.length + 5) 0 L.length 2)) (.c (.i .i64 (L.length:Int))) (.c (.i .i64 (i:Int))) h =
      some (.a (ndC z.ino z.kind z.links z.parent z.size (.sl (g.length + 4) 0 z.data.length 1) x),h') ∧ rd h' (g.length + 4)=some ⟨A1 z.data,true⟩ ∧
      HeldX h' x (D0 (F ++ (L.drop i).filter (A1y D n))) (F ++ (L.drop i).filter (A1y D n)).length 2 (g.length + 3) ∧ (∀ id m,x=.sl id 0 m 2 → g.length + 6 ≤ id) ∧ Low g.length g h'
  | e,i,0,F,h,_,hm,_,_=>by omega
  | 0,i,M + 1,F,h,hi,hm,hF,P=>by
    have c0:¬ ((i:Int) < (L.length:Nat)):=by omega
    obtain ⟨x,h1,h2,h3⟩:=P.r3
    have l7:=G0 (n:=7) h1 rfl
    have s7:=storeAll (n:=7) P.r1 rfl (xs:=ndC z.ino z.kind z.links z.parent z.size (.sl (g.length + 4) 0 z.data.length 1) x) rfl
    have l8:A4 (h.set (g.length + 1) (some (Row.mk (ndC z.ino z.kind z.links z.parent z.size (.sl (g.length + 4) 0 z.data.length 1) x) true))) 7 (.c (.p (g.length + 1) 0))=some (.a (ndC z.ino z.kind z.links z.parent z.size (.sl (g.length + 4) 0 z.data.length 1) x)):=G0 (G3 (B8 P.r1)) rfl
    rw [List.drop_of_length_le (by omega),List.filter_nil,List.append_nil]
    refine ⟨x,h.set (g.length + 1) (some (Row.mk (ndC z.ino z.kind z.links z.parent z.size (.sl (g.length + 4) 0 z.data.length 1) x) true)),?_,by rw [C7 (by omega)];exact P.r4,h2.keep fun id m e=>C7 (by have:=h3 id m e;omega),h3,P.low.set (by omega) _⟩
    rw [C1M]
    generalize ndC z.ino z.kind z.links z.parent z.size (.sl (g.length + 4) 0 z.data.length 1) x=N at *
    simp only [B9,D7,c0,decide_false,F1,l7,s7,l8,B2Q]
  | e + 1,i,M + 1,F,h,hi,hm,hF,P=>by
    have hil:i < L.length:=by omega
    have c0:(i:Int) < (L.length:Nat):=by omega
    have w1:=E2 (show i + 1 < 9223372036854775808 by omega)
    have hr5:Has h (.c (.sl (g.length + 5) 0 L.length 2)) 2 L.length (D0 L):=Has.row P.r5 A0t A5C
    obtain ⟨ad,a1,a2⟩:=A01 hr5 hil
    have P1:=P.more [some ⟨E3 (some L[i]),true⟩]
    have hvh:=hv.since P1.low
    have lV:=G0 (n:=4) P1.r0 rfl
    have hI:=B34 (n:=n) (m:=m) (i:=(L[i]).2) hD hvh
    rw [B2A] at hI
    have f0:∀ k l s p d,A0S (.a (A5 k l s p d)) 0=some (.c (.i .i64 k)):=fun _ _ _ _ _=>rfl
    rw [List.drop_eq_getElem_cons hil]
    obtain ⟨x,hx⟩:∃ x,x=L[i]:=⟨_,rfl⟩
    rw [← hx] at a2 hI P1 lV hvh ⊢
    obtain ⟨hh,hhe⟩:∃ hh,hh=h ++ [some (Row.mk (E3 (some x)) true)]:=⟨_,rfl⟩
    have e1:A3 hh (.c (.p h.length 1))=some (.c (.i .i64 x.2)):=by rw [hhe];exact A3w
    have se:B4 (h ++ [some (Row.mk [.s [],.i .i64 0] true)]) 2 (.c (.p h.length 0)) (.a (E3 (some x)))=some hh:=by rw [hhe];exact A1d
    have le:A4 hh 2 (.c (.p h.length 0))=some (.a (E3 (some x))):=by rw [hhe];exact G0 E8 rfl
    rw [← hhe] at P1 lV hvh hI
    rw [C1M]
    have step:∀ (b:Bool),A1y D n x=b → (kdV D n x.2=1 ∨ kdV D n x.2=2)=(b=true):=by
      intro b hb
      subst hb
      unfold A1y
      simp
    cases hb:A1y D n x with
    | false =>
      have hk:=step false hb
      have k1:¬ kdV D n x.2=1:=fun e=>by rw [e] at hk;simp at hk
      have k2:¬ kdV D n x.2=2:=fun e=>by rw [e] at hk;simp at hk
      rw [List.filter_cons_of_neg (by simp [hb])]
      obtain ⟨y,h',f1,f2⟩:=B2W (q:=q) hD hv h62 e (i + 1) M F hh (by omega) (by omega) (by omega) P1
      refine ⟨y,h',?_,f2⟩
      generalize vwC D.length n m f=V at *
      simp only [B9,D7,c0,decide_true,F6,a1,a2,se,I9,Nat.zero_add,e1,lV,hI,f0,A0l,k1,k2,decide_false,B2m,W2,cond_false,F1,B32,I0,w1]
      exact f1
    | true =>
      rw [List.filter_cons_of_pos hb]
      obtain ⟨xc,g1,g2,g3⟩:=P1.r3
      have ef:A8 [Cell.s [],.i .i64 0] [(0,2,.a (E3 (some x)))]=some (E3 (some x)):=rfl
      obtain ⟨id,h2,h3,p1,p2,p3,p4,p5,p6,p7,p8,p9⟩:=B69 (off:=6) (ys:=E3 (some x)) g1 rfl g2 (by omega) rfl (by omega)
      have keep:∀ j,j < g.length + 6 → j ≠ g.length + 3 → rd h3 j=rd hh j:=fun j hj hj3=>by
        have:=B8 P1.r5
        refine p8 j (by omega) hj3 fun mm e=>?_
        have:=g3 j mm e
        omega
      have P3:NodeP D n (vwC D.length n m f) z L g (F ++ [x]) h3:=by
        refine ⟨?_,by rw [keep _ (by omega) (by omega)];exact P1.r0,by rw [keep _ (by omega) (by omega)];exact P1.r1,by rw [keep _ (by omega) (by omega)];exact P1.r4,by rw [keep _ (by omega) (by omega)];exact P1.r5,.sl id 0 (F.length + 1) 2,p4,.inr ⟨id,by simp,by rw [C79];exact p6,by rw [A0t],?_⟩,fun id' m' e=>?_⟩
        · refine ⟨Nat.le_refl _,by have:=P1.low.2.1;omega,fun j hj=>?_⟩
          rw [keep j (by omega) (by omega)];exact P1.low.2.2 j hj
        · have:=B8 P1.r5;omega
        · cases e;have:=B8 P1.r5;omega
      obtain ⟨y,h',f1,f2⟩:=B2W (q:=q) hD hv h62 e (i + 1) M (F ++ [x]) h3 (by omega) (by omega) (by simp;omega) P3
      rw [List.append_assoc,List.singleton_append] at f2
      refine ⟨y,h',?_,f2⟩
      have k0:=step true hb
      by_cases k1:kdV D n x.2=1
      · generalize vwC D.length n m f=V at *
        simp only [B9,D7,c0,decide_true,F6,a1,a2,se,I9,Nat.zero_add,e1,lV,hI,f0,A0l,k1,B7j,W2,cond_true,p1,le,ef,p2,p3,B32,I0,w1]
        exact f1
      · have k2:kdV D n x.2=2:=by
          rcases (show kdV D n x.2=1 ∨ kdV D n x.2=2 by rw [k0]) with h | h
          · exact absurd h k1
          · exact h
        have n21:¬ (2:Int)=1:=by decide
        generalize vwC D.length n m f=V at *
        simp only [B9,D7,c0,decide_true,F6,a1,a2,se,I9,Nat.zero_add,e1,lV,hI,f0,A0l,k2,n21,decide_false,B2m,W2,cond_false,p1,le,ef,p2,p3,B32,I0,w1]
        exact f1
def NdF (P:Nat → Prop) (cs:List Cell):Prop:=∀ id off m sz,Cell.sl id off m sz ∈ cs → P id
theorem A5K {h h':A0} {x:Cell} {sz n:Nat} {cs:List Cell} (hv:Has h (.c x) sz n cs) (hk:∀ id off m s,x=.sl id off m s → rd h' id=rd h id):Has h' (.c x) sz n cs:=by
  rcases hv with hv | ⟨id,off,r,e,hr,h2⟩
  · exact .inl hv
  · cases e
    exact .inr ⟨id,off,r,rfl,by rw [hk id off n sz rfl];exact hr,h2⟩
theorem IsNd.keep {h h':A0} {cs:List Cell} {x:Nd} {P:Nat → Prop} (hx:IsNd h cs x) (hf:NdF P cs) (hk:∀ id,P id → rd h' id=rd h id):IsNd h' cs x:=by
  obtain ⟨a,b,rfl,h1,h2⟩:=hx
  exact ⟨a,b,rfl,A5K h1 fun id off m s e=>hk id (hf id off m s (by simp [ndC,e])),A5K h2 fun id off m s e=>hk id (hf id off m s (by simp [ndC,e]))⟩
theorem B36 {P:Nat → Prop} {i k l p s:Int} {x y:Cell} (hx:∀ id off m sz,x=.sl id off m sz → P id) (hy:∀ id off m sz,y=.sl id off m sz → P id):NdF P (ndC i k l p s x y):=by
  intro id off m sz h
  simp only [ndC,List.mem_cons,List.not_mem_nil,or_false] at h
  rcases h with h | h | h | h | h | h | h
  · cases h
  · cases h
  · cases h
  · cases h
  · cases h
  · exact hx id off m sz h.symm
  · exact hy id off m sz h.symm
theorem D1j {h:A0} {v:Val} {cs:List (List Cell)}:quiet h (some (v,h ++ cs.map fun c=>some (Row.mk c true)))=some (v,h ++ cs.map fun c=>some (Row.mk c true)):=by
  have:∀ (cs:List (List Cell)) (h':A0),Grows h h' → Grows h (h' ++ cs.map fun c=>some (Row.mk c true)):=by
    intro cs
    induction cs with
    | nil=>intro h' hg;simpa using hg
    | cons c cs ih =>
      intro h' hg
      have:=ih _ (hg.new c)
      rw [List.map_cons]
      rwa [List.append_assoc,List.singleton_append] at this
  exact A51 (this cs h Grows.rfl')
theorem D3E {D:Dev} {n m i:Int} {f:Cell} {h:A0} (hD:okD D) (hv:IsView h f D) :
    ∃ (cs:List Cell) (t:List (List Cell)),A3i [.a (vwC D.length n m f),.c (.i .i64 i)] h=some (.a cs,h ++ t.map fun c=>some (Row.mk c true)) ∧ IsNd (h ++ t.map fun c=>some (Row.mk c true)) cs (V5 D n i) ∧ NdF (fun id=>h.length ≤ id ∧ id < h.length + t.length) cs:=by
  have key:∀ g,IsView g f D → ∃ x g',A7r (1000) [.a (vwC D.length n m f),.c (.i .i64 i)] g=some (.a (ndC i (kdV D n i) (lnV D n i) (paV D n i) (I6 (kdV D n i) (szV D n i)) (.sl (g.length + 4) 0 (L8 D n i).length 1) x),g') ∧ rd g' (g.length + 4)=some ⟨A1 (L8 D n i),true⟩ ∧
      HeldX g' x (D0 (Q2 D n i)) (Q2 D n i).length 2 (g.length + 3) ∧ (∀ id m,x=.sl id 0 m 2 → g.length + 6 ≤ id):=by
    intro g hv
    obtain ⟨V,hV⟩:∃ V,V=vwC D.length n m f:=⟨_,rfl⟩
    have hVl:V.length=4:=by rw [hV];rfl
    have hIno:=B34 (n:=n) (m:=m) (i:=i) (h:=g ++ [some (Row.mk V true),some (Row.mk (ndC 0 0 0 0 0 .ns .ns) true)]) hD (hv.more _)
    rw [B2A,← hV] at hIno
    obtain ⟨I,hI⟩:∃ I,I=A5 (kdV D n i) (lnV D n i) (szV D n i) (paV D n i) (drV D n i):=⟨_,rfl⟩
    have hIl:I.length=11:=by rw [hI];simp [A5,G6,B1V]
    have i0:I[0]? = some (.i .i64 (kdV D n i)):=by rw [hI];rfl
    have i1:I[1]? = some (.i .i64 (lnV D n i)):=by rw [hI];rfl
    have i3:I[3]? = some (.i .i64 (paV D n i)):=by rw [hI];rfl
    have hSz:=fun h=>B7e (k:=kdV D n i) (l:=lnV D n i) (s:=szV D n i) (p:=paV D n i) (d:=drV D n i) (h:=h)
    rw [← hI] at hIno
    simp only [← hI] at hSz
    have hAll:=C8R (n:=n) (m:=m) (k:=kdV D n i) (l:=lnV D n i) (s:=szV D n i) (p:=paV D n i) (d:=drV D n i) (h:=g ++ [some (Row.mk V true),some (Row.mk (ndC 0 0 0 0 0 .ns .ns) true),some (Row.mk I true),none]) hD B1V (hv.more _)
    rw [← hI,← hV] at hAll
    have eL:(g ++ [some (Row.mk V true),some (Row.mk (ndC 0 0 0 0 0 .ns .ns) true),some (Row.mk I true),none]).length=g.length + 4:=by simp
    rw [eL] at hAll
    have eD:U5 D n (kdV D n i) (szV D n i) (drV D n i) 0 34304=L8 D n i:=rfl
    rw [eD] at hAll
    have ef:∀ s y,A8 [Cell.i .i64 0,.i .i64 0,.i .i64 0,.i .i64 0,.i .i64 0,.ns,.ns] [(0,1,.c (.i .i64 i)),(1,1,.c (.i .i64 (kdV D n i))),(2,1,.c (.i .i64 (lnV D n i))),(3,1,.c (.i .i64 (paV D n i))),(4,1,.c (.i .i64 s)),(5,1,.c y)]=some (ndC i (kdV D n i) (lnV D n i) (paV D n i) s y .ns):=fun _ _=>rfl
    obtain ⟨N,hN⟩:∃ N,N=ndC i (kdV D n i) (lnV D n i) (paV D n i) (I6 (kdV D n i) (szV D n i)) (.sl (g.length + 4) 0 (L8 D n i).length 1) .ns:=⟨_,rfl⟩
    have hNl:N.length=7:=by rw [hN];rfl
    have z7:(ndC 0 0 0 0 0 .ns .ns).length=7:=rfl
    obtain ⟨G,hG⟩:∃ G,G=g ++ [some (Row.mk V true),some (Row.mk (ndC 0 0 0 0 0 .ns .ns) true),some (Row.mk I true),some (Row.mk N true),some (Row.mk (A1 (L8 D n i)) true)]:=⟨_,rfl⟩
    have hLi:=C7J (n:=n) (m:=m) (k:=kdV D n i) (l:=lnV D n i) (s:=szV D n i) (p:=paV D n i) (d:=drV D n i) (h:=G) hD B1V (by rw [hG];exact hv.more _)
    rw [← hI,← hV] at hLi
    have lG:G.length=g.length + 5:=by rw [hG];simp
    rw [lG] at hLi
    have hen:=B8p (D:=D) (n:=n) (k:=kdV D n i) (d:=drV D n i)
    obtain ⟨H,hH⟩:∃ H,H=G ++ [some (Row.mk (D0 (V4 D n (kdV D n i) (drV D n i))) true)]:=⟨_,rfl⟩
    have P0:NodeP D n (vwC D.length n m f) ⟨i,kdV D n i,lnV D n i,paV D n i,I6 (kdV D n i) (szV D n i),L8 D n i,[]⟩ (V4 D n (kdV D n i) (drV D n i)) g [] H:=by
      rw [← hV]
      refine ⟨by rw [hH,hG];exact ((Low.refl (Nat.le_refl _)).new _).new _,by rw [hH,hG];simp,by rw [hH,hG];simp,by rw [hH,hG];simp,?_,.ns,?_,.inl ⟨rfl,rfl,rfl⟩,fun id m e=>by cases e⟩
      · rw [hH,show g.length + 5=G.length by omega];exact E8
      · rw [hH];refine B6 ?_;rw [hG,hN];simp
    obtain ⟨x,h',f1,f2,f3,f4,f5⟩:=B2W (q:=1000) (m:=m) (f:=f) hD hv (by omega) (V4 D n (kdV D n i) (drV D n i)).length 0 1000 [] H (by omega) (by omega) (by simp) P0
    rw [List.drop_zero,List.nil_append] at f3
    refine ⟨x,h',?_,f2,f3,f4⟩
    dsimp only at f1
    have ez:[Cell.i .i64 0,.i .i64 0,.i .i64 0,.i .i64 0,.i .i64 0,.ns,.ns]=ndC 0 0 0 0 0 .ns .ns:=rfl
    have eG:g ++ [some (Row.mk V true),some (Row.mk (ndC 0 0 0 0 0 .ns .ns) true),some (Row.mk I true),some (Row.mk N true),some (Row.mk (A1 (L8 D n i)) true)]=G:=hG.symm
    have ei:[Cell.i .i64 0,.i .i64 0,.i .i64 0,.i .i64 0,.i .i64 0,.i .i64 0,.i .i64 0,.i .i64 0,.i .i64 0,.i .i64 0,.i .i64 0].length=11:=rfl
    rw [C3u]
    replace ef:=ef (I6 (kdV D n i) (szV D n i)) (.sl (g.length + 4) 0 (L8 D n i).length 1)
    rw [← hN] at ef
    rw [ez] at ef ⊢
    rw [← hV]
    generalize [Cell.i .i64 0,.i .i64 0,.i .i64 0,.i .i64 0,.i .i64 0,.i .i64 0,.i .i64 0,.i .i64 0,.i .i64 0,.i .i64 0,.i .i64 0]=zi at *
    generalize ndC 0 0 0 0 0 .ns .ns=z at *
    have gV:A4 G 4 (.c (.p g.length 0))=some (.a V):=by rw [hG,X1];exact Q0 hVl
    have gI:A4 G 11 (.c (.p (g.length + 2) 0))=some (.a I):=by rw [hG,A0T];exact Q0 hIl
    generalize A1 (L8 D n i)=B at *
    simp only [esc,A0T,X1,A7E,T8,A2s,A0o,Q0,A9r,B2H,Nat.reduceAdd,hVl,hIl,z7,ei,hIno,i0,i1,i3,hSz,hAll,ef,hNl,eG,gV,gI,hLi]
    rw [hH] at f1
    exact f1
  obtain ⟨x,g',e,h1,h2,h3⟩:=key (ro h) hv.ro
  rw [M9] at e h1 h2 h3
  have n1:=A2N h1 (by simp)
  have q1:¬ h.length + 4 < h.length:=by omega
  rcases h2 with ⟨e1,e2,rfl⟩ | ⟨id,rfl,hr,hl,hne⟩
  · have hc:H7 g' h.length [] (ndC i (kdV D n i) (lnV D n i) (paV D n i) (I6 (kdV D n i) (szV D n i)) (.sl (h.length + 4) 0 (L8 D n i).length 1) .ns)=some (ndC i (kdV D n i) (lnV D n i) (paV D n i) (I6 (kdV D n i) (szV D n i)) (.sl h.length 0 (L8 D n i).length 1) .ns,[h.length + 4]):=by
      simp [ndC,H7,Cell.low,Cell.flat,n1]
    have:=B4E e (v2:=.a (ndC i (kdV D n i) (lnV D n i) (paV D n i) (I6 (kdV D n i) (szV D n i)) (.sl h.length 0 (L8 D n i).length 1) .ns)) (ids:=[h.length + 4]) (by simp only [J9,hc,Option.map_some])
    rw [List.map_cons,List.map_nil,h1] at this
    refine ⟨_,[A1 (L8 D n i)],this,⟨_,_,rfl,Has.tr E8 (show (A1 (L8 D n i)).length=(L8 D n i).length * 1 by rw [B5,Nat.mul_one]) (O6 _),.inl ⟨rfl,e1,e2⟩⟩,B36 (fun id off m sz e=>?_) fun id off m sz e=>by cases e⟩
    cases e
    exact ⟨Nat.le_refl _,by simp⟩
  · have hid:=h3 id _ rfl
    have n2:=A2N hr B11
    have q2:¬ id < h.length:=by omega
    have hc:H7 g' h.length [] (ndC i (kdV D n i) (lnV D n i) (paV D n i) (I6 (kdV D n i) (szV D n i)) (.sl (h.length + 4) 0 (L8 D n i).length 1) (.sl id 0 (Q2 D n i).length 2))=some (ndC i (kdV D n i) (lnV D n i) (paV D n i) (I6 (kdV D n i) (szV D n i)) (.sl h.length 0 (L8 D n i).length 1) (.sl (h.length + 1) 0 (Q2 D n i).length 2),[h.length + 4,id]):=by
      have q3:h.length ≤ id:=by omega
      have q4:¬ id=h.length + 4:=by omega
      simp [ndC,H7,Cell.low,Cell.flat,n1,n2,q2,q3,q4]
    have:=B4E e (v2:=.a (ndC i (kdV D n i) (lnV D n i) (paV D n i) (I6 (kdV D n i) (szV D n i)) (.sl h.length 0 (L8 D n i).length 1) (.sl (h.length + 1) 0 (Q2 D n i).length 2))) (ids:=[h.length + 4,id]) (by simp only [J9,hc,Option.map_some])
    rw [List.map_cons,List.map_cons,List.map_nil,h1,hr] at this
    refine ⟨_,[A1 (L8 D n i),D0 (Q2 D n i)],this,?_,B36 (fun id off m sz e=>by cases e;exact ⟨Nat.le_refl _,by simp⟩) fun id off m sz e=>by cases e;exact ⟨by omega,by simp⟩⟩
    exact ⟨_,_,rfl,Has.tr (by simp [V5]) (show (A1 (L8 D n i)).length=(L8 D n i).length * 1 by rw [B5,Nat.mul_one]) (O6 _),Has.tr (by simp [V5]) A0t A5C⟩
end Go.Proofs.YteckncopbicmcaaGreat
end
section
namespace Go.Proofs.YteckncopbicmcaaGreat
open Go Go.Esc
def KeysI (es:F4) (R:List Int):Prop:=es.map (·.1)=R.map fun i=>Cell.i .i64 i
theorem KeysI.len {es:F4} {R:List Int} (hk:KeysI es R):es.length=R.length:=by
  have:=congrArg List.length hk
  simpa using this
theorem KeysI.ok {es:F4} {R:List Int} (hk:KeysI es R) (a:Int):A0w (some .i64) (.i .i64 a) es=true:=by
  unfold A0w
  rw [Bool.and_eq_true]
  refine ⟨by simp [O5],List.all_eq_true.2 fun e he=>?_⟩
  have:e.1 ∈ R.map fun i=>Cell.i .i64 i:=by rw [← hk];exact List.mem_map.2 ⟨e,he,rfl⟩
  rw [List.mem_map] at this
  obtain ⟨i,_,hi⟩:=this
  rw [← hi];simp [O5]
theorem KeysI.snoc {es:F4} {R:List Int} (hk:KeysI es R) (a:Int) (p:Part):KeysI (es ++ [(.i .i64 a,p)]) (R ++ [a]):=by
  unfold KeysI at *
  rw [List.map_append,List.map_append,hk];rfl
theorem A8O {a:Int}:∀ {es:F4} {R:List Int} {i:Nat},KeysI es R → a ∉ R → mgo (.i .i64 a) es i=none
  | [],_,_,_,_=>rfl
  | e :: es,[],i,hk,_=>by simp [KeysI] at hk
  | e :: es,r :: R,i,hk,ha=>by
    have hk1:e.1=.i .i64 r:=(List.cons.inj hk).1
    have hk2:KeysI es R:=(List.cons.inj hk).2
    rw [List.mem_cons,not_or] at ha
    rw [mgo,if_neg (by rw [hk1];intro e;cases e;exact ha.1 rfl)]
    exact A8O hk2 ha.2
theorem B8w {a:Int}:∀ {es:F4} {R:List Int} {i j:Nat} {p:Part},KeysI es R → R.Nodup → es[j]? = some (.i .i64 a,p) → mgo (.i .i64 a) es i=some (i + j,p)
  | [],_,_,_,_,_,_,h=>by simp at h
  | e :: es,[],i,j,p,hk,_,_=>by simp [KeysI] at hk
  | e :: es,r :: R,i,j,p,hk,hn,h=>by
    have hk1:e.1=.i .i64 r:=(List.cons.inj hk).1
    have hk2:KeysI es R:=(List.cons.inj hk).2
    cases j with
    | zero =>
      simp at h
      subst h
      rw [mgo,if_pos rfl];simp
    | succ j =>
      have h':es[j]? = some (.i .i64 a,p):=by simpa using h
      have hmem:a ∈ R:=by
        have h3:(es.map (·.1))[j]? = some (.i .i64 a):=by rw [List.getElem?_map,h'];rfl
        rw [hk2,List.getElem?_map,Option.map_eq_some_iff] at h3
        obtain ⟨r',hr',e'⟩:=h3
        cases e'
        exact List.mem_of_getElem? hr'
      have hne:¬ e.1=.i .i64 a:=by
        rw [hk1];intro e';cases e'
        exact (List.nodup_cons.1 hn).1 hmem
      rw [mgo,if_neg hne,B8w (i:=i + 1) hk2 (List.nodup_cons.1 hn).2 h']
      simp;omega
theorem B2N {h:A0} {mid:Nat} {es:F4} {R:List Int} {a:Int} {z:Part} {ok:Bool} (hr:rd h mid=some (E6 es)) (hk:KeysI es R) (ha:a ∉ R):P4 h (some .i64) z ok (.c (.m mid)) (.c (.i .i64 a))=some (Q4 ok z false):=by
  simp only [P4,Z9,A2K,hr,Option.bind_some,A3D]
  rw [if_pos (hk.ok a)]
  unfold T5
  rw [A8O hk ha]
theorem B2O {h:A0} {mid:Nat} {es:F4} {R:List Int} {a:Int} {z p:Part} {ok:Bool} {j:Nat} (hr:rd h mid=some (E6 es)) (hk:KeysI es R) (hn:R.Nodup) (hj:es[j]? = some (.i .i64 a,p)):P4 h (some .i64) z ok (.c (.m mid)) (.c (.i .i64 a))=some (Q4 ok p true):=by
  simp only [P4,Z9,A2K,hr,Option.bind_some,A3D]
  rw [if_pos (hk.ok a)]
  unfold T5
  rw [B8w hk hn hj]
theorem D1f {h:A0} {mid:Nat} {es:F4} {R:List Int} {a:Int} {l:List Cell} (hr:rd h mid=some (E6 es)) (hk:KeysI es R) (ha:a ∉ R):U9 h (some .i64) (.c (.m mid)) (.c (.i .i64 a)) (.a l)=some (h.set mid (some (E6 (es ++ [(.i .i64 a,.a l)])))):=by
  simp only [U9,Z9,A2Q,hr,Option.bind_some,A3D]
  rw [if_pos (hk.ok a)]
  unfold Y1 T5
  rw [A8O hk ha]
def A7W (b:Nat) (h:A0):Nat:=match rd h (b + 5) with
  | some ⟨.sl L _ _ _ :: _,_⟩=>L
  | _=>0
def Pr (b:Nat) (h:A0) (id:Nat):Prop:=b + 6 ≤ id ∧ id < h.length ∧ id ≠ A7W b h
theorem A3s {b L n:Nat} {h:A0} (hr:rd h (b + 5)=some ⟨[.sl L 0 n 1],true⟩):A7W b h=L:=by
  unfold A7W;rw [hr]
structure OfP (D:Dev) (n:Int) (V:List Cell) (g:A0) (R:List Int) (h:A0):Prop where
  low:Low g.length g h
  nd:R.Nodup
  r0:rd h g.length=some ⟨V,true⟩
  r3:rd h (g.length + 3)=some ⟨[.m (g.length + 2)],true⟩
  rw_:∃ L es,rd h (g.length + 5)=some ⟨[.sl L 0 (R.length + 1) 1],true⟩ ∧ rd h L=some ⟨encI (1 :: R),true⟩ ∧ g.length + 4 ≤ L ∧ L ≠ g.length + 5 ∧
    rd h (g.length + 2)=some (E6 es) ∧ KeysI es R ∧ ∀ (j:Nat) (e:Cell × Part),es[j]? = some e → ∃ a cs,e=(.i .i64 a,.a cs) ∧ IsNd h cs (V5 D n a) ∧ NdF (Pr g.length h) cs
theorem OfP.since {D:Dev} {n:Int} {V:List Cell} {g h h':A0} {R:List Int} (P:OfP D n V g R h) (hl:Low h.length h h'):OfP D n V g R h':=by
  obtain ⟨L,es,h1,h2,h3,h4,h5,h6,h7⟩:=P.rw_
  have hlt:=hl.2.1
  have c1:=A3s h1
  have c2:=A3s (hl.rd h1)
  refine ⟨P.low.trans ⟨by have:=P.low.2.1;omega,hlt,fun id hid=>hl.2.2 id (by have:=P.low.2.1;omega)⟩,P.nd,hl.rd P.r0,hl.rd P.r3,L,es,hl.rd h1,hl.rd h2,h3,h4,hl.rd h5,h6,fun j e he=>?_⟩
  obtain ⟨a,cs,e1,e2,e3⟩:=h7 j e he
  exact ⟨a,cs,e1,e2.keep e3 fun id hid=>hl.2.2 id hid.2.1,fun id off m sz hm=>by have:=e3 id off m sz hm;unfold Pr at *;omega⟩
theorem OfP.more {D:Dev} {n:Int} {V:List Cell} {g h:A0} {R:List Int} (P:OfP D n V g R h) (t:A0):OfP D n V g R (h ++ t):=P.since ((Low.refl (Nat.le_refl _)).new t)
theorem OfP.pr {D:Dev} {n:Int} {V:List Cell} {g h h':A0} {R:List Int} (P:OfP D n V g R h) (hl:Low h.length h h') {id:Nat} (hp:Pr g.length h id):Pr g.length h' id ∧ rd h' id=rd h id:=by
  obtain ⟨L,es,h1,_⟩:=P.rw_
  have c1:=A3s h1
  have c2:=A3s (hl.rd h1)
  have hlt:=hl.2.1
  unfold Pr at *
  exact ⟨by omega,hl.2.2 id hp.2.1⟩
theorem OfP.look {D:Dev} {n:Int} {V:List Cell} {g h:A0} {R:List Int} (P:OfP D n V g R h) {a:Int} (ha:a ∈ R):∃ cs,IsNd h cs (V5 D n a) ∧ NdF (Pr g.length h) cs ∧ ∀ z ok,P4 h (some .i64) z ok (.c (.m (g.length + 2))) (.c (.i .i64 a))=some (Q4 ok (.a cs) true):=by
  obtain ⟨L,es,h1,h2,h3,h4,h5,h6,h7⟩:=P.rw_
  obtain ⟨j,hj⟩:=List.mem_iff_getElem?.1 ha
  have hlen:=h6.len
  have hjl:j < es.length:=by rw [hlen];exact (List.getElem?_eq_some_iff.1 hj).1
  obtain ⟨b,cs,e1,e2,e3⟩:=h7 j es[j] (List.getElem?_eq_getElem hjl)
  have hb:b=a:=by
    have h8:(es.map (·.1))[j]? = some (.i .i64 b):=by rw [List.getElem?_map,List.getElem?_eq_getElem hjl,e1];rfl
    rw [h6,List.getElem?_map,hj] at h8
    simpa using h8.symm
  subst hb
  exact ⟨cs,e2,e3,fun z ok=>B2O h5 h6 P.nd (by rw [List.getElem?_eq_getElem hjl,e1])⟩
theorem C0m {D:Dev} {n m a:Int} {f:Cell} {g h:A0} {R:List Int} (hD:okD D) (hv:IsView g f D) (P:OfP D n (vwC D.length n m f) g R h) (h62:R.length ≤ 1000) :
    ∃ h',A2g [.c (.i .i64 a),.c (.p (g.length + 3) 0),.c (.p g.length 0),.c (.p (g.length + 5) 0)] h=some (.t [],h') ∧ OfP D n (vwC D.length n m f) g (W6 R a) h' ∧ ∀ id,Pr g.length h id → Pr g.length h' id ∧ rd h' id=rd h id:=by
  have la:=D8 (off:=0) P.r3 rfl rfl
  have z7:ndC 0 0 0 0 0 .ns .ns=[Cell.i .i64 0,.i .i64 0,.i .i64 0,.i .i64 0,.i .i64 0,.ns,.ns]:=rfl
  unfold W6
  by_cases c:a ∈ R
  · obtain ⟨cs,g1,_,g2⟩:=P.look c
    have s0:=Y4 (h:=h) g1.length
    rw [if_pos c]
    refine ⟨h ++ [some ⟨cs,true⟩],B4B (n:=0) ?_,P.more _,fun id hp=>P.pr ((Low.refl (Nat.le_refl _)).new _) hp⟩
    rw [B4b]
    simp only [B9,la,g2,Q4,O0,List.getElem?_cons_zero,List.getElem?_cons_succ,Option.map_some,S4,O7,s0,S9,Bool.not_true,F1]
    rfl
  · rw [if_neg c]
    obtain ⟨L,es,h1,h2,h3,h4,h5,h6,h7⟩:=P.rw_
    have lk:=B2N (z:=.a (ndC 0 0 0 0 0 .ns .ns)) (ok:=true) h5 h6 c
    have s0:=Y4 (h:=h) (cs:=ndC 0 0 0 0 0 .ns .ns) rfl
    obtain ⟨H,hH⟩:∃ H,H=h ++ [some (Row.mk (ndC 0 0 0 0 0 .ns .ns) true)]:=⟨_,rfl⟩
    have PH:OfP D n (vwC D.length n m f) g R H:=by rw [hH];exact P.more _
    have lH:H.length=h.length + 1:=by rw [hH];simp
    rw [← hH] at s0
    have la2:=D8 (off:=0) PH.r3 rfl rfl
    have lV:=G0 (n:=4) PH.r0 rfl
    obtain ⟨cs,t,n1,n2,n3⟩:=D3E (n:=n) (m:=m) (i:=a) hD (hv.since PH.low)
    obtain ⟨H2,hH2⟩:∃ H2,H2=H ++ t.map fun c=>some (Row.mk c true):=⟨_,rfl⟩
    have n1q:quiet H (A3i [.a (vwC D.length n m f),.c (.i .i64 a)] H)=some (.a cs,H2):=by rw [n1,D1j,hH2]
    rw [← hH2] at n2
    have P2:OfP D n (vwC D.length n m f) g R H2:=by rw [hH2];exact PH.more _
    have lH2:H2.length=H.length + t.length:=by rw [hH2];simp
    obtain ⟨L',es',k1,k2,k3,k4,k5,k6,k7⟩:=P2.rw_
    have eL:L'=L:=by
      have:rd H2 (g.length + 5)=some ⟨[.sl L 0 (R.length + 1) 1],true⟩:=by rw [hH2,hH];exact B6 (B6 h1)
      rw [this] at k1
      injection k1 with e;injection e with e1;injection e1 with e2;injection e2 with e3
      exact e3.symm
    subst eL
    have pm:=D1f (l:=cs) k5 k6 c
    obtain ⟨H3,hH3⟩:∃ H3,H3=H2.set (g.length + 2) (some (E6 (es' ++ [(.i .i64 a,.a cs)]))):=⟨_,rfl⟩
    rw [← hH3] at pm
    have lH3:H3.length=H2.length:=by rw [hH3];simp
    have r5:rd H3 (g.length + 5)=some ⟨[.sl L' 0 (R.length + 1) 1],true⟩:=by rw [hH3,C7 (by omega)];exact k1
    have rL:rd H3 L'=some ⟨encI (1 :: R),true⟩:=by rw [hH3,C7 (by omega)];exact k2
    have hLlt:=B8 h2
    have ef:A8 [Cell.i .i64 0] [(0,1,.c (.i .i64 a))]=some (encI [a]):=rfl
    obtain ⟨id,h8,h9,p1,p2,p3,p4,p5,p6,p7,p8,p9⟩:=B69 (off:=0) (ys:=encI [a]) (n:=R.length + 1) (sz:=1) r5 rfl (.inr ⟨L',rfl,rL,by simp [G6],k4⟩) (by omega) rfl (by omega)
    have keep:∀ j,j < H3.length → j ≠ g.length + 5 → j ≠ L' → rd h9 j=rd H3 j:=fun j h1 h2 h3=>p8 j h1 h2 fun mm e=>by cases e;exact h3 rfl
    have b5:=B8 r5
    have cH2:=A3s k1
    have c9:A7W g.length h9=id:=A3s (n:=R.length + 1 + 1) (by rw [p4];rfl)
    refine ⟨h9,B4B (n:=0) ?_,?_,fun id0 hp=>?_⟩
    · rw [B4b]
      rw [z7] at lk s0
      simp only [B9,la,lk,Q4,O0,List.getElem?_cons_zero,List.getElem?_cons_succ,Option.map_some,S4,O7,s0,S9,Bool.not_false,F6,la2,lV,List.append_nil,n1q,pm,p1,ef,p2,p3]
      rfl
    · refine ⟨?_,?_,?_,?_,id,es' ++ [(.i .i64 a,.a cs)],?_,?_,by omega,by omega,?_,k6.snoc a _,fun j e he=>?_⟩
      · refine ⟨Nat.le_refl _,by have:=P2.low.2.1;omega,fun j hj=>?_⟩
        rw [keep j (by omega) (by omega) (by omega),hH3,C7 (by omega)]
        exact P2.low.2.2 j hj
      · rw [List.nodup_append]
        exact ⟨P.nd,by simp,fun x hx y hy e=>by simp at hy;subst hy;subst e;exact c hx⟩
      · rw [keep _ (by omega) (by omega) (by omega),hH3,C7 (by omega)];exact P2.r0
      · rw [keep _ (by omega) (by omega) (by omega),hH3,C7 (by omega)];exact P2.r3
      · rw [p4];simp
      · rw [p6,← A5A];simp
      · rw [keep _ (by omega) (by omega) (by omega),hH3,G3 (by omega)]
      · by_cases hj:j < es'.length
        · rw [List.getElem?_append_left hj] at he
          obtain ⟨b,cs',e1,e2,e3⟩:=k7 j e he
          refine ⟨b,cs',e1,e2.keep e3 fun id hid=>?_,fun id' off m' sz hm=>?_⟩
          · unfold Pr at hid
            rw [keep id (by omega) (by omega) (by omega),hH3,C7 (by omega)]
          · have:=e3 id' off m' sz hm
            unfold Pr at *
            omega
        · have hj2:j=es'.length:=by
            have:=(List.getElem?_eq_some_iff.1 he).1
            simp at this;omega
          subst hj2
          rw [List.getElem?_append_right (Nat.le_refl _)] at he
          simp at he
          subst he
          refine ⟨a,cs,rfl,n2.keep n3 fun id hid=>?_,fun id' off m' sz hm=>?_⟩
          · have:=P.low.2.1
            rw [keep id (by omega) (by omega) (by omega),hH3,C7 (by omega)]
          · have:=n3 id' off m' sz hm
            have hP:=P.low.2.1
            have hb:=B8 h1
            unfold Pr
            omega
    · have q1:=(P2.pr (Low.refl (Nat.le_refl _)) (P.pr (h':=H2) (by rw [hH2,hH];exact ((Low.refl (Nat.le_refl _)).new _).new _) hp).1).1
      have q2:=(P.pr (h':=H2) (by rw [hH2,hH];exact ((Low.refl (Nat.le_refl _)).new _).new _) hp).2
      unfold Pr at *
      exact ⟨by omega,by rw [keep id0 (by omega) (by omega) (by omega),hH3,C7 (by omega)];exact q2⟩
theorem D2k {R:List Int} {a:Int} (hR:∀ x ∈ R,1 ≤ x ∧ x ≤ 128) (ha:1 ≤ a ∧ a ≤ 128):∀ x ∈ W6 R a,1 ≤ x ∧ x ≤ 128:=by
  intro x hx
  rcases C0j.1 hx with h | rfl
  · exact hR x h
  · exact ha
theorem C0n {D:Dev} {n m:Int} {f:Cell} {g:A0} {q M:Nat} {L:List Ent} {y:Cell} {fc x6:Val} (hD:okD D) (hv:IsView g f D) (hL:∀ e ∈ L,1 ≤ e.2 ∧ e.2 ≤ 128) (h62:L.length ≤ 1000)
    (hfc:∀ a h,L7 Q8 fc [a] h=A2g [a,.c (.p (g.length + 3) 0),.c (.p g.length 0),.c (.p (g.length + 5) 0)] h) :
    ∀ (e j M2:Nat) (R:List Int) (h:A0),j + e=L.length → e < M2 → (∀ x ∈ R,1 ≤ x ∧ x ≤ 128) → OfP D n (vwC D.length n m f) g R h → Has h (.c y) 2 L.length (D0 L) → (∀ id off k s,y=.sl id off k s → Pr g.length h id) →
      ∃ h',A9B q M M2 (.c (.p (g.length + 3) 0)) (.c (.p (g.length + 5) 0)) fc x6 (.c y) (.c (.i .i64 (L.length:Int))) (.c (.i .i64 (j:Int))) h=bnd (A2 .add x6 (.c (.i .i64 1))) (fun v29=>A6h q M (.c (.p (g.length + 3) 0)) (.c (.p (g.length + 5) 0)) fc v29 h') ∧
        OfP D n (vwC D.length n m f) g (A0f R (L.drop j)) h'
  | e,j,0,R,h,_,hm,_,_,_,_=>by omega
  | 0,j,M2 + 1,R,h,hj,hm,hR,P,hy,hp=>by
    have c0:¬ ((j:Int) < (L.length:Nat)):=by omega
    rw [C1v,List.drop_of_length_le (by omega)]
    exact ⟨h,by simp only [B9,D7,c0,decide_false,F1],P⟩
  | e + 1,j,M2 + 1,R,h,hj,hm,hR,P,hy,hp=>by
    have hjl:j < L.length:=by omega
    have c0:(j:Int) < (L.length:Nat):=by omega
    have w1:=E2 (show j + 1 < 9223372036854775808 by omega)
    obtain ⟨ad,a1,a2⟩:=A01 hy hjl
    rw [List.drop_eq_getElem_cons hjl,A9k]
    have hx:=hL L[j] (List.getElem_mem hjl)
    obtain ⟨x,hxe⟩:∃ x,x=L[j]:=⟨_,rfl⟩
    rw [← hxe] at a2 hx ⊢
    have P1:=P.more [some ⟨E3 (some x),true⟩]
    have hlow1:Low h.length h (h ++ [some (Row.mk (E3 (some x)) true)]):=(Low.refl (Nat.le_refl _)).new _
    have hRl:=B97 P.nd hR
    obtain ⟨h2,f1,f2,f3⟩:=C0m (a:=x.2) hD hv P1 (by omega)
    have hy2:Has h2 (.c y) 2 L.length (D0 L):=A5K hy fun id off k s ey=>by
      have q1:=P.pr hlow1 (hp id off k s ey)
      rw [(f3 id q1.1).2,q1.2]
    obtain ⟨h',k1,k2⟩:=C0n (q:=q) (M:=M) (x6:=x6) hD hv hL h62 hfc e (j + 1) M2 (W6 R x.2) h2 (by omega) (by omega) (D2k hR hx) f2 hy2 (fun id off k s ey=>(f3 id (P.pr hlow1 (hp id off k s ey)).1).1)
    refine ⟨h',?_,k2⟩
    rw [C1v]
    simp only [B9,D7,c0,decide_true,F6,a1,a2,A1d,I9,Nat.zero_add,Nat.add_zero,A3w,hfc,f1,I0,w1]
    exact k1
theorem B95 {D:Dev} {n m:Int} {f:Cell} {g:A0} {q:Nat} {fc:Val} (hD:okD D) (hv:IsView g f D) (hq:1000 < q)
    (hfc:∀ a h,L7 Q8 fc [a] h=A2g [a,.c (.p (g.length + 3) 0),.c (.p g.length 0),.c (.p (g.length + 5) 0)] h) :
    ∀ (e i M:Nat) (R:List Int) (h:A0),e < M → 130 ≤ e + i → i ≤ 1000 → RowI (Q2 D n) i R → OfP D n (vwC D.length n m f) g R h →
      ∃ h',A6h q M (.c (.p (g.length + 3) 0)) (.c (.p (g.length + 5) 0)) fc (.c (.i .i64 (i:Int))) h=A6i q q (.c (.p (g.length + 3) 0)) (.c (.sl h'.length 0 0 7)) (.c (.i .i64 0)) (h' ++ [some (Row.mk [] true)]) ∧ OfP D n (vwC D.length n m f) g (A3S (Q2 D n) e i R) h'
  | e,i,0,R,h,hm,_,_,_,_=>by omega
  | e,i,M + 1,R,h,hm,h130,hi,hI,P=>by
    obtain ⟨L,es,h1,h2,h3,h4,h5,h6,h7⟩:=P.rw_
    have hRl:=B97 hI.nd hI.rg
    have t4:=D8 (off:=0) h1 rfl rfl
    have t3:=D8 (off:=0) P.r3 rfl rfl
    have w1:=E2 (show i + 1 < 9223372036854775808 by omega)
    by_cases c:i < (1 :: R).length
    · have c':i < R.length + 1:=by simpa using c
      have c0:(i:Int) < (R.length + 1:Nat):=by omega
      obtain ⟨e,rfl⟩:∃ e',e=e' + 1:=⟨e - 1,by omega⟩
      have ad:B7 1 (.c (.sl L 0 (R.length + 1) 1)) (.c (.i .i64 (i:Int)))=some (.c (.p L i)):=by rw [G8 c'];simp
      have l1:A3 h (.c (.p L i))=some (.c (.i .i64 (1 :: R)[i])):=D8 h2 (by rw [R5,List.getElem?_eq_getElem c];rfl) rfl
      have hmem:(1 :: R)[i] ∈ R:=by
        have:=List.getElem_mem c
        rw [List.mem_cons] at this
        rcases this with e | e
        · rw [e];exact hI.hd
        · exact e
      obtain ⟨cs,g1,g2,g3⟩:=P.look hmem
      have hst:=hI.step (fun a=>B83) c
      rw [A3S,dif_pos c]
      obtain ⟨a,ha⟩:∃ a,a=(1 :: R)[i]:=⟨_,rfl⟩
      rw [← ha] at l1 g1 g3 hst ⊢
      obtain ⟨x,y,rfl,hx,hy⟩:=g1
      have hyl:=hy.len
      have f6:A0S (.a (ndC (V5 D n a).ino (V5 D n a).kind (V5 D n a).links (V5 D n a).parent (V5 D n a).size x y)) 6=some (.c y):=rfl
      have hny:(V5 D n a).names=Q2 D n a:=rfl
      rw [hny] at hy hyl
      have n224:=D0j (D:=D) (n:=n) (i:=a)
      obtain ⟨h8,k1,k2⟩:=C0n (q:=q) (M:=M) (x6:=.c (.i .i64 (i:Int))) hD hv (L:=Q2 D n a) (y:=y) B83 (by omega) hfc (Q2 D n a).length 0 q R h (by omega) (by omega) hI.rg P hy (fun id off k s ey=>g2 id off k s (by simp [ndC,ey]))
      rw [List.drop_zero] at k2
      rw [I0,B9,w1] at k1
      obtain ⟨h',p1,p2⟩:=B95 (q:=q) hD hv hq hfc e (i + 1) M _ h8 (by omega) (by omega) (by omega) hst k2
      refine ⟨h',?_,p2⟩
      rw [C1u]
      simp only [B9,t4,A0m,D7,c0,decide_true,F6,t3,ad,l1,g3,Q4,f6,hyl,List.append_nil]
      exact k1.trans p1
    · have c':¬ i < R.length + 1:=by simpa using c
      have c0:¬ ((i:Int) < (R.length + 1:Nat)):=by omega
      have ew:A3S (Q2 D n) e i R=R:=by
        cases e with
        | zero=>rfl
        | succ e=>rw [A3S,dif_neg c]
      rw [ew]
      refine ⟨h,?_,P⟩
      rw [C1u]
      simp only [B9,t4,A0m,D7,c0,decide_false,F1]
theorem IsNds.snoc {h:A0} {cs:List Cell} {x:Nd} (hx:IsNd h cs x):∀ {t:List Nd} {C:List Cell},IsNds h C t → IsNds h (C ++ cs) (t ++ [x])
  | [],C,hC=>by
    have hC:C=[]:=hC
    subst hC
    exact ⟨cs,[],by simp,hx,rfl⟩
  | y :: t,C,⟨c1,c2,e,h1,h2⟩=>by
    subst e
    exact ⟨c1,c2 ++ cs,by simp,h1,IsNds.snoc hx h2⟩
def V8 (D:Dev) (n:Int) (R:List Int) (k:Nat):List Nd:=((List.range k).filter fun (i:Nat)=>decide ((i:Int) ∈ R)).map fun (i:Nat)=>V5 D n (i:Int)
theorem C02 {D:Dev} {n:Int} {R:List Int} {k:Nat} (h:(k:Int) ∈ R):V8 D n R (k + 1)=V8 D n R k ++ [V5 D n k]:=by
  simp [V8,List.range_succ,List.filter_append,h]
theorem C01 {D:Dev} {n:Int} {R:List Int} {k:Nat} (h:¬ (k:Int) ∈ R):V8 D n R (k + 1)=V8 D n R k:=by
  simp [V8,List.range_succ,List.filter_append,h]
theorem D22 {D:Dev} {n:Int} {R:List Int} {k:Nat}:(V8 D n R k).length ≤ k:=by
  have:=List.length_filter_le (fun (i:Nat)=>decide ((i:Int) ∈ R)) (List.range k)
  simpa [V8] using this
theorem B20 {D:Dev} {n:Int} {V:List Cell} {g H:A0} {R:List Int} {q:Nat} (P:OfP D n V g R H):∀ (e k M id:Nat) (C:List Cell) (h:A0),k + e=129 → e < M → Low H.length H h → H.length ≤ id → rd h id=some ⟨C,true⟩ → IsNds H C (V8 D n R k) →
    ∃ v h',A6i q M (.c (.p (g.length + 3) 0)) (.c (.sl id 0 (V8 D n R k).length 7)) (.c (.i .i64 (k:Int))) h=some (v,h') ∧ IsTree h' v (V8 D n R 129) ∧ Low H.length H h'
  | e,k,0,id,C,h,_,hm,_,_,_,_=>by omega
  | 0,k,M + 1,id,C,h,hk,hm,hlow,hid,hr,hC=>by
    have e0:k=129:=by omega
    subst e0
    have c0:¬ ((129:Nat):Int) < 129:=by omega
    rw [B3S]
    have hx:=hC.noX
    exact ⟨_,h,by simp only [B9,D7,c0,decide_false,F1] <;> rfl,⟨C,Has.row hr hx.2 hx.1,hC.since hlow⟩,hlow⟩
  | e + 1,k,M + 1,id,C,h,hk,hm,hlow,hid,hr,hC=>by
    have c0:(k:Int) < 129:=by omega
    have w1:=E2 (show k + 1 < 9223372036854775808 by omega)
    have Ph:=P.since hlow
    have t3:=D8 (off:=0) Ph.r3 rfl rfl
    have ht:=D22 (D:=D) (n:=n) (R:=R) (k:=k)
    by_cases c:(k:Int) ∈ R
    · obtain ⟨cs,g1,g2,g3⟩:=P.look c
      obtain ⟨cs',g1',_,g3'⟩:=Ph.look c
      have ecs:cs'=cs:=by
        have r2:∀ z ok,P4 h (some .i64) z ok (.c (.m (g.length + 2))) (.c (.i .i64 (k:Int)))=some (Q4 ok (.a cs) true):=by
          intro z ok
          rw [← g3 z ok]
          obtain ⟨L,es,_,_,_,_,h5,_⟩:=P.rw_
          simp only [P4,A2K,h5,hlow.rd h5]
        have h3:=r2 (.c .ns) false
        rw [g3' (.c .ns) false] at h3
        simpa [Q4] using h3
      subst ecs
      have s0:=Y4 (h:=h) g1.length
      have hcl:=g1.length
      have l7:A4 (h ++ [some (Row.mk cs' true)]) 7 (.c (.p h.length 0))=some (.a cs'):=G0 E8 hcl
      have ef:A8 [Cell.i .i64 0,.i .i64 0,.i .i64 0,.i .i64 0,.i .i64 0,.ns,.ns] [(0,7,.a cs')]=some cs':=by
        simp only [A8,Z6]
        rw [if_pos ⟨hcl,by decide⟩]
        rw [lay_all (by rw [hcl];rfl)]
      have hx:=hC.noX
      obtain ⟨h2,a1,a2,a3,a4,a5⟩:=push (g:=H) (n:=(V8 D n R k).length) (sz:=7) (ys:=cs') (h:=h ++ [some ⟨cs',true⟩]) (hlow.new _) (B6 hr) hx.2 hid hcl (by omega) (by omega)
      obtain ⟨v,h',f1,f2,f3⟩:=B20 (q:=q) P e (k + 1) M ((h ++ [some (Row.mk cs' true)]).length + 1) (C ++ cs') h2 (by omega) (by omega) a3 (by omega) a2 (by rw [C02 c];exact hC.snoc g1)
      refine ⟨v,h',?_,f2,f3⟩
      have el:(V8 D n R (k + 1)).length=(V8 D n R k).length + 1:=by rw [C02 c];simp
      rw [el] at f1
      rw [B3S]
      simp only [B9,D7,c0,decide_true,F6,t3,g3',Q4,O0,List.getElem?_cons_zero,List.getElem?_cons_succ,Option.map_some,S4,O7,s0,l7,ef,a1,C1t,I0,w1]
      exact f1
    · obtain ⟨L,es,_,_,_,_,h5,h6,_⟩:=Ph.rw_
      have lk:=B2N (z:=.a [Cell.i .i64 0,.i .i64 0,.i .i64 0,.i .i64 0,.i .i64 0,.ns,.ns]) (ok:=true) h5 h6 c
      have s0:=Y4 (h:=h) (cs:=[Cell.i .i64 0,.i .i64 0,.i .i64 0,.i .i64 0,.i .i64 0,.ns,.ns]) rfl
      obtain ⟨v,h',f1,f2,f3⟩:=B20 (q:=q) P e (k + 1) M id C (h ++ [some ⟨[Cell.i .i64 0,.i .i64 0,.i .i64 0,.i .i64 0,.i .i64 0,.ns,.ns],true⟩]) (by omega) (by omega) (hlow.new _) hid (B6 hr) (by rw [C01 c];exact hC)
      refine ⟨v,h',?_,f2,f3⟩
      rw [C01 c] at f1
      rw [B3S]
      simp only [B9,D7,c0,decide_true,F6,t3,lk,Q4,O0,List.getElem?_cons_zero,List.getElem?_cons_succ,Option.map_some,S4,O7,s0,F1,C1t,I0,w1]
      exact f1
theorem D3u {D:Dev} {n m:Int} {f:Cell} {h:A0} (hD:okD D) (hv:IsView h f D) :
    ∃ v h',A5k [.a (vwC D.length n m f)] h=some (v,h') ∧ IsTree h' v (B3B D n) ∧ Low h.length h h':=by
  obtain ⟨V,hV⟩:∃ V,V=vwC D.length n m f:=⟨_,rfl⟩
  have hVl:V.length=4:=by rw [hV];rfl
  have hIno:=B34 (n:=n) (m:=m) (i:=1) (h:=h ++ [some (Row.mk V true),some (Row.mk [] true)]) hD (hv.more _)
  rw [B2A,← hV] at hIno
  have f0:∀ k l s p d,A0S (.a (A5 k l s p d)) 0=some (.c (.i .i64 k)):=fun _ _ _ _ _=>rfl
  unfold B3B
  by_cases c:kdV D n 1=2
  · rw [if_pos c]
    have ef:A8 [Cell.i .i64 0] [(0,1,.c (.i .i64 1))]=some [.i .i64 1]:=rfl
    obtain ⟨H,hH⟩:∃ H,H=h ++ [some (Row.mk V true),some (Row.mk [] true),some (E6 []),some (Row.mk [.m (h.length + 2)] true),some (Row.mk [.i .i64 1] true),some (Row.mk [.sl (h.length + 4) 0 1 1] true)]:=⟨_,rfl⟩
    have lH:H.length=h.length + 6:=by rw [hH];simp
    have emk:X2 124 [.c (.p (h.length + 3) 0),.c (.p h.length 0),.c (.p (h.length + 5) 0)]=some (.c (.f 124 [(h.length + 3,0),(h.length,0),(h.length + 5,0)])):=rfl
    have hfc:∀ a h',L7 Q8 (.c (.f 124 [(h.length + 3,0),(h.length,0),(h.length + 5,0)])) [a] h'=A2g [a,.c (.p (h.length + 3) 0),.c (.p h.length 0),.c (.p (h.length + 5) 0)] h':=fun _ _=>Eq.trans rfl rfl
    have P0:OfP D n (vwC D.length n m f) h [] H:=by
      rw [← hV,hH]
      refine ⟨(Low.refl (Nat.le_refl _)).new _,by simp,by simp,by simp,h.length + 4,[],by simp,by simp [encI],by omega,by omega,by simp,rfl,fun j e he=>by simp at he⟩
    obtain ⟨h2,f1,f2,_⟩:=C0m (a:=1) hD hv P0 (by simp)
    have es:W6 [] 1=[1]:=rfl
    rw [es] at f2
    obtain ⟨h3,g1,g2⟩:=B95 (q:=2000) hD hv (by omega) hfc 130 0 2000 [1] h2 (by omega) (by omega) (by omega) RowI.one f2
    change OfP D n (vwC D.length n m f) h (B94 D n) h3 at g2
    obtain ⟨v,h',k1,k2,k3⟩:=B20 (q:=2000) g2 129 0 2000 h3.length [] (h3 ++ [some (Row.mk [] true)]) (by omega) (by omega) ((Low.refl (Nat.le_refl _)).new _) (Nat.le_refl _) (by simp) rfl
    refine ⟨v,h',B4C (n:=2000) ?_,k2,?_⟩
    · have e5:(h ++ [some (Row.mk V true),some (Row.mk [] true),some (E6 [])]).length=h.length + 3:=by simp
      have s1:E7 (h ++ [some (Row.mk V true),some (Row.mk [] true),some (E6 []),some (Row.mk [.nm] true)]) (.c (.p (h.length + 3) 0)) (.c (.m (h.length + 2)))=some (h ++ [some (Row.mk V true),some (Row.mk [] true),some (E6 []),some (Row.mk [.m (h.length + 2)] true)]):=by rw [A2r];rfl
      have s2:E7 (h ++ [some (Row.mk V true),some (Row.mk [] true),some (E6 []),some (Row.mk [.m (h.length + 2)] true),some (Row.mk [.i .i64 1] true),some (Row.mk [.ns] true)]) (.c (.p (h.length + 5) 0)) (.c (.sl (h.length + 4) 0 1 1))=some H:=by rw [A2r,hH];rfl
      rw [B4c,← hV]
      simp only [esc,X1,Q0,hVl,hIno,f0,c,Nat.add_assoc,Nat.reduceAdd,s1,ef,s2,emk,hfc,f1]
      exact g1.trans k1
    · exact g2.low.trans ⟨by have:=g2.low.2.1;omega,k3.2.1,fun id hid=>by
        have:=g2.low.2.1
        rw [k3.2.2 id (by omega)]⟩
  · rw [if_neg c]
    refine ⟨.c (.sl (h.length + 2) 0 0 7),h ++ [some (Row.mk V true),some (Row.mk [] true),some (Row.mk [] true)],B4C (n:=0) ?_,⟨[],Has.row (rw:=true) (by simp) rfl rfl,rfl⟩,(Low.refl (Nat.le_refl _)).new _⟩
    rw [B4c,← hV]
    simp only [esc,X1,Q0,hVl,hIno,f0,c]
end Go.Proofs.YteckncopbicmcaaGreat
end
section
namespace Go.Proofs.YteckncopbicmcaaGreat
open Go Go.Esc
theorem B9M {h:A0} {mid:Nat} {es:F4} {R:List Int} {a:Int} {x:Cell} (hr:rd h mid=some (E6 es)) (hk:KeysI es R) (ha:a ∉ R):U9 h (some .i64) (.c (.m mid)) (.c (.i .i64 a)) (.c x)=some (h.set mid (some (E6 (es ++ [(.i .i64 a,.c x)])))):=by
  simp only [U9,Z9,A2Q,hr,Option.bind_some,A3D]
  rw [if_pos (hk.ok a)]
  unfold Y1 T5
  rw [A8O hk ha]
theorem A7B {a b:List UInt8} (h:a.length + b.length ≤ 1073741824):A2 .add (.c (.s a)) (.c (.s b))=some (.c (.s (a ++ b))):=by
  simp [A2,A3O,h]
def W9 (s:List (Int × List UInt8)):F4:=s.map fun p=>(.i .i64 p.1,.c (.s p.2))
theorem A9M {s:List (Int × List UInt8)}:KeysI (W9 s) (s.map (·.1)):=by simp [KeysI,W9]
structure PW (g:A0) (mid rid oid:Nat) (s:I8) (h:A0):Prop where
  low:Low g.length g h
  gm:g.length ≤ mid
  gr:g.length ≤ rid
  go:g.length ≤ oid
  mr:mid ≠ rid
  mo:mid ≠ oid
  ro:rid ≠ oid
  map:rd h mid=some (E6 (W9 s.1))
  row:rd h rid=some ⟨encI (s.1.map (·.1)),true⟩
  out:rd h oid=some ⟨encS s.2,true⟩
theorem PW.more {g h:A0} {mid rid oid:Nat} {s:I8} (P:PW g mid rid oid s h) (t:A0):PW g mid rid oid s (h ++ t) :=
  ⟨P.low.new _,P.gm,P.gr,P.go,P.mr,P.mo,P.ro,B6 P.map,B6 P.row,B6 P.out⟩
def Off (h:A0) (mid rid oid:Nat) (y:Cell):Prop:=∀ id off k s,y=.sl id off k s → id < h.length ∧ id ≠ mid ∧ id ≠ rid ∧ id ≠ oid
theorem B35 {g:A0} {q M c i:Nat} {L:List Ent} {y:Cell} {x0:Val} {s0:I8} {a:Int} {p:List UInt8} {mid:Nat} (hc:c ≤ 100) (hL:∀ e ∈ L,e.1.length ≤ c) (h62:L.length ≤ 1000000) (hi:i < s0.1.length) (hap:s0.1[i]? = some (a,p)) (hp:p.length ≤ i * (c + 1)) (h0:s0.2.length ≤ 1000000) (hi6:i ≤ 1000000) :
    ∀ (e k M2 rid oid:Nat) (s:I8) (h:A0),k + e=L.length → e < M2 → WayJ c i p s0 k s → PW g mid rid oid s h → Has h (.c y) 2 L.length (D0 L) → Off h mid rid oid y →
      ∃ rid' oid' h',A9F q M M2 x0 (.c (.m mid)) (.c (.sl rid 0 s.1.length 1)) (.c (.sl oid 0 s.2.length 1)) (.c (.i .i64 (i:Int))) (.c y) (.c (.i .i64 (L.length:Int))) (.c (.i .i64 (k:Int))) h =
        A9C q M x0 (.c (.m mid)) (.c (.sl rid' 0 (V9 p s (L.drop k)).1.length 1)) (.c (.sl oid' 0 (V9 p s (L.drop k)).2.length 1)) (.c (.i .i64 (i:Int))) h' ∧ PW g mid rid' oid' (V9 p s (L.drop k)) h'
  | e,k,0,rid,oid,s,h,_,hm,_,_,_,_=>by omega
  | 0,k,M2 + 1,rid,oid,s,h,hk,hm,J,P,hy,ho=>by
    have c0:¬ ((k:Int) < (L.length:Nat)):=by omega
    rw [C1B,List.drop_of_length_le (by omega)]
    exact ⟨rid,oid,h,by simp only [B9,D7,c0,decide_false,F1];rfl,P⟩
  | e + 1,k,M2 + 1,rid,oid,s,h,hk,hm,J,P,hy,ho=>by
    have hkl:k < L.length:=by omega
    have c0:(k:Int) < (L.length:Nat):=by omega
    have w1:=E2 (show k + 1 < 9223372036854775808 by omega)
    obtain ⟨ad,a1,a2⟩:=A01 hy hkl
    have hx:=hL L[k] (List.getElem_mem hkl)
    rw [List.drop_eq_getElem_cons hkl,A9L]
    obtain ⟨x,hxe⟩:∃ x,x=L[k]:=⟨_,rfl⟩
    rw [← hxe] at a2 hx ⊢
    have J':=J.step hi hp hx
    have hout:=J.out
    have hpl:=J.pre.length_le
    have hlen:=J.len
    have hsi:s.1[i]? = some (a,p):=by
      have:=List.prefix_iff_getElem?.1 J.pre i hi
      rw [this,← hap,List.getElem?_eq_getElem hi]
    obtain ⟨H,hH⟩:∃ H,H=h ++ [some (Row.mk (E3 (some x)) true)]:=⟨_,rfl⟩
    have se:B4 (h ++ [some (Row.mk [.s [],.i .i64 0] true)]) 2 (.c (.p h.length 0)) (.a (E3 (some x)))=some H:=by rw [hH];exact A1d
    have PH:PW g mid rid oid s H:=by rw [hH];exact P.more _
    have lH:H.length=h.length + 1:=by rw [hH];simp
    have rx:rd H h.length=some ⟨E3 (some x),true⟩:=by rw [hH];exact E8
    have e0:A3 H (.c (.p h.length 0))=some (.c (.s x.1)):=by rw [hH];exact B10
    have e1:A3 H (.c (.p h.length 1))=some (.c (.i .i64 x.2)):=by rw [hH];exact A3w
    have adr:B7 1 (.c (.sl rid 0 s.1.length 1)) (.c (.i .i64 (i:Int)))=some (.c (.p rid i)):=by rw [G8 (by omega)];simp
    have lr:A3 H (.c (.p rid i))=some (.c (.i .i64 a)):=D8 PH.row (by rw [R5,List.getElem?_map,hsi];rfl) rfl
    have lk:=B2O (z:=.c (.s [])) (ok:=false) (j:=i) (p:=.c (.s p)) PH.map A9M J.nd (by unfold W9;rw [List.getElem?_map,hsi];rfl)
    have hmul:i * (c + 1) ≤ 1000000 * 101:=Nat.mul_le_mul hi6 (by omega)
    have sa:=A7B (a:=p) (b:=[47]) (by simp;omega)
    have sb:=A7B (a:=p ++ [47]) (b:=x.1) (by simp;omega)
    rw [List.append_assoc,List.singleton_append] at sb
    have ef:∀ z,A8 [Cell.s []] [(0,1,.c (.s z))]=some (encS [z]):=fun _=>rfl
    obtain ⟨H2,b1,b2,b3,b4⟩:=A1G (h:=H) (n:=s.2.length) (sz:=1) (ys:=encS [p ++ 47 :: x.1]) PH.out (by rw [K0,Nat.mul_one]) rfl (by omega) (by omega)
    have eS:encS s.2 ++ encS [p ++ 47 :: x.1]=encS (s.2 ++ [p ++ 47 :: x.1]):=by simp [encS]
    rw [eS] at b2
    have rl:=B8 PH.row
    have ol:=B8 PH.out
    have gl:=PH.low.2.1
    have ml:=B8 PH.map
    have r2:=b3 rid _ PH.ro PH.row
    have m2:=b3 mid _ PH.mo PH.map
    have x2:=b3 h.length _ (by have:=B8 P.out;omega) rx
    have l2:=B8 b2
    have e1':A3 H2 (.c (.p h.length 1))=some (.c (.i .i64 x.2)):=D8 x2 rfl rfl
    have low2:Low g.length g H2:=PH.low.trans (b4 _ PH.go (by have:=PH.low.2.1;omega))
    have hyH2:∀ id off kk ss,y=.sl id off kk ss → rd H2 id=rd h id:=fun id off kk ss ey=>by
      have h1:=ho id off kk ss ey
      have:rd H id=rd h id:=by rw [hH,G5 h1.1]
      cases hr:rd h id with
      | none =>
        exfalso
        rcases hy with ⟨e0,_⟩ | ⟨id',off',r',e0,hr',_⟩
        · rw [ey] at e0;cases e0
        · rw [ey] at e0;cases e0;rw [hr] at hr';cases hr'
      | some r=>exact b3 id r h1.2.2.2 (this.trans hr)
    rw [C1B]
    by_cases cm:x.2 ∈ s.1.map (·.1)
    · have ew:Q7 p s x=(s.1,s.2 ++ [p ++ 47 :: x.1]):=by unfold Q7;rw [if_pos cm]
      rw [ew] at J' ⊢
      obtain ⟨j,hj⟩:=List.mem_iff_getElem?.1 cm
      rw [List.getElem?_map,Option.map_eq_some_iff] at hj
      obtain ⟨z,hz,hz2⟩:=hj
      have lk2:=B2O (z:=.c (.s [])) (ok:=true) (a:=x.2) (j:=j) (p:=.c (.s z.2)) m2 A9M J.nd (by unfold W9;rw [List.getElem?_map,hz,Option.map_some,hz2])
      obtain ⟨rid',oid',h',f1,f2⟩:=B35 (q:=q) (M:=M) (x0:=x0) hc hL h62 hi hap hp h0 hi6 e (k + 1) M2 rid (H.length + 1) (s.1,s.2 ++ [p ++ 47 :: x.1]) H2 (by omega) (by omega) J' ⟨low2,P.gm,P.gr,by omega,P.mr,by omega,by omega,m2,r2,b2⟩ (A5K hy hyH2) (fun id off kk ss ey=>by have:=ho id off kk ss ey;exact ⟨by omega,this.2.1,this.2.2.1,by omega⟩)
      refine ⟨rid',oid',h',?_,f2⟩
      have el:(s.2 ++ [p ++ 47 :: x.1]).length=s.2.length + 1:=by simp
      rw [el] at f1
      simp only [B9,D7,c0,decide_true,F6,a1,a2,se,adr,lr,lk,Q4,sa,I9,Nat.add_zero,Nat.zero_add,e0,sb,ef,List.append_nil,b1,e1',lk2,O0,List.getElem?_cons_zero,List.getElem?_cons_succ,Option.map_some,O7,S9,Bool.not_true,F1,C1z,I0,w1]
      exact f1
    · have ew:Q7 p s x=(s.1 ++ [(x.2,p ++ 47 :: x.1)],s.2 ++ [p ++ 47 :: x.1]):=by unfold Q7;rw [if_neg cm]
      rw [ew] at J' ⊢
      have lk2:=B2N (z:=.c (.s [])) (ok:=true) m2 A9M cm
      have pm:=B9M (x:=.s (p ++ 47 :: x.1)) m2 A9M cm
      have eM:W9 s.1 ++ [(.i .i64 x.2,.c (.s (p ++ 47 :: x.1)))]=W9 (s.1 ++ [(x.2,p ++ 47 :: x.1)]):=by simp [W9]
      rw [eM] at pm
      obtain ⟨H3,hH3⟩:∃ H3,H3=H2.set mid (some (E6 (W9 (s.1 ++ [(x.2,p ++ 47 :: x.1)])))):=⟨_,rfl⟩
      rw [← hH3] at pm
      have lH3:H3.length=H2.length:=by rw [hH3];simp
      have xm:h.length ≠ mid:=by have:=B8 P.map;omega
      have e1'':A3 H3 (.c (.p h.length 1))=some (.c (.i .i64 x.2)):=D8 (by rw [hH3,C7 (Ne.symm xm)];exact x2) rfl rfl
      have r3:rd H3 rid=some ⟨encI (s.1.map (·.1)),true⟩:=by rw [hH3,C7 P.mr];exact r2
      have o3:rd H3 (H.length + 1)=some ⟨encS (s.2 ++ [p ++ 47 :: x.1]),true⟩:=by rw [hH3,C7 (by omega)];exact b2
      have m3:rd H3 mid=some (E6 (W9 (s.1 ++ [(x.2,p ++ 47 :: x.1)]))):=by rw [hH3];exact G3 (by omega)
      have ef2:A8 [Cell.i .i64 0] [(0,1,.c (.i .i64 x.2))]=some (encI [x.2]):=rfl
      obtain ⟨H4,d1,d2,d3,d4⟩:=A1G (h:=H3) (n:=s.1.length) (sz:=1) (ys:=encI [x.2]) r3 (by rw [G6,List.length_map,Nat.mul_one]) rfl (by omega) (by omega)
      have eR:encI (s.1.map (·.1)) ++ encI [x.2]=encI ((s.1 ++ [(x.2,p ++ 47 :: x.1)]).map (·.1)):=by rw [← A5A];simp
      rw [eR] at d2
      have l4:=B8 d2
      have o4:=d3 _ _ (by omega) o3
      have m4:=d3 _ _ P.mr m3
      have low3:Low g.length g H3:=by rw [hH3];exact low2.set P.gm _
      have low4:Low g.length g H4:=low3.trans (d4 _ P.gr (by have:=low3.2.1;omega))
      have hyH4:∀ id off kk ss,y=.sl id off kk ss → rd H4 id=rd h id:=fun id off kk ss ey=>by
        have h1:=ho id off kk ss ey
        have h2:=hyH2 id off kk ss ey
        rw [← h2]
        have h3:rd H3 id=rd H2 id:=by rw [hH3,C7 (Ne.symm h1.2.1)]
        cases hr:rd H2 id with
        | none =>
          exfalso
          rcases hy with ⟨e0,_⟩ | ⟨id',off',r',e0,hr',_⟩
          · rw [ey] at e0;cases e0
          · rw [ey] at e0;cases e0;rw [← h2,hr] at hr';cases hr'
        | some r=>exact d3 id r h1.2.2.1 (h3.trans hr)
      obtain ⟨rid',oid',h',f1,f2⟩:=B35 (q:=q) (M:=M) (x0:=x0) hc hL h62 hi hap hp h0 hi6 e (k + 1) M2 (H3.length + 1) (H.length + 1) (s.1 ++ [(x.2,p ++ 47 :: x.1)],s.2 ++ [p ++ 47 :: x.1]) H4 (by omega) (by omega) J' ⟨low4,P.gm,by omega,by omega,by omega,by omega,by omega,m4,d2,o4⟩ (A5K hy hyH4) (fun id off kk ss ey=>by have:=ho id off kk ss ey;exact ⟨by omega,this.2.1,by omega,by omega⟩)
      refine ⟨rid',oid',h',?_,f2⟩
      have el:(s.2 ++ [p ++ 47 :: x.1]).length=s.2.length + 1:=by simp
      have el2:(s.1 ++ [(x.2,p ++ 47 :: x.1)]).length=s.1.length + 1:=by simp
      rw [el,el2] at f1
      simp only [B9,D7,c0,decide_true,F6,a1,a2,se,adr,lr,lk,Q4,sa,I9,Nat.add_zero,Nat.zero_add,e0,sb,ef,List.append_nil,b1,e1',lk2,O0,List.getElem?_cons_zero,List.getElem?_cons_succ,Option.map_some,O7,S9,Bool.not_false,pm,e1'',ef2,d1,C1z,I0,w1]
      exact f1
theorem A9N {v:Val} {t:List Nd} {g:A0} {q c mid:Nat} (hv:IsTree g v t) (hs:small t) (hc:c ≤ 100) (hN:∀ a,∀ e ∈ F3 t a,e.1.length ≤ c) (hT:G4 t ≤ 900000) (hq:1000001 < q) :
    ∀ (e i M rid oid:Nat) (s:I8) (h:A0),e < M → G4 t + 2 ≤ e + i → WayI c (F3 t) i s → PW g mid rid oid s h →
      ∃ rid' oid' h',A9D q M v (.c (.m mid)) (.c (.sl rid 0 s.1.length 1)) (.c (.sl oid 0 s.2.length 1)) (.c (.i .i64 (i:Int))) h =
        bnd (A0N [.c (.sl oid' 0 (ways (F3 t) e i s).2.length 1)] h') (fun p17=>some (p17.1,p17.2)) ∧ PW g mid rid' oid' (ways (F3 t) e i s) h'
  | e,i,0,rid,oid,s,h,hm,_,_,_=>by omega
  | e,i,M + 1,rid,oid,s,h,hm,hT2,hI,P=>by
    have htot:=hI.tot
    have hhi:=hI.hi
    have w1:=E2 (show i + 1 < 9223372036854775808 by omega)
    by_cases c1:i < s.1.length
    · have c0:(i:Int) < (s.1.length:Nat):=by omega
      obtain ⟨e,rfl⟩:∃ e',e=e' + 1:=⟨e - 1,by omega⟩
      have adr:B7 1 (.c (.sl rid 0 s.1.length 1)) (.c (.i .i64 (i:Int)))=some (.c (.p rid i)):=by rw [G8 c1];simp
      have lr:A3 h (.c (.p rid i))=some (.c (.i .i64 (s.1[i]).1)):=D8 P.row (by rw [R5,List.getElem?_map,List.getElem?_eq_getElem c1];rfl) rfl
      have hst:=hI.step hN c1
      have hB:=hI.begin (s.1[i]).2
      have htx:=hI.txt i _ (List.getElem?_eq_getElem c1)
      have hap:s.1[i]? = some ((s.1[i]).1,(s.1[i]).2):=List.getElem?_eq_getElem c1
      rw [ways,dif_pos c1]
      obtain ⟨a,ha⟩:∃ a,a=(s.1[i]).1:=⟨_,rfl⟩
      obtain ⟨p,hp⟩:∃ p,p=(s.1[i]).2:=⟨_,rfl⟩
      rw [← ha] at lr hst hap ⊢
      rw [← hp] at hst hB htx hap ⊢
      cases hf:K1 t a with
      | none =>
        have hte:F3 t a=[]:=by unfold F3;rw [hf]
        have hF:=C1i (hv.since P.low) hs hf
        have s0:=Y4 (h:=h) (cs:=ndC 0 0 0 0 0 .ns .ns) rfl
        have k1:A3 (h ++ [some (Row.mk (ndC 0 0 0 0 0 .ns .ns) true)]) (.c (.p h.length 1))=some (.c (.i .i64 0)):=by rw [T8];rfl
        have n02:¬ (0:Int)=2:=by decide
        rw [hte] at hst ⊢
        obtain ⟨rid',oid',h',f1,f2⟩:=A9N (q:=q) hv hs hc hN hT hq e (i + 1) M rid oid s _ (by omega) (by omega) hst (P.more [some ⟨ndC 0 0 0 0 0 .ns .ns,true⟩])
        refine ⟨rid',oid',h',?_,f2⟩
        rw [A9E]
        generalize ndC 0 0 0 0 0 .ns .ns=Z at *
        simp only [B9,A0m,D7,c0,decide_true,F6,adr,lr,hF,O0,List.getElem?_cons_zero,List.getElem?_cons_succ,Option.map_some,S4,O7,s0,I9,Nat.zero_add,k1,A1i,n02,ne_eq,not_false_eq_true,B3W,I0,w1]
        exact f1
      | some x =>
        have hF:=C1j (hv.since P.low) hs hf
        have hsx:=(hs.2 x (List.mem_of_find?_eq_some hf)).2
        obtain ⟨H,hH⟩:∃ H,H=h ++ [some (Row.mk (A1 x.data) true),some (Row.mk (D0 x.names) true)]:=⟨_,rfl⟩
        rw [← hH] at hF
        have lH:H.length=h.length + 2:=by rw [hH];simp
        obtain ⟨N,hNd⟩:∃ N,N=ndC x.ino x.kind x.links x.parent x.size (.sl h.length 0 x.data.length 1) (.sl (h.length + 1) 0 x.names.length 2):=⟨_,rfl⟩
        rw [← hNd] at hF
        have s0:=Y4 (h:=H) (cs:=N) (by rw [hNd];rfl)
        have k1:A3 (H ++ [some (Row.mk N true)]) (.c (.p H.length 1))=some (.c (.i .i64 x.kind)):=by rw [T8,hNd];rfl
        have k6:A3 (H ++ [some (Row.mk N true)]) (.c (.p H.length 6))=some (.c (.sl (h.length + 1) 0 x.names.length 2)):=by rw [T8,hNd];rfl
        have P1:PW g mid rid oid s (H ++ [some (Row.mk N true)]):=by rw [hH];exact (P.more _).more _
        by_cases ck:x.kind=2
        · have hte:F3 t a=x.names:=by unfold F3;rw [hf];dsimp only;rw [if_pos ck]
          have hNx:=hN a
          rw [hte] at hst hNx ⊢
          have hy:Has (H ++ [some (Row.mk N true)]) (.c (.sl (h.length + 1) 0 x.names.length 2)) 2 x.names.length (D0 x.names):=by
            refine Has.row (rw:=true) (B6 ?_) A0t A5C
            rw [hH];simp
          have m1:=B8 P.map
          have m2:=B8 P.row
          have m3:=B8 P.out
          obtain ⟨rid1,oid1,h1,g1,g2⟩:=B35 (q:=q) (M:=M) (x0:=v) (y:=.sl (h.length + 1) 0 x.names.length 2) (a:=a) hc hNx hsx c1 hap htx (by omega) (by omega) x.names.length 0 q rid oid s _ (by omega) (by omega) hB P1 hy (fun id off kk ss ey=>by cases ey;simp;omega)
          rw [List.drop_zero] at g1 g2
          obtain ⟨rid',oid',h',f1,f2⟩:=A9N (q:=q) hv hs hc hN hT hq e (i + 1) M rid1 oid1 _ h1 (by omega) (by omega) hst g2
          refine ⟨rid',oid',h',?_,f2⟩
          rw [A9E]
          simp only [B9,A0m,D7,c0,decide_true,F6,adr,lr,hF,O0,List.getElem?_cons_zero,List.getElem?_cons_succ,Option.map_some,S4,O7,s0,I9,Nat.zero_add,k1,A1i,ck,ne_eq,not_true_eq_false,decide_false,F1,k6]
          rw [B3W,I0,B9,w1] at g1
          exact g1.trans f1
        · have hte:F3 t a=[]:=by unfold F3;rw [hf];dsimp only;rw [if_neg ck]
          rw [hte] at hst ⊢
          obtain ⟨rid',oid',h',f1,f2⟩:=A9N (q:=q) hv hs hc hN hT hq e (i + 1) M rid oid s _ (by omega) (by omega) hst P1
          refine ⟨rid',oid',h',?_,f2⟩
          rw [A9E]
          simp only [B9,A0m,D7,c0,decide_true,F6,adr,lr,hF,O0,List.getElem?_cons_zero,List.getElem?_cons_succ,Option.map_some,S4,O7,s0,I9,Nat.zero_add,k1,A1i,ck,ne_eq,not_false_eq_true,B3W,I0,w1]
          exact f1
    · have c0:¬ ((i:Int) < (s.1.length:Nat)):=by omega
      have ew:ways (F3 t) e i s=s:=by
        cases e with
        | zero=>rfl
        | succ e=>rw [ways,dif_neg c1]
      rw [ew]
      refine ⟨rid,oid,h,?_,P⟩
      rw [A9E]
      simp only [B9,A0m,D7,c0,decide_false,F1]
theorem C1y {v:Val} {t:List Nd} {c:Nat} {h:A0} (hv:IsTree h v t) (hs:small t) (hc:c ≤ 100) (hN:∀ a,∀ e ∈ F3 t a,e.1.length ≤ c) (hT:G4 t ≤ 900000) :
    A2h [v] h=some (.c (.sl h.length 0 (Q3 t).length 1),h ++ [some ⟨encS (Q3 t),true⟩]):=by
  have key:∀ g,IsTree g v t → ∃ v' g',A7p (1000002 + G4 t) [v] g=some (v',g') ∧ Out g.length g' v' 1 (Q3 t).length (encS (Q3 t)):=by
    intro g hv
    have hKn:KeysI [] []:=rfl
    have pm:=B9M (h:=g ++ [some (Row.mk [] true),some (E6 [])]) (mid:=g.length + 1) (x:=.s []) (a:=1) (by simp) hKn (by simp)
    have em:(g ++ [some (Row.mk [] true),some (E6 [])]).set (g.length + 1) (some (E6 ([] ++ [(.i .i64 1,.c (.s []))])))=g ++ [some (Row.mk [] true),some (E6 (W9 [(1,[])]))]:=by
      simp [List.set_append,W9]
    rw [em] at pm
    have P0:PW g (g.length + 1) (g.length + 2) (g.length + 3) ([(1,[])],[]) (g ++ [some (Row.mk [] true),some (E6 (W9 [(1,[])])),some (Row.mk [.i .i64 1] true),some (Row.mk [] true)]) :=
      ⟨(Low.refl (Nat.le_refl _)).new _,by omega,by omega,by omega,by omega,by omega,by omega,by simp,by simp [encI],by simp [encS]⟩
    obtain ⟨rid,oid,h',f1,P⟩:=A9N (q:=1000002 + G4 t) hv hs hc hN hT (by omega) (G4 t + 2) 0 (1000002 + G4 t) (g.length + 2) (g.length + 3) ([(1,[])],[]) _ (by omega) (by omega) WayI.one P0
    have ho:=B2Z hN
    have hso:=B8T (h:=h') (v:=.c (.sl oid 0 (outW t).length 1)) (nv:=(outW t).length) (l:=outW t) (Has.row P.out (by rw [K0,Nat.mul_one]) (A3H _)) (by omega)
    have ef:A8 [Cell.i .i64 0] [(0,1,.c (.i .i64 1))]=some [.i .i64 1]:=rfl
    have hl:=P.low.2.1
    refine ⟨_,_,?_,by rw [K0,Nat.mul_one],h'.length,rfl,hl,E8⟩
    rw [C3r]
    simp only [List.append_assoc,List.cons_append,List.nil_append,List.length_append,List.length_cons,List.length_nil,Nat.zero_add,Nat.reduceAdd,pm,B9,ef]
    refine f1.trans ?_
    change bnd (A0N [.c (.sl oid 0 (outW t).length 1)] h') _=_
    rw [hso,B9]
    rfl
  obtain ⟨v',g',e,ho⟩:=key (ro h) hv.ro
  exact C55 e (by simpa [M9] using ho) (by simp)
end Go.Proofs.YteckncopbicmcaaGreat
end
noncomputable section
namespace Go.Proofs.YteckncopbicmcaaGreat
open Go Go.Esc
set_option maxRecDepth 100000
def A_el25_small:AFn:=⟨.seq [] (.ops [aO 0 (.nilrow 256)]) (.seq [1] (.ops [aO 4 (.mkSl 256 (List.replicate 256 (.i .u8 0)) (.v (.c (.i .i64 16))) (.v (.c (.i .i64 16)))),aO 1 (.mv (.t 4))]) (.seq [1] (.ops [aO 6 (.mv (.t 1)),aO 7 (.build ([.i .i64 0,.i .i64 0,.i .u64 0]) [(0,1,(.v (.c (.i .i64 16)))),(1,1,(.v (.c (.i .i64 8))))]),aO 8 (.call 137 [(.t 7)]),aO 5 (.mv (.t 8)),aO 9 (.ext (.t 5) 0),aO 10 (.ext (.t 5) 1),aO 11 (.iAddrL 256 (.t 6) (.v (.c (.i .i64 0)))),aN (.storeN 256 (.t 11) (.t 9))]) (.seq [1,2] (.ops [aO 12 (.build ([.i .i64 0,.i .i64 0,.i .i64 0,.i .i64 0,.i .i64 0,.i .i64 0,.i .i64 0,.i .i64 0,.i .i64 0,.i .i64 0,.i .i64 0]) [(0,1,(.v (.c (.i .i64 2)))),(1,1,(.v (.c (.i .i64 1)))),(3,1,(.v (.c (.i .i64 1))))]),aO 2 (.alloc ([.i .i64 0,.i .i64 0,.i .i64 0,.i .i64 0,.i .i64 0,.i .i64 0,.i .i64 0,.i .i64 0,.i .i64 0,.i .i64 0,.i .i64 0])),aN (.storeN 11 (.t 2) (.t 12))]) (.seq [1,2] (.ops [aO 13 (.fAddr (.t 2) 4),aO 14 (.iAddrA 6 1 (.t 13) (.v (.c (.i .i64 0)))),aN (.store1 (.t 14) (.v (.c (.i .i64 5))))]) (.seq [1] (.drawS 0 [aO 16 (.mv (.t 1)),aO 17 (.mv (.t 1)),aO 18 (.iAddrL 256 (.t 17) (.v (.c (.i .i64 2)))),aO 19 (.loadN 256 (.t 18)),aO 20 (.loadN 11 (.t 2)),aO 21 (.call 115 [(.t 19),(.v (.c (.i .i64 0))),(.t 20)]),aO 15 (.mv (.t 21)),aO 22 (.ext (.t 15) 0),aO 23 (.ext (.t 15) 1),aO 24 (.iAddrL 256 (.t 16) (.v (.c (.i .i64 2))))] (aN (.storeN 256 (.t 24) (.t 22))) [] []) (.seq [1] (.ops [aO 26 (.mv (.t 1)),aO 27 (.mv (.t 1)),aO 28 (.iAddrL 256 (.t 27) (.v (.c (.i .i64 2)))),aO 29 (.loadN 256 (.t 28)),aO 30 (.build ([.i .i64 0,.i .i64 0,.i .i64 0,.i .i64 0,.i .i64 0,.i .i64 0,.i .i64 0,.i .i64 0,.i .i64 0,.i .i64 0,.i .i64 0]) [(0,1,(.v (.c (.i .i64 1)))),(1,1,(.v (.c (.i .i64 1)))),(2,1,(.v (.c (.i .i64 2))))]),aO 31 (.call 115 [(.t 29),(.v (.c (.i .i64 1))),(.t 30)]),aO 25 (.mv (.t 31)),aO 32 (.ext (.t 25) 0),aO 33 (.ext (.t 25) 1),aO 34 (.iAddrL 256 (.t 26) (.v (.c (.i .i64 2)))),aN (.storeN 256 (.t 34) (.t 32))]) (.seq [1,3] (.ops [aO 35 (.build ([.i .i64 0] ++ List.replicate 32 (.i .i64 0)) []),aO 3 (.alloc ([.i .i64 0] ++ List.replicate 32 (.i .i64 0))),aN (.storeN 33 (.t 3) (.t 35))]) (.seq [1,3] (.ops [aO 36 (.fAddr (.t 3) 1),aO 37 (.iAddrA 32 1 (.t 36) (.v (.c (.i .i64 0)))),aN (.store1 (.t 37) (.v (.c (.i .i64 6))))]) (.seq [1] (.ops [aO 39 (.mv (.t 1)),aO 40 (.loadN 33 (.t 3)),aO 41 (.call 138 [(.t 40)]),aO 38 (.mv (.t 41)),aO 42 (.ext (.t 38) 0),aO 43 (.ext (.t 38) 1),aO 44 (.iAddrL 256 (.t 39) (.v (.c (.i .i64 5)))),aN (.storeN 256 (.t 44) (.t 42))]) (.seq [1] (.ops [aO 46 (.mv (.t 1)),aO 47 (.build ([.s [],.i .i64 0]) [(0,1,(.v (.c (.s [97])))),(1,1,(.v (.c (.i .i64 2))))]),aO 48 (.build ([.s [],.i .i64 0]) [(0,1,(.v (.c (.s [98])))),(1,1,(.v (.c (.i .i64 3))))]),aO 49 (.buildSl 2 2 (([.s [],.i .i64 0]) ++ ([.s [],.i .i64 0])) [(0,2,(.t 47)),(2,2,(.t 48))]),aO 50 (.call 139 [(.t 49)]),aO 45 (.mv (.t 50)),aO 51 (.ext (.t 45) 0),aO 52 (.ext (.t 45) 1),aO 53 (.iAddrL 256 (.t 46) (.v (.c (.i .i64 6)))),aN (.storeN 256 (.t 53) (.t 51))]) (.seq [0] (.ops [aO 54 (.mv (.t 1)),aO 0 (.mv (.t 54))]) .ret))))))))))),[.tmp 0]⟩
def A90:B0:=B1 137 A2e (B1 115 A1h (B1 138 A15 (B1 139 A4w C0)))
def A6x (n:Nat) (args:List Val) (h:A0):A6:=ax A90 n A_el25_small.code A_el25_small.fin (params 0 args) h
theorem C2i (n:Nat) (h:A0):A6x n [] h=bnd (A0U (.c (.i .i64 16)) (.c (.i .i64 16))) fun n1=>bnd (A8 ([.i .i64 0,.i .i64 0,.i .u64 0]) [(0,1,.c (.i .i64 16)),(1,1,.c (.i .i64 8))]) fun c2=>bnd (A2e [(.a c2)] ((h ++ [some (Row.mk ([]) true)]) ++ [some (Row.mk (rows (List.replicate 256 (.i .u8 0)) n1) true)])) fun p3=>bnd (C5 p3.1 0) fun v4=>bnd (C5 p3.1 1) fun v5=>bnd (B7 256 (.c (.sl (h ++ [some (Row.mk ([]) true)]).length 0 n1 256)) (.c (.i .i64 0))) fun v6=>bnd (B4 p3.2 256 v6 v4) fun h7=>bnd (A8 ([.i .i64 0,.i .i64 0,.i .i64 0,.i .i64 0,.i .i64 0,.i .i64 0,.i .i64 0,.i .i64 0,.i .i64 0,.i .i64 0,.i .i64 0]) [(0,1,.c (.i .i64 2)),(1,1,.c (.i .i64 1)),(3,1,.c (.i .i64 1))]) fun c8=>bnd (B4 (h7 ++ [some (Row.mk ([.i .i64 0,.i .i64 0,.i .i64 0,.i .i64 0,.i .i64 0,.i .i64 0,.i .i64 0,.i .i64 0,.i .i64 0,.i .i64 0,.i .i64 0]) true)]) 11 (.c (.p h7.length 0)) (.a c8)) fun h9=>bnd (A7 (.c (.p h7.length 0)) 4) fun v10=>bnd (E1 6 1 v10 (.c (.i .i64 0))) fun v11=>bnd (E7 h9 v11 (.c (.i .i64 5))) fun h12=>bnd (B7 256 (.c (.sl (h ++ [some (Row.mk ([]) true)]).length 0 n1 256)) (.c (.i .i64 2))) fun v13=>bnd (A4 h12 256 v13) fun v14=>bnd (A4 h12 11 (.c (.p h7.length 0))) fun v15=>bnd (quiet (h12 ++ []) (A1h [v14,.c (.i .i64 0),v15] (h12 ++ []))) fun p16=>bnd (C5 p16.1 0) fun v17=>bnd (C5 p16.1 1) fun v18=>bnd (B7 256 (.c (.sl (h ++ [some (Row.mk ([]) true)]).length 0 n1 256)) (.c (.i .i64 2))) fun v19=>bnd (B4 p16.2 256 v19 v17) fun h20=>bnd (B7 256 (.c (.sl (h ++ [some (Row.mk ([]) true)]).length 0 n1 256)) (.c (.i .i64 2))) fun v21=>bnd (A4 h20 256 v21) fun v22=>bnd (A8 ([.i .i64 0,.i .i64 0,.i .i64 0,.i .i64 0,.i .i64 0,.i .i64 0,.i .i64 0,.i .i64 0,.i .i64 0,.i .i64 0,.i .i64 0]) [(0,1,.c (.i .i64 1)),(1,1,.c (.i .i64 1)),(2,1,.c (.i .i64 2))]) fun c23=>bnd (A1h [v22,.c (.i .i64 1),(.a c23)] h20) fun p24=>bnd (C5 p24.1 0) fun v25=>bnd (C5 p24.1 1) fun v26=>bnd (B7 256 (.c (.sl (h ++ [some (Row.mk ([]) true)]).length 0 n1 256)) (.c (.i .i64 2))) fun v27=>bnd (B4 p24.2 256 v27 v25) fun h28=>bnd (A8 ([.i .i64 0] ++ List.replicate 32 (.i .i64 0)) []) fun c29=>bnd (B4 (h28 ++ [some (Row.mk ([.i .i64 0] ++ List.replicate 32 (.i .i64 0)) true)]) 33 (.c (.p h28.length 0)) (.a c29)) fun h30=>bnd (A7 (.c (.p h28.length 0)) 1) fun v31=>bnd (E1 32 1 v31 (.c (.i .i64 0))) fun v32=>bnd (E7 h30 v32 (.c (.i .i64 6))) fun h33=>bnd (A4 h33 33 (.c (.p h28.length 0))) fun v34=>bnd (A15 [v34] h33) fun p35=>bnd (C5 p35.1 0) fun v36=>bnd (C5 p35.1 1) fun v37=>bnd (B7 256 (.c (.sl (h ++ [some (Row.mk ([]) true)]).length 0 n1 256)) (.c (.i .i64 5))) fun v38=>bnd (B4 p35.2 256 v38 v36) fun h39=>bnd (A8 ([.s [],.i .i64 0]) [(0,1,.c (.s [97])),(1,1,.c (.i .i64 2))]) fun c40=>bnd (A8 ([.s [],.i .i64 0]) [(0,1,.c (.s [98])),(1,1,.c (.i .i64 3))]) fun c41=>bnd (A8 (([.s [],.i .i64 0]) ++ ([.s [],.i .i64 0])) [(0,2,(.a c40)),(2,2,(.a c41))]) fun c42=>bnd (A4w [(.c (.sl h39.length 0 2 2))] (h39 ++ [some (Row.mk (c42) true)])) fun p43=>bnd (C5 p43.1 0) fun v44=>bnd (C5 p43.1 1) fun v45=>bnd (B7 256 (.c (.sl (h ++ [some (Row.mk ([]) true)]).length 0 n1 256)) (.c (.i .i64 6))) fun v46=>bnd (B4 p43.2 256 v46 v44) fun h47=>some ((.c (.sl (h ++ [some (Row.mk ([]) true)]).length 0 n1 256)),h47):=by kernel_rfl
theorem K_el25_small:FnK Tryz.prog 96 A_el25_small A90 A6x:=.mk' (B3 B4y (B3 C5V (B3 B4p (B3 C3H C2)))) Tryz.func96 (by kernel_rfl) (fun _ _ _=>C1)
def A4F:Fun:=tidy (Lim A_el25_small A90)
theorem C35:SOk Tryz.prog 96 A4F:=K_el25_small.sok
theorem C36:U6 A6x A4F:=K_el25_small.out
def A_el25_works:AFn:=⟨.seq [] (.ops [aO 0 (.mv (.v (.c (.b false))))]) (.seq [1,2] (.ops [aO 7 (.call 96 []),aO 8 (.call 16 [(.t 7)]),aO 6 (.mv (.t 8)),aO 9 (.ext (.t 6) 0),aO 10 (.ext (.t 6) 1),aO 1 (.alloc ([.i .i64 0,.i .i64 0,.i .u64 0,.nf])),aN (.storeN 4 (.t 1) (.t 9)),aO 2 (.mv (.t 10))]) (.seq [2,3] (.ops [aO 11 (.loadN 4 (.t 1)),aO 12 (.call 60 [(.t 11)]),aO 3 (.mv (.t 12))]) (.seq [2,3,4,5] (.ops [aO 14 (.mv (.t 3)),aO 15 (.buildSl 1 1 ([.s []]) [(0,1,(.v (.c (.s [97]))))]),aO 16 (.call 97 [(.t 14),(.t 15)]),aO 13 (.mv (.t 16)),aO 17 (.ext (.t 13) 0),aO 18 (.ext (.t 13) 1),aO 4 (.mv (.t 17)),aO 5 (.mv (.t 18))]) (.seq [0] (.ops [aO 19 (.mv (.t 2)),aO 20 (.bin .eql (.t 19) (.v (.c (.i .i64 0)))),aO 21 (.mv (.t 20)),aG 22 21 true (.mv (.t 3)),aG 23 21 true (.len (.t 22)),aG 24 21 true (.bin .eql (.t 23) (.v (.c (.i .i64 2)))),aO 25 (.pick (.t 21) (.t 24) (.v (.c (.b false)))),aO 26 (.mv (.t 25)),aG 27 26 true (.mv (.t 4)),aG 28 26 true (.bin .eql (.t 27) (.v (.c (.i .i64 2)))),aO 29 (.pick (.t 26) (.t 28) (.v (.c (.b false)))),aO 30 (.mv (.t 29)),aG 31 30 true (.mv (.t 5)),aO 32 (.pick (.t 30) (.t 31) (.v (.c (.b false)))),aO 33 (.mv (.t 32)),aG 34 33 true (.mv (.t 3)),aG 35 33 true (.iAddrL 7 (.t 34) (.v (.c (.i .i64 0)))),aG 36 33 true (.fAddr (.t 35) 6),aG 37 33 true (.load1 (.t 36)),aG 38 33 true (.len (.t 37)),aG 39 33 true (.bin .eql (.t 38) (.v (.c (.i .i64 1)))),aO 40 (.pick (.t 33) (.t 39) (.v (.c (.b false)))),aO 41 (.mv (.t 40)),aG 42 41 true (.mv (.t 3)),aG 43 41 true (.iAddrL 7 (.t 42) (.v (.c (.i .i64 1)))),aG 44 41 true (.fAddr (.t 43) 4),aG 45 41 true (.load1 (.t 44)),aG 46 41 true (.bin .eql (.t 45) (.v (.c (.i .i64 2)))),aO 47 (.pick (.t 41) (.t 46) (.v (.c (.b false)))),aO 48 (.mv (.t 47)),aG 49 48 true (.mv (.t 3)),aG 50 48 true (.call 41 [(.t 49)]),aG 51 48 true (.buildSl 1 1 ([.s []]) [(0,1,(.v (.c (.s [47,97]))))]),aG 52 48 true (.call 40 [(.t 50),(.t 51)]),aO 53 (.pick (.t 48) (.t 52) (.v (.c (.b false)))),aO 54 (.mv (.t 53)),aG 55 54 true (.mv (.t 3)),aG 56 54 true (.call 98 [(.t 55),(.v (.c (.i .i64 2)))]),aG 57 54 true (.bin .eql (.t 56) (.v (.c (.i .i64 1)))),aO 58 (.pick (.t 54) (.t 57) (.v (.c (.b false)))),aO 0 (.mv (.t 58))]) .ret)))),[.tmp 0]⟩
def A91:B0:=B1 96 A4F (B1 16 A5n (B1 60 A5k (B1 97 A5i (B1 41 A2h (B1 40 A11 (B1 98 A5j C0))))))
def A6y (n:Nat) (args:List Val) (h:A0):A6:=ax A91 n A_el25_works.code A_el25_works.fin (params 0 args) h
theorem C2j (n:Nat) (h:A0):A6y n [] h=bnd (A4F [] h) fun p1=>bnd (A5n [p1.1] p1.2) fun p2=>bnd (C5 p2.1 0) fun v3=>bnd (C5 p2.1 1) fun v4=>bnd (B4 (p2.2 ++ [some (Row.mk ([.i .i64 0,.i .i64 0,.i .u64 0,.nf]) true)]) 4 (.c (.p p2.2.length 0)) v3) fun h5=>bnd (A4 h5 4 (.c (.p p2.2.length 0))) fun v6=>bnd (A5k [v6] h5) fun p7=>bnd (A8 ([.s []]) [(0,1,.c (.s [97]))]) fun c8=>bnd (A5i [p7.1,(.c (.sl p7.2.length 0 1 1))] (p7.2 ++ [some (Row.mk (c8) true)])) fun p9=>bnd (C5 p9.1 0) fun v10=>bnd (C5 p9.1 1) fun v11=>bnd (A2 .eql v4 (.c (.i .i64 0))) fun v12=>bnd (gd v12 true (some (p7.1,p9.2)) (some (.no,p9.2))) fun p13=>bnd (gd v12 true (bnd (D5 p13.1) fun v14=>some (v14,p13.2)) (some (.no,p13.2))) fun p15=>bnd (gd v12 true (bnd (A2 .eql p15.1 (.c (.i .i64 2))) fun v16=>some (v16,p15.2)) (some (.no,p15.2))) fun p17=>bnd (C4 v12 p17.1 (.c (.b false))) fun v18=>bnd (gd v18 true (some (v10,p17.2)) (some (.no,p17.2))) fun p19=>bnd (gd v18 true (bnd (A2 .eql p19.1 (.c (.i .i64 2))) fun v20=>some (v20,p19.2)) (some (.no,p19.2))) fun p21=>bnd (C4 v18 p21.1 (.c (.b false))) fun v22=>bnd (gd v22 true (some (v11,p21.2)) (some (.no,p21.2))) fun p23=>bnd (C4 v22 p23.1 (.c (.b false))) fun v24=>bnd (gd v24 true (some (p7.1,p23.2)) (some (.no,p23.2))) fun p25=>bnd (gd v24 true (bnd (B7 7 p25.1 (.c (.i .i64 0))) fun v26=>some (v26,p25.2)) (some (.no,p25.2))) fun p27=>bnd (gd v24 true (bnd (A7 p27.1 6) fun v28=>some (v28,p27.2)) (some (.no,p27.2))) fun p29=>bnd (gd v24 true (bnd (A3 p29.2 p29.1) fun v30=>some (v30,p29.2)) (some (.no,p29.2))) fun p31=>bnd (gd v24 true (bnd (D5 p31.1) fun v32=>some (v32,p31.2)) (some (.no,p31.2))) fun p33=>bnd (gd v24 true (bnd (A2 .eql p33.1 (.c (.i .i64 1))) fun v34=>some (v34,p33.2)) (some (.no,p33.2))) fun p35=>bnd (C4 v24 p35.1 (.c (.b false))) fun v36=>bnd (gd v36 true (some (p7.1,p35.2)) (some (.no,p35.2))) fun p37=>bnd (gd v36 true (bnd (B7 7 p37.1 (.c (.i .i64 1))) fun v38=>some (v38,p37.2)) (some (.no,p37.2))) fun p39=>bnd (gd v36 true (bnd (A7 p39.1 4) fun v40=>some (v40,p39.2)) (some (.no,p39.2))) fun p41=>bnd (gd v36 true (bnd (A3 p41.2 p41.1) fun v42=>some (v42,p41.2)) (some (.no,p41.2))) fun p43=>bnd (gd v36 true (bnd (A2 .eql p43.1 (.c (.i .i64 2))) fun v44=>some (v44,p43.2)) (some (.no,p43.2))) fun p45=>bnd (C4 v36 p45.1 (.c (.b false))) fun v46=>bnd (gd v46 true (some (p7.1,p45.2)) (some (.no,p45.2))) fun p47=>bnd (gd v46 true (bnd (A2h [p47.1] p47.2) fun p48=>some (p48.1,p48.2)) (some (.no,p47.2))) fun p49=>bnd (gd v46 true (bnd (A8 ([.s []]) [(0,1,.c (.s [47,97]))]) fun c50=>some ((.c (.sl p49.2.length 0 1 1)),(p49.2 ++ [some (Row.mk (c50) true)]))) (some (.no,p49.2))) fun p51=>bnd (gd v46 true (bnd (A11 [p49.1,p51.1] p51.2) fun p52=>some (p52.1,p52.2)) (some (.no,p51.2))) fun p53=>bnd (C4 v46 p53.1 (.c (.b false))) fun v54=>bnd (gd v54 true (some (p7.1,p53.2)) (some (.no,p53.2))) fun p55=>bnd (gd v54 true (bnd (A5j [p55.1,.c (.i .i64 2)] p55.2) fun p56=>some (p56.1,p56.2)) (some (.no,p55.2))) fun p57=>bnd (gd v54 true (bnd (A2 .eql p57.1 (.c (.i .i64 1))) fun v58=>some (v58,p57.2)) (some (.no,p57.2))) fun p59=>bnd (C4 v54 p59.1 (.c (.b false))) fun v60=>some (v60,p59.2):=by kernel_rfl
theorem K_el25_works:FnK Tryz.prog 35 A_el25_works A91 A6y:=.mk' (B3 C35 (B3 C6g (B3 C54 (B3 C5X (B3 B4D (B3 B4l (B3 C5Z C2))))))) Tryz.func35 (by kernel_rfl) (fun _ _ _=>C1)
def A3c:Fun:=tidy (Lim A_el25_works A91)
theorem C38:SOk Tryz.prog 35 A3c:=K_el25_works.sok
theorem C37:C9 A6y A3c:=K_el25_works.flat
end Go.Proofs.YteckncopbicmcaaGreat
end
section
namespace Go.Proofs.YteckncopbicmcaaGreat
open Go Go.Esc
theorem C1J {h:A0} {v:Val} {t:List Nd} (ht:IsTree h v t) {i:Nat} (hi:i < t.length) :
    ∃ id o cs,B7 7 v (.c (.i .i64 (i:Int)))=some (.c (.p id o)) ∧ A4 h 7 (.c (.p id o))=some (.a cs) ∧ (∀ k c,cs[k]? = some c → A3 h (.c (.p id (o + k)))=some (.c c)) ∧ IsNd h cs t[i]:=by
  obtain ⟨cs,h1,h2⟩:=ht
  have hcs:=h2.noX
  obtain ⟨id,off,rfl,hid,hA,hB⟩:=h1.sl (by omega)
  refine ⟨id,off + i * 7,_,G8 hi,hB (i * 7) 7 (by rw [hcs.2];omega),fun k c hk=>?_,h2.at (List.getElem?_eq_getElem hi)⟩
  have hk7:k < 7:=by
    have:=(List.getElem?_eq_some_iff.1 hk).1
    simp at this;omega
  rw [List.getElem?_take_of_lt hk7,List.getElem?_drop] at hk
  have:=hA _ _ hk
  rwa [← Nat.add_assoc] at this
theorem C0Y {t:List Nd} {c:Nat} (h:∀ x ∈ t,∀ e ∈ x.names,e.1.length ≤ c):∀ a,∀ e ∈ F3 t a,e.1.length ≤ c:=by
  intro a e he
  unfold F3 at he
  cases hf:K1 t a with
  | none=>rw [hf] at he;cases he
  | some x =>
    rw [hf] at he
    dsimp only at he
    split at he
    · exact h x (List.mem_of_find?_eq_some hf) e he
    · cases he
def d25:List Int:=[5,0,0,0,0,0,0]
def ino25a:List UInt8:=D2 (zeros 256) (32 * 0) (J0 2 1 0 1 d25)
def ino25:List UInt8:=D2 ino25a (32 * 1) (J0 1 1 2 0 (zI 7))
def idx25:List UInt8:=R8 0 (6 :: zI 31)
def A7K:List UInt8:=A0d [([97],2),([98],3)]
def D25a:Dev:=(List.replicate 16 (zeros 256)).set 0 (A0h 16 8 0)
def D25b:Dev:=D25a.set 2 ino25a
def D25c:Dev:=D25b.set 2 ino25
def D25d:Dev:=D25c.set 5 idx25
def D25:Dev:=D25d.set 6 A7K
theorem B2z:ino25a.length=256:=by decide +kernel
theorem B7R:ino25.length=256:=by decide +kernel
theorem B7v:idx25.length=256:=B2r rfl
theorem okD25a:okD D25a:=(B9t 16).set A6d
theorem okD25b:okD D25b:=okD25a.set B2z
theorem okD25c:okD D25c:=okD25b.set B7R
theorem okD25d:okD D25d:=okD25c.set B7v
theorem A9a:okD D25:=okD25d.set B8Y
theorem B2I:D25a.length=16:=by unfold D25a;rw [List.length_set,List.length_replicate]
theorem B2J:D25b.length=16:=by unfold D25b;rw [List.length_set,B2I]
theorem B8l:D25c.length=16:=by unfold D25c;rw [List.length_set,B2J]
theorem B8m:D25d.length=16:=by unfold D25d;rw [List.length_set,B8l]
theorem B8k:D25.length=16:=by unfold D25;rw [List.length_set,B8m]
theorem C7D:A7Y D25=true:=by decide +kernel
theorem C7F:B1U D25=8:=by decide +kernel
theorem C7E:B1T D25=0:=by decide +kernel
def T25:List Nd:=[⟨1,2,1,1,0,[],[([97],2)]⟩,⟨2,1,1,0,2,[0,0],[]⟩]
theorem D26:B3B D25 8=T25:=by decide +kernel
theorem C6Y:A2t T25 1 [[97]]=some 2:=by decide +kernel
theorem D00:Q3 T25=[[47,97]]:=by decide +kernel
theorem C7v:A2A T25 2=1:=by decide +kernel
theorem B3t:small T25:=⟨by decide,by decide⟩
theorem A6a {g:A0} {D D':Dev} {i q:Nat} {b:List UInt8} {l:List (Option Row)} (hD:okD D) (hb:b.length=256) (hi:i < D.length) (hq:q=i * 256) (he:D.set i b=D') :
    B4 (g ++ some (Row.mk (F8 D) true) :: l) 256 (.c (.p g.length q)) (.a (A1 b))=some (g ++ some (Row.mk (F8 D') true) :: l):=by
  subst hq;subst he
  have s1:=D2J (D:=D) (i:=i) hD hb hi
  rw [A0o]
  simp only [List.getElem?_cons_zero,Option.join_some,s1,B2Q,List.set_cons_zero]
theorem B8h {g:A0} {D:Dev} {i q:Nat} {b:List UInt8} {l:List (Option Row)} (hD:okD D) (hi:i < D.length) (hq:q=i * 256) (he:D[i]=b) :
    A4 (g ++ some (Row.mk (F8 D) true) :: l) 256 (.c (.p g.length q))=some (.a (A1 b)):=by
  subst hq;subst he
  rw [X1]
  have hc:=A5x hD hi
  simp only [List.getElem?_cons_zero,Option.join_some,ldN,Option.bind_some]
  rw [if_pos ⟨by rw [A2x hD];omega,by simp⟩,hc]
set_option maxHeartbeats 2000000 in
theorem D2C (h:A0):A4F [] h=some (.c (.sl h.length 0 16 256),h ++ [some ⟨F8 D25,true⟩]):=by
  have key:∀ g,∃ v g',A6x 0 [] g=some (v,g') ∧ Out g.length g' v 256 16 (F8 D25):=by
    intro g
    obtain ⟨G,hG⟩:∃ G,G=g ++ [some (Row.mk [] true)]:=⟨_,rfl⟩
    have lG:G.length=g.length + 1:=by rw [hG];simp
    have mk:A0U (.c (.i .i64 16)) (.c (.i .i64 16))=some 16:=rfl
    have ef1:A8 [Cell.i .i64 0,.i .i64 0,.i .u64 0] [(0,1,.c (.i .i64 16)),(1,1,.c (.i .i64 8))]=some (G7 16 8 0):=rfl
    have hp:=fun h=>C0R (b:=16) (n:=8) (m:=0) (h:=h) (by omega) (by omega)
    have hm:I3 16 8=true:=by decide
    simp only [hm,cond_true] at hp
    have a0:B7 256 (.c (.sl G.length 0 16 256)) (.c (.i .i64 0))=some (.c (.p G.length 0)):=rfl
    have a2:B7 256 (.c (.sl G.length 0 16 256)) (.c (.i .i64 2))=some (.c (.p G.length 512)):=rfl
    have a5:B7 256 (.c (.sl G.length 0 16 256)) (.c (.i .i64 5))=some (.c (.p G.length 1280)):=rfl
    have a6:B7 256 (.c (.sl G.length 0 16 256)) (.c (.i .i64 6))=some (.c (.p G.length 1536)):=rfl
    have s0:=A6a (g:=G) (D:=List.replicate 16 (zeros 256)) (i:=0) (q:=0) (l:=[]) (B9t 16) (A6d (b:=16) (n:=8) (m:=0)) (by simp) rfl (show _=D25a from rfl)
    have ef2:A8 [Cell.i .i64 0,.i .i64 0,.i .i64 0,.i .i64 0,.i .i64 0,.i .i64 0,.i .i64 0,.i .i64 0,.i .i64 0,.i .i64 0,.i .i64 0] [(0,1,.c (.i .i64 2)),(1,1,.c (.i .i64 1)),(3,1,.c (.i .i64 1))]=some (A5 2 1 0 1 (zI 7)):=rfl
    have r2:B4 (G ++ [some (Row.mk (F8 D25a) true),some (Row.mk [Cell.i .i64 0,.i .i64 0,.i .i64 0,.i .i64 0,.i .i64 0,.i .i64 0,.i .i64 0,.i .i64 0,.i .i64 0,.i .i64 0,.i .i64 0] true)]) 11 (.c (.p (G.length + 1) 0)) (.a (A5 2 1 0 1 (zI 7)))=some (G ++ [some (Row.mk (F8 D25a) true),some (Row.mk (A5 2 1 0 1 (zI 7)) true)]):=by rw [A2s];rfl
    have fa4:∀ q,A7 (.c (.p q 0)) 4=some (.c (.p q 4)):=fun q=>by simp [A7]
    have ad:∀ q,E1 6 1 (.c (.p q 4)) (.c (.i .i64 0))=some (.c (.p q 4)):=fun q=>rfl
    have r3:E7 (G ++ [some (Row.mk (F8 D25a) true),some (Row.mk (A5 2 1 0 1 (zI 7)) true)]) (.c (.p (G.length + 1) 4)) (.c (.i .i64 5))=some (G ++ [some (Row.mk (F8 D25a) true),some (Row.mk (A5 2 1 0 1 d25) true)]):=by rw [A2r];rfl
    have l2:=B8h (g:=G) (D:=D25a) (i:=2) (q:=512) (b:=zeros 256) (l:=[some (Row.mk (A5 2 1 0 1 d25) true)]) okD25a (by rw [B2I];omega) rfl rfl
    have l11:A4 (G ++ [some (Row.mk (F8 D25a) true),some (Row.mk (A5 2 1 0 1 d25) true)]) 11 (.c (.p (G.length + 1) 0))=some (.a (A5 2 1 0 1 d25)):=by rw [A0T];rfl
    have hT:∀ h,A1h [.a (A1 (zeros 256)),.c (.i .i64 0),.a (A5 2 1 0 1 d25)] h=some (.t [.a (A1 ino25a),.c (.i .i64 0)],h):=fun h=>C0V (j:=0) (k:=2) (l:=1) (s:=0) (p:=1) (d:=d25) (b:=zeros 256) (h:=h) zeros_length rfl (by omega) (by decide)
    have s2:=A6a (g:=G) (D:=D25a) (i:=2) (q:=512) (l:=[some (Row.mk (A5 2 1 0 1 d25) true)]) okD25a B2z (by rw [B2I];omega) rfl (show _=D25b from rfl)
    have l2b:=B8h (g:=G) (D:=D25b) (i:=2) (q:=512) (b:=ino25a) (l:=[some (Row.mk (A5 2 1 0 1 d25) true)]) okD25b (by rw [B2J];omega) rfl (by unfold D25b;rw [List.getElem_set_self])
    have ef2b:A8 [Cell.i .i64 0,.i .i64 0,.i .i64 0,.i .i64 0,.i .i64 0,.i .i64 0,.i .i64 0,.i .i64 0,.i .i64 0,.i .i64 0,.i .i64 0] [(0,1,.c (.i .i64 1)),(1,1,.c (.i .i64 1)),(2,1,.c (.i .i64 2))]=some (A5 1 1 2 0 (zI 7)):=rfl
    have hT2:∀ h,A1h [.a (A1 ino25a),.c (.i .i64 1),.a (A5 1 1 2 0 (zI 7))] h=some (.t [.a (A1 ino25),.c (.i .i64 0)],h):=fun h=>C0V (j:=1) (k:=1) (l:=1) (s:=2) (p:=0) (d:=zI 7) (b:=ino25a) (h:=h) B2z rfl (by omega) (by decide)
    have s2b:=A6a (g:=G) (D:=D25b) (i:=2) (q:=512) (l:=[some (Row.mk (A5 2 1 0 1 d25) true)]) okD25b B7R (by rw [B2J];omega) rfl (show _=D25c from rfl)
    have ez:[Cell.i .i64 0] ++ List.replicate 32 (Cell.i .i64 0)=encI (0 :: zI 32):=A24
    have ef3:A8 (encI (0 :: zI 32)) []=some (encI (0 :: zI 32)):=rfl
    have r4:B4 (G ++ [some (Row.mk (F8 D25c) true),some (Row.mk (A5 2 1 0 1 d25) true),some (Row.mk (encI (0 :: zI 32)) true)]) 33 (.c (.p (G.length + 2) 0)) (.a (encI (0 :: zI 32)))=some (G ++ [some (Row.mk (F8 D25c) true),some (Row.mk (A5 2 1 0 1 d25) true),some (Row.mk (encI (0 :: zI 32)) true)]):=by rw [A2s];rfl
    have fa1:∀ q,A7 (.c (.p q 0)) 1=some (.c (.p q 1)):=fun q=>by simp [A7]
    have ad0:∀ q,E1 32 1 (.c (.p q 1)) (.c (.i .i64 0))=some (.c (.p q 1)):=fun q=>rfl
    have r5:E7 (G ++ [some (Row.mk (F8 D25c) true),some (Row.mk (A5 2 1 0 1 d25) true),some (Row.mk (encI (0 :: zI 32)) true)]) (.c (.p (G.length + 2) 1)) (.c (.i .i64 6))=some (G ++ [some (Row.mk (F8 D25c) true),some (Row.mk (A5 2 1 0 1 d25) true),some (Row.mk (encI (0 :: 6 :: zI 31)) true)]):=by rw [A2r];rfl
    have l33:A4 (G ++ [some (Row.mk (F8 D25c) true),some (Row.mk (A5 2 1 0 1 d25) true),some (Row.mk (encI (0 :: 6 :: zI 31)) true)]) 33 (.c (.p (G.length + 2) 0))=some (.a (encI (0 :: 6 :: zI 31))):=by rw [A0T];rfl
    have hX:=fun h=>B7L (d:=0) (t:=6 :: zI 31) (h:=h) rfl
    have hok:okX 0 (6 :: zI 31)=true:=by decide +kernel
    rw [hok,cond_true,cond_true] at hX
    have eX:R8 0 (6 :: zI 31)=idx25:=rfl
    rw [eX] at hX
    have s5:=A6a (g:=G) (D:=D25c) (i:=5) (q:=1280) (l:=[some (Row.mk (A5 2 1 0 1 d25) true),some (Row.mk (encI (0 :: 6 :: zI 31)) true)]) okD25c B7v (by rw [B8l];omega) rfl (show _=D25d from rfl)
    have ef4:A8 [Cell.s [],.i .i64 0] [(0,1,.c (.s [97])),(1,1,.c (.i .i64 2))]=some [.s [97],.i .i64 2]:=rfl
    have ef5:A8 [Cell.s [],.i .i64 0] [(0,1,.c (.s [98])),(1,1,.c (.i .i64 3))]=some [.s [98],.i .i64 3]:=rfl
    have ef6:A8 [Cell.s [],.i .i64 0,.s [],.i .i64 0] [(0,2,.a [.s [97],.i .i64 2]),(2,2,.a [.s [98],.i .i64 3])]=some (D0 [([97],2),([98],3)]):=rfl
    have hN1:=C68 (h:=G ++ [some (Row.mk (F8 D25d) true),some (Row.mk (A5 2 1 0 1 d25) true),some (Row.mk (encI (0 :: 6 :: zI 31)) true),some (Row.mk (D0 [([97],2),([98],3)]) true)]) (v:=.c (.sl (G.length + 3) 0 2 2)) (nv:=2) (l:=[([97],2),([98],3)]) (Has.tr (by simp) rfl rfl) (by simp)
    have eN1:A0d [([97],2),([98],3)]=A7K:=rfl
    rw [eN1] at hN1
    have s6:=A6a (g:=G) (D:=D25d) (i:=6) (q:=1536) (l:=[some (Row.mk (A5 2 1 0 1 d25) true),some (Row.mk (encI (0 :: 6 :: zI 31)) true),some (Row.mk (D0 [([97],2),([98],3)]) true)]) okD25d (b:=A7K) B8Y (by rw [B8m];omega) rfl (show D25d.set 6 A7K=D25 from rfl)
    rw [C2i]
    simp only [D1y,ez]
    refine ⟨.c (.sl G.length 0 16 256),G ++ [some (Row.mk (F8 D25) true),some (Row.mk (A5 2 1 0 1 d25) true),some (Row.mk (encI (0 :: 6 :: zI 31)) true),some (Row.mk (D0 [([97],2),([98],3)]) true)],?_,by rw [A2x A9a,B8k],G.length,rfl,by omega,by simp⟩
    generalize F8 D25=q1 at *
    generalize F8 D25a=q2 at *
    generalize F8 D25b=q3 at *
    generalize F8 D25c=q4 at *
    generalize F8 D25d=q5 at *
    generalize encI (0 :: zI 32)=x0 at *
    generalize encI (0 :: 6 :: zI 31)=x2 at *
    generalize A5 2 1 0 1 (zI 7)=i0 at *
    generalize A5 1 1 2 0 (zI 7)=i2 at *
    generalize A5 2 1 0 1 d25=i1 at *
    generalize D0 [([97],2),([98],3)]=e1 at *
    generalize A1 (zeros 256)=z at *
    simp only [B9,O0,List.getElem?_cons_zero,List.getElem?_cons_succ,Option.map_some,O7,S4,mk,ef1,hp,← hG,a0,s0,ef2,List.append_assoc,List.cons_append,List.nil_append,List.append_nil,List.length_append,List.length_cons,List.length_nil,Nat.zero_add,Nat.reduceAdd,r2,fa4,ad,r3,a2,l2,l11,hT,B9S,s2,l2b,ef2b,hT2,s2b,ef3,r4,fa1,ad0,r5,l33,hX,a5,s5,ef4,ef5,ef6,hN1,a6,s6]
  obtain ⟨v,g',e,ho⟩:=key (ro h)
  exact C36 e (by simpa [M9] using ho) (B6X)
set_option maxHeartbeats 2000000 in
theorem A9O (h:A0):A3c [] h=some (.c (.b true),h):=by
  have key:∀ g,∃ g',A6y 0 [] g=some (.c (.b true),g'):=by
    intro g
    have l16:=B8k
    have hS:=D2C g
    obtain ⟨f,t,hO,hv⟩:=D3Q (v:=.c (.sl g.length 0 16 256)) (h:=g ++ [some (Row.mk (F8 D25) true)]) (D:=D25) (by rw [l16];exact Has.tr (by simp) (by rw [A2x A9a,l16]) (A8X _)) A9a C7D (by rw [l16];omega)
    rw [C7F,C7E] at hO
    obtain ⟨H,hH⟩:∃ H,H=g ++ [some (Row.mk (F8 D25) true)] ++ t:=⟨_,rfl⟩
    rw [← hH] at hO hv
    obtain ⟨V,hV⟩:∃ V,V=vwC D25.length 8 0 f:=⟨_,rfl⟩
    have hVl:V.length=4:=by rw [hV];rfl
    have hS4:B4 (H ++ [some (Row.mk [.i .i64 0,.i .i64 0,.i .u64 0,.nf] true)]) 4 (.c (.p H.length 0)) (.a V)=some (H ++ [some (Row.mk V true)]):=by rw [hV,A0o];rfl
    obtain ⟨v,h1,hT,ht,_⟩:=D3u (n:=8) (m:=0) (h:=H ++ [some (Row.mk V true)]) A9a (hv.more _)
    rw [D26] at ht
    rw [← hV] at hT hO
    have l4:A4 (H ++ [some (Row.mk V true)]) 4 (.c (.p H.length 0))=some (.a V):=G0 E8 hVl
    have ef:A8 [Cell.s []] [(0,1,.c (.s [97]))]=some (encS [[97]]):=rfl
    have ef2:A8 [Cell.s []] [(0,1,.c (.s [47,97]))]=some (encS [[47,97]]):=rfl
    have ht1:=ht.more [some (Row.mk (encS [[97]]) true)]
    have hA:=D28 (w:=.c (.sl h1.length 0 1 1)) (ps:=[[97]]) ht1 B3t (Has.tr E8 rfl rfl) (by simp)
    rw [C6Y] at hA
    have hlen:=ht.len
    obtain ⟨id0,o0,cs0,b1,b2,b3,b4⟩:=C1J ht1 (i:=0) (by decide)
    obtain ⟨id1,o1,cs1,c1,c2,c3,c4⟩:=C1J ht1 (i:=1) (by decide)
    obtain ⟨x0,y0,rfl,_,hy0⟩:=b4
    obtain ⟨x1,y1,rfl,_,_⟩:=c4
    have k6:=b3 6 y0 rfl
    have hyl:=hy0.len
    have k4:=c3 4 (.i .i64 2) rfl
    have hP:=C1y (c:=1) ht1 B3t (by omega) (C0Y (by decide)) (by decide)
    rw [D00] at hP
    obtain ⟨H1,hH1⟩:∃ H1,H1=h1 ++ [some (Row.mk (encS [[97]]) true)]:=⟨_,rfl⟩
    rw [← hH1] at hA k6 k4 hP ht1
    obtain ⟨H2,hH2⟩:∃ H2,H2=H1 ++ [some (Row.mk (encS [[47,97]]) true),some (Row.mk (encS [[47,97]]) true)]:=⟨_,rfl⟩
    have hX:=B9W (v:=.c (.sl H1.length 0 1 1)) (u:=.c (.sl (H1.length + 1) 0 1 1)) (nv:=1) (nu:=1) (l:=[[47,97]]) (r:=[[47,97]]) (h:=H2) (Has.tr (by rw [hH2];simp) rfl rfl) (Has.tr (by rw [hH2];simp) rfl rfl) (by simp)
    have hC:=D3d (a:=2) (h:=H2) (by rw [hH2];exact ht1.more _) B3t
    rw [C7v] at hC
    have e11:[[(47:UInt8),97]].length=1:=rfl
    rw [e11] at hP
    have t2:T25.length=2:=rfl
    rw [t2] at hlen
    have yl:T25[0].names.length=1:=rfl
    rw [yl] at hyl
    have i0:((0:Nat):Int)=0:=rfl
    have i1:((1:Nat):Int)=1:=rfl
    have i2:((2:Nat):Int)=2:=rfl
    rw [i0] at b1
    rw [i1] at c1 hyl hC
    rw [i2] at hlen
    rw [C2j]
    refine ⟨H2,?_⟩
    generalize encS [[97]]=z1 at *
    generalize encS [[47,97]]=z2 at *
    simp only [esc,Nat.reduceAdd,hS,hO,hS4,l4,hT,ef,ef2,← hH1,hA,atC,Option.getD_some,Option.isSome_some,eq_self,hlen,b1,k6,hyl,c1,k4,hP,← hH2,hX,hC]
  obtain ⟨g',e⟩:=key (ro h)
  exact C37 e rfl
end Go.Proofs.YteckncopbicmcaaGreat
end
noncomputable section
namespace Go.Proofs.YteckncopbicmcaaGreat
open Go Go.Esc
set_option maxRecDepth 100000
def B6c:ACode:=.seq [0,3,4] (.seq [0,3,4,9] (.ops [aO 6 (.mv (.t 4)),aO 7 (.mv (.t 0)),aO 8 (.len (.t 7)),aO 9 (.bin .lss (.t 6) (.t 8))]) (.cond (.t 9) .skip (.exit 0))) (.seq [0,3,4] (.block 1 (.seq [0,3,4,5] (.ops [aO 12 (.mv (.t 0)),aO 13 (.mv (.t 4)),aO 14 (.iAddrL 7 (.t 12) (.t 13)),aO 15 (.loadN 7 (.t 14)),aO 5 (.alloc ([.i .i64 0,.i .i64 0,.i .i64 0,.i .i64 0,.i .i64 0,.ns,.ns])),aN (.storeN 7 (.t 5) (.t 15))]) (.seq [0,3,4,5] (.ops [aO 16 (.buildSl 1 0 ([]) []),aO 17 (.fAddr (.t 5) 5),aO 18 (.load1 (.t 17)),aO 19 (.app 1 (.t 16) (.t 18)),aO 20 (.fAddr (.t 5) 5),aN (.store1 (.t 20) (.t 19))]) (.seq [0,3,4,5] (.ops [aO 21 (.buildSl 2 0 ([]) []),aO 22 (.fAddr (.t 5) 6),aO 23 (.load1 (.t 22)),aO 24 (.app 2 (.t 21) (.t 23)),aO 25 (.fAddr (.t 5) 6),aN (.store1 (.t 25) (.t 24))]) (.ops [aO 26 (.mv (.t 3)),aO 27 (.loadN 7 (.t 5)),aO 28 (.buildSl 7 1 (([.i .i64 0,.i .i64 0,.i .i64 0,.i .i64 0,.i .i64 0,.ns,.ns])) [(0,7,(.t 27))]),aO 29 (.app 7 (.t 26) (.t 28)),aO 3 (.mv (.t 29))]))))) (.ops [aO 10 (.mv (.t 4)),aO 11 (.bin .add (.t 10) (.v (.c (.i .i64 1)))),aO 4 (.mv (.t 11))]))
def B6d:ACode:=.seq [2] (.ops [aO 30 (.mv (.t 3)),aO 2 (.mv (.t 30))]) .ret
def A_el25_To:AFn:=⟨.seq [0] (.ops [aO 2 (.nilrow 7)]) (.seq [0,3] (.ops [aO 3 (.nilrow 7)]) (.seq [3] (.seq [0,3,4] (.ops [aO 4 (.mv (.v (.c (.i .i64 0))))]) (.block 0 (.loop [0,3,4] B6c))) B6d)),[.tmp 2]⟩
def A3V:B0:=C0
def C7V (n:Nat):A9 (Val × A0):=E4 [3] (ax A3V n B6d) A_el25_To.fin
def C7W (n:Nat):A9 (Val × A0):=D6 0 (C7V n)
def A72 (n m:Nat) (x0 x3 x4:Val) (h:A0):A6:=C6 (ax A3V n B6c) [0,3,4] (C7W n) m [(0,x0),(3,x3),(4,x4)] h
def B0L (n:Nat) (args:List Val) (h:A0):A6:=ax A3V n A_el25_To.code A_el25_To.fin (params 0 args) h
theorem C2g (n:Nat) (a0:Val) (h:A0):B0L n [a0] h=A72 n n a0 (.c (.sl (h ++ [some (Row.mk ([]) true)]).length 0 0 7)) (.c (.i .i64 0)) ((h ++ [some (Row.mk ([]) true)]) ++ [some (Row.mk ([]) true)]):=by kernel_rfl
theorem B6e (n m:Nat) (x0 x3 x4:Val) (h:A0):A72 n (m + 1) x0 x3 x4 h=bnd (D5 x0) fun v1=>bnd (A2 .lss x4 v1) fun v2=>cnd v2 (bnd (B7 7 x0 x4) fun v3=>bnd (A4 h 7 v3) fun v4=>bnd (B4 (h ++ [some (Row.mk ([.i .i64 0,.i .i64 0,.i .i64 0,.i .i64 0,.i .i64 0,.ns,.ns]) true)]) 7 (.c (.p h.length 0)) v4) fun h5=>bnd (A8 ([]) []) fun c6=>bnd (A7 (.c (.p h.length 0)) 5) fun v7=>bnd (A3 (h5 ++ [some (Row.mk (c6) true)]) v7) fun v8=>bnd (F0 (h5 ++ [some (Row.mk (c6) true)]) 1 (.c (.sl h5.length 0 0 1)) v8) fun p9=>bnd (A7 (.c (.p h.length 0)) 5) fun v10=>bnd (E7 p9.2 v10 p9.1) fun h11=>bnd (A8 ([]) []) fun c12=>bnd (A7 (.c (.p h.length 0)) 6) fun v13=>bnd (A3 (h11 ++ [some (Row.mk (c12) true)]) v13) fun v14=>bnd (F0 (h11 ++ [some (Row.mk (c12) true)]) 2 (.c (.sl h11.length 0 0 2)) v14) fun p15=>bnd (A7 (.c (.p h.length 0)) 6) fun v16=>bnd (E7 p15.2 v16 p15.1) fun h17=>bnd (A4 h17 7 (.c (.p h.length 0))) fun v18=>bnd (A8 (([.i .i64 0,.i .i64 0,.i .i64 0,.i .i64 0,.i .i64 0,.ns,.ns])) [(0,7,v18)]) fun c19=>bnd (F0 (h17 ++ [some (Row.mk (c19) true)]) 7 x3 (.c (.sl h17.length 0 1 7))) fun p20=>bnd (A2 .add x4 (.c (.i .i64 1))) fun v21=>A72 n m x0 p20.1 v21 p20.2) (some (x3,h)):=by kernel_rfl
theorem K_el25_To:FnK Tryz.prog 37 A_el25_To A3V B0L:=.mk' (C2) Tryz.func37 (by kernel_rfl) (fun _ _ _=>C1)
def A3b:Fun:=Lim A_el25_To A3V
theorem C32:SOk Tryz.prog 37 A3b:=K_el25_To.ok
theorem C31:OfT B0L A3b:=K_el25_To.of
end Go.Proofs.YteckncopbicmcaaGreat
end
section
namespace Go.Proofs.YteckncopbicmcaaGreat
open Go Go.Esc
theorem C7u {h:A0} {nd:Nd} {x y:Cell} (hx:Has h (.c x) 1 nd.data.length (A1 nd.data)) (hy:Has h (.c y) 2 nd.names.length (D0 nd.names)) (h1:nd.data.length ≤ 1000000) (h2:nd.names.length ≤ 1000000) :
    ∃ H H1 H2 H3 H4 N,H=h ++ [some (Row.mk (ndC nd.ino nd.kind nd.links nd.parent nd.size x y) true)] ∧ N=ndC nd.ino nd.kind nd.links nd.parent nd.size (.sl (h.length + 2) 0 nd.data.length 1) (.sl (h.length + 4) 0 nd.names.length 2) ∧
      A3 (H ++ [some (Row.mk [] true)]) (.c (.p h.length 5))=some (.c x) ∧ F0 (H ++ [some (Row.mk [] true)]) 1 (.c (.sl H.length 0 0 1)) (.c x)=some (.c (.sl (h.length + 2) 0 nd.data.length 1),H1) ∧ E7 H1 (.c (.p h.length 5)) (.c (.sl (h.length + 2) 0 nd.data.length 1))=some H2 ∧
      A3 (H2 ++ [some (Row.mk [] true)]) (.c (.p h.length 6))=some (.c y) ∧ F0 (H2 ++ [some (Row.mk [] true)]) 2 (.c (.sl H2.length 0 0 2)) (.c y)=some (.c (.sl (h.length + 4) 0 nd.names.length 2),H3) ∧ E7 H3 (.c (.p h.length 6)) (.c (.sl (h.length + 4) 0 nd.names.length 2))=some H4 ∧
      A4 H4 7 (.c (.p h.length 0))=some (.a N) ∧ rd H4 (h.length + 2)=some ⟨A1 nd.data,true⟩ ∧ rd H4 (h.length + 4)=some ⟨D0 nd.names,true⟩ ∧ Low h.length h H4 ∧ H4.length=h.length + 5:=by
  obtain ⟨H,hH⟩:∃ H,H=h ++ [some (Row.mk (ndC nd.ino nd.kind nd.links nd.parent nd.size x y) true)]:=⟨_,rfl⟩
  have lH:H.length=h.length + 1:=by rw [hH];simp
  have rH:rd H h.length=some ⟨ndC nd.ino nd.kind nd.links nd.parent nd.size x y,true⟩:=by rw [hH];exact E8
  have hxH:Has (H ++ [some (Row.mk [] true)]) (.c x) 1 nd.data.length (A1 nd.data):=by rw [hH];exact (hx.more _).more _
  have p1:=A5s (h:=H ++ [some (Row.mk [] true)]) (id:=H.length) (by rw [E8]) hxH (by omega) (by omega)
  have e1:(H ++ [some (Row.mk [] true)]).length=h.length + 2:=by simp [lH]
  rw [e1] at p1
  obtain ⟨H1,hH1⟩:∃ H1,H1=(H ++ [some (Row.mk [] true)]).set H.length none ++ [some (Row.mk (A1 nd.data) true)]:=⟨_,rfl⟩
  rw [← hH1] at p1
  have lH1:H1.length=h.length + 3:=by rw [hH1];simp [lH]
  have keep1:∀ id r,id < H.length → rd H id=some r → rd H1 id=some r:=fun id r hid hr=>by
    rw [hH1];refine B6 ?_
    rw [C7 (by omega)];exact B6 hr
  have r1:rd H1 h.length=some ⟨ndC nd.ino nd.kind nd.links nd.parent nd.size x y,true⟩:=keep1 _ _ (by omega) rH
  have s1:=N5 (x:=.sl (h.length + 2) 0 nd.data.length 1) (off:=5) r1 (by simp [ndC])
  have eset:(ndC nd.ino nd.kind nd.links nd.parent nd.size x y).set 5 (.sl (h.length + 2) 0 nd.data.length 1)=ndC nd.ino nd.kind nd.links nd.parent nd.size (.sl (h.length + 2) 0 nd.data.length 1) y:=rfl
  rw [eset] at s1
  obtain ⟨H2,hH2⟩:∃ H2,H2=H1.set h.length (some (Row.mk (ndC nd.ino nd.kind nd.links nd.parent nd.size (.sl (h.length + 2) 0 nd.data.length 1) y) true)):=⟨_,rfl⟩
  rw [← hH2] at s1
  have lH2:H2.length=h.length + 3:=by rw [hH2];simp [lH1]
  have rdat2:rd H2 (h.length + 2)=some ⟨A1 nd.data,true⟩:=by
    rw [hH2,C7 (by omega),hH1]
    have:=E8 (h:=(H ++ [some (Row.mk [] true)]).set H.length none) (r:=Row.mk (A1 nd.data) true)
    rw [List.length_set,e1] at this
    exact this
  have r2:rd H2 h.length=some ⟨ndC nd.ino nd.kind nd.links nd.parent nd.size (.sl (h.length + 2) 0 nd.data.length 1) y,true⟩:=by rw [hH2];exact G3 (by omega)
  have lowH2:Low h.length h H2:=by
    refine ⟨Nat.le_refl _,by omega,fun id hid=>?_⟩
    rw [hH2,C7 (by omega),hH1,G5 (by simp [lH];omega),C7 (by omega),G5 (by omega),hH,G5 hid]
  have hyH:Has (H2 ++ [some (Row.mk [] true)]) (.c y) 2 nd.names.length (D0 nd.names):=(hy.since lowH2).more _
  have p2:=A5s (h:=H2 ++ [some (Row.mk [] true)]) (id:=H2.length) (by rw [E8]) hyH (by omega) (by omega)
  have e2:(H2 ++ [some (Row.mk [] true)]).length=h.length + 4:=by simp [lH2]
  rw [e2] at p2
  obtain ⟨H3,hH3⟩:∃ H3,H3=(H2 ++ [some (Row.mk [] true)]).set H2.length none ++ [some (Row.mk (D0 nd.names) true)]:=⟨_,rfl⟩
  rw [← hH3] at p2
  have lH3:H3.length=h.length + 5:=by rw [hH3];simp [lH2]
  have keep3:∀ id r,id < H2.length → rd H2 id=some r → rd H3 id=some r:=fun id r hid hr=>by
    rw [hH3];refine B6 ?_
    rw [C7 (by omega)];exact B6 hr
  have r3:=keep3 _ _ (by omega) r2
  have s2:=N5 (x:=.sl (h.length + 4) 0 nd.names.length 2) (off:=6) r3 (by simp [ndC])
  have eset2:(ndC nd.ino nd.kind nd.links nd.parent nd.size (.sl (h.length + 2) 0 nd.data.length 1) y).set 6 (.sl (h.length + 4) 0 nd.names.length 2)=ndC nd.ino nd.kind nd.links nd.parent nd.size (.sl (h.length + 2) 0 nd.data.length 1) (.sl (h.length + 4) 0 nd.names.length 2):=rfl
  rw [eset2] at s2
  obtain ⟨N,hN⟩:∃ N,N=ndC nd.ino nd.kind nd.links nd.parent nd.size (.sl (h.length + 2) 0 nd.data.length 1) (.sl (h.length + 4) 0 nd.names.length 2):=⟨_,rfl⟩
  have hNl:N.length=7:=by rw [hN];rfl
  rw [← hN] at s2
  have r4:rd (H3.set h.length (some (Row.mk N true))) h.length=some ⟨N,true⟩:=G3 (by omega)
  have v5:A3 (H ++ [some (Row.mk [] true)]) (.c (.p h.length 5))=some (.c x):=D8 (B6 rH) rfl (by simp)
  have v6:A3 (H2 ++ [some (Row.mk [] true)]) (.c (.p h.length 6))=some (.c y):=D8 (B6 r2) rfl (by simp)
  refine ⟨H,H1,H2,H3,H3.set h.length (some (Row.mk N true)),N,hH,hN,v5,p1,s1,v6,p2,s2,G0 r4 hNl,?_,?_,?_,by simp [lH3]⟩
  · rw [C7 (by omega)]
    exact keep3 _ _ (by omega) rdat2
  · rw [C7 (by omega),hH3]
    have:=E8 (h:=(H2 ++ [some (Row.mk [] true)]).set H2.length none) (r:=Row.mk (D0 nd.names) true)
    rw [List.length_set,e2] at this
    exact this
  · refine ⟨Nat.le_refl _,by rw [List.length_set];omega,fun id hid=>?_⟩
    rw [C7 (by omega),hH3,G5 (by simp [lH2];omega),C7 (by omega),G5 (by omega),lowH2.2.2 id (by omega)]
theorem B7t {h h':A0} {x:Cell} {sz n:Nat} {cs:List Cell} (hv:Has h (.c x) sz n cs) (hk:∀ id off m s r,x=.sl id off m s → rd h id=some r → rd h' id=some r):Has h' (.c x) sz n cs:=by
  rcases hv with hv | ⟨id,off,r,e,hr,h2⟩
  · exact .inl hv
  · cases e
    exact .inr ⟨id,off,r,rfl,hk id off n sz r rfl hr,h2⟩
theorem IsNd.keep' {h h':A0} {cs:List Cell} {x:Nd} {P:Nat → Prop} (hx:IsNd h cs x) (hf:NdF P cs) (hk:∀ id r,P id → rd h id=some r → rd h' id=some r):IsNd h' cs x:=by
  obtain ⟨a,b,rfl,h1,h2⟩:=hx
  exact ⟨a,b,rfl,B7t h1 fun id off m s r e=>hk id r (hf id off m s (by simp [ndC,e])),B7t h2 fun id off m s r e=>hk id r (hf id off m s (by simp [ndC,e]))⟩
theorem IsNds.keep' {h h':A0} {P:Nat → Prop} (hk:∀ id r,P id → rd h id=some r → rd h' id=some r):∀ {t:List Nd} {cs:List Cell},IsNds h cs t → NdF P cs → IsNds h' cs t
  | [],_,hx,_=>hx
  | x :: t,_,⟨c1,c2,e,h1,h2⟩,hf=>by
    subst e
    exact ⟨c1,c2,rfl,h1.keep' (fun id off m sz hm=>hf id off m sz (by simp [hm])) hk,IsNds.keep' hk h2 fun id off m sz hm=>hf id off m sz (by simp [hm])⟩
theorem C04 {v:Val} {t:List Nd} {g:A0} {q:Nat} (hv:IsTree g v t) (hs:small t):∀ (e i M id:Nat) (C:List Cell) (h:A0),i + e=t.length → e < M → Low g.length g h → g.length ≤ id → rd h id=some ⟨C,true⟩ → IsNds h C (t.take i) → NdF (fun j=>g.length ≤ j ∧ j < h.length ∧ j ≠ id) C →
    ∃ v' h',A72 q M v (.c (.sl id 0 i 7)) (.c (.i .i64 (i:Int))) h=some (v',h') ∧ IsTree h' v' t ∧ Low g.length g h'
  | e,i,0,id,C,h,_,hm,_,_,_,_,_=>by omega
  | 0,i,M + 1,id,C,h,hi,hm,hlow,hid,hr,hC,hF=>by
    have e0:i=t.length:=by omega
    subst e0
    have hl:=hv.len
    have c0:¬ ((t.length:Nat):Int) < (t.length:Nat):=by omega
    rw [List.take_length] at hC
    have hx:=hC.noX
    rw [B6e]
    exact ⟨_,h,by simp only [B9,hl,D7,c0,decide_false,F1] <;> rfl,⟨C,Has.row hr hx.2 hx.1,hC⟩,hlow⟩
  | e + 1,i,M + 1,id,C,h,hi,hm,hlow,hid,hr,hC,hF=>by
    have hil:i < t.length:=by omega
    have hl:=hv.len
    have h6:=hs.1
    have c0:(i:Int) < (t.length:Nat):=by omega
    have w1:=E2 (show i + 1 < 9223372036854775808 by omega)
    obtain ⟨ad,cs,a1,a2,a3⟩:=(hv.since hlow).at hil
    have s0:=Y4 (h:=h) a3.length
    obtain ⟨x,y,rfl,hx,hy⟩:=a3
    have hsm:=hs.2 t[i] (List.getElem_mem hil)
    obtain ⟨nd,hnd⟩:∃ nd,nd=t[i]:=⟨_,rfl⟩
    rw [← hnd] at a2 s0 hx hy hsm
    obtain ⟨H,H1,H2,H3,H4,N,hH,hN,v5,p1,s1,v6,p2,s2,l4,rd2,rd4,lo4,len4⟩:=C7u hx hy hsm.1 hsm.2
    rw [← hH] at s0
    have hNl:N.length=7:=by rw [hN];rfl
    have ef:A8 ([]:List Cell) []=some []:=rfl
    have ef7:A8 [Cell.i .i64 0,.i .i64 0,.i .i64 0,.i .i64 0,.i .i64 0,.ns,.ns] [(0,7,.a N)]=some N:=by
      simp only [A8,Z6]
      rw [if_pos ⟨hNl,by decide⟩,lay_all (by rw [hNl];rfl)]
    have hlt:=B8 hr
    have hgl:=hlow.2.1
    have r4:rd H4 id=some ⟨C,true⟩:=by rw [lo4.2.2 id hlt];exact hr
    have hCl:=hC.noX.2
    have hti:(t.take i).length=i:=by rw [List.length_take];omega
    rw [hti] at hCl
    obtain ⟨h2,b1,b2,b3,b4⟩:=A1G (h:=H4) (n:=i) (sz:=7) (ys:=N) r4 hCl hNl (by omega) (by omega)
    have l2:=B8 b2
    have ndN:IsNd h2 N nd:=by
      rw [hN]
      exact ⟨_,_,rfl,Has.tr (b3 _ _ (by omega) rd2) (by rw [B5,Nat.mul_one]) (O6 _),Has.tr (b3 _ _ (by omega) rd4) A0t A5C⟩
    have hC2:IsNds h2 C (t.take i):=hC.keep' (fun j r hj hr=>b3 j r hj.2.2 (by rw [lo4.2.2 j hj.2.1];exact hr)) hF
    obtain ⟨v',h',f1,f2,f3⟩:=C04 (q:=q) hv hs e (i + 1) M (H4.length + 1) (C ++ N) h2 (by omega) (by omega)
      ⟨Nat.le_refl _,by omega,fun j hj=>by
        have:=(b4 g.length hid (by omega)).2.2 j hj
        rw [this,lo4.2.2 j (by omega)];exact hlow.2.2 j hj⟩ (by omega) b2
      (by rw [List.take_add_one,List.getElem?_eq_getElem hil,← hnd];exact hC2.snoc ndN)
      (fun j off m sz hm=>by
        rw [List.mem_append] at hm
        rcases hm with hm | hm
        · have:=hF j off m sz hm;omega
        · rw [hN] at hm
          simp [ndC] at hm
          omega)
    refine ⟨v',h',?_,f2,f3⟩
    rw [B6e]
    simp only [B9,hl,D7,c0,decide_true,F6,a1,a2,s0,ef,I9,Nat.zero_add,v5,p1,s1,v6,p2,s2,l4,ef7,b1,I0,w1]
    exact f1
theorem C03 {v:Val} {t:List Nd} {h:A0} (hv:IsTree h v t) (hs:small t):∃ v' h',A3b [v] h=some (v',h') ∧ IsTree h' v' t ∧ Low h.length h h':=by
  have hlow:Low h.length h ((h ++ [some (Row.mk [] true)]) ++ [some (Row.mk [] true)]):=((Low.refl (Nat.le_refl _)).new _).new _
  obtain ⟨v',h',f1,f2,f3⟩:=C04 (q:=t.length + 1) hv hs t.length 0 (t.length + 1) (h.length + 1) [] ((h ++ [some (Row.mk [] true)]) ++ [some (Row.mk [] true)]) (by omega) (by omega) hlow (by omega) (by simp) rfl (fun j off m sz hm=>by cases hm)
  have e1:(h ++ [some (Row.mk [] true)]).length=h.length + 1:=by simp
  exact ⟨v',h',C31 (n:=t.length + 1) (by rw [C2g,e1];exact f1),f2,f3⟩
end Go.Proofs.YteckncopbicmcaaGreat
end
noncomputable section
namespace Go.Proofs.YteckncopbicmcaaGreat
open Go Go.Esc
set_option maxRecDepth 100000
def B6C:ACode:=.seq [0,5] (.seq [0,5,13] (.ops [aO 10 (.mv (.t 5)),aO 11 (.mv (.t 0)),aO 12 (.len (.t 11)),aO 13 (.bin .lss (.t 10) (.t 12))]) (.cond (.t 13) .skip (.exit 0))) (.seq [0,5] (.block 1 (.seq [0,5,22] (.ops [aO 16 (.mv (.t 0)),aO 17 (.mv (.t 5)),aO 18 (.iAddrL 2 (.t 16) (.t 17)),aO 19 (.fAddr (.t 18) 0),aO 20 (.load1 (.t 19)),aO 21 (.lenS (.t 20)),aO 22 (.bin .gtr (.t 21) (.v (.c (.i .i64 60))))]) (.cond (.t 22) (.seq [4] (.ops [aO 4 (.mv (.v (.c (.b true))))]) .ret) .skip))) (.ops [aO 14 (.mv (.t 5)),aO 15 (.bin .add (.t 14) (.v (.c (.i .i64 1)))),aO 5 (.mv (.t 15))]))
def B6D:ACode:=.seq [4] (.ops [aO 4 (.mv (.v (.c (.b false))))]) .ret
def A_er18_Much:AFn:=⟨.seq [0,1] (.ops [aO 4 (.mv (.v (.c (.b false))))]) (.seq [0] (.seq [0,9] (.ops [aO 6 (.mv (.t 0)),aO 7 (.len (.t 6)),aO 8 (.mv (.t 1)),aO 9 (.bin .gtr (.t 7) (.t 8))]) (.cond (.t 9) (.seq [4] (.ops [aO 4 (.mv (.v (.c (.b true))))]) .ret) .skip)) (.seq [] (.seq [0,5] (.ops [aO 5 (.mv (.v (.c (.i .i64 0))))]) (.block 0 (.loop [0,5] B6C))) B6D)),[.tmp 4]⟩
def A31:B0:=C0
def C8n (n:Nat):A9 (Val × A0):=E4 [] (ax A31 n B6D) A_er18_Much.fin
def C8o (n:Nat):A9 (Val × A0):=D6 0 (C8n n)
def A8e (n m:Nat) (x0 x5:Val) (h:A0):A6:=C6 (ax A31 n B6C) [0,5] (C8o n) m [(0,x0),(5,x5)] h
def A6A (n:Nat) (args:List Val) (h:A0):A6:=ax A31 n A_er18_Much.code A_er18_Much.fin (params 0 args) h
theorem B39 (n:Nat) (a0 a1:Val) (h:A0):A6A n [a0,a1] h=bnd (D5 a0) fun v1=>bnd (A2 .gtr v1 a1) fun v2=>cnd v2 (some ((.c (.b true)),h)) (A8e n n a0 (.c (.i .i64 0)) h):=by kernel_rfl
theorem B6E (n m:Nat) (x0 x5:Val) (h:A0):A8e n (m + 1) x0 x5 h=bnd (D5 x0) fun v3=>bnd (A2 .lss x5 v3) fun v4=>cnd v4 (bnd (B7 2 x0 x5) fun v5=>bnd (A7 v5 0) fun v6=>bnd (A3 h v6) fun v7=>bnd (T7 v7) fun v8=>bnd (A2 .gtr v8 (.c (.i .i64 60))) fun v9=>cnd v9 (some ((.c (.b true)),h)) (bnd (A2 .add x5 (.c (.i .i64 1))) fun v10=>A8e n m x0 v10 h)) (some ((.c (.b false)),h)):=by kernel_rfl
theorem K_er18_Much:FnK Tryz.prog 95 A_er18_Much A31 A6A:=.mk' (C2) Tryz.func95 (by kernel_rfl) (fun _ _ _=>C1)
def A4I:Fun:=tidy (Lim A_er18_Much A31)
theorem C4j:SOk Tryz.prog 95 A4I:=K_er18_Much.sok
theorem C4i:C9 A6A A4I:=K_er18_Much.flat
end Go.Proofs.YteckncopbicmcaaGreat
end
noncomputable section
namespace Go.Proofs.YteckncopbicmcaaGreat
open Go Go.Esc
set_option maxRecDepth 100000
def B6F:ACode:=.seq [0,1,5] (.seq [0,1,5,14] (.ops [aO 11 (.mv (.t 5)),aO 12 (.mv (.t 0)),aO 13 (.len (.t 12)),aO 14 (.bin .lss (.t 11) (.t 13))]) (.cond (.t 14) .skip (.exit 0))) (.seq [0,1,5] (.block 1 (.seq [0,1,5,25] (.draw 0 [aO 17 (.mv (.t 0)),aO 18 (.mv (.t 5)),aO 19 (.iAddrL 2 (.t 17) (.t 18)),aO 20 (.loadN 2 (.t 19)),aO 21 (.mv (.t 1)),aO 22 (.mv (.t 5)),aO 23 (.iAddrL 2 (.t 21) (.t 22)),aO 24 (.loadN 2 (.t 23))] [aO 25 (.eqA true ([.s,.i .i64]) (.t 20) (.t 24))]) (.cond (.t 25) (.seq [4] (.ops [aO 4 (.mv (.v (.c (.b false))))]) .ret) .skip))) (.ops [aO 15 (.mv (.t 5)),aO 16 (.bin .add (.t 15) (.v (.c (.i .i64 1)))),aO 5 (.mv (.t 16))]))
def B6G:ACode:=.seq [4] (.ops [aO 4 (.mv (.v (.c (.b true))))]) .ret
def A_er24_SameEntries:AFn:=⟨.seq [0,1] (.ops [aO 4 (.mv (.v (.c (.b false))))]) (.seq [0,1] (.seq [0,1,10] (.ops [aO 6 (.mv (.t 0)),aO 7 (.len (.t 6)),aO 8 (.mv (.t 1)),aO 9 (.len (.t 8)),aO 10 (.bin .neq (.t 7) (.t 9))]) (.cond (.t 10) (.seq [4] (.ops [aO 4 (.mv (.v (.c (.b false))))]) .ret) .skip)) (.seq [] (.seq [0,1,5] (.ops [aO 5 (.mv (.v (.c (.i .i64 0))))]) (.block 0 (.loop [0,1,5] B6F))) B6G)),[.tmp 4]⟩
def A32:B0:=C0
def C8p (n:Nat):A9 (Val × A0):=E4 [] (ax A32 n B6G) A_er24_SameEntries.fin
def C8q (n:Nat):A9 (Val × A0):=D6 0 (C8p n)
def A8f (n m:Nat) (x0 x1 x5:Val) (h:A0):A6:=C6 (ax A32 n B6F) [0,1,5] (C8q n) m [(0,x0),(1,x1),(5,x5)] h
def B0Q (n:Nat) (args:List Val) (h:A0):A6:=ax A32 n A_er24_SameEntries.code A_er24_SameEntries.fin (params 0 args) h
theorem C2p (n:Nat) (a0 a1:Val) (h:A0):B0Q n [a0,a1] h=bnd (D5 a0) fun v1=>bnd (D5 a1) fun v2=>bnd (A2 .neq v1 v2) fun v3=>cnd v3 (some ((.c (.b false)),h)) (A8f n n a0 a1 (.c (.i .i64 0)) h):=by kernel_rfl
theorem B6H (n m:Nat) (x0 x1 x5:Val) (h:A0):A8f n (m + 1) x0 x1 x5 h=bnd (D5 x0) fun v4=>bnd (A2 .lss x5 v4) fun v5=>cnd v5 (bnd (B7 2 x0 x5) fun v6=>bnd (A4 h 2 v6) fun v7=>bnd (B7 2 x1 x5) fun v8=>bnd (A4 h 2 v8) fun v9=>bnd (aeq true ([.s,.i .i64]) v7 v9) fun v10=>cnd v10 (some ((.c (.b false)),(h ++ []))) (bnd (A2 .add x5 (.c (.i .i64 1))) fun v11=>A8f n m x0 x1 v11 (h ++ []))) (some ((.c (.b true)),h)):=by kernel_rfl
theorem K_er24_SameEntries:FnK Tryz.prog 27 A_er24_SameEntries A32 B0Q:=.mk' (C2) Tryz.func27 (by kernel_rfl) (fun _ _ _=>C1)
def A4J:Fun:=tidy (Lim A_er24_SameEntries A32)
theorem C4l:SOk Tryz.prog 27 A4J:=K_er24_SameEntries.sok
theorem C4k:C9 B0Q A4J:=K_er24_SameEntries.flat
end Go.Proofs.YteckncopbicmcaaGreat
end
noncomputable section
namespace Go.Proofs.YteckncopbicmcaaGreat
open Go Go.Esc
set_option maxRecDepth 100000
def B6L:ACode:=.seq [0,3] (.seq [0,3,10] (.ops [aO 7 (.mv (.t 3)),aO 8 (.mv (.t 0)),aO 9 (.len (.t 8)),aO 10 (.bin .lss (.t 7) (.t 9))]) (.cond (.t 10) .skip (.exit 0))) (.seq [0,3] (.block 1 (.seq [0,3,27] (.ops [aO 13 (.mv (.t 0)),aO 14 (.mv (.t 3)),aO 15 (.iAddrL 7 (.t 13) (.t 14)),aO 16 (.fAddr (.t 15) 5),aO 17 (.load1 (.t 16)),aO 18 (.len (.t 17)),aO 19 (.bin .gtr (.t 18) (.v (.c (.i .i64 300)))),aO 20 (.mv (.t 19)),aG 21 20 false (.mv (.t 0)),aG 22 20 false (.mv (.t 3)),aG 23 20 false (.iAddrL 7 (.t 21) (.t 22)),aG 24 20 false (.fAddr (.t 23) 6),aG 25 20 false (.load1 (.t 24)),aG 26 20 false (.call 95 [(.t 25),(.v (.c (.i .i64 12)))]),aO 27 (.pick (.t 20) (.v (.c (.b true))) (.t 26))]) (.cond (.t 27) (.seq [2] (.ops [aO 2 (.mv (.v (.c (.b true))))]) .ret) .skip))) (.ops [aO 11 (.mv (.t 3)),aO 12 (.bin .add (.t 11) (.v (.c (.i .i64 1)))),aO 3 (.mv (.t 12))]))
def B6M:ACode:=.seq [2] (.ops [aO 2 (.mv (.v (.c (.b false))))]) .ret
def A_er25_Much:AFn:=⟨.seq [0] (.ops [aO 2 (.mv (.v (.c (.b false))))]) (.seq [0] (.seq [0,6] (.ops [aO 4 (.mv (.t 0)),aO 5 (.len (.t 4)),aO 6 (.bin .gtr (.t 5) (.v (.c (.i .i64 20))))]) (.cond (.t 6) (.seq [2] (.ops [aO 2 (.mv (.v (.c (.b true))))]) .ret) .skip)) (.seq [] (.seq [0,3] (.ops [aO 3 (.mv (.v (.c (.i .i64 0))))]) (.block 0 (.loop [0,3] B6L))) B6M)),[.tmp 2]⟩
def A34:B0:=B1 95 A4I C0
def C8t (n:Nat):A9 (Val × A0):=E4 [] (ax A34 n B6M) A_er25_Much.fin
def C8u (n:Nat):A9 (Val × A0):=D6 0 (C8t n)
def A8h (n m:Nat) (x0 x3:Val) (h:A0):A6:=C6 (ax A34 n B6L) [0,3] (C8u n) m [(0,x0),(3,x3)] h
def B0S (n:Nat) (args:List Val) (h:A0):A6:=ax A34 n A_er25_Much.code A_er25_Much.fin (params 0 args) h
theorem C2r (n:Nat) (a0:Val) (h:A0):B0S n [a0] h=bnd (D5 a0) fun v1=>bnd (A2 .gtr v1 (.c (.i .i64 20))) fun v2=>cnd v2 (some ((.c (.b true)),h)) (A8h n n a0 (.c (.i .i64 0)) h):=by kernel_rfl
theorem B6N (n m:Nat) (x0 x3:Val) (h:A0):A8h n (m + 1) x0 x3 h=bnd (D5 x0) fun v3=>bnd (A2 .lss x3 v3) fun v4=>cnd v4 (bnd (B7 7 x0 x3) fun v5=>bnd (A7 v5 5) fun v6=>bnd (A3 h v6) fun v7=>bnd (D5 v7) fun v8=>bnd (A2 .gtr v8 (.c (.i .i64 300))) fun v9=>bnd (gd v9 false (some (x0,h)) (some (.no,h))) fun p10=>bnd (gd v9 false (some (x3,p10.2)) (some (.no,p10.2))) fun p11=>bnd (gd v9 false (bnd (B7 7 p10.1 p11.1) fun v12=>some (v12,p11.2)) (some (.no,p11.2))) fun p13=>bnd (gd v9 false (bnd (A7 p13.1 6) fun v14=>some (v14,p13.2)) (some (.no,p13.2))) fun p15=>bnd (gd v9 false (bnd (A3 p15.2 p15.1) fun v16=>some (v16,p15.2)) (some (.no,p15.2))) fun p17=>bnd (gd v9 false (bnd (A4I [p17.1,.c (.i .i64 12)] p17.2) fun p18=>some (p18.1,p18.2)) (some (.no,p17.2))) fun p19=>bnd (C4 v9 (.c (.b true)) p19.1) fun v20=>cnd v20 (some ((.c (.b true)),p19.2)) (bnd (A2 .add x3 (.c (.i .i64 1))) fun v21=>A8h n m x0 v21 p19.2)) (some ((.c (.b false)),h)):=by kernel_rfl
theorem K_er25_Much:FnK Tryz.prog 34 A_er25_Much A34 B0S:=.mk' (B3 C4j C2) Tryz.func34 (by kernel_rfl) (fun _ _ _=>C1)
def A3e:Fun:=tidy (Lim A_er25_Much A34)
theorem C4p:SOk Tryz.prog 34 A3e:=K_er25_Much.sok
theorem C4o:C9 B0S A3e:=K_er25_Much.flat
def A_er25_Same:AFn:=⟨.seq [2,3] (.ops [aO 2 (.box (.t 0)),aO 3 (.box (.t 1)),aO 4 (.mv (.v (.c (.b false))))]) (.seq [4] (.ops [aO 5 (.fAddr (.t 2) 0),aO 6 (.load1 (.t 5)),aO 7 (.fAddr (.t 3) 0),aO 8 (.load1 (.t 7)),aO 9 (.bin .eql (.t 6) (.t 8)),aO 10 (.mv (.t 9)),aG 11 10 true (.fAddr (.t 2) 1),aG 12 10 true (.load1 (.t 11)),aG 13 10 true (.fAddr (.t 3) 1),aG 14 10 true (.load1 (.t 13)),aG 15 10 true (.bin .eql (.t 12) (.t 14)),aO 16 (.pick (.t 10) (.t 15) (.v (.c (.b false)))),aO 17 (.mv (.t 16)),aG 18 17 true (.fAddr (.t 2) 2),aG 19 17 true (.load1 (.t 18)),aG 20 17 true (.fAddr (.t 3) 2),aG 21 17 true (.load1 (.t 20)),aG 22 17 true (.bin .eql (.t 19) (.t 21)),aO 23 (.pick (.t 17) (.t 22) (.v (.c (.b false)))),aO 24 (.mv (.t 23)),aG 25 24 true (.fAddr (.t 2) 3),aG 26 24 true (.load1 (.t 25)),aG 27 24 true (.fAddr (.t 3) 3),aG 28 24 true (.load1 (.t 27)),aG 29 24 true (.bin .eql (.t 26) (.t 28)),aO 30 (.pick (.t 24) (.t 29) (.v (.c (.b false)))),aO 31 (.mv (.t 30)),aG 32 31 true (.fAddr (.t 2) 4),aG 33 31 true (.load1 (.t 32)),aG 34 31 true (.fAddr (.t 3) 4),aG 35 31 true (.load1 (.t 34)),aG 36 31 true (.bin .eql (.t 33) (.t 35)),aO 37 (.pick (.t 31) (.t 36) (.v (.c (.b false)))),aO 38 (.mv (.t 37)),aG 39 38 true (.fAddr (.t 2) 5),aG 40 38 true (.load1 (.t 39)),aG 41 38 true (.fAddr (.t 3) 5),aG 42 38 true (.load1 (.t 41)),aG 43 38 true (.call 49 [(.t 40),(.t 42)]),aO 44 (.pick (.t 38) (.t 43) (.v (.c (.b false)))),aO 45 (.mv (.t 44)),aG 46 45 true (.fAddr (.t 2) 6),aG 47 45 true (.load1 (.t 46)),aG 48 45 true (.fAddr (.t 3) 6),aG 49 45 true (.load1 (.t 48)),aG 50 45 true (.call 27 [(.t 47),(.t 49)]),aO 51 (.pick (.t 45) (.t 50) (.v (.c (.b false)))),aO 4 (.mv (.t 51))]) .ret),[.tmp 4]⟩
def A92:B0:=B1 49 A4G (B1 27 A4J C0)
def A6C (n:Nat) (args:List Val) (h:A0):A6:=ax A92 n A_er25_Same.code A_er25_Same.fin (params 0 args) h
theorem C2t (n:Nat) (a0 a1:Val) (h:A0):A6C n [a0,a1] h=bnd (cells? a0) fun c1=>bnd (cells? a1) fun c2=>bnd (A7 (.c (.p h.length 0)) 0) fun v3=>bnd (A3 ((h ++ [some (Row.mk (c1) true)]) ++ [some (Row.mk (c2) true)]) v3) fun v4=>bnd (A7 (.c (.p (h ++ [some (Row.mk (c1) true)]).length 0)) 0) fun v5=>bnd (A3 ((h ++ [some (Row.mk (c1) true)]) ++ [some (Row.mk (c2) true)]) v5) fun v6=>bnd (A2 .eql v4 v6) fun v7=>bnd (gd v7 true (bnd (A7 (.c (.p h.length 0)) 1) fun v8=>some (v8,((h ++ [some (Row.mk (c1) true)]) ++ [some (Row.mk (c2) true)]))) (some (.no,((h ++ [some (Row.mk (c1) true)]) ++ [some (Row.mk (c2) true)])))) fun p9=>bnd (gd v7 true (bnd (A3 p9.2 p9.1) fun v10=>some (v10,p9.2)) (some (.no,p9.2))) fun p11=>bnd (gd v7 true (bnd (A7 (.c (.p (h ++ [some (Row.mk (c1) true)]).length 0)) 1) fun v12=>some (v12,p11.2)) (some (.no,p11.2))) fun p13=>bnd (gd v7 true (bnd (A3 p13.2 p13.1) fun v14=>some (v14,p13.2)) (some (.no,p13.2))) fun p15=>bnd (gd v7 true (bnd (A2 .eql p11.1 p15.1) fun v16=>some (v16,p15.2)) (some (.no,p15.2))) fun p17=>bnd (C4 v7 p17.1 (.c (.b false))) fun v18=>bnd (gd v18 true (bnd (A7 (.c (.p h.length 0)) 2) fun v19=>some (v19,p17.2)) (some (.no,p17.2))) fun p20=>bnd (gd v18 true (bnd (A3 p20.2 p20.1) fun v21=>some (v21,p20.2)) (some (.no,p20.2))) fun p22=>bnd (gd v18 true (bnd (A7 (.c (.p (h ++ [some (Row.mk (c1) true)]).length 0)) 2) fun v23=>some (v23,p22.2)) (some (.no,p22.2))) fun p24=>bnd (gd v18 true (bnd (A3 p24.2 p24.1) fun v25=>some (v25,p24.2)) (some (.no,p24.2))) fun p26=>bnd (gd v18 true (bnd (A2 .eql p22.1 p26.1) fun v27=>some (v27,p26.2)) (some (.no,p26.2))) fun p28=>bnd (C4 v18 p28.1 (.c (.b false))) fun v29=>bnd (gd v29 true (bnd (A7 (.c (.p h.length 0)) 3) fun v30=>some (v30,p28.2)) (some (.no,p28.2))) fun p31=>bnd (gd v29 true (bnd (A3 p31.2 p31.1) fun v32=>some (v32,p31.2)) (some (.no,p31.2))) fun p33=>bnd (gd v29 true (bnd (A7 (.c (.p (h ++ [some (Row.mk (c1) true)]).length 0)) 3) fun v34=>some (v34,p33.2)) (some (.no,p33.2))) fun p35=>bnd (gd v29 true (bnd (A3 p35.2 p35.1) fun v36=>some (v36,p35.2)) (some (.no,p35.2))) fun p37=>bnd (gd v29 true (bnd (A2 .eql p33.1 p37.1) fun v38=>some (v38,p37.2)) (some (.no,p37.2))) fun p39=>bnd (C4 v29 p39.1 (.c (.b false))) fun v40=>bnd (gd v40 true (bnd (A7 (.c (.p h.length 0)) 4) fun v41=>some (v41,p39.2)) (some (.no,p39.2))) fun p42=>bnd (gd v40 true (bnd (A3 p42.2 p42.1) fun v43=>some (v43,p42.2)) (some (.no,p42.2))) fun p44=>bnd (gd v40 true (bnd (A7 (.c (.p (h ++ [some (Row.mk (c1) true)]).length 0)) 4) fun v45=>some (v45,p44.2)) (some (.no,p44.2))) fun p46=>bnd (gd v40 true (bnd (A3 p46.2 p46.1) fun v47=>some (v47,p46.2)) (some (.no,p46.2))) fun p48=>bnd (gd v40 true (bnd (A2 .eql p44.1 p48.1) fun v49=>some (v49,p48.2)) (some (.no,p48.2))) fun p50=>bnd (C4 v40 p50.1 (.c (.b false))) fun v51=>bnd (gd v51 true (bnd (A7 (.c (.p h.length 0)) 5) fun v52=>some (v52,p50.2)) (some (.no,p50.2))) fun p53=>bnd (gd v51 true (bnd (A3 p53.2 p53.1) fun v54=>some (v54,p53.2)) (some (.no,p53.2))) fun p55=>bnd (gd v51 true (bnd (A7 (.c (.p (h ++ [some (Row.mk (c1) true)]).length 0)) 5) fun v56=>some (v56,p55.2)) (some (.no,p55.2))) fun p57=>bnd (gd v51 true (bnd (A3 p57.2 p57.1) fun v58=>some (v58,p57.2)) (some (.no,p57.2))) fun p59=>bnd (gd v51 true (bnd (A4G [p55.1,p59.1] p59.2) fun p60=>some (p60.1,p60.2)) (some (.no,p59.2))) fun p61=>bnd (C4 v51 p61.1 (.c (.b false))) fun v62=>bnd (gd v62 true (bnd (A7 (.c (.p h.length 0)) 6) fun v63=>some (v63,p61.2)) (some (.no,p61.2))) fun p64=>bnd (gd v62 true (bnd (A3 p64.2 p64.1) fun v65=>some (v65,p64.2)) (some (.no,p64.2))) fun p66=>bnd (gd v62 true (bnd (A7 (.c (.p (h ++ [some (Row.mk (c1) true)]).length 0)) 6) fun v67=>some (v67,p66.2)) (some (.no,p66.2))) fun p68=>bnd (gd v62 true (bnd (A3 p68.2 p68.1) fun v69=>some (v69,p68.2)) (some (.no,p68.2))) fun p70=>bnd (gd v62 true (bnd (A4J [p66.1,p70.1] p70.2) fun p71=>some (p71.1,p71.2)) (some (.no,p70.2))) fun p72=>bnd (C4 v62 p72.1 (.c (.b false))) fun v73=>some (v73,p72.2):=by kernel_rfl
theorem K_er25_Same:FnK Tryz.prog 36 A_er25_Same A92 A6C:=.mk' (B3 C4a (B3 C4l C2)) Tryz.func36 (by kernel_rfl) (fun _ _ _=>C1)
def A3f:Fun:=tidy (Lim A_er25_Same A92)
theorem C4t:SOk Tryz.prog 36 A3f:=K_er25_Same.sok
theorem C4s:C9 A6C A3f:=K_er25_Same.flat
def B6I:ACode:=.seq [0,1,5] (.seq [0,1,5,9] (.ops [aO 6 (.mv (.t 5)),aO 7 (.mv (.t 0)),aO 8 (.len (.t 7)),aO 9 (.bin .lss (.t 6) (.t 8))]) (.cond (.t 9) .skip (.exit 0))) (.seq [0,1,5] (.block 1 (.seq [0,1,5,18] (.ops [aO 12 (.mv (.t 0)),aO 13 (.mv (.t 5)),aO 14 (.iAddrL 7 (.t 12) (.t 13)),aO 15 (.fAddr (.t 14) 0),aO 16 (.load1 (.t 15)),aO 17 (.mv (.t 1)),aO 18 (.bin .eql (.t 16) (.t 17))]) (.cond (.t 18) (.seq [4] (.ops [aO 19 (.mv (.t 5)),aO 4 (.mv (.t 19))]) .ret) .skip))) (.ops [aO 10 (.mv (.t 5)),aO 11 (.bin .add (.t 10) (.v (.c (.i .i64 1)))),aO 5 (.mv (.t 11))]))
def B6J:ACode:=.seq [4] (.ops [aO 4 (.mv (.v (.c (.i .i64 (-1)))))]) .ret
def A_er25_Find:AFn:=⟨.seq [0,1] (.ops [aO 4 (.mv (.v (.c (.i .i64 0))))]) (.seq [] (.seq [0,1,5] (.ops [aO 5 (.mv (.v (.c (.i .i64 0))))]) (.block 0 (.loop [0,1,5] B6I))) B6J),[.tmp 4]⟩
def A33:B0:=C0
def C8r (n:Nat):A9 (Val × A0):=E4 [] (ax A33 n B6J) A_er25_Find.fin
def C8s (n:Nat):A9 (Val × A0):=D6 0 (C8r n)
def A8g (n m:Nat) (x0 x1 x5:Val) (h:A0):A6:=C6 (ax A33 n B6I) [0,1,5] (C8s n) m [(0,x0),(1,x1),(5,x5)] h
def B0R (n:Nat) (args:List Val) (h:A0):A6:=ax A33 n A_er25_Find.code A_er25_Find.fin (params 0 args) h
theorem C2q (n:Nat) (a0 a1:Val) (h:A0):B0R n [a0,a1] h=A8g n n a0 a1 (.c (.i .i64 0)) h:=by kernel_rfl
theorem B6K (n m:Nat) (x0 x1 x5:Val) (h:A0):A8g n (m + 1) x0 x1 x5 h=bnd (D5 x0) fun v1=>bnd (A2 .lss x5 v1) fun v2=>cnd v2 (bnd (B7 7 x0 x5) fun v3=>bnd (A7 v3 0) fun v4=>bnd (A3 h v4) fun v5=>bnd (A2 .eql v5 x1) fun v6=>cnd v6 (some (x5,h)) (bnd (A2 .add x5 (.c (.i .i64 1))) fun v7=>A8g n m x0 x1 v7 h)) (some ((.c (.i .i64 (-1))),h)):=by kernel_rfl
theorem K_er25_Find:FnK Tryz.prog 101 A_er25_Find A33 B0R:=.mk' (C2) Tryz.func101 (by kernel_rfl) (fun _ _ _=>C1)
def A4K:Fun:=tidy (Lim A_er25_Find A33)
theorem C4n:SOk Tryz.prog 101 A4K:=K_er25_Find.sok
theorem C4m:C9 B0R A4K:=K_er25_Find.flat
def B6P:ACode:=.ops [aO 42 (.mv (.t 8)),aO 43 (.bin .add (.t 42) (.v (.c (.i .i64 1)))),aO 8 (.mv (.t 43))]
def B18:ACode:=.seq [0,3,4,5,6,7,8] (.seq [0,3,4,5,6,7,8,41] (.ops [aO 34 (.mv (.t 8)),aO 35 (.mv (.t 0)),aO 36 (.mv (.t 7)),aO 37 (.iAddrL 7 (.t 35) (.t 36)),aO 38 (.fAddr (.t 37) 6),aO 39 (.load1 (.t 38)),aO 40 (.len (.t 39)),aO 41 (.bin .lss (.t 34) (.t 40))]) (.cond (.t 41) .skip (.exit 2))) (.seq [0,3,4,5,6,7,8] (.block 3 (.seq [0,3,4,5,6,7,8,9] (.draw 0 [aO 44 (.mv (.t 4)),aO 45 (.mv (.t 6)),aO 46 (.iAddrL 1 (.t 44) (.t 45)),aO 47 (.load1 (.t 46)),aO 48 (.bin .add (.t 47) (.v (.c (.s [47])))),aO 49 (.mv (.t 0)),aO 50 (.mv (.t 7)),aO 51 (.iAddrL 7 (.t 49) (.t 50)),aO 52 (.fAddr (.t 51) 6),aO 53 (.load1 (.t 52)),aO 54 (.mv (.t 8)),aO 55 (.iAddrL 2 (.t 53) (.t 54)),aO 56 (.fAddr (.t 55) 0),aO 57 (.load1 (.t 56))] [aO 58 (.bin .add (.t 48) (.t 57)),aO 9 (.mv (.t 58))]) (.seq [0,3,4,5,6,7,8,9] (.ops [aO 59 (.mv (.t 5)),aO 60 (.mv (.t 9)),aO 61 (.buildSl 1 1 ([.s []]) [(0,1,(.t 60))]),aO 62 (.app 1 (.t 59) (.t 61)),aO 5 (.mv (.t 62))]) (.seq [0,3,4,5,6,7,8,9,74] (.ops [aO 63 (.mv (.t 3)),aO 64 (.mv (.t 0)),aO 65 (.mv (.t 7)),aO 66 (.iAddrL 7 (.t 64) (.t 65)),aO 67 (.fAddr (.t 66) 6),aO 68 (.load1 (.t 67)),aO 69 (.mv (.t 8)),aO 70 (.iAddrL 2 (.t 68) (.t 69)),aO 71 (.fAddr (.t 70) 1),aO 72 (.load1 (.t 71)),aO 73 (.call 48 [(.t 63),(.t 72)]),aO 74 (.un .not (.t 73))]) (.cond (.t 74) (.seq [0,3,4,5,6,7,8,9] (.ops [aO 75 (.mv (.t 3)),aO 76 (.mv (.t 0)),aO 77 (.mv (.t 7)),aO 78 (.iAddrL 7 (.t 76) (.t 77)),aO 79 (.fAddr (.t 78) 6),aO 80 (.load1 (.t 79)),aO 81 (.mv (.t 8)),aO 82 (.iAddrL 2 (.t 80) (.t 81)),aO 83 (.fAddr (.t 82) 1),aO 84 (.load1 (.t 83)),aO 85 (.buildSl 1 1 ([.i .i64 0]) [(0,1,(.t 84))]),aO 86 (.app 1 (.t 75) (.t 85)),aO 3 (.mv (.t 86))]) (.ops [aO 87 (.mv (.t 4)),aO 88 (.mv (.t 9)),aO 89 (.buildSl 1 1 ([.s []]) [(0,1,(.t 88))]),aO 90 (.app 1 (.t 87) (.t 89)),aO 4 (.mv (.t 90))])) .skip))))) B6P)
def B17:ACode:=.ops [aO 16 (.mv (.t 6)),aO 17 (.bin .add (.t 16) (.v (.c (.i .i64 1)))),aO 6 (.mv (.t 17))]
def B16:ACode:=.seq [0,3,4,5,6] (.seq [0,3,4,5,6,15] (.ops [aO 12 (.mv (.t 6)),aO 13 (.mv (.t 3)),aO 14 (.len (.t 13)),aO 15 (.bin .lss (.t 12) (.t 14))]) (.cond (.t 15) .skip (.exit 0))) (.seq [0,3,4,5,6] (.block 1 (.seq [0,3,4,5,6,7] (.ops [aO 18 (.mv (.t 0)),aO 19 (.mv (.t 3)),aO 20 (.mv (.t 6)),aO 21 (.iAddrL 1 (.t 19) (.t 20)),aO 22 (.load1 (.t 21)),aO 23 (.call 101 [(.t 18),(.t 22)]),aO 7 (.mv (.t 23))]) (.seq [0,3,4,5,6,7] (.seq [0,3,4,5,6,7,33] (.ops [aO 24 (.mv (.t 7)),aO 25 (.bin .lss (.t 24) (.v (.c (.i .i64 0)))),aO 26 (.mv (.t 25)),aG 27 26 false (.mv (.t 0)),aG 28 26 false (.mv (.t 7)),aG 29 26 false (.iAddrL 7 (.t 27) (.t 28)),aG 30 26 false (.fAddr (.t 29) 1),aG 31 26 false (.load1 (.t 30)),aG 32 26 false (.bin .neq (.t 31) (.v (.c (.i .i64 2)))),aO 33 (.pick (.t 26) (.v (.c (.b true))) (.t 32))]) (.cond (.t 33) (.exit 1) .skip)) (.seq [0,3,4,5,6,7,8] (.ops [aO 8 (.mv (.v (.c (.i .i64 0))))]) (.block 2 (.loop [0,3,4,5,6,7,8] B18)))))) B17)
def B6O:ACode:=.seq [2] (.ops [aO 91 (.mv (.t 5)),aO 92 (.call 82 [(.t 91)]),aO 2 (.mv (.t 92))]) .ret
def A_er25_Paths:AFn:=⟨.seq [0] (.ops [aO 2 (.nilrow 1)]) (.seq [0,3] (.ops [aO 10 (.buildSl 1 1 ([.i .i64 0]) [(0,1,(.v (.c (.i .i64 1))))]),aO 3 (.mv (.t 10))]) (.seq [0,3,4] (.ops [aO 11 (.buildSl 1 1 ([.s []]) [(0,1,(.v (.c (.s []))))]),aO 4 (.mv (.t 11))]) (.seq [0,3,4,5] (.ops [aO 5 (.nilrow 1)]) (.seq [5] (.seq [0,3,4,5,6] (.ops [aO 6 (.mv (.v (.c (.i .i64 0))))]) (.block 0 (.loop [0,3,4,5,6] B16))) B6O)))),[.tmp 2]⟩
def Y7:B0:=B1 101 A4K (B1 48 A4H (B1 82 A12 C0))
def C8v (n:Nat):A9 (Val × A0):=E4 [5] (ax Y7 n B6O) A_er25_Paths.fin
def B2b (n:Nat):A9 (Val × A0):=D6 0 (C8v n)
def A8j (n m:Nat) (x0 x3 x4 x5 x6:Val) (h:A0):A6:=C6 (ax Y7 n B16) [0,3,4,5,6] (B2b n) m [(0,x0),(3,x3),(4,x4),(5,x5),(6,x6)] h
def A6B (n:Nat) (args:List Val) (h:A0):A6:=ax Y7 n A_er25_Paths.code A_er25_Paths.fin (params 0 args) h
def B6R (n m:Nat):A9 (Val × A0):=P9 [0,3,4,5,6] (C6 (ax Y7 n B16) [0,3,4,5,6] (B2b n) m) (B2b n)
def A8i (n m:Nat) (x0 x3 x4 x5 x6:Val) (h:A0):A6:=hold ((ax Y7 n B17) (B6R n m) [(0,x0),(3,x3),(4,x4),(5,x5),(6,x6)] h)
def C8w (n m:Nat):A9 (Val × A0):=E4 [0,3,4,5,6] (ax Y7 n B17) (B6R n m)
def C8x (n m:Nat):A9 (Val × A0):=D6 1 (C8w n m)
def B2c (n m:Nat):A9 (Val × A0):=D6 2 (C8x n m)
def A8l (n m m2:Nat) (x0 x3 x4 x5 x6 x7 x8:Val) (h:A0):A6:=C6 (ax Y7 n B18) [0,3,4,5,6,7,8] (B2c n m) m2 [(0,x0),(3,x3),(4,x4),(5,x5),(6,x6),(7,x7),(8,x8)] h
def C8y (n m m2:Nat):A9 (Val × A0):=P9 [0,3,4,5,6,7,8] (C6 (ax Y7 n B18) [0,3,4,5,6,7,8] (B2c n m) m2) (B2c n m)
def B2a (n m m2:Nat) (x0 x3 x4 x5 x6 x7 x8:Val) (h:A0):A6:=hold ((ax Y7 n B6P) (C8y n m m2) [(0,x0),(3,x3),(4,x4),(5,x5),(6,x6),(7,x7),(8,x8)] h)
theorem C2s (n:Nat) (a0:Val) (h:A0):A6B n [a0] h=bnd (A8 ([.i .i64 0]) [(0,1,.c (.i .i64 1))]) fun c1=>bnd (A8 ([.s []]) [(0,1,.c (.s []))]) fun c2=>A8j n n a0 (.c (.sl (h ++ [some (Row.mk ([]) true)]).length 0 1 1)) (.c (.sl ((h ++ [some (Row.mk ([]) true)]) ++ [some (Row.mk (c1) true)]).length 0 1 1)) (.c (.sl (((h ++ [some (Row.mk ([]) true)]) ++ [some (Row.mk (c1) true)]) ++ [some (Row.mk (c2) true)]).length 0 0 1)) (.c (.i .i64 0)) ((((h ++ [some (Row.mk ([]) true)]) ++ [some (Row.mk (c1) true)]) ++ [some (Row.mk (c2) true)]) ++ [some (Row.mk ([]) true)]):=by kernel_rfl
theorem A8k (n m:Nat) (x0 x3 x4 x5 x6:Val) (h:A0):A8j n (m + 1) x0 x3 x4 x5 x6 h=bnd (D5 x3) fun v3=>bnd (A2 .lss x6 v3) fun v4=>cnd v4 (bnd (B7 1 x3 x6) fun v5=>bnd (A3 h v5) fun v6=>bnd (A4K [x0,v6] h) fun p7=>bnd (A2 .lss p7.1 (.c (.i .i64 0))) fun v8=>bnd (gd v8 false (some (x0,p7.2)) (some (.no,p7.2))) fun p9=>bnd (gd v8 false (some (p7.1,p9.2)) (some (.no,p9.2))) fun p10=>bnd (gd v8 false (bnd (B7 7 p9.1 p10.1) fun v11=>some (v11,p10.2)) (some (.no,p10.2))) fun p12=>bnd (gd v8 false (bnd (A7 p12.1 1) fun v13=>some (v13,p12.2)) (some (.no,p12.2))) fun p14=>bnd (gd v8 false (bnd (A3 p14.2 p14.1) fun v15=>some (v15,p14.2)) (some (.no,p14.2))) fun p16=>bnd (gd v8 false (bnd (A2 .neq p16.1 (.c (.i .i64 2))) fun v17=>some (v17,p16.2)) (some (.no,p16.2))) fun p18=>bnd (C4 v8 (.c (.b true)) p18.1) fun v19=>cnd v19 (A8i n m x0 x3 x4 x5 x6 p18.2) (A8l n m n x0 x3 x4 x5 x6 p7.1 (.c (.i .i64 0)) p18.2)) (bnd (A12 [x5] h) fun p20=>some (p20.1,p20.2)):=by kernel_rfl
theorem B19 (n m:Nat) (x0 x3 x4 x5 x6:Val) (h:A0):A8i n m x0 x3 x4 x5 x6 h=bnd (A2 .add x6 (.c (.i .i64 1))) fun v21=>A8j n m x0 x3 x4 x5 v21 h:=by kernel_rfl
theorem B6S (n m m2:Nat) (x0 x3 x4 x5 x6 x7 x8:Val) (h:A0):A8l n m (m2 + 1) x0 x3 x4 x5 x6 x7 x8 h=bnd (B7 7 x0 x7) fun v22=>bnd (A7 v22 6) fun v23=>bnd (A3 h v23) fun v24=>bnd (D5 v24) fun v25=>bnd (A2 .lss x8 v25) fun v26=>cnd v26 (bnd (B7 1 x4 x6) fun v27=>bnd (A3 h v27) fun v28=>bnd (A2 .add v28 (.c (.s [47]))) fun v29=>bnd (B7 7 x0 x7) fun v30=>bnd (A7 v30 6) fun v31=>bnd (A3 h v31) fun v32=>bnd (B7 2 v32 x8) fun v33=>bnd (A7 v33 0) fun v34=>bnd (A3 h v34) fun v35=>bnd (A2 .add v29 v35) fun v36=>bnd (A8 ([.s []]) [(0,1,v36)]) fun c37=>bnd (F0 ((h ++ []) ++ [some (Row.mk (c37) true)]) 1 x5 (.c (.sl (h ++ []).length 0 1 1))) fun p38=>bnd (B7 7 x0 x7) fun v39=>bnd (A7 v39 6) fun v40=>bnd (A3 p38.2 v40) fun v41=>bnd (B7 2 v41 x8) fun v42=>bnd (A7 v42 1) fun v43=>bnd (A3 p38.2 v43) fun v44=>bnd (A4H [x3,v44] p38.2) fun p45=>bnd (aun .not p45.1) fun v46=>cnd v46 (bnd (B7 7 x0 x7) fun v47=>bnd (A7 v47 6) fun v48=>bnd (A3 p45.2 v48) fun v49=>bnd (B7 2 v49 x8) fun v50=>bnd (A7 v50 1) fun v51=>bnd (A3 p45.2 v51) fun v52=>bnd (A8 ([.i .i64 0]) [(0,1,v52)]) fun c53=>bnd (F0 (p45.2 ++ [some (Row.mk (c53) true)]) 1 x3 (.c (.sl p45.2.length 0 1 1))) fun p54=>bnd (A8 ([.s []]) [(0,1,v36)]) fun c55=>bnd (F0 (p54.2 ++ [some (Row.mk (c55) true)]) 1 x4 (.c (.sl p54.2.length 0 1 1))) fun p56=>B2a n m m2 x0 p54.1 p56.1 p38.1 x6 x7 x8 p56.2) (B2a n m m2 x0 x3 x4 p38.1 x6 x7 x8 p45.2)) (A8i n m x0 x3 x4 x5 x6 h):=by kernel_rfl
theorem B6Q (n m m2:Nat) (x0 x3 x4 x5 x6 x7 x8:Val) (h:A0):B2a n m m2 x0 x3 x4 x5 x6 x7 x8 h=bnd (A2 .add x8 (.c (.i .i64 1))) fun v57=>A8l n m m2 x0 x3 x4 x5 x6 x7 v57 h:=by kernel_rfl
theorem K_er25_Paths:FnK Tryz.prog 42 A_er25_Paths Y7 A6B:=.mk' (B3 C4n (B3 C4h (B3 C4e C2))) Tryz.func42 (by kernel_rfl) (fun _ _ _=>C1)
def A4L:Fun:=tidy (Lim A_er25_Paths Y7)
theorem C4q:SOk Tryz.prog 42 A4L:=K_er25_Paths.sok
theorem C4r:U6 A6B A4L:=K_er25_Paths.out
end Go.Proofs.YteckncopbicmcaaGreat
end
section
namespace Go.Proofs.YteckncopbicmcaaGreat
open Go Go.Esc
theorem W8 {h:A0} {v:Val} {t:List Nd} (ht:IsTree h v t) {i:Nat} (hi:i < t.length) :
    ∃ id o cs,B7 7 v (.c (.i .i64 (i:Int)))=some (.c (.p id o)) ∧ A4 h 7 (.c (.p id o))=some (.a cs) ∧ (∀ k c,cs[k]? = some c → A3 h (.c (.p id (o + k)))=some (.c c)) ∧ IsNd h cs t[i]:=by
  obtain ⟨cs,h1,h2⟩:=ht
  have hcs:=h2.noX
  obtain ⟨id,off,rfl,hid,hA,hB⟩:=h1.sl (by omega)
  refine ⟨id,off + i * 7,_,G8 hi,hB (i * 7) 7 (by rw [hcs.2];omega),fun k c hk=>?_,h2.at (List.getElem?_eq_getElem hi)⟩
  have hk7:k < 7:=by
    have:=(List.getElem?_eq_some_iff.1 hk).1
    simp at this;omega
  rw [List.getElem?_take_of_lt hk7,List.getElem?_drop] at hk
  have:=hA _ _ hk
  rwa [← Nat.add_assoc] at this
theorem A7C {neg:Bool} {x y:Ent}:aeq neg [.s,.i .i64] (.a (E3 (some x))) (.a (E3 (some y)))=some (.c (.b (bif neg then !(decide (x=y)) else decide (x=y)))):=by
  have e:decide (E3 (some x)=E3 (some y))=decide (x=y):=by
    apply Bool.eq_iff_iff.2
    rw [decide_eq_true_iff,decide_eq_true_iff]
    constructor
    · intro h
      simp only [E3,List.cons.injEq,Cell.s.injEq,Cell.i.injEq,true_and,and_true] at h
      exact Prod.ext h.1 h.2
    · rintro rfl;rfl
  simp only [aeq]
  rw [if_pos ⟨rfl,rfl⟩,e]
theorem B9X {y z:Cell} {l r:List Ent} {q:Nat} {g:A0} (hy:Has g (.c y) 2 l.length (D0 l)) (hz:Has g (.c z) 2 r.length (D0 r)) (hlr:l.length=r.length) (h62:l.length ≤ 1000000):∀ e i M:Nat,i + e=l.length → e < M →
    A8f q M (.c y) (.c z) (.c (.i .i64 (i:Int))) g=some (.c (.b (decide (l.drop i=r.drop i))),g)
  | e,i,0,_,hm=>by omega
  | 0,i,M + 1,hi,hm=>by
    have c0:¬ ((i:Int) < (l.length:Nat)):=by omega
    have hyl:=hy.len
    rw [B6H,List.drop_of_length_le (by omega),List.drop_of_length_le (by omega)]
    simp only [B9,hyl,D7,c0,decide_false,F1,decide_true]
  | e + 1,i,M + 1,hi,hm=>by
    have hil:i < l.length:=by omega
    have c0:(i:Int) < (l.length:Nat):=by omega
    have hyl:=hy.len
    have w1:=E2 (show i + 1 < 9223372036854775808 by omega)
    obtain ⟨a,a1,a2⟩:=A01 hy hil
    obtain ⟨b,b1,b2⟩:=A01 hz (show i < r.length by omega)
    have ih:=B9X (q:=q) hy hz hlr h62 e (i + 1) M (by omega) (by omega)
    rw [B6H,List.drop_eq_getElem_cons hil,List.drop_eq_getElem_cons (show i < r.length by omega)]
    by_cases c:l[i]=r[i]
    · simp only [B9,hyl,D7,c0,decide_true,F6,a1,a2,b1,b2,A7C,cond_true,c,Bool.not_true,F1,I0,w1,List.append_nil,ih,List.cons.injEq,true_and]
    · simp only [B9,hyl,D7,c0,decide_true,F6,a1,a2,b1,b2,A7C,cond_true,c,decide_false,Bool.not_false,List.append_nil,List.cons.injEq,false_and]
theorem D1q {y z:Cell} {l r:List Ent} {h:A0} (hy:Has h (.c y) 2 l.length (D0 l)) (hz:Has h (.c z) 2 r.length (D0 r)) (h62:l.length ≤ 1000000):A4J [.c y,.c z] h=some (.c (.b (decide (l=r))),h):=by
  refine C4k (n:=l.length + 1) (h2:=ro h) ?_ rfl
  have hyl:=hy.ro.len
  have hzl:=hz.ro.len
  rw [C2p]
  by_cases c:l.length=r.length
  · have k:=B9X (q:=l.length + 1) hy.ro hz.ro c h62 l.length 0 (l.length + 1) (by omega) (by omega)
    rw [List.drop_zero,List.drop_zero] at k
    simp only [B9,hyl,hzl,A1i,c,ne_eq,eq_self,not_true_eq_false,decide_false,F1]
    rw [c] at k
    exact k
  · have c2:¬ ((l.length:Nat):Int)=(r.length:Nat):=by omega
    have c3:¬ l=r:=fun e=>c (by rw [e])
    simp only [B9,hyl,hzl,A1i,c2,ne_eq,not_false_eq_true,decide_true,F6,c3,decide_false]
theorem B2V {x y:Nd}:(x=y) ↔ (x.ino=y.ino ∧ x.kind=y.kind ∧ x.links=y.links ∧ x.parent=y.parent ∧ x.size=y.size ∧ x.data=y.data ∧ x.names=y.names):=by
  cases x;cases y;simp
def T4 (x y:Nd):Prop:=x.ino=y.ino ∧ x.kind=y.kind ∧ x.size=y.size ∧ x.data=y.data ∧ x.names=y.names
instance (x y:Nd):Decidable (T4 x y):=inferInstanceAs (Decidable (_ ∧ _))
theorem B9Z {cs ds:List Cell} {x y:Nd} {h:A0} (hx:IsNd h cs x) (hy:IsNd h ds y) (h1:x.data.length ≤ 1000000) (h2:x.names.length ≤ 1000000) :
    A3f [.a cs,.a ds] h=some (.c (.b (decide (x=y))),h):=by
  have key:∀ g,IsNd g cs x → IsNd g ds y → ∃ g',A6C 0 [.a cs,.a ds] g=some (.c (.b (decide (x=y))),g'):=by
    rintro g ⟨a,b,rfl,hA,hB⟩ ⟨c,d,rfl,hC,hDD⟩
    obtain ⟨H,hH⟩:∃ H,H=(g ++ [some (Row.mk (ndC x.ino x.kind x.links x.parent x.size a b) true)]) ++ [some (Row.mk (ndC y.ino y.kind y.links y.parent y.size c d) true)]:=⟨_,rfl⟩
    have e1:(g ++ [some (Row.mk (ndC x.ino x.kind x.links x.parent x.size a b) true)]).length=g.length + 1:=by simp
    have r0:rd H g.length=some ⟨ndC x.ino x.kind x.links x.parent x.size a b,true⟩:=by rw [hH];simp
    have r1:rd H (g.length + 1)=some ⟨ndC y.ino y.kind y.links y.parent y.size c d,true⟩:=by rw [hH,← e1];exact E8
    have low:Low g.length g H:=by rw [hH];exact ((Low.refl (Nat.le_refl _)).new _).new _
    have x0:A3 H (.c (.p g.length 0))=some (.c (.i .i64 x.ino)):=D8 r0 rfl rfl
    have x1:A3 H (.c (.p g.length 1))=some (.c (.i .i64 x.kind)):=D8 r0 rfl rfl
    have x2:A3 H (.c (.p g.length 2))=some (.c (.i .i64 x.links)):=D8 r0 rfl rfl
    have x3:A3 H (.c (.p g.length 3))=some (.c (.i .i64 x.parent)):=D8 r0 rfl rfl
    have x4:A3 H (.c (.p g.length 4))=some (.c (.i .i64 x.size)):=D8 r0 rfl rfl
    have x5:A3 H (.c (.p g.length 5))=some (.c a):=D8 r0 rfl (by simp)
    have x6:A3 H (.c (.p g.length 6))=some (.c b):=D8 r0 rfl (by simp)
    have y0:A3 H (.c (.p (g.length + 1) 0))=some (.c (.i .i64 y.ino)):=D8 r1 rfl rfl
    have y1:A3 H (.c (.p (g.length + 1) 1))=some (.c (.i .i64 y.kind)):=D8 r1 rfl rfl
    have y2:A3 H (.c (.p (g.length + 1) 2))=some (.c (.i .i64 y.links)):=D8 r1 rfl rfl
    have y3:A3 H (.c (.p (g.length + 1) 3))=some (.c (.i .i64 y.parent)):=D8 r1 rfl rfl
    have y4:A3 H (.c (.p (g.length + 1) 4))=some (.c (.i .i64 y.size)):=D8 r1 rfl rfl
    have y5:A3 H (.c (.p (g.length + 1) 5))=some (.c c):=D8 r1 rfl (by simp)
    have y6:A3 H (.c (.p (g.length + 1) 6))=some (.c d):=D8 r1 rfl (by simp)
    have sD:=D1m (h:=H) (hA.since low) (hC.since low) (by omega)
    have sN:=D1q (h:=H) (hB.since low) (hDD.since low) h2
    rw [C2t]
    simp only [Z6,B9]
    rw [e1,← hH]
    refine ⟨H,?_⟩
    have hnd:=B2V (x:=x) (y:=y)
    by_cases c0:x.ino=y.ino
    · by_cases c1:x.kind=y.kind
      · by_cases c2:x.links=y.links
        · by_cases c3:x.parent=y.parent
          · by_cases c4:x.size=y.size
            · by_cases c5:x.data=y.data
              · by_cases c6:x.names=y.names
                · have ce:x=y:=hnd.2 ⟨c0,c1,c2,c3,c4,c5,c6⟩
                  subst ce
                  simp only [esc,x0,x1,x2,x3,x4,x5,x6,y0,y1,y2,y3,y4,y5,y6,eq_self,sD,sN]
                · have ce:¬ x=y:=fun e=>c6 (hnd.1 e).2.2.2.2.2.2
                  rw [decide_eq_true c5] at sD
                  rw [decide_eq_false c6] at sN
                  simp only [esc,x0,x1,x2,x3,x4,x5,x6,y0,y1,y2,y3,y4,y5,y6,c0,c1,c2,c3,c4,eq_self,sD,sN,ce]
              · have ce:¬ x=y:=fun e=>c5 (hnd.1 e).2.2.2.2.2.1
                rw [decide_eq_false c5] at sD
                simp only [esc,x0,x1,x2,x3,x4,x5,x6,y0,y1,y2,y3,y4,y5,y6,c0,c1,c2,c3,c4,eq_self,sD,ce]
            · have ce:¬ x=y:=fun e=>c4 (hnd.1 e).2.2.2.2.1
              simp only [esc,x0,x1,x2,x3,x4,x5,x6,y0,y1,y2,y3,y4,y5,y6,c0,c1,c2,c3,c4,eq_self,ce]
          · have ce:¬ x=y:=fun e=>c3 (hnd.1 e).2.2.2.1
            simp only [esc,x0,x1,x2,x3,x4,x5,x6,y0,y1,y2,y3,y4,y5,y6,c0,c1,c2,c3,eq_self,ce]
        · have ce:¬ x=y:=fun e=>c2 (hnd.1 e).2.2.1
          simp only [esc,x0,x1,x2,x3,x4,x5,x6,y0,y1,y2,y3,y4,y5,y6,c0,c1,c2,eq_self,ce]
      · have ce:¬ x=y:=fun e=>c1 (hnd.1 e).2.1
        simp only [esc,x0,x1,x2,x3,x4,x5,x6,y0,y1,y2,y3,y4,y5,y6,c0,c1,eq_self,ce]
    · have ce:¬ x=y:=fun e=>c0 (hnd.1 e).1
      simp only [esc,x0,x1,x2,x3,x4,x5,x6,y0,y1,y2,y3,y4,y5,y6,c0,ce]
  obtain ⟨g',e⟩:=key (ro h) hx.ro hy.ro
  exact C4s e rfl
theorem B4S {b z:Cell} {l r:List Ent} {q rid:Nat} {g:A0} {dc:List Cell} (hb:Has g (.c b) 2 l.length (D0 l)) (hz:Has g (.c z) 2 r.length (D0 r)) (hr:rd g rid=some ⟨dc,true⟩) (h6:dc[6]? = some z) (hlr:l.length=r.length) (h62:l.length ≤ 1000000):∀ (e i M:Nat) (h:A0),i + e=l.length → e < M → Low g.length g h →
    ∃ h',A9H q M (.c (.p rid 0)) (.c b) (.c (.i .i64 (l.length:Int))) (.c (.i .i64 (i:Int))) h=some (.c (.b (decide (l.drop i=r.drop i))),h')
  | e,i,0,h,_,hm,_=>by omega
  | 0,i,M + 1,h,hi,hm,hlow=>by
    have c0:¬ ((i:Int) < (l.length:Nat)):=by omega
    rw [C1I,List.drop_of_length_le (by omega),List.drop_of_length_le (by omega)]
    exact ⟨h,by simp only [B9,D7,c0,decide_false,F1,decide_true]⟩
  | e + 1,i,M + 1,h,hi,hm,hlow=>by
    have hil:i < l.length:=by omega
    have c0:(i:Int) < (l.length:Nat):=by omega
    have w1:=E2 (show i + 1 < 9223372036854775808 by omega)
    obtain ⟨a,a1,a2⟩:=A01 (hb.since hlow) hil
    have low2:Low g.length g (h ++ [some ⟨E3 (some l[i]),true⟩]):=hlow.new _
    obtain ⟨b',b1,b2⟩:=A01 (hz.since low2) (show i < r.length by omega)
    have g6:A3 (h ++ [some (Row.mk (E3 (some l[i])) true)]) (.c (.p rid 6))=some (.c z):=D8 (low2.rd hr) h6 (by simp)
    have le:A4 (h ++ [some (Row.mk (E3 (some l[i])) true)]) 2 (.c (.p h.length 0))=some (.a (E3 (some l[i]))):=G0 E8 rfl
    obtain ⟨h',ih⟩:=B4S (q:=q) hb hz hr h6 hlr h62 e (i + 1) M _ (by omega) (by omega) low2
    rw [C1I,List.drop_eq_getElem_cons hil,List.drop_eq_getElem_cons (show i < r.length by omega)]
    by_cases c:l[i]=r[i]
    · refine ⟨h',?_⟩
      have ec:(l[i] :: l.drop (i + 1)=r[i] :: r.drop (i + 1))=(l.drop (i + 1)=r.drop (i + 1)):=by rw [c];exact propext ⟨fun h=>(List.cons.inj h).2,fun h=>by rw [h]⟩
      have ae:=A7C (neg:=true) (x:=l[i]) (y:=r[i])
      rw [decide_eq_true c] at ae
      simp only [B9,D7,c0,decide_true,F6,a1,a2,A1d,le,I9,Nat.zero_add,g6,b1,b2,ae,cond_true,Bool.not_true,F1,I0,w1,List.append_nil,ec]
      exact ih
    · have ec:¬ (l[i] :: l.drop (i + 1)=r[i] :: r.drop (i + 1)):=fun e=>c (List.cons.inj e).1
      exact ⟨_,by simp only [B9,D7,c0,decide_true,F6,a1,a2,A1d,le,I9,Nat.zero_add,g6,b1,b2,A7C,cond_true,c,decide_false,Bool.not_false,List.append_nil,ec] <;> rfl⟩
theorem D3B {cs ds:List Cell} {x y:Nd} {h:A0} (hx:IsNd h cs x) (hy:IsNd h ds y) (h1:x.data.length ≤ 1000000) (h2:x.names.length ≤ 1000000) :
    A5l [.a cs,.a ds] h=some (.c (.b (decide (T4 x y))),h):=by
  have key:∀ g,IsNd g cs x → IsNd g ds y → ∃ g',A7q (x.names.length + 1) [.a cs,.a ds] g=some (.c (.b (decide (T4 x y))),g'):=by
    rintro g ⟨a,b,rfl,hA,hB⟩ ⟨c,d,rfl,hC,hDD⟩
    obtain ⟨H,hH⟩:∃ H,H=(g ++ [some (Row.mk (ndC x.ino x.kind x.links x.parent x.size a b) true)]) ++ [some (Row.mk (ndC y.ino y.kind y.links y.parent y.size c d) true)]:=⟨_,rfl⟩
    have e1:(g ++ [some (Row.mk (ndC x.ino x.kind x.links x.parent x.size a b) true)]).length=g.length + 1:=by simp
    have r0:rd H g.length=some ⟨ndC x.ino x.kind x.links x.parent x.size a b,true⟩:=by rw [hH];simp
    have r1:rd H (g.length + 1)=some ⟨ndC y.ino y.kind y.links y.parent y.size c d,true⟩:=by rw [hH,← e1];exact E8
    have low:Low g.length g H:=by rw [hH];exact ((Low.refl (Nat.le_refl _)).new _).new _
    have x0:A3 H (.c (.p g.length 0))=some (.c (.i .i64 x.ino)):=D8 r0 rfl rfl
    have x1:A3 H (.c (.p g.length 1))=some (.c (.i .i64 x.kind)):=D8 r0 rfl rfl
    have x4:A3 H (.c (.p g.length 4))=some (.c (.i .i64 x.size)):=D8 r0 rfl rfl
    have x5:A3 H (.c (.p g.length 5))=some (.c a):=D8 r0 rfl (by simp)
    have x6:A3 H (.c (.p g.length 6))=some (.c b):=D8 r0 rfl (by simp)
    have y0:A3 H (.c (.p (g.length + 1) 0))=some (.c (.i .i64 y.ino)):=D8 r1 rfl rfl
    have y1:A3 H (.c (.p (g.length + 1) 1))=some (.c (.i .i64 y.kind)):=D8 r1 rfl rfl
    have y4:A3 H (.c (.p (g.length + 1) 4))=some (.c (.i .i64 y.size)):=D8 r1 rfl rfl
    have y5:A3 H (.c (.p (g.length + 1) 5))=some (.c c):=D8 r1 rfl (by simp)
    have y6:A3 H (.c (.p (g.length + 1) 6))=some (.c d):=D8 r1 rfl (by simp)
    have bA:=(hA.since low).str
    have bC:=(hC.since low).str
    have lB:=hB.len
    have lD:=hDD.len
    rw [C3t]
    simp only [Z6,B9]
    rw [e1,← hH]
    by_cases c0:x.ino=y.ino
    · by_cases c1:x.kind=y.kind
      · by_cases c4:x.size=y.size
        · by_cases c5:x.data=y.data
          · by_cases cl:x.names.length=y.names.length
            · obtain ⟨h',f1⟩:=B4S (q:=x.names.length + 1) (hB.since low) (hDD.since low) r1 (z:=d) rfl cl h2 x.names.length 0 (x.names.length + 1) H (by omega) (by omega) (Low.refl (Nat.le_refl _))
              rw [List.drop_zero,List.drop_zero] at f1
              have el:decide (x.names=y.names)=decide (T4 x y):=by
                apply Bool.eq_iff_iff.2
                rw [decide_eq_true_iff,decide_eq_true_iff]
                exact ⟨fun h=>⟨c0,c1,c4,c5,h⟩,fun h=>h.2.2.2.2⟩
              rw [el] at f1
              refine ⟨h',?_⟩
              rw [← cl] at lD
              rw [← c5] at bC
              rw [← c4] at y4
              rw [← c1] at y1
              rw [← c0] at y0
              simp only [esc,x0,x1,x4,x5,x6,y0,y1,y4,y5,y6,bA,bC,lB,lD,eq_self]
              exact f1
            · have ce:¬ T4 x y:=fun e=>cl (by rw [e.2.2.2.2])
              have c2:¬ ((x.names.length:Nat):Int)=(y.names.length:Nat):=by omega
              rw [← c5] at bC
              rw [← c4] at y4
              rw [← c1] at y1
              rw [← c0] at y0
              exact ⟨H,by simp only [esc,x0,x1,x4,x5,x6,y0,y1,y4,y5,y6,bA,bC,lB,lD,eq_self,c2,ce]⟩
          · have ce:¬ T4 x y:=fun e=>c5 e.2.2.2.1
            rw [← c4] at y4
            rw [← c1] at y1
            rw [← c0] at y0
            exact ⟨H,by simp only [esc,x0,x1,x4,x5,x6,y0,y1,y4,y5,y6,bA,bC,lB,lD,eq_self,c5,ce]⟩
        · have ce:¬ T4 x y:=fun e=>c4 e.2.2.1
          rw [← c1] at y1
          rw [← c0] at y0
          exact ⟨H,by simp only [esc,x0,x1,x4,x5,x6,y0,y1,y4,y5,y6,bA,bC,lB,lD,eq_self,c4,ce]⟩
      · have ce:¬ T4 x y:=fun e=>c1 e.2.1
        rw [← c0] at y0
        exact ⟨H,by simp only [esc,x0,x1,x4,x5,x6,y0,y1,y4,y5,y6,bA,bC,lB,lD,eq_self,c1,ce]⟩
    · have ce:¬ T4 x y:=fun e=>c0 e.1
      exact ⟨H,by simp only [esc,x0,x1,x4,x5,x6,y0,y1,y4,y5,y6,bA,bC,lB,lD,eq_self,c0,ce]⟩
  obtain ⟨g',e⟩:=key (ro h) hx.ro hy.ro
  exact C58 e rfl
def J3 (p:Nat → Bool):Nat → Nat → Bool
  | 0,_=>true
  | e + 1,i=>p i && J3 p e (i + 1)
def W4 (t u:List Nd) (i:Nat):Bool:=match t[i]?,u[i]? with
  | some x,some y=>decide (T4 x y)
  | _,_=>false
def A2T (t u:List Nd) (i:Nat):Bool:=match t[i]?,u[i]? with
  | some x,some y=>decide (x.links=y.links ∧ x.parent=y.parent)
  | _,_=>false
def A0y (t u:List Nd):Bool:=decide (t.length=u.length) && J3 (W4 t u) t.length 0
def A1J (t u:List Nd):Bool:=A0y t u && J3 (A2T t u) t.length 0
theorem B8o {v w:Val} {t u:List Nd} {h:A0} {q:Nat} (hv:IsTree h v t) (hw:IsTree h w u) (hs:small t) (hl:t.length=u.length):∀ e i M:Nat,i + e=t.length → e < M →
    A9A q M v w (.c (.i .i64 (t.length:Int))) (.c (.i .i64 (i:Int))) h=some (.c (.b (J3 (W4 t u) e i)),h)
  | e,i,0,_,hm=>by omega
  | 0,i,M + 1,hi,hm=>by
    have c0:¬ ((i:Int) < (t.length:Nat)):=by omega
    rw [C1n,J3]
    simp only [B9,D7,c0,decide_false,F1]
  | e + 1,i,M + 1,hi,hm=>by
    have hil:i < t.length:=by omega
    have h6:=hs.1
    have c0:(i:Int) < (t.length:Nat):=by omega
    have w1:=E2 (show i + 1 < 9223372036854775808 by omega)
    obtain ⟨a,cs,a1,a2,a3⟩:=hv.at hil
    obtain ⟨b,ds,b1,b2,b3⟩:=hw.at (show i < u.length by omega)
    have hsm:=hs.2 _ (List.getElem_mem hil)
    have hA:=D3B a3 b3 hsm.1 hsm.2
    have ih:=B8o (q:=q) hv hw hs hl e (i + 1) M (by omega) (by omega)
    have el:W4 t u i=decide (T4 t[i] u[i]):=by unfold W4;rw [List.getElem?_eq_getElem hil,List.getElem?_eq_getElem (show i < u.length by omega)]
    rw [← el] at hA
    rw [C1n,J3]
    cases c:W4 t u i with
    | false =>
      rw [c] at hA
      simp only [B9,D7,c0,decide_true,F6,a1,a2,b1,b2,List.append_nil,hA,S9,Bool.not_false,Bool.false_and]
    | true =>
      rw [c] at hA
      simp only [B9,D7,c0,decide_true,F6,a1,a2,b1,b2,List.append_nil,hA,S9,Bool.not_true,F1,I0,w1,Bool.true_and,ih]
theorem C1m {v w:Val} {t u:List Nd} {h:A0} (hv:IsTree h v t) (hw:IsTree h w u) (hs:small t):A2f [v,w] h=some (.c (.b (A0y t u)),h):=by
  refine C52 (n:=t.length + 1) (h2:=ro h) ?_ rfl
  have l1:=hv.ro.len
  have l2:=hw.ro.len
  rw [C3q]
  unfold A0y
  by_cases c:t.length=u.length
  · have k:=B8o (q:=t.length + 1) hv.ro hw.ro hs c t.length 0 (t.length + 1) (by omega) (by omega)
    rw [← c] at l2
    rw [decide_eq_true c,Bool.true_and]
    simp only [B9,l1,l2,A1i,ne_eq,eq_self,not_true_eq_false,decide_false,F1]
    exact k
  · have c2:¬ ((t.length:Nat):Int)=(u.length:Nat):=by omega
    rw [decide_eq_false c,Bool.false_and]
    simp only [B9,l1,l2,A1i,ne_eq,c2,not_false_eq_true,decide_true,F6]
theorem C0i {v w:Val} {t u:List Nd} {h:A0} {q:Nat} (hv:IsTree h v t) (hw:IsTree h w u) (hs:small t) (hl:t.length=u.length):∀ e i M:Nat,i + e=t.length → e < M →
    A9G q M v w (.c (.i .i64 (t.length:Int))) (.c (.i .i64 (i:Int))) h=some (.c (.b (J3 (A2T t u) e i)),h)
  | e,i,0,_,hm=>by omega
  | 0,i,M + 1,hi,hm=>by
    have c0:¬ ((i:Int) < (t.length:Nat)):=by omega
    rw [C1F,J3]
    simp only [B9,D7,c0,decide_false,F1]
  | e + 1,i,M + 1,hi,hm=>by
    have hil:i < t.length:=by omega
    have h6:=hs.1
    have c0:(i:Int) < (t.length:Nat):=by omega
    have w1:=E2 (show i + 1 < 9223372036854775808 by omega)
    obtain ⟨id,o,cs,a1,_,a3,a4⟩:=W8 hv hil
    obtain ⟨id',o',ds,b1,_,b3,b4⟩:=W8 hw (show i < u.length by omega)
    obtain ⟨x,y,rfl,_,_⟩:=a4
    obtain ⟨x',y',rfl,_,_⟩:=b4
    have g2:=a3 2 _ rfl
    have g3:=a3 3 _ rfl
    have k2:=b3 2 _ rfl
    have k3:=b3 3 _ rfl
    have ih:=C0i (q:=q) hv hw hs hl e (i + 1) M (by omega) (by omega)
    have el:A2T t u i=decide ((t[i]).links=(u[i]).links ∧ (t[i]).parent=(u[i]).parent):=by unfold A2T;rw [List.getElem?_eq_getElem hil,List.getElem?_eq_getElem (show i < u.length by omega)]
    rw [C1F,J3,el]
    by_cases c1:(t[i]).links=(u[i]).links
    · by_cases c2:(t[i]).parent=(u[i]).parent
      · rw [← c1] at k2
        rw [← c2] at k3
        rw [decide_eq_true ⟨c1,c2⟩,Bool.true_and]
        simp only [esc,c0,a1,b1,g2,g3,k2,k3,eq_self,w1,ih]
      · rw [← c1] at k2
        rw [decide_eq_false (fun h=>c2 h.2),Bool.false_and]
        simp only [esc,c0,a1,b1,g2,g3,k2,k3,eq_self,c2]
    · rw [decide_eq_false (fun h=>c1 h.1),Bool.false_and]
      simp only [esc,c0,a1,b1,g2,g3,k2,k3,c1]
theorem C1E {v w:Val} {t u:List Nd} {h:A0} (hv:IsTree h v t) (hw:IsTree h w u) (hs:small t):A3h [v,w] h=some (.c (.b (A1J t u)),h):=by
  refine C56 (n:=t.length + 1) (h2:=ro h) ?_ rfl
  have l1:=hv.ro.len
  have hL:=C1m hv.ro hw.ro hs
  rw [C3s]
  unfold A1J
  cases c:A0y t u with
  | false =>
    rw [c] at hL
    simp only [B9,hL,S9,Bool.not_false,F6,Bool.false_and]
  | true =>
    rw [c] at hL
    have cl:t.length=u.length:=by
      unfold A0y at c
      rw [Bool.and_eq_true] at c
      exact of_decide_eq_true c.1
    have k:=C0i (q:=t.length + 1) hv.ro hw.ro hs cl t.length 0 (t.length + 1) (by omega) (by omega)
    simp only [B9,hL,S9,Bool.not_true,F1,l1,Bool.true_and]
    exact k
end Go.Proofs.YteckncopbicmcaaGreat
end
section
namespace Go.Proofs.YteckncopbicmcaaGreat
open Go Go.Esc
theorem C78 {l:List Ent} {k:Nat} (hk:k < l.length):(D0 l)[k * 2]? = some (.s (G1 l k).1):=by
  have h:=A2D l k hk
  have h2:(((D0 l).drop (k * 2)).take 2)[0]? = some (.s l[k].1):=by rw [h];rfl
  rw [List.getElem?_take,if_pos (by omega),List.getElem?_drop,Nat.add_zero] at h2
  rw [h2,A3v hk]
def A1z (l:List Ent):Bool:=l.any fun x=>decide ((60:Int) < (x.1.length:Int))
theorem B8E {v:Val} {nv q:Nat} {l:List Ent} {h:A0} (hv:Has h v 2 nv (D0 l)) (hn:l.length=nv) (h62:nv < 4611686018427387904):∀ e k m:Nat,k + e=nv → e < m →
    A8e q m v (.c (.i .i64 (k:Int))) h=some (.c (.b (A1z (l.drop k))),h)
  | e,k,0,_,hm=>by omega
  | 0,k,m + 1,hk,hm=>by
    have e0:k=nv:=by omega
    subst e0
    have c0:¬ (k:Int) < k:=by omega
    rw [B6E,List.drop_of_length_le (by omega)]
    simp only [esc,hv.len,c0] <;> rfl
  | e + 1,k,m + 1,hk,hm=>by
    have ih:=B8E (q:=q) hv hn h62 e (k + 1) m (by omega) (by omega)
    have c0:(k:Int) < nv:=by omega
    have hlen:=hv.len
    obtain ⟨id,off,ev,hid,k1,k2⟩:=hv.sl (by omega)
    have eb:B7 2 v (.c (.i .i64 (k:Int)))=some (.c (.p id (off + k * 2))):=by rw [ev,G8 (by omega)]
    have g1:=k1 (k * 2) _ (C78 (by omega))
    have w1:=E2 (show k + 1 < 9223372036854775808 by omega)
    rw [B6E,List.drop_eq_getElem_cons (by omega:k < l.length),show A1z (l[k] :: l.drop (k + 1))=(decide ((60:Int) < (l[k].1.length:Int)) || A1z (l.drop (k + 1))) from rfl,← A3v (by omega)]
    by_cases c:(60:Int) < ((G1 l k).1.length:Int)
    · rw [decide_eq_true c,Bool.true_or]
      simp only [esc,hlen,c0,eb,g1,c]
    · rw [decide_eq_false c,Bool.false_or]
      simp only [esc,hlen,c0,eb,g1,c,w1]
      exact ih
theorem D1p {v:Val} {nv:Nat} {M:Int} {l:List Ent} {h:A0} (hv:Has h v 2 nv (D0 l)) (hM:M < 4611686018427387904):A4I [v,.c (.i .i64 M)] h=some (.c (.b (decide (M < (nv:Int)) || A1z l)),h):=by
  have hn:l.length=nv:=by have:=hv.length;rw [A77] at this;omega
  have key:∃ n g',A6A n [v,.c (.i .i64 M)] (ro h)=some (.c (.b (decide (M < (nv:Int)) || A1z l)),g'):=by
    have hl:=hv.ro.len
    by_cases c:M < (nv:Int)
    · rw [decide_eq_true c,Bool.true_or]
      exact ⟨0,_,by rw [B39];simp only [esc,hl,c] <;> rfl⟩
    · have e:=B8E (q:=nv + 1) hv.ro hn (by omega) nv 0 (nv + 1) (by omega) (by omega)
      rw [List.drop_zero] at e
      rw [decide_eq_false c,Bool.false_or]
      exact ⟨nv + 1,_,by rw [B39];simp only [esc,hl,c];exact e⟩
  obtain ⟨n,g',e⟩:=key
  exact C4i e rfl
end Go.Proofs.YteckncopbicmcaaGreat
end
section
namespace Go.Proofs.YteckncopbicmcaaGreat
open Go Go.Esc
def K5 (o:E9) (x:List UInt8):Bool:=match o.getLast? with | none=>true | some y=>E5 y x
def K2 (o:E9) (a:Option (List UInt8)) (x:List UInt8):Option (List UInt8) :=
  bif K5 o x then (match a with | none=>some x | some y=>bif E5 x y then some x else some y) else a
def A0x (o:E9) (l:E9) (a:Option (List UInt8)):Option (List UInt8):=l.foldl (K2 o) a
theorem C0C {v:Val} {nv q m id:Nat} {l o:E9} {h:A0} (hv:Has h v 1 nv (encS l)) (hn:l.length=nv) (h62:nv < 1073741824) (hb:∀ x ∈ l,x.length < 9223372036854775807) (hr:rd h id=some ⟨encS o,true⟩) (hol:o.length < 9223372036854775808) (hob:∀ x ∈ o,x.length < 9223372036854775807) :
    ∀ (e i m2:Nat) (a:Option (List UInt8)),i + e=nv → e < m2 →
    A8c q m m2 v (.c (.sl id 0 o.length 1)) (.c (.b a.isSome)) (.c (.s (a.getD []))) (.c (.i .i64 i)) h =
      match A0x o (l.drop i) a with
      | none=>some (.c (.sl id 0 o.length 1),h)
      | some y=>bnd (F0 (h ++ [some (Row.mk [.s y] true)]) 1 (.c (.sl id 0 o.length 1)) (.c (.sl h.length 0 1 1))) fun p=>A5D q m v p.1 p.2
  | e,i,0,a,_,hm=>by omega
  | 0,i,m2 + 1,a,hi,hm=>by
    have e0:i=nv:=by omega
    subst e0
    have c0:¬ (i:Int) < i:=by omega
    rw [B6y,List.drop_of_length_le (by omega)]
    unfold A0x
    rw [List.foldl_nil]
    cases a with
    | none=>simp only [esc,hv.len,c0,Option.isSome_none]
    | some y =>
      have ef:A8 [Cell.s []] [(0,1,.c (.s y))]=some [.s y]:=rfl
      simp only [esc,hv.len,c0,Option.isSome_some,Option.getD_some,ef]
  | e + 1,i,m2 + 1,a,hi,hm=>by
    have ih:=fun a=>C0C (q:=q) (m:=m) hv hn h62 hb hr hol hob e (i + 1) m2 a (by omega) (by omega)
    have c0:(i:Int) < nv:=by omega
    have hlen:=hv.len
    obtain ⟨jd,off,ev,hjd,k1,k2⟩:=hv.sl (by omega)
    have hx:=k1 i (.s l[i]) (by rw [A0s,List.getElem?_eq_getElem (by omega)];rfl)
    have eb:B7 1 v (.c (.i .i64 (i:Int)))=some (.c (.p jd (off + i))):=by rw [ev,G8 (by omega)];simp
    have w1:=E2 (show i + 1 < 9223372036854775808 by omega)
    have hxb:=hb l[i] (List.getElem_mem (by omega))
    have ed:A0x o (l.drop i) a=A0x o (l.drop (i + 1)) (K2 o a l[i]):=by
      unfold A0x
      rw [List.drop_eq_getElem_cons (by omega:i < l.length),List.foldl_cons]
    rw [ed,B6y]
    generalize l[i]=s at *
    rcases Nat.eq_zero_or_pos o.length with h0 | h0
    · have eo:o=[]:=List.eq_nil_of_length_eq_zero h0
      subst eo
      have ea:K5 [] s=true:=rfl
      have c1:¬ (0:Int) < ((0:Nat):Int):=by omega
      cases a with
      | none =>
        have es:K2 [] none s=some s:=rfl
        have ih:=ih (some s)
        rw [es]
        simp only [Option.isSome_some,Option.getD_some,Option.isSome_none,Option.getD_none] at ih ⊢
        simp only [esc,hlen,c0,c1,eb,hx,A2F,w1] at ih ⊢
        exact ih
      | some y =>
        have hL:=fun h=>B3c (s:=s) (t:=y) hxb h
        cases cb:E5 s y with
        | true =>
          have es:K2 [] (some y) s=some s:=by unfold K2;rw [ea,cond_true];simp only;rw [cb,cond_true]
          have ih:=ih (some s)
          rw [cb] at hL
          rw [es]
          simp only [Option.isSome_some,Option.getD_some] at ih ⊢
          simp only [esc,hlen,c0,c1,eb,hx,hL,A2F,w1] at ih ⊢
          exact ih
        | false =>
          have es:K2 [] (some y) s=some y:=by unfold K2;rw [ea,cond_true];simp only;rw [cb,cond_false]
          have ih:=ih (some y)
          rw [cb] at hL
          rw [es]
          simp only [Option.isSome_some,Option.getD_some] at ih ⊢
          simp only [esc,hlen,c0,c1,eb,hx,hL,A2F,w1] at ih ⊢
          exact ih
    · have c1:(0:Int) < (o.length:Nat):=by omega
      have w2:IntKind.wrap .i64 ((o.length:Int) - 1)=((o.length - 1:Nat):Int):=by rw [wrap_i64 (by omega) (by omega)];omega
      have eg:o.getLast? = some o[o.length - 1]:=by rw [List.getLast?_eq_getElem?,List.getElem?_eq_getElem (by omega)]
      have ea2:B7 1 (.c (.sl id 0 o.length 1)) (.c (.i .i64 ((o.length - 1:Nat):Int)))=some (.c (.p id (o.length - 1))):=by rw [G8 (by omega)];simp
      have hy:A3 h (.c (.p id (o.length - 1)))=some (.c (.s o[o.length - 1])):=D8 hr (by rw [A0s,List.getElem?_eq_getElem (by omega)];rfl) rfl
      have hL:=fun h=>B3c (s:=o[o.length - 1]) (t:=s) (hob _ (List.getElem_mem (by omega))) h
      have eab:K5 o s=E5 o[o.length - 1] s:=by unfold K5;rw [eg]
      generalize o[o.length - 1]=z at *
      generalize o.length - 1=k at *
      cases ca:E5 z s with
      | false =>
        rw [ca] at hL eab
        have es:K2 o a s=a:=by unfold K2;rw [eab,cond_false]
        rw [es]
        have ih:=ih a
        simp only [esc,hlen,c0,c1,w2,ea2,hy,eb,hx,hL,A2F,w1] at ih ⊢
        exact ih
      | true =>
        rw [ca] at hL eab
        cases a with
        | none =>
          have es:K2 o none s=some s:=by unfold K2;rw [eab,cond_true]
          have ih:=ih (some s)
          rw [es]
          simp only [Option.isSome_some,Option.getD_some,Option.isSome_none,Option.getD_none] at ih ⊢
          simp only [esc,hlen,c0,c1,w2,ea2,hy,eb,hx,hL,A2F,w1] at ih ⊢
          exact ih
        | some y =>
          have hL2:=fun h=>B3c (s:=s) (t:=y) hxb h
          cases cb:E5 s y with
          | true =>
            have es:K2 o (some y) s=some s:=by unfold K2;rw [eab,cond_true];simp only;rw [cb,cond_true]
            have ih:=ih (some s)
            rw [cb] at hL2
            rw [es]
            simp only [Option.isSome_some,Option.getD_some] at ih ⊢
            simp only [esc,hlen,c0,c1,w2,ea2,hy,eb,hx,hL,hL2,A2F,w1] at ih ⊢
            exact ih
          | false =>
            have es:K2 o (some y) s=some y:=by unfold K2;rw [eab,cond_true];simp only;rw [cb,cond_false]
            have ih:=ih (some y)
            rw [cb] at hL2
            rw [es]
            simp only [Option.isSome_some,Option.getD_some] at ih ⊢
            simp only [esc,hlen,c0,c1,w2,ea2,hy,eb,hx,hL,hL2,A2F,w1] at ih ⊢
            exact ih
theorem A8J (o:E9):∀ (l:E9) (y:List UInt8),∃ z,A0x o l (some y)=some z ∧ (z=y ∨ (z ∈ l ∧ K5 o z=true ∧ E5 z y=true)) ∧ ∀ x ∈ l,K5 o x=true → E5 x z=false
  | [],y=>⟨y,rfl,.inl rfl,by simp⟩
  | x :: l,y=>by
    unfold A0x
    rw [List.foldl_cons]
    cases ca:K5 o x with
    | false =>
      have es:K2 o (some y) x=some y:=by unfold K2;rw [ca,cond_false]
      obtain ⟨z,h1,h2,h3⟩:=A8J o l y
      rw [es]
      refine ⟨z,h1,?_,fun w hw haw=>?_⟩
      · rcases h2 with h2 | ⟨h2,h4⟩
        · exact .inl h2
        · exact .inr ⟨List.mem_cons_of_mem _ h2,h4⟩
      · rcases List.mem_cons.1 hw with e | hw
        · subst e;rw [ca] at haw;cases haw
        · exact h3 w hw haw
    | true =>
      cases cb:E5 x y with
      | true =>
        have es:K2 o (some y) x=some x:=by unfold K2;rw [ca,cond_true];simp only;rw [cb,cond_true]
        obtain ⟨z,h1,h2,h3⟩:=A8J o l x
        rw [es]
        refine ⟨z,h1,.inr ?_,fun w hw haw=>?_⟩
        · rcases h2 with h2 | ⟨h2,h4,h5⟩
          · subst h2;exact ⟨List.mem_cons_self ..,ca,cb⟩
          · exact ⟨List.mem_cons_of_mem _ h2,h4,Z5 h5 cb⟩
        · rcases List.mem_cons.1 hw with e | hw
          · subst e
            rcases h2 with h2 | ⟨_,_,h5⟩
            · subst h2;exact A0W _
            · cases c:E5 w z with
              | false=>rfl
              | true=>have:=Z5 c h5;rw [A0W] at this;cases this
          · exact h3 w hw haw
      | false =>
        have es:K2 o (some y) x=some y:=by unfold K2;rw [ca,cond_true];simp only;rw [cb,cond_false]
        obtain ⟨z,h1,h2,h3⟩:=A8J o l y
        rw [es]
        refine ⟨z,h1,?_,fun w hw haw=>?_⟩
        · rcases h2 with h2 | ⟨h2,h4⟩
          · exact .inl h2
          · exact .inr ⟨List.mem_cons_of_mem _ h2,h4⟩
        · rcases List.mem_cons.1 hw with e | hw
          · subst e
            rcases h2 with h2 | ⟨_,_,h5⟩
            · subst h2;exact cb
            · cases c:E5 w z with
              | false=>rfl
              | true=>have:=Z5 c h5;rw [cb] at this;cases this
          · exact h3 w hw haw
theorem B8j (o:E9):∀ l:E9,(A0x o l none=none ∧ ∀ x ∈ l,K5 o x=false) ∨ ∃ z,A0x o l none=some z ∧ z ∈ l ∧ K5 o z=true ∧ ∀ x ∈ l,K5 o x=true → E5 x z=false
  | []=>.inl ⟨rfl,by simp⟩
  | x :: l=>by
    unfold A0x
    rw [List.foldl_cons]
    cases ca:K5 o x with
    | false =>
      have es:K2 o none x=none:=by unfold K2;rw [ca,cond_false]
      rw [es]
      rcases B8j o l with ⟨h1,h2⟩ | ⟨z,h1,h2,h3,h4⟩
      · exact .inl ⟨h1,fun w hw=>by rcases List.mem_cons.1 hw with e | hw;subst e;exact ca;exact h2 w hw⟩
      · exact .inr ⟨z,h1,List.mem_cons_of_mem _ h2,h3,fun w hw haw=>by
          rcases List.mem_cons.1 hw with e | hw
          · subst e;rw [ca] at haw;cases haw
          · exact h4 w hw haw⟩
    | true =>
      have es:K2 o none x=some x:=by unfold K2;rw [ca,cond_true]
      rw [es]
      obtain ⟨z,h1,h2,h3⟩:=A8J o l x
      refine .inr ⟨z,h1,?_⟩
      rcases h2 with h2 | ⟨h2,h4,h5⟩
      · subst h2
        exact ⟨List.mem_cons_self ..,ca,fun w hw haw=>by
          rcases List.mem_cons.1 hw with e | hw
          · subst e;exact A0W _
          · exact h3 w hw haw⟩
      · exact ⟨List.mem_cons_of_mem _ h2,h4,fun w hw haw=>by
          rcases List.mem_cons.1 hw with e | hw
          · subst e
            cases c:E5 w z with
            | false=>rfl
            | true=>have:=Z5 c h5;rw [A0W] at this;cases this
          · exact h3 w hw haw⟩
def Part (l o:E9):Prop:=Up o ∧ (∀ x ∈ o,x ∈ l) ∧ ∀ x ∈ l,K5 o x=false → x ∈ o
theorem B1i {o:E9} {z x:List UInt8}:K5 (o ++ [z]) x=E5 z x:=by unfold K5;simp
theorem D3N {o:E9} {z x:List UInt8} (ho:Up o) (ha:K5 o z=true) (hx:x ∈ o):E5 x z=true:=by
  unfold K5 at ha
  cases hg:o.getLast? with
  | none=>rw [List.getLast?_eq_none_iff] at hg;subst hg;cases hx
  | some y =>
    rw [hg] at ha
    obtain ⟨ini,rfl⟩:=List.getLast?_eq_some_iff.1 hg
    rcases List.mem_append.1 hx with h | h
    · have:=(List.pairwise_append.1 ho).2.2 x h y (by simp)
      exact Z5 this ha
    · simp at h;subst h;exact ha
theorem D0U {l o:E9} {z:List UInt8} (hp:Part l o) (hz:z ∈ l) (ha:K5 o z=true) (hm:∀ x ∈ l,K5 o x=true → E5 x z=false):Part l (o ++ [z]):=by
  obtain ⟨h1,h2,h3⟩:=hp
  refine ⟨?_,?_,?_⟩
  · show List.Pairwise _ _;rw [List.pairwise_append]
    exact ⟨h1,by simp,fun x hx y hy=>by simp at hy;subst hy;exact D3N h1 ha hx⟩
  · intro x hx
    rcases List.mem_append.1 hx with h | h
    · exact h2 x h
    · simp at h;subst h;exact hz
  · intro x hx hab
    rw [B1i] at hab
    cases c:K5 o x with
    | false=>exact List.mem_append_left _ (h3 x hx c)
    | true =>
      have k:=hm x hx c
      rcases B1x x z with h | h | h
      · rw [h] at k;cases k
      · subst h;simp
      · rw [h] at hab;cases hab
def A3B (l o:E9):Nat:=(l.filter (K5 o)).length
theorem filter_lt {α:Type} {p r:α → Bool}:∀ {l:List α} {z:α},(∀ x ∈ l,p x=true → r x=true) → z ∈ l → p z=false → r z=true → (l.filter p).length < (l.filter r).length
  | [],z,_,hz,_,_=>by cases hz
  | x :: l,z,h,hz,hp,hr=>by
    have hle:∀ {l:List α},(∀ x ∈ l,p x=true → r x=true) → (l.filter p).length ≤ (l.filter r).length:=by
      intro l
      induction l with
      | nil=>intro _;simp
      | cons y l ih =>
        intro h
        have h1:=ih fun x hx=>h x (List.mem_cons_of_mem _ hx)
        have h2:=h y (List.mem_cons_self ..)
        simp only [List.filter_cons]
        cases hy:p y with
        | true=>rw [h2 hy];simpa using h1
        | false=>cases r y <;> simp <;> omega
    have h1:=h x (List.mem_cons_self ..)
    have h':∀ y ∈ l,p y=true → r y=true:=fun y hy=>h y (List.mem_cons_of_mem _ hy)
    rcases List.mem_cons.1 hz with e | hz
    · subst e
      have:=hle h'
      simp only [List.filter_cons,hp,hr,if_true,List.length_cons]
      simp;omega
    · have ih:=filter_lt h' hz hp hr
      simp only [List.filter_cons]
      cases hx:p x with
      | true=>rw [h1 hx];simpa using ih
      | false=>cases r x <;> simp <;> omega
theorem C9O {l o:E9} {z:List UInt8} (hz:z ∈ l) (ha:K5 o z=true):A3B l (o ++ [z]) < A3B l o:=by
  refine filter_lt (z:=z) (fun x hx h=>?_) hz (by rw [B1i,A0W]) ha
  rw [B1i] at h
  unfold K5 at ha ⊢
  cases hg:o.getLast? with
  | none=>rfl
  | some y=>rw [hg] at ha;exact Z5 ha h
theorem C0D {v:Val} {nv q:Nat} {l:E9} {g:A0} (hq:nv < q) (hv:Has g v 1 nv (encS l)) (hn:l.length=nv) (h62:nv < 1073741824) (hb:∀ x ∈ l,x.length < 9223372036854775807) :
    ∀ (f m:Nat) (o:E9) (h:A0) (id:Nat),A3B l o ≤ f → f < m → o.length + A3B l o ≤ nv → Part l o → Low g.length g h → g.length ≤ id → rd h id=some ⟨encS o,true⟩ →
    ∃ v2 h2,A5D q m v (.c (.sl id 0 o.length 1)) h=some (v2,h2) ∧ Out g.length h2 v2 1 (J8 l).length (encS (J8 l))
  | f,0,o,h,id,_,hm,_,_,_,_,_=>by omega
  | f,m + 1,o,h,id,hf,hm,hol,hp,hlow,hid,hr=>by
    have e1:=C0C (q:=q) (m:=m) (hv.since hlow) hn h62 hb hr (by omega) (fun x hx=>hb x (hp.2.1 x hx)) nv 0 q none (by omega) hq
    rw [List.drop_zero] at e1
    rw [C8k]
    simp only [Option.isSome_none,Option.getD_none] at e1
    rw [show (((0:Nat):Int))=0 from rfl] at e1
    rcases B8j o l with ⟨k1,k2⟩ | ⟨z,k1,k2,k3,k4⟩
    · rw [k1] at e1
      have eo:o=J8 l:=D3M hp.1 (C0B l) fun x=>by
        rw [B3u]
        exact ⟨hp.2.1 x,fun hx=>hp.2.2 x hx (k2 x hx)⟩
      rw [← eo]
      exact ⟨_,_,e1,by rw [K0];omega,_,rfl,hid,hr⟩
    · rw [k1] at e1
      have hlt:=C9O k2 k3 (o:=o)
      obtain ⟨h1,a1,a2,a3,a4,a5⟩:=push (ys:=[.s z]) (sz:=1) (n:=o.length) hlow hr (by rw [K0];omega) hid rfl (by omega) (by omega)
      have he:encS o ++ [.s z]=encS (o ++ [z]):=by simp [encS]
      rw [he] at a2
      have el:(o ++ [z]).length=o.length + 1:=by simp
      obtain ⟨v2,h2,f1,f2⟩:=C0D hq hv hn h62 hb (f - 1) m (o ++ [z]) h1 (h.length + 1) (by omega) (by omega) (by omega) (D0U hp k2 k3 k4) a3 a4 a2
      rw [el] at f1
      refine ⟨v2,h2,?_,f2⟩
      rw [e1]
      simp only [a1,B9]
      exact f1
theorem D1n {v:Val} {nv:Nat} {l:E9} {h:A0} (hv:Has h v 1 nv (encS l)) (h62:nv < 1073741824) (hb:∀ x ∈ l,x.length < 9223372036854775807) :
    A12 [v] h=some (.c (.sl h.length 0 (J8 l).length 1),h ++ [some ⟨encS (J8 l),true⟩]):=by
  have hn:l.length=nv:=by simpa [K0] using hv.length
  have key:∀ N,nv < N → ∀ g,Has g v 1 nv (encS l) → ∃ v2 g',A6z N [v] g=some (v2,g') ∧ Out g.length g' v2 1 (J8 l).length (encS (J8 l)):=by
    intro N hN g hv
    have hf:A3B l []=nv:=by
      unfold A3B
      have e:l.filter (K5 [])=l:=List.filter_eq_self.2 fun x _=>rfl
      rw [e,hn]
    obtain ⟨v2,g',f1,f2⟩:=C0D (q:=N) hN hv hn h62 hb nv N [] ((g ++ [some (Row.mk [] true)]) ++ [some (Row.mk [] true)]) (g.length + 1) (by omega) hN (by simp;omega)
      ⟨List.Pairwise.nil,by simp,fun x _ h=>by cases h⟩ (((Low.refl (Nat.le_refl _)).new _).new _) (by omega) (by simp [encS])
    rw [C2n]
    refine ⟨v2,g',?_,f2⟩
    simpa using f1
  obtain ⟨v2,g',e,ho⟩:=key (nv + 1) (by omega) (ro h) hv.ro
  exact C4f e (by simpa [M9] using ho) (by simp)
end Go.Proofs.YteckncopbicmcaaGreat
end
