/- What the proof of this claim leans on, part 4. -/
import Derived.Test.YteckncopbicmcaaGreatFTreeTellsp3
set_option linter.all false
section
namespace Go.Proofs.YteckncopbicmcaaGreat
open Go Go.Esc
def A1u (c:UInt8):Bool:=!(decide ((c.toNat:Int)=0) || decide ((c.toNat:Int)=47))
def V2 (s:List UInt8):Bool:=!(decide ((s.length:Int) < 1) || decide (24 < (s.length:Int)) || decide (s=[46]) || decide (s=[46,46])) && s.all A1u
theorem A8n {s:List UInt8} (h:V2 s=true):1 ≤ s.length ∧ s.length ≤ 24:=by
  unfold V2 at h
  simp at h
  omega
theorem B5U (s:List UInt8) (hs:s.length < 9223372036854775807) (n:Nat) (h:A0):∀ d i m:Nat,i + d=s.length → d < m →
    A8U n m (.c (.s s)) (.c (.i .i64 s.length)) (.c (.i .i64 i)) h=some (.c (.i .i64 (bif (s.drop i).all A1u then 0 else 3)),h)
  | d,i,0,_,hm=>by omega
  | 0,i,m + 1,hi,hm=>by
    have c0:¬ ((i:Int) < s.length):=by omega
    rw [B8K,show s.drop i=[] from List.drop_of_length_le (by omega)]
    simp only [esc,c0,List.all_nil]
  | d + 1,i,m + 1,hi,hm=>by
    have h1:(i:Int) < s.length:=by omega
    have h2:i < s.length:=by omega
    have ih:=B5U s hs n h d (i + 1) m (by omega) (by omega)
    rw [B8K,List.drop_eq_getElem_cons h2,List.all_cons]
    by_cases c1:(s[i].toNat:Int)=0
    · have f:A1u s[i]=false:=by unfold A1u;rw [decide_eq_true c1];rfl
      simp only [esc,h1,A03 h2,c1,f,Bool.false_and]
    · by_cases c2:(s[i].toNat:Int)=47
      · have f:A1u s[i]=false:=by unfold A1u;rw [decide_eq_true c2];simp
        simp only [esc,h1,A03 h2,c1,c2,f,Bool.false_and,Int.reduceEq]
      · have f:A1u s[i]=true:=by unfold A1u;rw [decide_eq_false c1,decide_eq_false c2];rfl
        simp only [esc,h1,A03 h2,c1,c2,f,Bool.true_and,E2 (show i + 1 < 9223372036854775808 by omega)]
        exact ih
theorem B1H {s:List UInt8} (hs:s.length < 9223372036854775807) (h:A0):A2b [.c (.s s)] h=some (.c (.i .i64 (bif V2 s then 0 else 3)),h):=by
  refine C5j (n:=s.length + 1) (h2:=ro h) ?_ rfl
  rw [C2Z]
  have hl:=B5U s hs (s.length + 1) (ro h) s.length 0 (s.length + 1) (by omega) (by omega)
  rw [List.drop_zero] at hl
  unfold V2
  by_cases c1:(s.length:Int) < 1
  · simp only [esc,c1,Bool.true_or,Bool.false_and]
  · by_cases c2:(24:Int) < s.length
    · simp only [esc,c1,c2,Bool.true_or,Bool.false_and,Bool.or_true]
    · by_cases c3:s=[46]
      · subst c3;simp only [esc];rfl
      · by_cases c4:s=[46,46]
        · subst c4;simp only [esc];rfl
        · simp only [esc,c1,c2,c3,c4,Bool.or_self,Bool.true_and]
          exact hl
def V6 (s:List UInt8) (i:Nat):List UInt8:=UInt8.ofNat s.length :: (s.take i ++ zeros (24 - i))
def M8 (s:List UInt8):List UInt8:=bif V2 s then V6 s s.length else zeros 25
theorem B21 {s:List UInt8} {i:Nat} (hi:i ≤ s.length) (hs:s.length ≤ 24):(V6 s i).length=25:=by
  unfold V6
  rw [List.length_cons,List.length_append,zeros_length,List.length_take]
  omega
theorem A50 {s:List UInt8}:(M8 s).length=25:=by
  unfold M8
  cases hf:V2 s with
  | false=>exact zeros_length
  | true=>exact B21 (Nat.le_refl _) (A8n hf).2
theorem D0R {s:List UInt8} {i:Nat} (hi:i < s.length) (hs:s.length ≤ 24):(V6 s i).set (1 + i) s[i]=V6 s (i + 1):=by
  unfold V6
  rw [Nat.add_comm 1 i,List.set_cons_succ]
  refine congrArg (UInt8.ofNat s.length :: ·) ?_
  have hlen:(List.take i s).length=i:=by simp;omega
  rw [List.set_append_right _ _ (by omega),hlen,Nat.sub_self,List.take_succ_eq_append_getElem hi,List.append_assoc]
  refine congrArg (List.take i s ++ ·) ?_
  have e:24 - i=(24 - (i + 1)) + 1:=by omega
  rw [e]
  unfold zeros
  rw [List.replicate_succ,List.set_cons_zero];rfl
theorem B9E (s:List UInt8) (hs:s.length ≤ 24) (h:A0) (c2:List Cell) (l2:c2.length=25) (n:Nat):∀ d i m:Nat,i + d=s.length → d < m →
    A8V n m (.c (.s s)) (.c (.p h.length 0)) (.c (.p (h.length + 1) 0)) (.c (.i .i64 s.length)) (.c (.i .i64 i)) (h ++ [some ⟨c2,true⟩,some ⟨A1 (V6 s i),true⟩]) =
      some (.t [.a (A1 (V6 s s.length)),.c (.i .i64 0)],h ++ [some ⟨A1 (V6 s s.length),true⟩,some ⟨A1 (V6 s s.length),true⟩])
  | d,i,0,_,hm=>by omega
  | 0,i,m + 1,hi,hm=>by
    have h1:¬ ((i:Int) < s.length):=by omega
    have e:i=s.length:=by omega
    subst e
    have hl:(A1 (V6 s s.length)).length=25:=by rw [B5];exact B21 (Nat.le_refl _) hs
    rw [B8N]
    simp only [esc,esh,Nat.reduceAdd,Nat.reduceMul,Nat.reduceLT,h1,hl,l2]
  | d + 1,i,m + 1,hi,hm=>by
    have h1:(i:Int) < s.length:=by omega
    have h3:i < s.length:=by omega
    have hl:(A1 (V6 s i)).length=25:=by rw [B5];exact B21 (by omega) hs
    have ih:=B9E s hs h c2 l2 n d (i + 1) m (by omega) (by omega)
    have e1:IntKind.wrap .i64 (1 + (i:Int))=((1 + i:Nat):Int):=by rw [wrap_i64 (by omega) (by omega)];omega
    have ea:E1 25 1 (.c (.p (h.length + 1) 0)) (.c (.i .i64 ((1 + i:Nat):Int)))=some (.c (.p (h.length + 1) (1 + i))):=by rw [T3 (by omega)];simp
    have ho:1 + i < (A1 (V6 s i)).length:=by omega
    rw [B8N]
    simp only [esc,esh,Nat.reduceAdd,Nat.reduceMul,Nat.reduceLT,h1,e1,A03 h3,ea,ho,A0r,D0R h3 hs,E2 (show i + 1 < 9223372036854775808 by omega)]
    exact ih
theorem B9D {s:List UInt8} (hs:s.length < 9223372036854775807) (h:A0) :
    A2c [.c (.s s)] h=some (.t [.a (A1 (M8 s)),.c (.i .i64 (bif V2 s then 0 else 3))],h):=by
  have key:∀ g,∃ g',A63 (s.length + 1) [.c (.s s)] g=some (.t [.a (A1 (M8 s)),.c (.i .i64 (bif V2 s then 0 else 3))],g'):=by
    intro g
    have hz:=M1 25
    have hl:(A1 (zeros 25)).length=25:=by rw [B5];exact zeros_length
    rw [C21,hz]
    unfold M8
    cases hf:V2 s with
    | false =>
      generalize zeros 25=Z at *
      exact ⟨_,by simp only [esc,esh,Nat.reduceAdd,Nat.reduceMul,Nat.reduceLT,B1H hs,hf,hl,Int.reduceEq] <;> rfl⟩
    | true =>
      have hs24:=(A8n hf).2
      have e0:(A1 (zeros 25)).set 0 (.i .u8 (IntKind.wrap .u8 s.length))=A1 (V6 s 0):=by
        rw [wrap_u8 (by omega) (by omega)]
        have:((s.length:Nat):Int)=((UInt8.ofNat s.length).toNat:Int):=by rw [UInt8.toNat_ofNat'];omega
        rw [this,A0r]
        rfl
      have:=B9E s hs24 g (A1 (zeros 25)) hl (s.length + 1) s.length 0 (s.length + 1) (by omega) (by omega)
      rw [← e0] at this
      generalize zeros 25=Z at *
      have a0:E1 25 1 (.c (.p (g.length + 1) 0)) (.c (.i .i64 0))=some (.c (.p (g.length + 1) 0)):=rfl
      have ho:0 < (A1 Z).length:=by omega
      exact ⟨_,by simp only [esc,esh,Nat.reduceAdd,Nat.reduceMul,Nat.reduceLT,B1H hs,hf,a0,ho];exact this⟩
  obtain ⟨g',e⟩:=key (ro h)
  exact C5m e (by simp)
def A0E (l:List UInt8):Option (List UInt8) :=
  if (l.headD 0).toNat ≤ 24 then
    if V2 ((l.drop 1).take (l.headD 0).toNat)=true ∧ M8 ((l.drop 1).take (l.headD 0).toNat)=l then some ((l.drop 1).take (l.headD 0).toNat) else none
  else none
theorem D3L {l:List UInt8} (hl:l.length=25) (h:A0) :
    A46 [.a (A1 l)] h=some (.t [.c (.s ((A0E l).getD [])),.c (.i .i64 (if (A0E l).isSome then 0 else 3))],h):=by
  have key:∀ g,∃ g',A66 0 [.a (A1 l)] g=some (.t [.c (.s ((A0E l).getD [])),.c (.i .i64 (if (A0E l).isSome then 0 else 3))],g'):=by
    intro g
    obtain ⟨x,r,rfl⟩:∃ x r,l=x :: r:=by
      cases l with
      | nil=>simp at hl
      | cons x r=>exact ⟨x,r,rfl⟩
    have hx:=x.toNat_lt
    rw [C24]
    have a0:E1 25 1 (.c (.p g.length 0)) (.c (.i .i64 0))=some (.c (.p g.length 0)):=rfl
    have l0:(A1 (x :: r))[0]? = some (.i .u8 x.toNat):=rfl
    have e1:IntKind.wrap .i64 (x.toNat:Int)=x.toNat:=wrap_i64 (by omega) (by omega)
    have hle:(A1 (x :: r)).length=25:=by rw [B5,hl]
    unfold A0E
    simp only [List.headD_cons,List.drop_succ_cons,List.drop_zero]
    by_cases c1:x.toNat ≤ 24
    · rw [if_pos c1]
      have c1':¬ (24:Int) < x.toNat:=by omega
      have e2:IntKind.wrap .i64 (1 + (x.toNat:Int))=((1 + x.toNat:Nat):Int):=by rw [wrap_i64 (by omega) (by omega)];omega
      have e3:=D2v (h:=g) (l:=[some ⟨A1 (x :: r),true⟩]) (k:=0) (n:=25) (a:=1) (b:=1 + x.toNat) (cs:=A1 (x :: r)) rfl hle (by omega) (by omega)
      rw [Nat.add_zero,show 1 + x.toNat - 1=x.toNat by omega,show ((1:Nat):Int)=1 from rfl] at e3
      have hh:Has (g ++ [some ⟨A1 (x :: r),true⟩]) (.c (.sl g.length 1 x.toNat 1)) 1 x.toNat (A1 (r.take x.toNat)):=Has.part E8 (by omega) (by
        rw [C7Z,C71];simp) (O6 _)
      have hs:(r.take x.toNat).length < 9223372036854775807:=by simp;omega
      have hp:=B9D hs (g ++ [some ⟨A1 (x :: r),true⟩])
      have hpl:(A1 (M8 (r.take x.toNat))).length=25:=by rw [B5,A50]
      have hz:(List.replicate 25 (Cell.i .u8 0)).length=25:=List.length_replicate
      have hq:=A7D (l:=M8 (r.take x.toNat)) (m:=x :: r) A50 hl
      generalize List.replicate 25 (Cell.i .u8 0)=z at *
      cases hf:V2 (r.take x.toNat) with
      | false =>
        rw [hf] at hp
        rw [if_neg (by simp)]
        exact ⟨_,by simp only [esc,esh,Nat.reduceAdd,Nat.reduceMul,Nat.reduceLT,a0,l0,e1,c1',e2,e3,hh.str,hp,hpl,hz,Int.reduceEq,Option.getD_none,Option.isSome_none,Bool.false_eq_true] <;> rfl⟩
      | true =>
        rw [hf] at hp
        by_cases c2:M8 (r.take x.toNat)=x :: r
        · rw [if_pos ⟨rfl,c2⟩]
          exact ⟨_,by simp only [esc,esh,Nat.reduceAdd,Nat.reduceMul,Nat.reduceLT,a0,l0,e1,c1',e2,e3,hh.str,hp,hpl,hz,hle,hq,decide_eq_true c2,Int.reduceEq,Option.getD_some,Option.isSome_some,Bool.false_eq_true] <;> rfl⟩
        · rw [if_neg (fun h=>c2 h.2)]
          exact ⟨_,by simp only [esc,esh,Nat.reduceAdd,Nat.reduceMul,Nat.reduceLT,a0,l0,e1,c1',e2,e3,hh.str,hp,hpl,hz,hle,hq,decide_eq_false c2,Int.reduceEq,Option.getD_none,Option.isSome_none,Bool.false_eq_true] <;> rfl⟩
    · rw [if_neg c1]
      have c1':(24:Int) < x.toNat:=by omega
      exact ⟨_,by simp only [esc,esh,Nat.reduceAdd,Nat.reduceMul,Nat.reduceLT,a0,l0,e1,c1',Option.getD_none,Option.isSome_none,Bool.false_eq_true] <;> rfl⟩
  obtain ⟨g',e⟩:=key (ro h)
  exact C5q e (by simp)
end Go.Proofs.YteckncopbicmcaaGreat
end
noncomputable section
namespace Go.Proofs.YteckncopbicmcaaGreat
open Go Go.Esc
set_option maxRecDepth 100000
def A_bucket_head:AFn:=⟨.seq [0] (.ops [aO 0 (.alloc (List.replicate 256 (.i .u8 0)))]) (.seq [0] (.ops [aO 1 (.buildSl 1 4 ([.i .u8 0,.i .u8 0,.i .u8 0,.i .u8 0]) [(0,1,(.v (.c (.i .u8 98)))),(1,1,(.v (.c (.i .u8 107)))),(2,1,(.v (.c (.i .u8 116)))),(3,1,(.v (.c (.i .u8 33))))]),aO 2 (.mark (.t 1)),aO 3 (.call 212 [(.t 2)]),aN (.storeN 256 (.t 0) (.t 3))]) .ret),[.cellN 0 256]⟩
def A9U:B0:=B1 212 Z0 C0
def A6p (n:Nat) (args:List Val) (h:A0):A6:=ax A9U n A_bucket_head.code A_bucket_head.fin (params 0 args) h
theorem C18 (n:Nat) (h:A0):A6p n [] h=bnd (A8 ([.i .u8 0,.i .u8 0,.i .u8 0,.i .u8 0]) [(0,1,.c (.i .u8 98)),(1,1,.c (.i .u8 107)),(2,1,.c (.i .u8 116)),(3,1,.c (.i .u8 33))]) fun c1=>bnd (U8 ((h ++ [some (Row.mk (List.replicate 256 (.i .u8 0)) true)]) ++ [some (Row.mk (c1) true)]) (.c (.sl (h ++ [some (Row.mk (List.replicate 256 (.i .u8 0)) true)]).length 0 4 1))) fun v2=>bnd (Z0 [v2] ((h ++ [some (Row.mk (List.replicate 256 (.i .u8 0)) true)]) ++ [some (Row.mk (c1) true)])) fun p3=>bnd (B4 p3.2 256 (.c (.p h.length 0)) p3.1) fun h4=>mp (A4 h4 256 (.c (.p h.length 0))) fun v=>(v,h4):=by kernel_rfl
theorem K_bucket_head:FnK Tryz.prog 217 A_bucket_head A9U A6p:=.mk' (B3 A7y C2) Tryz.func217 (by kernel_rfl) (fun _ _ _=>C1)
def A4z:Fun:=tidy (Lim A_bucket_head A9U)
theorem C3O:SOk Tryz.prog 217 A4z:=K_bucket_head.sok
theorem C3N:C9 A6p A4z:=K_bucket_head.flat
def A_bucket_may:AFn:=⟨.seq [1] (.ops [aO 1 (.box (.t 0)),aO 2 (.mv (.v (.c (.b false))))]) (.seq [2] (.ops [aO 3 (.fAddr (.t 1) 0),aO 4 (.load1 (.t 3)),aO 5 (.call 250 [(.t 4)]),aO 6 (.bin .eql (.t 5) (.v (.c (.i .i64 0)))),aO 7 (.mv (.t 6)),aG 8 7 true (.fAddr (.t 1) 1),aG 9 7 true (.load1 (.t 8)),aG 10 7 true (.bin .geq (.t 9) (.v (.c (.i .i64 1)))),aO 11 (.pick (.t 7) (.t 10) (.v (.c (.b false)))),aO 12 (.mv (.t 11)),aG 13 12 true (.fAddr (.t 1) 1),aG 14 12 true (.load1 (.t 13)),aG 15 12 true (.bin .leq (.t 14) (.v (.c (.i .i64 128)))),aO 16 (.pick (.t 12) (.t 15) (.v (.c (.b false)))),aO 2 (.mv (.t 16))]) .ret),[.tmp 2]⟩
def A9V:B0:=B1 250 A2b C0
def A6q (n:Nat) (args:List Val) (h:A0):A6:=ax A9V n A_bucket_may.code A_bucket_may.fin (params 0 args) h
theorem C19 (n:Nat) (a0:Val) (h:A0):A6q n [a0] h=bnd (cells? a0) fun c1=>bnd (A7 (.c (.p h.length 0)) 0) fun v2=>bnd (A3 (h ++ [some (Row.mk (c1) true)]) v2) fun v3=>bnd (A2b [v3] (h ++ [some (Row.mk (c1) true)])) fun p4=>bnd (A2 .eql p4.1 (.c (.i .i64 0))) fun v5=>bnd (gd v5 true (bnd (A7 (.c (.p h.length 0)) 1) fun v6=>some (v6,p4.2)) (some (.no,p4.2))) fun p7=>bnd (gd v5 true (bnd (A3 p7.2 p7.1) fun v8=>some (v8,p7.2)) (some (.no,p7.2))) fun p9=>bnd (gd v5 true (bnd (A2 .geq p9.1 (.c (.i .i64 1))) fun v10=>some (v10,p9.2)) (some (.no,p9.2))) fun p11=>bnd (C4 v5 p11.1 (.c (.b false))) fun v12=>bnd (gd v12 true (bnd (A7 (.c (.p h.length 0)) 1) fun v13=>some (v13,p11.2)) (some (.no,p11.2))) fun p14=>bnd (gd v12 true (bnd (A3 p14.2 p14.1) fun v15=>some (v15,p14.2)) (some (.no,p14.2))) fun p16=>bnd (gd v12 true (bnd (A2 .leq p16.1 (.c (.i .i64 128))) fun v17=>some (v17,p16.2)) (some (.no,p16.2))) fun p18=>bnd (C4 v12 p18.1 (.c (.b false))) fun v19=>some (v19,p18.2):=by kernel_rfl
theorem K_bucket_may:FnK Tryz.prog 218 A_bucket_may A9V A6q:=.mk' (B3 B4u C2) Tryz.func218 (by kernel_rfl) (fun _ _ _=>C1)
def A1Y:Fun:=tidy (Lim A_bucket_may A9V)
theorem B4i:SOk Tryz.prog 218 A1Y:=K_bucket_may.sok
theorem C3P:C9 A6q A1Y:=K_bucket_may.flat
def A_bucket_first:AFn:=⟨.seq [0] (.ops [aO 2 (.mv (.v (.c (.i .i64 0))))]) (.seq [2] (.ops [aO 3 (.mv (.t 0)),aO 4 (.bin .add (.t 3) (.v (.c (.i .i64 1)))),aO 5 (.bin .mul (.v (.c (.i .i64 32))) (.t 4)),aO 2 (.mv (.t 5))]) .ret),[.tmp 2]⟩
def A9T:B0:=C0
def A6o (n:Nat) (args:List Val) (h:A0):A6:=ax A9T n A_bucket_first.code A_bucket_first.fin (params 0 args) h
theorem C17 (n:Nat) (a0:Val) (h:A0):A6o n [a0] h=bnd (A2 .add a0 (.c (.i .i64 1))) fun v1=>bnd (A2 .mul (.c (.i .i64 32)) v1) fun v2=>some (v2,h):=by kernel_rfl
theorem K_bucket_first:FnK Tryz.prog 219 A_bucket_first A9T A6o:=.mk' (C2) Tryz.func219 (by kernel_rfl) (fun _ _ _=>C1)
def A0K:Fun:=tidy (Lim A_bucket_first A9T)
theorem B4h:SOk Tryz.prog 219 A0K:=K_bucket_first.sok
theorem C3M:C9 A6o A0K:=K_bucket_first.flat
def A_bucket_written:AFn:=⟨.seq [1] (.ops [aO 1 (.box (.t 0)),aO 2 (.nilrow 1)]) (.seq [1,3] (.ops [aO 6 (.fAddr (.t 1) 1),aO 7 (.load1 (.t 6)),aO 8 (.conv .u8 (.t 7)),aO 9 (.fAddr (.t 1) 1),aO 10 (.load1 (.t 9)),aO 11 (.bin .shr (.t 10) (.v (.c (.i .u64 8)))),aO 12 (.conv .u8 (.t 11)),aO 13 (.buildSl 1 2 ([.i .u8 0,.i .u8 0]) [(0,1,(.t 8)),(1,1,(.t 12))]),aO 3 (.mv (.t 13))]) (.seq [3,4] (.ops [aO 15 (.fAddr (.t 1) 0),aO 16 (.load1 (.t 15)),aO 17 (.call 251 [(.t 16)]),aO 14 (.mv (.t 17)),aO 18 (.ext (.t 14) 0),aO 19 (.ext (.t 14) 1),aO 4 (.alloc (List.replicate 25 (.i .u8 0))),aN (.storeN 25 (.t 4) (.t 18)),aO 5 (.mv (.t 19))]) (.seq [3] (.ops [aO 20 (.mv (.t 3)),aO 21 (.slA 25 1 (.t 4) none none),aO 22 (.app 1 (.t 20) (.t 21)),aO 3 (.mv (.t 22))]) (.seq [2] (.ops [aO 23 (.mv (.t 3)),aO 24 (.buildSl 1 5 ([.i .u8 0,.i .u8 0,.i .u8 0,.i .u8 0,.i .u8 0]) [(0,1,(.v (.c (.i .u8 0)))),(1,1,(.v (.c (.i .u8 0)))),(2,1,(.v (.c (.i .u8 0)))),(3,1,(.v (.c (.i .u8 0)))),(4,1,(.v (.c (.i .u8 0))))]),aO 25 (.app 1 (.t 23) (.t 24)),aO 2 (.mv (.t 25))]) .ret)))),[.tmp 2]⟩
def A9W:B0:=B1 251 A2c C0
def A6s (n:Nat) (args:List Val) (h:A0):A6:=ax A9W n A_bucket_written.code A_bucket_written.fin (params 0 args) h
theorem C2b (n:Nat) (a0:Val) (h:A0):A6s n [a0] h=bnd (cells? a0) fun c1=>bnd (A7 (.c (.p h.length 0)) 1) fun v2=>bnd (A3 ((h ++ [some (Row.mk (c1) true)]) ++ [some (Row.mk ([]) true)]) v2) fun v3=>bnd (L6 .u8 v3) fun v4=>bnd (A7 (.c (.p h.length 0)) 1) fun v5=>bnd (A3 ((h ++ [some (Row.mk (c1) true)]) ++ [some (Row.mk ([]) true)]) v5) fun v6=>bnd (A2 .shr v6 (.c (.i .u64 8))) fun v7=>bnd (L6 .u8 v7) fun v8=>bnd (A8 ([.i .u8 0,.i .u8 0]) [(0,1,v4),(1,1,v8)]) fun c9=>bnd (A7 (.c (.p h.length 0)) 0) fun v10=>bnd (A3 (((h ++ [some (Row.mk (c1) true)]) ++ [some (Row.mk ([]) true)]) ++ [some (Row.mk (c9) true)]) v10) fun v11=>bnd (A2c [v11] (((h ++ [some (Row.mk (c1) true)]) ++ [some (Row.mk ([]) true)]) ++ [some (Row.mk (c9) true)])) fun p12=>bnd (C5 p12.1 0) fun v13=>bnd (C5 p12.1 1) fun v14=>bnd (B4 (p12.2 ++ [some (Row.mk (List.replicate 25 (.i .u8 0)) true)]) 25 (.c (.p p12.2.length 0)) v13) fun h15=>bnd (X3 h15 25 1 (.c (.p p12.2.length 0)) none none) fun v16=>bnd (F0 h15 1 (.c (.sl ((h ++ [some (Row.mk (c1) true)]) ++ [some (Row.mk ([]) true)]).length 0 2 1)) v16) fun p17=>bnd (A8 ([.i .u8 0,.i .u8 0,.i .u8 0,.i .u8 0,.i .u8 0]) [(0,1,.c (.i .u8 0)),(1,1,.c (.i .u8 0)),(2,1,.c (.i .u8 0)),(3,1,.c (.i .u8 0)),(4,1,.c (.i .u8 0))]) fun c18=>bnd (F0 (p17.2 ++ [some (Row.mk (c18) true)]) 1 p17.1 (.c (.sl p17.2.length 0 5 1))) fun p19=>some (p19.1,p19.2):=by kernel_rfl
theorem K_bucket_written:FnK Tryz.prog 220 A_bucket_written A9W A6s:=.mk' (B3 B4v C2) Tryz.func220 (by kernel_rfl) (fun _ _ _=>C1)
def A10:Fun:=tidy (Lim A_bucket_written A9W)
theorem B4k:SOk Tryz.prog 220 A10:=K_bucket_written.sok
theorem C3R:U6 A6s A10:=K_bucket_written.out
def B5D:ACode:=.seq [1,2,4,6,11,12] (.ops [aO 12 (.bin .lss (.t 11) (.v (.c (.i .i64 25))))]) (.seq [1,2,4,6,11] (.cond (.t 12) .skip (.exit 0)) (.seq [1,2,4,6,11] (.block 1 (.seq [1,2,4,6,7,11] (.ops [aO 13 (.mv (.t 11)),aO 7 (.mv (.t 13))]) (.ops [aO 14 (.mv (.t 7)),aO 15 (.mv (.t 1)),aO 16 (.call 219 [(.t 15)]),aO 17 (.bin .add (.t 16) (.v (.c (.i .i64 2)))),aO 18 (.mv (.t 7)),aO 19 (.bin .add (.t 17) (.t 18)),aO 20 (.iAddrA 256 1 (.t 2) (.t 19)),aO 21 (.load1 (.t 20)),aO 22 (.iAddrA 25 1 (.t 6) (.t 14)),aN (.store1 (.t 22) (.t 21))]))) (.ops [aO 23 (.bin .add (.t 11) (.v (.c (.i .i64 1)))),aO 11 (.mv (.t 23))])))
def B5E:ACode:=.seq [1,2,4,8,9] (.ops [aO 25 (.loadN 25 (.t 6)),aO 26 (.call 253 [(.t 25)]),aO 24 (.mv (.t 26)),aO 27 (.ext (.t 24) 0),aO 28 (.ext (.t 24) 1),aO 8 (.mv (.t 27)),aO 9 (.mv (.t 28))]) (.seq [1,2,4,9,10] (.draw 1 [aO 29 (.mv (.t 8)),aO 30 (.loadN 256 (.t 2)),aO 31 (.mv (.t 1)),aO 32 (.call 219 [(.t 31)]),aO 33 (.call 142 [(.t 30),(.t 32),(.v (.c (.i .i64 2)))]),aO 34 (.build ([.s [],.i .i64 0]) [(0,1,(.t 29)),(1,1,(.t 33))]),aS 10 0 (.alloc ([.s [],.i .i64 0]))] [aN (.storeN 2 (.t 10) (.t 34))]) (.seq [4,10] (.seq [4,10,52] (.draw 0 [aO 35 (.mv (.t 9)),aO 36 (.bin .neq (.t 35) (.v (.c (.i .i64 0)))),aO 37 (.mv (.t 36)),aG 38 37 false (.loadN 2 (.t 10)),aG 39 37 false (.call 218 [(.t 38)]),aG 40 37 false (.un .not (.t 39)),aO 41 (.pick (.t 37) (.v (.c (.b true))) (.t 40)),aO 42 (.mv (.t 41)),aG 43 42 false (.loadN 2 (.t 10)),aG 44 42 false (.call 220 [(.t 43)]),aG 45 42 false (.b2sN none (.t 44)),aG 46 42 false (.loadN 256 (.t 2)),aG 47 42 false (.mv (.t 1)),aG 48 42 false (.call 219 [(.t 47)]),aG 49 42 false (.call 141 [(.t 46),(.t 48),(.v (.c (.i .i64 32)))]),aG 50 42 false (.b2sN none (.t 49))] [aG 51 42 false (.bin .neq (.t 45) (.t 50)),aO 52 (.pick (.t 42) (.v (.c (.b true))) (.t 51))]) (.cond (.t 52) (.seq [4,5] (.ops [aO 53 (.build ([.s [],.i .i64 0]) []),aN (.storeN 2 (.t 4) (.t 53)),aO 5 (.mv (.v (.c (.b false))))]) .ret) .skip)) (.seq [4,5] (.ops [aO 54 (.loadN 2 (.t 10)),aN (.storeN 2 (.t 4) (.t 54)),aO 5 (.mv (.v (.c (.b true))))]) .ret)))
def A_bucket_read:AFn:=⟨.seq [1,2,4] (.ops [aO 2 (.box (.t 0)),aO 4 (.alloc ([.s [],.i .i64 0])),aO 5 (.mv (.v (.c (.b false))))]) (.seq [1,2,4,6] (.ops [aO 6 (.alloc (List.replicate 25 (.i .u8 0)))]) (.seq [1,2,4,6] (.seq [1,2,4,6,11] (.ops [aO 11 (.mv (.v (.c (.i .i64 0))))]) (.block 0 (.loop [1,2,4,6,11] B5D))) B5E)),[.cellN 4 2,.tmp 5]⟩
def A3T:B0:=B1 219 A0K (B1 253 A46 (B1 142 M3 (B1 218 A1Y (B1 220 A10 (B1 141 Y9 C0)))))
def C7g (n:Nat):A9 (Val × A0):=E4 [1,2,4,6] (ax A3T n B5E) A_bucket_read.fin
def C7h (n:Nat):A9 (Val × A0):=D6 0 (C7g n)
def A7Q (n m:Nat) (x1 x2 x4 x6 x11:Val) (h:A0):A6:=C6 (ax A3T n B5D) [1,2,4,6,11] (C7h n) m [(1,x1),(2,x2),(4,x4),(6,x6),(11,x11)] h
def A6r (n:Nat) (args:List Val) (h:A0):A6:=ax A3T n A_bucket_read.code A_bucket_read.fin (params 0 args) h
theorem C2a (n:Nat) (a0 a1:Val) (h:A0):A6r n [a0,a1] h=bnd (cells? a0) fun c1=>A7Q n n a1 (.c (.p h.length 0)) (.c (.p (h ++ [some (Row.mk (c1) true)]).length 0)) (.c (.p ((h ++ [some (Row.mk (c1) true)]) ++ [some (Row.mk ([.s [],.i .i64 0]) true)]).length 0)) (.c (.i .i64 0)) (((h ++ [some (Row.mk (c1) true)]) ++ [some (Row.mk ([.s [],.i .i64 0]) true)]) ++ [some (Row.mk (List.replicate 25 (.i .u8 0)) true)]):=by kernel_rfl
theorem B5G (n m:Nat) (x1 x2 x4 x6 x11:Val) (h:A0):A7Q n (m + 1) x1 x2 x4 x6 x11 h=bnd (A2 .lss x11 (.c (.i .i64 25))) fun v2=>cnd v2 (bnd (A0K [x1] h) fun p3=>bnd (A2 .add p3.1 (.c (.i .i64 2))) fun v4=>bnd (A2 .add v4 x11) fun v5=>bnd (E1 256 1 x2 v5) fun v6=>bnd (A3 p3.2 v6) fun v7=>bnd (E1 25 1 x6 x11) fun v8=>bnd (E7 p3.2 v8 v7) fun h9=>bnd (A2 .add x11 (.c (.i .i64 1))) fun v10=>A7Q n m x1 x2 x4 x6 v10 h9) (bnd (A4 h 25 x6) fun v11=>bnd (A46 [v11] h) fun p12=>bnd (C5 p12.1 0) fun v13=>bnd (C5 p12.1 1) fun v14=>bnd (A4 p12.2 256 x2) fun v15=>bnd (quiet (p12.2 ++ [none]) (A0K [x1] (p12.2 ++ [none]))) fun p16=>bnd (quiet p16.2 (M3 [v15,p16.1,.c (.i .i64 2)] p16.2)) fun p17=>bnd (A8 ([.s [],.i .i64 0]) [(0,1,v13),(1,1,p17.1)]) fun c18=>bnd (B4 (p17.2.set (p12.2.length + 0) (some (Row.mk ([.s [],.i .i64 0]) true))) 2 (.c (.p (p12.2.length + 0) 0)) (.a c18)) fun h19=>bnd (A2 .neq v14 (.c (.i .i64 0))) fun v20=>bnd (gd v20 false (bnd (A4 h19 2 (.c (.p (p12.2.length + 0) 0))) fun v21=>some (v21,(h19 ++ []))) (some (.no,(h19 ++ [])))) fun p22=>bnd (gd v20 false (bnd (quiet p22.2 (A1Y [p22.1] p22.2)) fun p23=>some (p23.1,p23.2)) (some (.no,p22.2))) fun p24=>bnd (gd v20 false (bnd (aun .not p24.1) fun v25=>some (v25,p24.2)) (some (.no,p24.2))) fun p26=>bnd (C4 v20 (.c (.b true)) p26.1) fun v27=>bnd (gd v27 false (bnd (A4 h19 2 (.c (.p (p12.2.length + 0) 0))) fun v28=>some (v28,p26.2)) (some (.no,p26.2))) fun p29=>bnd (gd v27 false (bnd (quiet p29.2 (A10 [p29.1] p29.2)) fun p30=>some (p30.1,p30.2)) (some (.no,p29.2))) fun p31=>bnd (gd v27 false (bnd (N8 p31.2 p31.1) fun v32=>some (v32,p31.2)) (some (.no,p31.2))) fun p33=>bnd (gd v27 false (bnd (A4 h19 256 x2) fun v34=>some (v34,p33.2)) (some (.no,p33.2))) fun p35=>bnd (gd v27 false (some (x1,p35.2)) (some (.no,p35.2))) fun p36=>bnd (gd v27 false (bnd (quiet p36.2 (A0K [p36.1] p36.2)) fun p37=>some (p37.1,p37.2)) (some (.no,p36.2))) fun p38=>bnd (gd v27 false (bnd (quiet p38.2 (Y9 [p35.1,p38.1,.c (.i .i64 32)] p38.2)) fun p39=>some (p39.1,p39.2)) (some (.no,p38.2))) fun p40=>bnd (gd v27 false (bnd (N8 p40.2 p40.1) fun v41=>some (v41,p40.2)) (some (.no,p40.2))) fun p42=>bnd (gd v27 false (bnd (A2 .neq p33.1 p42.1) fun v43=>some (v43,p42.2)) (some (.no,p42.2))) fun p44=>bnd (C4 v27 (.c (.b true)) p44.1) fun v45=>cnd v45 (bnd (A8 ([.s [],.i .i64 0]) []) fun c46=>bnd (B4 p44.2 2 x4 (.a c46)) fun h47=>D3 [A4 h47 2 x4,some (.c (.b false))] h47) (bnd (A4 p44.2 2 (.c (.p (p12.2.length + 0) 0))) fun v48=>bnd (B4 p44.2 2 x4 v48) fun h49=>D3 [A4 h49 2 x4,some (.c (.b true))] h49)):=by kernel_rfl
theorem K_bucket_read:FnK Tryz.prog 224 A_bucket_read A3T A6r:=.mk' (B3 B4h (B3 C5r (B3 A47 (B3 B4i (B3 B4k (B3 A7x C2)))))) Tryz.func224 (by kernel_rfl) (fun _ _ _=>C1)
def A1Z:Fun:=tidy (Lim A_bucket_read A3T)
theorem B4j:SOk Tryz.prog 224 A1Z:=K_bucket_read.sok
theorem C3Q:C9 A6r A1Z:=K_bucket_read.flat
def B5p:ACode:=.seq [5] (.ops [aO 12 (.load1 (.t 3)),aO 13 (.un .not (.t 12)),aO 5 (.mv (.t 13))]) .ret
def A_bucket_Find_1:AFn:=⟨.seq [1,2,3,4] (.ops [aO 4 (.box (.t 0)),aO 5 (.mv (.v (.c (.b false))))]) (.seq [3] (.seq [2,3,4,10] (.ops [aO 6 (.fAddr (.t 4) 1),aO 7 (.fAddr (.t 6) 0),aO 8 (.load1 (.t 7)),aO 9 (.load1 (.t 1)),aO 10 (.bin .eql (.t 8) (.t 9))]) (.cond (.t 10) (.ops [aO 11 (.loadN 3 (.t 4)),aN (.storeN 3 (.t 2) (.t 11)),aN (.store1 (.t 3) (.v (.c (.b true))))]) .skip)) B5p),[.tmp 5]⟩
def A6j:B0:=C0
def B1A (n:Nat) (x3:Val) (h:A0):A6:=hold ((ax A6j n B5p) A_bucket_Find_1.fin [(3,x3)] h)
def B0E (n:Nat) (args:List Val) (h:A0):A6:=ax A6j n A_bucket_Find_1.code A_bucket_Find_1.fin (params 0 args) h
theorem B37 (n:Nat) (a0 a1 a2 a3:Val) (h:A0):B0E n [a0,a1,a2,a3] h=bnd (cells? a0) fun c1=>bnd (A7 (.c (.p h.length 0)) 1) fun v2=>bnd (A7 v2 0) fun v3=>bnd (A3 (h ++ [some (Row.mk (c1) true)]) v3) fun v4=>bnd (A3 (h ++ [some (Row.mk (c1) true)]) a1) fun v5=>bnd (A2 .eql v4 v5) fun v6=>cnd v6 (bnd (A4 (h ++ [some (Row.mk (c1) true)]) 3 (.c (.p h.length 0))) fun v7=>bnd (B4 (h ++ [some (Row.mk (c1) true)]) 3 a2 v7) fun h8=>bnd (E7 h8 a3 (.c (.b true))) fun h9=>B1A n a3 h9) (B1A n a3 (h ++ [some (Row.mk (c1) true)])):=by kernel_rfl
theorem B5q (n:Nat) (x3:Val) (h:A0):B1A n x3 h=bnd (A3 h x3) fun v10=>bnd (aun .not v10) fun v11=>some (v11,h):=by kernel_rfl
theorem K_bucket_Find_1:FnK Tryz.prog 153 A_bucket_Find_1 A6j B0E:=.mk' (C2) Tryz.func153 (by kernel_rfl) (fun _ _ _=>C1)
def A3a:Fun:=Lim A_bucket_Find_1 A6j
theorem C3A:SOk Tryz.prog 153 A3a:=K_bucket_Find_1.ok
theorem B4e:OfT B0E A3a:=K_bucket_Find_1.of
def B5y:ACode:=.seq [1,2,7,8] (.ops [aO 8 (.bin .lss (.t 7) (.v (.c (.i .i64 7))))]) (.seq [1,2,7] (.cond (.t 8) .skip (.exit 0)) (.seq [1,2,7] (.block 1 (.seq [1,2,4,7] (.ops [aO 9 (.mv (.t 7)),aO 4 (.mv (.t 9))]) (.seq [1,2,4,5,6,7] (.ops [aO 11 (.loadN 256 (.t 2)),aO 12 (.mv (.t 4)),aO 13 (.call 224 [(.t 11),(.t 12)]),aO 10 (.mv (.t 13)),aO 14 (.ext (.t 10) 0),aO 15 (.ext (.t 10) 1),aO 5 (.alloc ([.s [],.i .i64 0])),aN (.storeN 2 (.t 5) (.t 14)),aO 6 (.mv (.t 15))]) (.seq [1,2,7,24] (.ops [aO 16 (.mv (.t 6)),aO 17 (.mv (.t 16)),aG 18 17 true (.mv (.t 1)),aG 19 17 true (.mv (.t 4)),aG 20 17 true (.loadN 2 (.t 5)),aG 21 17 true (.build ([.i .i64 0,.s [],.i .i64 0]) [(0,1,(.t 19)),(1,2,(.t 20))]),aG 22 17 true (.callV (.t 18) [(.t 21)]),aG 23 17 true (.un .not (.t 22)),aO 24 (.pick (.t 17) (.t 23) (.v (.c (.b false))))]) (.cond (.t 24) .ret .skip))))) (.ops [aO 25 (.bin .add (.t 7) (.v (.c (.i .i64 1)))),aO 7 (.mv (.t 25))])))
def A_bucket_each__Find_1:AFn:=⟨.seq [1,2] (.ops [aO 2 (.box (.t 0))]) (.seq [1,2,7] (.ops [aO 7 (.mv (.v (.c (.i .i64 0))))]) (.block 0 (.loop [1,2,7] B5y))),[]⟩
def A25:B0:=B1 224 A1Z (B1 153 A3a C0)
def C7d (n:Nat):A9 (Val × A0):=D6 0 A_bucket_each__Find_1.fin
def A7O (n m:Nat) (x1 x2 x7:Val) (h:A0):A6:=C6 (ax A25 n B5y) [1,2,7] (C7d n) m [(1,x1),(2,x2),(7,x7)] h
def B0G (n:Nat) (args:List Val) (h:A0):A6:=ax A25 n A_bucket_each__Find_1.code A_bucket_each__Find_1.fin (params 0 args) h
theorem C15 (n:Nat) (a0 a1:Val) (h:A0):B0G n [a0,a1] h=bnd (cells? a0) fun c1=>A7O n n a1 (.c (.p h.length 0)) (.c (.i .i64 0)) (h ++ [some (Row.mk (c1) true)]):=by kernel_rfl
theorem B5z (n m:Nat) (x1 x2 x7:Val) (h:A0):A7O n (m + 1) x1 x2 x7 h=bnd (A2 .lss x7 (.c (.i .i64 7))) fun v2=>cnd v2 (bnd (A4 h 256 x2) fun v3=>bnd (A1Z [v3,x7] h) fun p4=>bnd (C5 p4.1 0) fun v5=>bnd (C5 p4.1 1) fun v6=>bnd (B4 (p4.2 ++ [some (Row.mk ([.s [],.i .i64 0]) true)]) 2 (.c (.p p4.2.length 0)) v5) fun h7=>bnd (gd v6 true (some (x1,h7)) (some (.no,h7))) fun p8=>bnd (gd v6 true (some (x7,p8.2)) (some (.no,p8.2))) fun p9=>bnd (gd v6 true (bnd (A4 p9.2 2 (.c (.p p4.2.length 0))) fun v10=>some (v10,p9.2)) (some (.no,p9.2))) fun p11=>bnd (gd v6 true (bnd (A8 ([.i .i64 0,.s [],.i .i64 0]) [(0,1,p9.1),(1,2,p11.1)]) fun c12=>some ((.a c12),p11.2)) (some (.no,p11.2))) fun p13=>bnd (gd v6 true (bnd (L7 A25 p8.1 [p13.1] p13.2) fun p14=>some (p14.1,p14.2)) (some (.no,p13.2))) fun p15=>bnd (gd v6 true (bnd (aun .not p15.1) fun v16=>some (v16,p15.2)) (some (.no,p15.2))) fun p17=>bnd (C4 v6 p17.1 (.c (.b false))) fun v18=>cnd v18 (D3 [] p17.2) (bnd (A2 .add x7 (.c (.i .i64 1))) fun v19=>A7O n m x1 x2 v19 p17.2)) (D3 [] h):=by kernel_rfl
theorem K_bucket_each__Find_1:FnK Tryz.prog 152 A_bucket_each__Find_1 A25 B0G:=.mk' (B3 B4j (B3 C3A C2)) Tryz.func152 (by kernel_rfl) (fun _ _ _=>C1)
def A4x:Fun:=Lim A_bucket_each__Find_1 A25
theorem C3J:SOk Tryz.prog 152 A4x:=K_bucket_each__Find_1.ok
theorem C3I:OfT B0G A4x:=K_bucket_each__Find_1.of
def A_bucket_Find:AFn:=⟨.seq [2,3,4] (.ops [aO 2 (.box (.t 0)),aO 3 (.box (.t 1)),aO 4 (.alloc ([.i .i64 0,.s [],.i .i64 0])),aO 5 (.mv (.v (.c (.b false))))]) (.seq [2,3,4,6] (.ops [aO 6 (.alloc ([.i .i64 0,.s [],.i .i64 0]))]) (.seq [2,3,4,6,7] (.ops [aO 7 (.alloc ([.b false])),aN (.store1 (.t 7) (.v (.c (.b false))))]) (.seq [4,6,7] (.ops [aO 8 (.loadN 256 (.t 2)),aO 9 (.mkf 153 [(.t 3),(.t 6),(.t 7)]),aO 10 (.call 152 [(.t 8),(.t 9)])]) (.seq [4,5] (.drawS 0 [aO 11 (.loadN 3 (.t 6)),aO 12 (.load1 (.t 7))] (aN (.storeN 3 (.t 4) (.t 11))) [(12,.load1 (.t 7))] [aO 5 (.mv (.t 12))]) .ret)))),[.cellN 4 3,.tmp 5]⟩
def A9Q:B0:=B1 152 A4x C0
def A6m (n:Nat) (args:List Val) (h:A0):A6:=ax A9Q n A_bucket_Find.code A_bucket_Find.fin (params 0 args) h
theorem C12 (n:Nat) (a0 a1:Val) (h:A0):A6m n [a0,a1] h=bnd (cells? a0) fun c1=>bnd (cells? a1) fun c2=>bnd (E7 (((((h ++ [some (Row.mk (c1) true)]) ++ [some (Row.mk (c2) true)]) ++ [some (Row.mk ([.i .i64 0,.s [],.i .i64 0]) true)]) ++ [some (Row.mk ([.i .i64 0,.s [],.i .i64 0]) true)]) ++ [some (Row.mk ([.b false]) true)]) (.c (.p ((((h ++ [some (Row.mk (c1) true)]) ++ [some (Row.mk (c2) true)]) ++ [some (Row.mk ([.i .i64 0,.s [],.i .i64 0]) true)]) ++ [some (Row.mk ([.i .i64 0,.s [],.i .i64 0]) true)]).length 0)) (.c (.b false))) fun h3=>bnd (A4 h3 256 (.c (.p h.length 0))) fun v4=>bnd (X2 153 [(.c (.p (h ++ [some (Row.mk (c1) true)]).length 0)),(.c (.p (((h ++ [some (Row.mk (c1) true)]) ++ [some (Row.mk (c2) true)]) ++ [some (Row.mk ([.i .i64 0,.s [],.i .i64 0]) true)]).length 0)),(.c (.p ((((h ++ [some (Row.mk (c1) true)]) ++ [some (Row.mk (c2) true)]) ++ [some (Row.mk ([.i .i64 0,.s [],.i .i64 0]) true)]) ++ [some (Row.mk ([.i .i64 0,.s [],.i .i64 0]) true)]).length 0))]) fun v5=>bnd (A4x [v4,v5] h3) fun p6=>bnd (A4 p6.2 3 (.c (.p (((h ++ [some (Row.mk (c1) true)]) ++ [some (Row.mk (c2) true)]) ++ [some (Row.mk ([.i .i64 0,.s [],.i .i64 0]) true)]).length 0))) fun v7=>bnd (A3 p6.2 (.c (.p ((((h ++ [some (Row.mk (c1) true)]) ++ [some (Row.mk (c2) true)]) ++ [some (Row.mk ([.i .i64 0,.s [],.i .i64 0]) true)]) ++ [some (Row.mk ([.i .i64 0,.s [],.i .i64 0]) true)]).length 0))) fun v8=>bnd (B4 (p6.2 ++ []) 3 (.c (.p ((h ++ [some (Row.mk (c1) true)]) ++ [some (Row.mk (c2) true)]).length 0)) v7) fun h9=>agn (A3 h9 (.c (.p ((((h ++ [some (Row.mk (c1) true)]) ++ [some (Row.mk (c2) true)]) ++ [some (Row.mk ([.i .i64 0,.s [],.i .i64 0]) true)]) ++ [some (Row.mk ([.i .i64 0,.s [],.i .i64 0]) true)]).length 0))) v8 <| D3 [A4 h9 3 (.c (.p ((h ++ [some (Row.mk (c1) true)]) ++ [some (Row.mk (c2) true)]).length 0)),some v8] h9:=by kernel_rfl
theorem K_bucket_Find:FnK Tryz.prog 73 A_bucket_Find A9Q A6m:=.mk' (B3 C3J C2) Tryz.func73 (by kernel_rfl) (fun _ _ _=>C1)
def A1W:Fun:=tidy (Lim A_bucket_Find A9Q)
theorem B4f:SOk Tryz.prog 73 A1W:=K_bucket_Find.sok
theorem C3B:C9 A6m A1W:=K_bucket_Find.flat
def B5s:ACode:=.seq [0,2,4,16,17,18,19] (.ops [aO 19 (.bin .lss (.t 18) (.t 17))]) (.seq [0,2,4,16,17,18] (.cond (.t 19) .skip (.exit 0)) (.seq [0,2,4,16,17,18] (.block 1 (.seq [0,2,4,5,6,16,17,18] (.ops [aO 20 (.mv (.t 18)),aO 21 (.iAddrL 2 (.t 16) (.t 18)),aO 22 (.loadN 2 (.t 21)),aO 6 (.alloc ([.s [],.i .i64 0])),aO 5 (.mv (.t 20)),aN (.storeN 2 (.t 6) (.t 22))]) (.seq [0,2,4,5,6,16,17,18] (.seq [0,2,4,5,6,16,17,18,25] (.ops [aO 23 (.loadN 2 (.t 6)),aO 24 (.call 218 [(.t 23)]),aO 25 (.un .not (.t 24))]) (.cond (.t 25) (.seq [2,3] (.ops [aO 26 (.build (List.replicate 256 (.i .u8 0)) []),aN (.storeN 256 (.t 2) (.t 26)),aO 3 (.mv (.v (.c (.i .i64 1))))]) .ret) .skip)) (.draw 0 [aO 27 (.loadN 256 (.t 4)),aO 28 (.mv (.t 5)),aO 29 (.call 219 [(.t 28)]),aO 30 (.loadN 2 (.t 6)),aO 31 (.call 220 [(.t 30)])] [aO 32 (.call 215 [(.t 27),(.t 29),(.t 31)]),aN (.storeN 256 (.t 4) (.t 32))])))) (.ops [aO 33 (.bin .add (.t 18) (.v (.c (.i .i64 1)))),aO 18 (.mv (.t 33))])))
def B5u:ACode:=.seq [2,4,34,35,36,37] (.ops [aO 37 (.bin .lss (.t 36) (.t 35))]) (.seq [2,4,34,35,36] (.cond (.t 37) .skip (.exit 2)) (.seq [2,4,34,35,36] (.block 3 (.seq [2,4,7,8,34,35,36] (.ops [aO 38 (.mv (.t 36)),aO 39 (.iAddrL 2 (.t 34) (.t 36)),aO 40 (.loadN 2 (.t 39)),aO 8 (.alloc ([.s [],.i .i64 0])),aO 7 (.mv (.t 38)),aN (.storeN 2 (.t 8) (.t 40))]) (.seq [2,4,7,9,34,35,36] (.ops [aO 42 (.loadN 256 (.t 4)),aO 43 (.fAddr (.t 8) 0),aO 44 (.load1 (.t 43)),aO 45 (.call 73 [(.t 42),(.t 44)]),aO 41 (.mv (.t 45)),aO 46 (.ext (.t 41) 0),aO 47 (.ext (.t 41) 1),aO 9 (.alloc ([.i .i64 0,.s [],.i .i64 0])),aN (.storeN 3 (.t 9) (.t 46)),aO 10 (.mv (.t 47))]) (.seq [2,4,34,35,36,51] (.ops [aO 48 (.fAddr (.t 9) 0),aO 49 (.load1 (.t 48)),aO 50 (.mv (.t 7)),aO 51 (.bin .neq (.t 49) (.t 50))]) (.cond (.t 51) (.seq [2,3] (.ops [aO 52 (.build (List.replicate 256 (.i .u8 0)) []),aN (.storeN 256 (.t 2) (.t 52)),aO 3 (.mv (.v (.c (.i .i64 5))))]) .ret) .skip))))) (.ops [aO 53 (.bin .add (.t 36) (.v (.c (.i .i64 1)))),aO 36 (.mv (.t 53))])))
def B5v:ACode:=.seq [2,3] (.ops [aO 54 (.loadN 256 (.t 4)),aN (.storeN 256 (.t 2) (.t 54)),aO 3 (.mv (.v (.c (.i .i64 0))))]) .ret
def B5t:ACode:=.seq [2,4] (.seq [2,4,34,35,36] (.ops [aO 34 (.mv (.t 0)),aO 35 (.len (.t 34)),aO 36 (.mv (.v (.c (.i .i64 0))))]) (.block 2 (.loop [2,4,34,35,36] B5u))) B5v
def A_bucket_New:AFn:=⟨.seq [0,2] (.ops [aO 2 (.alloc (List.replicate 256 (.i .u8 0))),aO 3 (.mv (.v (.c (.i .i64 0))))]) (.seq [0,2] (.seq [0,2,13] (.ops [aO 11 (.mv (.t 0)),aO 12 (.len (.t 11)),aO 13 (.bin .gtr (.t 12) (.v (.c (.i .i64 7))))]) (.cond (.t 13) (.seq [2,3] (.ops [aO 14 (.build (List.replicate 256 (.i .u8 0)) []),aN (.storeN 256 (.t 2) (.t 14)),aO 3 (.mv (.v (.c (.i .i64 11))))]) .ret) .skip)) (.seq [0,2,4] (.ops [aO 15 (.call 217 []),aO 4 (.alloc (List.replicate 256 (.i .u8 0))),aN (.storeN 256 (.t 4) (.t 15))]) (.seq [0,2,4] (.seq [0,2,4,16,17,18] (.ops [aO 16 (.mv (.t 0)),aO 17 (.len (.t 16)),aO 18 (.mv (.v (.c (.i .i64 0))))]) (.block 0 (.loop [0,2,4,16,17,18] B5s))) B5t))),[.cellN 2 256,.tmp 3]⟩
def A1O:B0:=B1 217 A4z (B1 218 A1Y (B1 219 A0K (B1 220 A10 (B1 215 A0O (B1 73 A1W C0)))))
def C69 (n:Nat):A9 (Val × A0):=E4 [0,2,4] (ax A1O n B5t) A_bucket_New.fin
def C7a (n:Nat):A9 (Val × A0):=D6 0 (C69 n)
def A7M (n m:Nat) (x0 x2 x4 x16 x17 x18:Val) (h:A0):A6:=C6 (ax A1O n B5s) [0,2,4,16,17,18] (C7a n) m [(0,x0),(2,x2),(4,x4),(16,x16),(17,x17),(18,x18)] h
def A6n (n:Nat) (args:List Val) (h:A0):A6:=ax A1O n A_bucket_New.code A_bucket_New.fin (params 0 args) h
def C7b (n:Nat):A9 (Val × A0):=E4 [2,4] (ax A1O n B5v) A_bucket_New.fin
def C7c (n:Nat):A9 (Val × A0):=D6 2 (C7b n)
def A7N (n m:Nat) (x2 x4 x34 x35 x36:Val) (h:A0):A6:=C6 (ax A1O n B5u) [2,4,34,35,36] (C7c n) m [(2,x2),(4,x4),(34,x34),(35,x35),(36,x36)] h
theorem C14 (n:Nat) (a0:Val) (h:A0):A6n n [a0] h=bnd (D5 a0) fun v1=>bnd (A2 .gtr v1 (.c (.i .i64 7))) fun v2=>cnd v2 (bnd (A8 (List.replicate 256 (.i .u8 0)) []) fun c3=>bnd (B4 (h ++ [some (Row.mk (List.replicate 256 (.i .u8 0)) true)]) 256 (.c (.p h.length 0)) (.a c3)) fun h4=>D3 [A4 h4 256 (.c (.p h.length 0)),some (.c (.i .i64 11))] h4) (bnd (A4z [] (h ++ [some (Row.mk (List.replicate 256 (.i .u8 0)) true)])) fun p5=>bnd (B4 (p5.2 ++ [some (Row.mk (List.replicate 256 (.i .u8 0)) true)]) 256 (.c (.p p5.2.length 0)) p5.1) fun h6=>bnd (D5 a0) fun v7=>A7M n n a0 (.c (.p h.length 0)) (.c (.p p5.2.length 0)) a0 v7 (.c (.i .i64 0)) h6):=by kernel_rfl
theorem B5w (n m:Nat) (x0 x2 x4 x16 x17 x18:Val) (h:A0):A7M n (m + 1) x0 x2 x4 x16 x17 x18 h=bnd (A2 .lss x18 x17) fun v8=>cnd v8 (bnd (B7 2 x16 x18) fun v9=>bnd (A4 h 2 v9) fun v10=>bnd (B4 (h ++ [some (Row.mk ([.s [],.i .i64 0]) true)]) 2 (.c (.p h.length 0)) v10) fun h11=>bnd (A4 h11 2 (.c (.p h.length 0))) fun v12=>bnd (A1Y [v12] h11) fun p13=>bnd (aun .not p13.1) fun v14=>cnd v14 (bnd (A8 (List.replicate 256 (.i .u8 0)) []) fun c15=>bnd (B4 p13.2 256 x2 (.a c15)) fun h16=>D3 [A4 h16 256 x2,some (.c (.i .i64 1))] h16) (bnd (A4 p13.2 256 x4) fun v17=>bnd (quiet (p13.2 ++ []) (A0K [x18] (p13.2 ++ []))) fun p18=>bnd (A4 p13.2 2 (.c (.p h.length 0))) fun v19=>bnd (quiet p18.2 (A10 [v19] p18.2)) fun p20=>bnd (A0O [v17,p18.1,p20.1] p20.2) fun p21=>bnd (B4 p21.2 256 x4 p21.1) fun h22=>bnd (A2 .add x18 (.c (.i .i64 1))) fun v23=>A7M n m x0 x2 x4 x16 x17 v23 h22)) (bnd (D5 x0) fun v24=>A7N n n x2 x4 x0 v24 (.c (.i .i64 0)) h):=by kernel_rfl
theorem B5x (n m:Nat) (x2 x4 x34 x35 x36:Val) (h:A0):A7N n (m + 1) x2 x4 x34 x35 x36 h=bnd (A2 .lss x36 x35) fun v25=>cnd v25 (bnd (B7 2 x34 x36) fun v26=>bnd (A4 h 2 v26) fun v27=>bnd (B4 (h ++ [some (Row.mk ([.s [],.i .i64 0]) true)]) 2 (.c (.p h.length 0)) v27) fun h28=>bnd (A4 h28 256 x4) fun v29=>bnd (A7 (.c (.p h.length 0)) 0) fun v30=>bnd (A3 h28 v30) fun v31=>bnd (A1W [v29,v31] h28) fun p32=>bnd (C5 p32.1 0) fun v33=>bnd (C5 p32.1 1) fun v34=>bnd (B4 (p32.2 ++ [some (Row.mk ([.i .i64 0,.s [],.i .i64 0]) true)]) 3 (.c (.p p32.2.length 0)) v33) fun h35=>bnd (A7 (.c (.p p32.2.length 0)) 0) fun v36=>bnd (A3 h35 v36) fun v37=>bnd (A2 .neq v37 x36) fun v38=>cnd v38 (bnd (A8 (List.replicate 256 (.i .u8 0)) []) fun c39=>bnd (B4 h35 256 x2 (.a c39)) fun h40=>D3 [A4 h40 256 x2,some (.c (.i .i64 5))] h40) (bnd (A2 .add x36 (.c (.i .i64 1))) fun v41=>A7N n m x2 x4 x34 x35 v41 h35)) (bnd (A4 h 256 x4) fun v42=>bnd (B4 h 256 x2 v42) fun h43=>D3 [A4 h43 256 x2,some (.c (.i .i64 0))] h43):=by kernel_rfl
theorem K_bucket_New:FnK Tryz.prog 139 A_bucket_New A1O A6n:=.mk' (B3 C3O (B3 B4i (B3 B4h (B3 B4k (B3 B1c (B3 B4f C2)))))) Tryz.func139 (by kernel_rfl) (fun _ _ _=>C1)
def A4w:Fun:=tidy (Lim A_bucket_New A1O)
theorem C3H:SOk Tryz.prog 139 A4w:=K_bucket_New.sok
theorem C3G:C9 A6n A4w:=K_bucket_New.flat
def A_bucket_List_1:AFn:=⟨.seq [1,2] (.ops [aO 2 (.box (.t 0)),aO 3 (.mv (.v (.c (.b false))))]) (.seq [] (.ops [aO 4 (.load1 (.t 1)),aO 5 (.loadN 3 (.t 2)),aO 6 (.buildSl 3 1 (([.i .i64 0,.s [],.i .i64 0])) [(0,3,(.t 5))]),aO 7 (.app 3 (.t 4) (.t 6)),aN (.store1 (.t 1) (.t 7))]) (.seq [3] (.ops [aO 3 (.mv (.v (.c (.b true))))]) .ret)),[.tmp 3]⟩
def A9S:B0:=C0
def B0F (n:Nat) (args:List Val) (h:A0):A6:=ax A9S n A_bucket_List_1.code A_bucket_List_1.fin (params 0 args) h
theorem B38 (n:Nat) (a0 a1:Val) (h:A0):B0F n [a0,a1] h=bnd (cells? a0) fun c1=>bnd (A3 (h ++ [some (Row.mk (c1) true)]) a1) fun v2=>bnd (A4 (h ++ [some (Row.mk (c1) true)]) 3 (.c (.p h.length 0))) fun v3=>bnd (A8 (([.i .i64 0,.s [],.i .i64 0])) [(0,3,v3)]) fun c4=>bnd (F0 ((h ++ [some (Row.mk (c1) true)]) ++ [some (Row.mk (c4) true)]) 3 v2 (.c (.sl (h ++ [some (Row.mk (c1) true)]).length 0 1 3))) fun p5=>bnd (E7 p5.2 a1 p5.1) fun h6=>some ((.c (.b true)),h6):=by kernel_rfl
theorem K_bucket_List_1:FnK Tryz.prog 163 A_bucket_List_1 A9S B0F:=.mk' (C2) Tryz.func163 (by kernel_rfl) (fun _ _ _=>C1)
def A4v:Fun:=Lim A_bucket_List_1 A9S
theorem C3C:SOk Tryz.prog 163 A4v:=K_bucket_List_1.ok
theorem B4g:OfT B0F A4v:=K_bucket_List_1.of
def B5A:ACode:=.seq [1,2,7,8] (.ops [aO 8 (.bin .lss (.t 7) (.v (.c (.i .i64 7))))]) (.seq [1,2,7] (.cond (.t 8) .skip (.exit 0)) (.seq [1,2,7] (.block 1 (.seq [1,2,4,7] (.ops [aO 9 (.mv (.t 7)),aO 4 (.mv (.t 9))]) (.seq [1,2,4,5,6,7] (.ops [aO 11 (.loadN 256 (.t 2)),aO 12 (.mv (.t 4)),aO 13 (.call 224 [(.t 11),(.t 12)]),aO 10 (.mv (.t 13)),aO 14 (.ext (.t 10) 0),aO 15 (.ext (.t 10) 1),aO 5 (.alloc ([.s [],.i .i64 0])),aN (.storeN 2 (.t 5) (.t 14)),aO 6 (.mv (.t 15))]) (.seq [1,2,7,24] (.ops [aO 16 (.mv (.t 6)),aO 17 (.mv (.t 16)),aG 18 17 true (.mv (.t 1)),aG 19 17 true (.mv (.t 4)),aG 20 17 true (.loadN 2 (.t 5)),aG 21 17 true (.build ([.i .i64 0,.s [],.i .i64 0]) [(0,1,(.t 19)),(1,2,(.t 20))]),aG 22 17 true (.callV (.t 18) [(.t 21)]),aG 23 17 true (.un .not (.t 22)),aO 24 (.pick (.t 17) (.t 23) (.v (.c (.b false))))]) (.cond (.t 24) .ret .skip))))) (.ops [aO 25 (.bin .add (.t 7) (.v (.c (.i .i64 1)))),aO 7 (.mv (.t 25))])))
def A_bucket_each__List_1:AFn:=⟨.seq [1,2] (.ops [aO 2 (.box (.t 0))]) (.seq [1,2,7] (.ops [aO 7 (.mv (.v (.c (.i .i64 0))))]) (.block 0 (.loop [1,2,7] B5A))),[]⟩
def A26:B0:=B1 224 A1Z (B1 163 A4v C0)
def C7e (n:Nat):A9 (Val × A0):=D6 0 A_bucket_each__List_1.fin
def A7P (n m:Nat) (x1 x2 x7:Val) (h:A0):A6:=C6 (ax A26 n B5A) [1,2,7] (C7e n) m [(1,x1),(2,x2),(7,x7)] h
def B0H (n:Nat) (args:List Val) (h:A0):A6:=ax A26 n A_bucket_each__List_1.code A_bucket_each__List_1.fin (params 0 args) h
theorem C16 (n:Nat) (a0 a1:Val) (h:A0):B0H n [a0,a1] h=bnd (cells? a0) fun c1=>A7P n n a1 (.c (.p h.length 0)) (.c (.i .i64 0)) (h ++ [some (Row.mk (c1) true)]):=by kernel_rfl
theorem B5B (n m:Nat) (x1 x2 x7:Val) (h:A0):A7P n (m + 1) x1 x2 x7 h=bnd (A2 .lss x7 (.c (.i .i64 7))) fun v2=>cnd v2 (bnd (A4 h 256 x2) fun v3=>bnd (A1Z [v3,x7] h) fun p4=>bnd (C5 p4.1 0) fun v5=>bnd (C5 p4.1 1) fun v6=>bnd (B4 (p4.2 ++ [some (Row.mk ([.s [],.i .i64 0]) true)]) 2 (.c (.p p4.2.length 0)) v5) fun h7=>bnd (gd v6 true (some (x1,h7)) (some (.no,h7))) fun p8=>bnd (gd v6 true (some (x7,p8.2)) (some (.no,p8.2))) fun p9=>bnd (gd v6 true (bnd (A4 p9.2 2 (.c (.p p4.2.length 0))) fun v10=>some (v10,p9.2)) (some (.no,p9.2))) fun p11=>bnd (gd v6 true (bnd (A8 ([.i .i64 0,.s [],.i .i64 0]) [(0,1,p9.1),(1,2,p11.1)]) fun c12=>some ((.a c12),p11.2)) (some (.no,p11.2))) fun p13=>bnd (gd v6 true (bnd (L7 A26 p8.1 [p13.1] p13.2) fun p14=>some (p14.1,p14.2)) (some (.no,p13.2))) fun p15=>bnd (gd v6 true (bnd (aun .not p15.1) fun v16=>some (v16,p15.2)) (some (.no,p15.2))) fun p17=>bnd (C4 v6 p17.1 (.c (.b false))) fun v18=>cnd v18 (D3 [] p17.2) (bnd (A2 .add x7 (.c (.i .i64 1))) fun v19=>A7P n m x1 x2 v19 p17.2)) (D3 [] h):=by kernel_rfl
theorem K_bucket_each__List_1:FnK Tryz.prog 152 A_bucket_each__List_1 A26 B0H:=.mk' (B3 B4j (B3 C3C C2)) Tryz.func152 (by kernel_rfl) (fun _ _ _=>C1)
def A4y:Fun:=Lim A_bucket_each__List_1 A26
theorem C3L:SOk Tryz.prog 152 A4y:=K_bucket_each__List_1.ok
theorem C3K:OfT B0H A4y:=K_bucket_each__List_1.of
def A_bucket_List:AFn:=⟨.seq [1] (.ops [aO 1 (.box (.t 0)),aO 2 (.nilrow 3)]) (.seq [1,3] (.ops [aO 3 (.alloc ([.ns]))]) (.seq [3] (.ops [aO 4 (.loadN 256 (.t 1)),aO 5 (.mkf 163 [(.t 3)]),aO 6 (.call 152 [(.t 4),(.t 5)])]) (.seq [2] (.ops [aO 7 (.load1 (.t 3)),aO 2 (.mv (.t 7))]) .ret))),[.tmp 2]⟩
def A9R:B0:=B1 152 A4y C0
def A4t (n:Nat) (args:List Val) (h:A0):A6:=ax A9R n A_bucket_List.code A_bucket_List.fin (params 0 args) h
theorem C13 (n:Nat) (a0:Val) (h:A0):A4t n [a0] h=bnd (cells? a0) fun c1=>bnd (A4 (((h ++ [some (Row.mk (c1) true)]) ++ [some (Row.mk ([]) true)]) ++ [some (Row.mk ([.ns]) true)]) 256 (.c (.p h.length 0))) fun v2=>bnd (X2 163 [(.c (.p ((h ++ [some (Row.mk (c1) true)]) ++ [some (Row.mk ([]) true)]).length 0))]) fun v3=>bnd (A4y [v2,v3] (((h ++ [some (Row.mk (c1) true)]) ++ [some (Row.mk ([]) true)]) ++ [some (Row.mk ([.ns]) true)])) fun p4=>bnd (A3 p4.2 (.c (.p ((h ++ [some (Row.mk (c1) true)]) ++ [some (Row.mk ([]) true)]).length 0))) fun v5=>some (v5,p4.2):=by kernel_rfl
theorem K_bucket_List:FnK Tryz.prog 88 A_bucket_List A9R A4t:=.mk' (B3 C3L C2) Tryz.func88 (by kernel_rfl) (fun _ _ _=>C1)
def A1X:Fun:=tidy (Lim A_bucket_List A9R)
theorem C3E:SOk Tryz.prog 88 A1X:=K_bucket_List.sok
theorem C3D:C10 A4t A1X:=K_bucket_List.low
theorem C3F:U6 A4t A1X:=K_bucket_List.out
end Go.Proofs.YteckncopbicmcaaGreat
end
section
namespace Go.Proofs.YteckncopbicmcaaGreat
open Go Go.Esc
theorem B27 {g:A0} {l l':List (Option Row)} {v:Val} {cs:List Cell} (hl:l'=l ++ [some ⟨cs,true⟩]):quiet (g ++ l) (some (v,g ++ l'))=some (v,g ++ l'):=by
  subst hl
  have:=A51 ((Grows.rfl' (h:=g ++ l)).new cs) (v:=v)
  rw [List.append_assoc] at this
  exact this
theorem D1h {g:A0} {a:Option Row} {v:Val} {cs:List Cell}:quiet (g ++ [a]) (some (v,g ++ [a,some ⟨cs,true⟩]))=some (v,g ++ [a,some ⟨cs,true⟩]):=B27 rfl
theorem B9Q {g:A0} {a b c d:Option Row} {v:Val} {cs:List Cell}:quiet (g ++ [a,b,c,d]) (some (v,g ++ [a,b,c,d,some ⟨cs,true⟩]))=some (v,g ++ [a,b,c,d,some ⟨cs,true⟩]):=B27 rfl
theorem B9R {g:A0} {a b c d e:Option Row} {v:Val} {cs:List Cell}:quiet (g ++ [a,b,c,d,e]) (some (v,g ++ [a,b,c,d,e,some ⟨cs,true⟩]))=some (v,g ++ [a,b,c,d,e,some ⟨cs,true⟩]):=B27 rfl
def H9 (k:Nat):Nat:=32 + 32 * k
theorem B1B {k:Nat} {h:A0} (hk:k < 7):A0K [.c (.i .i64 (k:Int))] h=some (.c (.i .i64 (H9 k:Nat)),h):=by
  have key:∀ g,∃ g',A6o 0 [.c (.i .i64 (k:Int))] g=some (.c (.i .i64 (H9 k:Nat)),g'):=by
    intro g
    have w1:=E2 (show k + 1 < 9223372036854775808 by omega)
    have w2:IntKind.wrap .i64 (32 * ((k + 1:Nat):Int))=((H9 k:Nat):Int):=by unfold H9;rw [wrap_i64 (by omega) (by omega)];omega
    rw [C17]
    exact ⟨_,by simp only [esc,w1,w2] <;> rfl⟩
  obtain ⟨g',e⟩:=key (ro h)
  exact C3M e rfl
def A2v:List UInt8:=[98,107,116,33]
def hdB:List UInt8:=D4 256 A2v
theorem B2q:hdB.length=256:=J4 (by decide)
theorem C7f {h:A0}:A4z [] h=some (.a (A1 hdB),h):=by
  have key:∀ g,∃ g',A6p 0 [] g=some (.a (A1 hdB),g'):=by
    intro g
    have hz:(A1 (zeros 256)).length=256:=by rw [B5];exact zeros_length
    have hd:(A1 hdB).length=256:=by rw [B5];exact B2q
    have ef:A8 [Cell.i .u8 0,.i .u8 0,.i .u8 0,.i .u8 0] [(0,1,.c (.i .u8 98)),(1,1,.c (.i .u8 107)),(2,1,.c (.i .u8 116)),(3,1,.c (.i .u8 33))]=some (A1 A2v):=rfl
    have hO:=A85 (data:=A2v) (v:=.c (.sl (g.length + 1) 0 4 1)) (nv:=4) (h:=g ++ [some (Row.mk (A1 (zeros 256)) true),some (Row.mk (A1 A2v) true)]) (Has.row (rw:=true) (by simp) rfl (O6 _)) (by decide)
    rw [A89 (by decide),show D4 256 A2v=hdB from rfl] at hO
    have hM:U8 (g ++ [some (Row.mk (A1 (zeros 256)) true),some (Row.mk (A1 A2v) true)]) (.c (.sl (g.length + 1) 0 4 1))=some (.c (.sl (g.length + 1) 0 4 1)):=by simp [U8]
    rw [C18,M1]
    generalize hdB=B at *
    generalize A1 A2v=mg at *
    generalize zeros 256=z at *
    exact ⟨_,by simp only [esc,esh,Nat.reduceAdd,Nat.reduceMul,Nat.reduceLT,ef,hM,hO,hz,hd] <;> rfl⟩
  obtain ⟨g',e⟩:=key (ro h)
  exact C3N e (by simp)
def A1C (s:List UInt8) (n:Int):Bool:=V2 s && (decide (1 ≤ n) && decide (n ≤ 128))
theorem B5C {s:List UInt8} {n:Int} {h:A0} (hs:s.length < 9223372036854775807):A1Y [.a [.s s,.i .i64 n]] h=some (.c (.b (A1C s n)),h):=by
  have key:∀ g,∃ g',A6q 0 [.a [.s s,.i .i64 n]] g=some (.c (.b (A1C s n)),g'):=by
    intro g
    have hC:=fun h=>B1H hs h
    rw [C19]
    unfold A1C
    cases hf:V2 s with
    | false =>
      rw [hf] at hC
      exact ⟨_,by simp only [esc,esh,Nat.reduceAdd,Nat.reduceMul,Nat.reduceLT,hC,Int.reduceEq] <;> rfl⟩
    | true =>
      rw [hf] at hC
      by_cases c1:1 ≤ n
      · by_cases c2:n ≤ 128
        · rw [decide_eq_true c1,decide_eq_true c2]
          exact ⟨_,by simp only [esc,esh,Nat.reduceAdd,Nat.reduceMul,Nat.reduceLT,hC,c1,c2] <;> rfl⟩
        · rw [decide_eq_true c1,decide_eq_false c2]
          exact ⟨_,by simp only [esc,esh,Nat.reduceAdd,Nat.reduceMul,Nat.reduceLT,hC,c1,c2] <;> rfl⟩
      · rw [decide_eq_false c1]
        exact ⟨_,by simp only [esc,esh,Nat.reduceAdd,Nat.reduceMul,Nat.reduceLT,hC,c1] <;> rfl⟩
  obtain ⟨g',e⟩:=key (ro h)
  exact C3P e rfl
def M6 (s:List UInt8) (n:Int):List UInt8:=C3 2 n ++ M8 s ++ [0,0,0,0,0]
theorem A5B {s:List UInt8} {n:Int}:(M6 s n).length=32:=by simp [M6,A50]
theorem B5H {s:List UInt8} {n:Int} {h:A0} (hs:s.length < 9223372036854775807):A10 [.a [.s s,.i .i64 n]] h=some (.c (.sl h.length 0 32 1),h ++ [some ⟨A1 (M6 s n),true⟩]):=by
  have key:∀ g,∃ v g',A6s 0 [.a [.s s,.i .i64 n]] g=some (v,g') ∧ Out g.length g' v 1 32 (A1 (M6 s n)):=by
    intro g
    have e4:A2 .shr (.c (.i .i64 n)) (.c (.i .u64 8))=some (.c (.i .i64 (n / 256))):=B1h (by omega)
    have wm:∀ a:Int,IntKind.wrap .u8 a=a % 256:=fun a=>by
      simp only [IntKind.wrap,IntKind.bits,IntKind.signed,Bool.false_and]
      rfl
    have b0:IntKind.wrap .u8 n=((byI n 0).toNat:Int):=by rw [wm,B1E];simp
    have b1:IntKind.wrap .u8 (n / 256)=((byI n 1).toNat:Int):=by rw [wm,B1E];simp
    have ef:A8 [Cell.i .u8 0,.i .u8 0] [(0,1,.c (.i .u8 (byI n 0).toNat)),(1,1,.c (.i .u8 (byI n 1).toNat))]=some (A1 (C3 2 n)):=rfl
    have ef5:A8 [Cell.i .u8 0,.i .u8 0,.i .u8 0,.i .u8 0,.i .u8 0] [(0,1,.c (.i .u8 0)),(1,1,.c (.i .u8 0)),(2,1,.c (.i .u8 0)),(3,1,.c (.i .u8 0)),(4,1,.c (.i .u8 0))]=some (A1 [0,0,0,0,0]):=rfl
    have hP:=fun h=>B9D hs h
    have hpl:(A1 (M8 s)).length=25:=by rw [B5];exact A50
    have hz:(A1 (zeros 25)).length=25:=by rw [B5];exact zeros_length
    have hA:=A0V (h:=g ++ [some (Row.mk [.s s,.i .i64 n] true),some (Row.mk [] true),some (Row.mk (A1 (C3 2 n)) true),some (Row.mk (A1 (M8 s)) true)]) (id:=g.length + 2) (jd:=g.length + 3) (n:=2) (m:=25) (sz:=1) (cs:=A1 (C3 2 n)) (ys:=A1 (M8 s)) (rw:=true) (by simp) (by simp [B5]) (by simp) (by rw [hpl]) rfl (by omega) (by omega)
    simp only [List.length_append,List.length_cons,List.length_nil,Nat.zero_add,List.append_assoc,List.cons_append,List.nil_append,A9m,List.set_cons_succ,List.set_cons_zero,Nat.reduceAdd,← A74] at hA
    have hl27:(A1 (C3 2 n ++ M8 s)).length=27 * 1:=by rw [B5,List.length_append,A2w,A50]
    have hA2:=A0V (h:=g ++ [some (Row.mk [.s s,.i .i64 n] true),some (Row.mk [] true),none,some (Row.mk (A1 (M8 s)) true),some (Row.mk (A1 (C3 2 n ++ M8 s)) true),some (Row.mk (A1 [0,0,0,0,0]) true)]) (id:=g.length + 4) (jd:=g.length + 5) (n:=27) (m:=5) (sz:=1) (cs:=A1 (C3 2 n ++ M8 s)) (ys:=A1 [0,0,0,0,0]) (rw:=true) (by simp) hl27 (by simp) rfl rfl (by omega) (by omega)
    simp only [List.length_append,List.length_cons,List.length_nil,Nat.zero_add,List.append_assoc,List.cons_append,List.nil_append,A9m,List.set_cons_succ,List.set_cons_zero,Nat.reduceAdd,← A74] at hA2
    rw [← List.append_assoc (C3 2 n),show C3 2 n ++ M8 s ++ [0,0,0,0,0]=M6 s n from rfl] at hA2
    rw [C2b,M1]
    refine ⟨.c (.sl (g.length + 6) 0 32 1),g ++ [some (Row.mk [.s s,.i .i64 n] true),some (Row.mk [] true),none,some (Row.mk (A1 (M8 s)) true),none,some (Row.mk (A1 [0,0,0,0,0]) true),some (Row.mk (A1 (M6 s n)) true)],?_,by rw [B5,A5B],g.length + 6,rfl,by omega,?_⟩
    · generalize M6 s n=E at *
      generalize C3 2 n ++ M8 s=Q at *
      generalize A1 [0,0,0,0,0]=F at *
      generalize A1 (M8 s)=P at *
      generalize A1 (C3 2 n)=B2 at *
      generalize zeros 25=z at *
      simp only [esc,esh,Nat.reduceAdd,Nat.reduceMul,Nat.reduceLT,b0,e4,b1,ef,hP,hpl,hz,hA,ef5,hA2]
    · simp
  obtain ⟨v,g',e,ho⟩:=key (ro h)
  exact C3R e (by simpa [M9] using ho) (by simp)
end Go.Proofs.YteckncopbicmcaaGreat
end
section
namespace Go.Proofs.YteckncopbicmcaaGreat
open Go Go.Esc
def A0C (b:List UInt8) (k:Nat):List UInt8:=(b.drop (H9 k)).take 32
def nameB (b:List UInt8) (k:Nat):List UInt8:=(b.drop (H9 k + 2)).take 25
def R0 (b:List UInt8) (k:Nat):Int:=fieldN b (H9 k) 2
abbrev Ent:=List UInt8 × Int
def isE (b:List UInt8) (k:Nat) (s:List UInt8):Bool:=A1C s (R0 b k) && decide (M6 s (R0 b k)=A0C b k)
def M0 (b:List UInt8) (k:Nat):Option Ent:=(A0E (nameB b k)).bind fun s=>if isE b k s=true then some (s,R0 b k) else none
def E3:Option Ent → List Cell
  | none=>[.s [],.i .i64 0]
  | some e=>[.s e.1,.i .i64 e.2]
theorem D2A {b:List UInt8} {k:Nat} (hb:b.length=256) (hk:k < 7):(A0C b k).length=32:=by simp [A0C,H9,hb];omega
theorem B8H {b:List UInt8} {k:Nat} (hb:b.length=256) (hk:k < 7):(nameB b k).length=25:=by simp [nameB,H9,hb];omega
theorem C1R {l s:List UInt8} (h:A0E l=some s):V2 s=true:=by
  unfold A0E at h
  split at h
  · split at h
    · rename_i hc
      cases h;exact hc.1
    · cases h
  · cases h
def cpN (l:List UInt8) (i:Nat):List UInt8:=l.take i ++ zeros (25 - i)
theorem C7x {l:List UInt8} {i:Nat} (hl:l.length=25) (hi:i ≤ 25):(cpN l i).length=25:=by simp [cpN,zeros,hl];omega
theorem C7y {l:List UInt8} {i:Nat} (hl:l.length=25) (hi:i < 25):(cpN l i).set i l[i]=cpN l (i + 1):=by
  unfold cpN
  have hlen:(List.take i l).length=i:=by simp;omega
  rw [List.set_append_right _ _ (by omega),hlen,Nat.sub_self,List.take_succ_eq_append_getElem (by omega),List.append_assoc]
  refine congrArg (List.take i l ++ ·) ?_
  have e:25 - i=(25 - (i + 1)) + 1:=by omega
  rw [e]
  unfold zeros
  rw [List.replicate_succ,List.set_cons_zero];rfl
theorem C7w {l:List UInt8} (hl:l.length=25):cpN l 25=l:=by simp [cpN,zeros,List.take_of_length_le,hl]
theorem C7z {b:List UInt8} {k:Nat}:P7 b (H9 k:Nat) 32=A0C b k:=by
  unfold P7 A0C
  rw [if_pos (by omega)]
  simp
theorem C60 {b:List UInt8} {k:Nat} (hk:k < 7):((atN b (H9 k:Nat) 2:Nat):Int)=R0 b k:=by
  unfold atN R0 fieldN H9
  rw [if_pos ⟨by omega,A0i.2 (by omega)⟩]
  simp only [Int.toNat_natCast]
  rfl
theorem B5o {b:List UInt8} {k q:Nat} {g:A0} (hb:b.length=256) (hk:k < 7):∀ e i m:Nat,i + e=25 → e < m →
    ∃ h',A7Q q m (.c (.i .i64 (k:Int))) (.c (.p g.length 0)) (.c (.p (g.length + 1) 0)) (.c (.p (g.length + 2) 0)) (.c (.i .i64 (i:Int))) (g ++ [some (Row.mk (A1 b) true),some (Row.mk [.s [],.i .i64 0] true),some (Row.mk (A1 (cpN (nameB b k) i)) true)]) =
      some (.t [.a (E3 (M0 b k)),.c (.b (M0 b k).isSome)],h')
  | e,i,0,_,hm=>by omega
  | 0,i,m + 1,hi,hm=>by
    have e0:i=25:=by omega
    subst e0
    have hnl:=B8H hb hk
    rw [C7w hnl]
    have c0:¬ ((25:Nat):Int) < 25:=by omega
    have hbl:(A1 b).length=256:=by rw [B5,hb]
    have hnc:(A1 (nameB b k)).length=25:=by rw [B5,hnl]
    have hU:=fun h=>D3L hnl h
    have hF:=fun h=>B1B (h:=h) hk
    have hA:=fun h=>A06 (h:=h) hb (a:=(H9 k:Nat)) (w:=2)
    rw [C60 hk] at hA
    have ef:∀ (s:List UInt8) (n:Int),A8 [Cell.s [],.i .i64 0] [(0,1,.c (.s s)),(1,1,.c (.i .i64 n))]=some [.s s,.i .i64 n]:=fun _ _=>rfl
    have ef0:A8 [Cell.s [],.i .i64 0] []=some [.s [],.i .i64 0]:=rfl
    rw [B5G]
    unfold M0
    cases hu:A0E (nameB b k) with
    | none =>
      rw [hu] at hU
      simp only [Option.getD_none,Option.isSome_none,Bool.false_eq_true,if_false] at hU
      generalize R0 b k=n at *
      generalize A1 (nameB b k)=z at *
      generalize A1 b=y at *
      exact ⟨_,by simp only [esc,esh,Nat.reduceAdd,Nat.reduceMul,Nat.reduceLT,c0,hbl,hnc,hU,hF,hA,ef,ef0,Int.reduceEq,Option.bind_none,E3] <;> rfl⟩
    | some s =>
      rw [hu] at hU
      simp only [Option.getD_some,Option.isSome_some,if_true] at hU
      have hfs:=(A8n (C1R hu)).2
      have hM:=fun h=>B5C (s:=s) (n:=R0 b k) (h:=h) (by omega)
      rw [Option.bind_some]
      unfold isE
      cases hm:A1C s (R0 b k) with
      | false =>
        rw [hm] at hM
        rw [Bool.false_and,if_neg (by simp)]
        generalize R0 b k=n at *
        generalize A1 (nameB b k)=z at *
        generalize A1 b=y at *
        exact ⟨_,by simp only [esc,esh,Nat.reduceAdd,Nat.reduceMul,Nat.reduceLT,c0,hbl,hnc,hU,hF,hA,ef,ef0,hM,Int.reduceEq,E3] <;> rfl⟩
      | true =>
        rw [hm] at hM
        rw [Bool.true_and]
        have hW:=fun h=>B5H (s:=s) (n:=R0 b k) (h:=h) (by omega)
        have hsl:=D2A hb hk
        have hC:=fun h=>A80 (h:=h) hb (a:=(H9 k:Nat)) (n:=32)
        rw [C7z,hsl] at hC
        have s1:=fun (c0 c1 c2 c3:Option Row)=>Has.str (l:=M6 s (R0 b k)) (Has.row (h:=g ++ [c0,c1,c2,c3,some (Row.mk (A1 (M6 s (R0 b k))) true)]) (id:=g.length + 4) (sz:=1) (n:=32) (rw:=true) (by simp) (by rw [B5,A5B]) (O6 _))
        have s2:=fun (c0 c1 c2 c3 c4:Option Row)=>Has.str (l:=A0C b k) (Has.row (h:=g ++ [c0,c1,c2,c3,c4,some (Row.mk (A1 (A0C b k)) true)]) (id:=g.length + 5) (sz:=1) (n:=32) (rw:=true) (by simp) (by rw [B5,hsl]) (O6 _))
        by_cases ce:M6 s (R0 b k)=A0C b k
        · rw [if_pos (decide_eq_true ce)]
          generalize M6 s (R0 b k)=E at *
          generalize A0C b k=L at *
          generalize R0 b k=n at *
          subst ce
          generalize A1 (nameB b k)=z at *
          generalize A1 b=y at *
          exact ⟨_,by simp only [esc,esh,Nat.reduceAdd,Nat.reduceMul,Nat.reduceLT,c0,hbl,hnc,hU,hF,hA,ef,ef0,hM,hW,B9Q,s1,hC,B9R,s2,eq_self,decide_true,Int.reduceEq,E3,Option.isSome_some] <;> rfl⟩
        · rw [if_neg (by rw [decide_eq_true_eq];exact ce)]
          generalize M6 s (R0 b k)=E at *
          generalize A0C b k=L at *
          generalize R0 b k=n at *
          generalize A1 (nameB b k)=z at *
          generalize A1 b=y at *
          exact ⟨_,by simp only [esc,esh,Nat.reduceAdd,Nat.reduceMul,Nat.reduceLT,c0,hbl,hnc,hU,hF,hA,ef,ef0,hM,hW,B9Q,s1,hC,B9R,s2,ce,Int.reduceEq,E3,Option.isSome_none] <;> rfl⟩
  | e + 1,i,m + 1,hi,hm=>by
    obtain ⟨h',ih⟩:=B5o (q:=q) (g:=g) hb hk e (i + 1) m (by omega) (by omega)
    have hnl:=B8H hb hk
    have c0:(i:Int) < 25:=by omega
    have hF:=fun h=>B1B (h:=h) hk
    have hbl:(A1 b).length=256:=by rw [B5,hb]
    have hcl:(A1 (cpN (nameB b k) i)).length=25:=by rw [B5];exact C7x hnl (by omega)
    have hlt:i < (A1 (cpN (nameB b k) i)).length:=by omega
    have w1:IntKind.wrap .i64 (((H9 k:Nat):Int) + 2)=((H9 k + 2:Nat):Int):=by unfold H9;rw [wrap_i64 (by omega) (by omega)];omega
    have w2:IntKind.wrap .i64 (((H9 k + 2:Nat):Int) + (i:Int))=((H9 k + 2 + i:Nat):Int):=by unfold H9;rw [wrap_i64 (by omega) (by omega)];omega
    have hj:H9 k + 2 + i < 256:=by unfold H9;omega
    have a1:E1 256 1 (.c (.p g.length 0)) (.c (.i .i64 ((H9 k + 2 + i:Nat):Int)))=some (.c (.p g.length (H9 k + 2 + i))):=by rw [T3 hj];simp
    have a2:E1 25 1 (.c (.p (g.length + 2) 0)) (.c (.i .i64 (i:Int)))=some (.c (.p (g.length + 2) i)):=by rw [T3 (by omega)];simp
    have ei:(nameB b k)[i]'(by omega)=b[H9 k + 2 + i]'(by omega):=by simp [nameB]
    have l1:(A1 b)[H9 k + 2 + i]? = some (.i .u8 ((nameB b k)[i]'(by omega)).toNat):=by
      rw [ei];simp [A1,hb,hj]
    have hs:(A1 (cpN (nameB b k) i)).set i (.i .u8 ((nameB b k)[i]'(by omega)).toNat)=A1 (cpN (nameB b k) (i + 1)):=by rw [A0r,C7y hnl (by omega)]
    rw [B5G]
    refine ⟨h',?_⟩
    generalize A1 (cpN (nameB b k) (i + 1))=z1 at *
    generalize A1 (cpN (nameB b k) i)=z at *
    generalize A1 b=y at *
    simp only [esc,esh,Nat.reduceAdd,Nat.reduceMul,Nat.reduceLT,c0,hF,w1,w2,a1,l1,a2,hlt,hs,E2 (show i + 1 < 9223372036854775808 by omega)]
    exact ih
end Go.Proofs.YteckncopbicmcaaGreat
end
section
namespace Go.Proofs.YteckncopbicmcaaGreat
open Go Go.Esc
theorem C74 {o:Option Ent}:F9 (E3 o)=true:=by cases o <;> rfl
theorem B5F {b:List UInt8} {k:Nat} {h:A0} (hb:b.length=256) (hk:k < 7):A1Z [.a (A1 b),.c (.i .i64 (k:Int))] h=some (.t [.a (E3 (M0 b k)),.c (.b (M0 b k).isSome)],h):=by
  have key:∀ N,25 < N → ∀ g,∃ g',A6r N [.a (A1 b),.c (.i .i64 (k:Int))] g=some (.t [.a (E3 (M0 b k)),.c (.b (M0 b k).isSome)],g'):=by
    intro N hN g
    obtain ⟨h',e⟩:=B5o (g:=g) (q:=N) hb hk 25 0 N (by omega) hN
    have e0:cpN (nameB b k) 0=zeros 25:=by simp [cpN]
    rw [e0] at e
    rw [C2a,M1]
    generalize zeros 25=z at *
    generalize A1 b=y at *
    exact ⟨h',by simp only [esc,esh,Nat.reduceAdd,Nat.reduceMul,Nat.reduceLT];exact e⟩
  obtain ⟨g',e⟩:=key (h.length + 26) (by omega) (ro h)
  exact C3Q e (by simp [Val.flat,C74,Cell.flat])
end Go.Proofs.YteckncopbicmcaaGreat
end
section
namespace Go.Proofs.YteckncopbicmcaaGreat
open Go Go.Esc
abbrev Slt:=Nat × Ent
def slC:Option Slt → List Cell
  | none=>[.i .i64 0,.s [],.i .i64 0]
  | some x=>[.i .i64 (x.1:Int),.s x.2.1,.i .i64 x.2.2]
theorem A1K {o:Option Slt}:(slC o).length=3:=by cases o <;> rfl
theorem C0u {o:Option Slt}:F9 (slC o)=true:=by cases o <;> rfl
def W3 (b nm:List UInt8):Nat → Nat → Option Slt
  | 0,_=>none
  | e + 1,k=>match M0 b k with
    | some x=>if x.1=nm then some (k,x) else W3 b nm e (k + 1)
    | none=>W3 b nm e (k + 1)
theorem C8E {b nm:List UInt8} {e k:Nat} (hx:M0 b k=none):W3 b nm (e + 1) k=W3 b nm e (k + 1):=by rw [W3,hx]
theorem C8C {b nm:List UInt8} {e k:Nat} {n:Int} (hx:M0 b k=some (nm,n)):W3 b nm (e + 1) k=some (k,(nm,n)):=by rw [W3,hx];simp
theorem C8D {b nm s:List UInt8} {e k:Nat} {n:Int} (hx:M0 b k=some (s,n)) (hne:s ≠ nm):W3 b nm (e + 1) k=W3 b nm e (k + 1):=by rw [W3,hx];simp [hne]
def K7 (b nm:List UInt8):Option Slt:=W3 b nm 7 0
theorem C8A {k n:Int} {s nm:List UInt8} {r1 r2 r3:Nat} {h:A0} (h1:rd h r1=some ⟨[.s nm],true⟩) (h3:rd h r3=some ⟨[.b false],true⟩) (hne:s ≠ nm) :
    A3a [.a [.i .i64 k,.s s,.i .i64 n],.c (.p r1 0),.c (.p r2 0),.c (.p r3 0)] h=some (.c (.b true),h ++ [some ⟨[.i .i64 k,.s s,.i .i64 n],true⟩]):=by
  refine B4e (n:=0) ?_
  have l1:A3 (h ++ [some (Row.mk [.i .i64 k,.s s,.i .i64 n] true)]) (.c (.p r1 0))=some (.c (.s nm)):=D8 (cs:=[.s nm]) (B6 h1) rfl rfl
  have l3:A3 (h ++ [some (Row.mk [.i .i64 k,.s s,.i .i64 n] true)]) (.c (.p r3 0))=some (.c (.b false)):=D8 (cs:=[.b false]) (B6 h3) rfl rfl
  rw [B37]
  simp only [esc,esh,Nat.reduceAdd,Nat.reduceMul,Nat.reduceLT,l1,hne,B5q,l3] <;> rfl
theorem C8B {k n:Int} {nm:List UInt8} {c2:List Cell} {r1 r2 r3:Nat} {h:A0} (h1:rd h r1=some ⟨[.s nm],true⟩) (h2:rd h r2=some ⟨c2,true⟩) (hl:c2.length=3) (h3:rd h r3=some ⟨[.b false],true⟩) (h23:r2 ≠ r3) :
    A3a [.a [.i .i64 k,.s nm,.i .i64 n],.c (.p r1 0),.c (.p r2 0),.c (.p r3 0)] h=some (.c (.b false),((h ++ [some (Row.mk [.i .i64 k,.s nm,.i .i64 n] true)]).set r2 (some (Row.mk [.i .i64 k,.s nm,.i .i64 n] true))).set r3 (some (Row.mk [.b true] true))):=by
  refine B4e (n:=0) ?_
  have l1:A3 (h ++ [some (Row.mk [.i .i64 k,.s nm,.i .i64 n] true)]) (.c (.p r1 0))=some (.c (.s nm)):=D8 (cs:=[.s nm]) (B6 h1) rfl rfl
  have s2:=storeAll (h:=h ++ [some (Row.mk [.i .i64 k,.s nm,.i .i64 n] true)]) (id:=r2) (n:=3) (xs:=[.i .i64 k,.s nm,.i .i64 n]) (B6 h2) hl rfl
  have h3':rd ((h ++ [some (Row.mk [.i .i64 k,.s nm,.i .i64 n] true)]).set r2 (some (Row.mk [.i .i64 k,.s nm,.i .i64 n] true))) r3=some ⟨[.b false],true⟩:=by rw [C7 h23];exact B6 h3
  have s3:=N5 (x:=.b true) (off:=0) h3' (by simp)
  have l4:A3 (((h ++ [some (Row.mk [.i .i64 k,.s nm,.i .i64 n] true)]).set r2 (some (Row.mk [.i .i64 k,.s nm,.i .i64 n] true))).set r3 (some (Row.mk [.b true] true))) (.c (.p r3 0))=some (.c (.b true)):=D8 (cs:=[.b true]) (G3 (by simpa using B8 h3')) rfl rfl
  rw [B37]
  have s3:E7 ((h ++ [some (Row.mk [.i .i64 k,.s nm,.i .i64 n] true)]).set r2 (some (Row.mk [.i .i64 k,.s nm,.i .i64 n] true))) (.c (.p r3 0)) (.c (.b true))=some (((h ++ [some (Row.mk [.i .i64 k,.s nm,.i .i64 n] true)]).set r2 (some (Row.mk [.i .i64 k,.s nm,.i .i64 n] true))).set r3 (some (Row.mk [.b true] true))):=s3
  simp only [esc,esh,Nat.reduceAdd,Nat.reduceMul,Nat.reduceLT,l1,s2,s3,B5q,l4] <;> rfl
theorem B1Y {b nm:List UInt8} {r0 r1 r2 r3 q:Nat} {B:A0} (hb:b.length=256) (hB1:rd B r1=some ⟨[.s nm],true⟩) (hr2:B.length ≤ r2) (hr3:B.length ≤ r3) (h23:r2 ≠ r3) (h02:r0 ≠ r2) (h03:r0 ≠ r3):∀ (e k m:Nat) (h:A0),k + e=7 → e < m → Low B.length B h →
    rd h r2=some ⟨slC none,true⟩ → rd h r3=some ⟨[.b false],true⟩ → rd h r0=some ⟨A1 b,true⟩ →
    ∃ h',A7O q m (.c (.f 153 [(r1,0),(r2,0),(r3,0)])) (.c (.p r0 0)) (.c (.i .i64 (k:Int))) h=some (.t [],h') ∧ Low B.length B h' ∧ rd h' r2=some ⟨slC (W3 b nm e k),true⟩ ∧ rd h' r3=some ⟨[.b (W3 b nm e k).isSome],true⟩
  | e,k,0,h,_,hm,_,_,_,_=>by omega
  | 0,k,m + 1,h,hk,hm,hlow,h2,h3,h0=>by
    have e0:k=7:=by omega
    subst e0
    have c0:¬ ((7:Nat):Int) < 7:=by omega
    refine ⟨h,?_,hlow,h2,h3⟩
    rw [B5z]
    simp only [esc,c0] <;> rfl
  | e + 1,k,m + 1,h,hk,hm,hlow,h2,h3,h0=>by
    have c0:(k:Int) < 7:=by omega
    have hbl:(A1 b).length=256:=by rw [B5,hb]
    have s1:=G0 (h:=h) (id:=r0) h0 hbl
    have hR:=B5F (h:=h) (k:=k) hb (by omega)
    have w1:=E2 (show k + 1 < 9223372036854775808 by omega)
    have hcv:∀ (x:Val) (h:A0),L7 A25 (.c (.f 153 [(r1,0),(r2,0),(r3,0)])) [x] h=A3a [x,.c (.p r1 0),.c (.p r2 0),.c (.p r3 0)] h:=fun _ _=>Eq.trans rfl rfl
    rw [B5z]
    cases hx:M0 b k with
    | none =>
      rw [hx] at hR
      rw [C8E hx]
      obtain ⟨h',f1,f2⟩:=B1Y (q:=q) hb hB1 hr2 hr3 h23 h02 h03 e (k + 1) m (h ++ [some ⟨[.s [],.i .i64 0],true⟩]) (by omega) (by omega) (hlow.new _) (B6 h2) (B6 h3) (B6 h0)
      refine ⟨h',?_,f2⟩
      generalize A1 b=y at *
      simp only [esc,esh,Nat.reduceAdd,Nat.reduceMul,Nat.reduceLT,c0,s1,hR,E3,Option.isSome_none,w1]
      exact f1
    | some x =>
      obtain ⟨s,n⟩:=x
      rw [hx] at hR
      have ef:A8 [Cell.i .i64 0,.s [],.i .i64 0] [(0,1,.c (.i .i64 (k:Int))),(1,2,.a [.s s,.i .i64 n])]=some [.i .i64 (k:Int),.s s,.i .i64 n]:=rfl
      have h1':rd (h ++ [some (Row.mk [.s s,.i .i64 n] true)]) r1=some ⟨[.s nm],true⟩:=B6 (hlow.rd hB1)
      by_cases ce:s=nm
      · subst ce
        have hF:=C8B (k:=(k:Int)) (n:=n) h1' (B6 h2) A1K (B6 h3) h23
        simp only [List.append_assoc,List.cons_append,List.nil_append] at hF
        rw [C8C hx]
        refine ⟨((h ++ [some (Row.mk [.s s,.i .i64 n] true),some (Row.mk [.i .i64 (k:Int),.s s,.i .i64 n] true)]).set r2 (some (Row.mk [.i .i64 (k:Int),.s s,.i .i64 n] true))).set r3 (some (Row.mk [.b true] true)),?_,((hlow.new [some (Row.mk [.s s,.i .i64 n] true),some (Row.mk [.i .i64 (k:Int),.s s,.i .i64 n] true)]).set hr2 _).set hr3 _,?_,?_⟩
        · generalize A1 b=y at *
          simp only [esc,esh,Nat.reduceAdd,Nat.reduceMul,Nat.reduceLT,c0,s1,hR,E3,Option.isSome_some,ef,hcv,hF] <;> rfl
        · rw [C7 (Ne.symm h23)]
          exact G3 (B8 (B6 h2))
        · exact G3 (by rw [List.length_set];exact B8 (B6 h3))
      · have hF:=C8A (k:=(k:Int)) (n:=n) (r2:=r2) h1' (B6 h3) ce
        simp only [List.append_assoc,List.cons_append,List.nil_append] at hF
        rw [C8D hx ce]
        obtain ⟨h',f1,f2⟩:=B1Y (q:=q) hb hB1 hr2 hr3 h23 h02 h03 e (k + 1) m (h ++ [some (Row.mk [.s s,.i .i64 n] true),some (Row.mk [.i .i64 (k:Int),.s s,.i .i64 n] true)]) (by omega) (by omega) (hlow.new _) (B6 h2) (B6 h3) (B6 h0)
        refine ⟨h',?_,f2⟩
        generalize A1 b=y at *
        simp only [esc,esh,Nat.reduceAdd,Nat.reduceMul,Nat.reduceLT,c0,s1,hR,E3,Option.isSome_some,ef,hcv,hF,w1]
        exact f1
theorem B5r {b nm:List UInt8} {h:A0} (hb:b.length=256):A1W [.a (A1 b),.c (.s nm)] h=some (.t [.a (slC (K7 b nm)),.c (.b (K7 b nm).isSome)],h):=by
  have key:∀ g,∃ g',A6m 0 [.a (A1 b),.c (.s nm)] g=some (.t [.a (slC (K7 b nm)),.c (.b (K7 b nm).isSome)],g'):=by
    intro g
    have hbl:(A1 b).length=256:=by rw [B5,hb]
    have emk:X2 153 [.c (.p (g.length + 1) 0),.c (.p (g.length + 3) 0),.c (.p (g.length + 4) 0)]=some (.c (.f 153 [(g.length + 1,0),(g.length + 3,0),(g.length + 4,0)])):=rfl
    obtain ⟨h',f1,f2,f3,f4⟩:=B1Y (b:=b) (nm:=nm) (r0:=g.length + 5) (r1:=g.length + 1) (r2:=g.length + 3) (r3:=g.length + 4) (q:=8) (B:=g ++ [some (Row.mk (A1 b) true),some (Row.mk [.s nm] true),some (Row.mk (slC none) true)]) hb (by simp) (by simp) (by simp) (by omega) (by omega) (by omega) 7 0 8 (g ++ [some (Row.mk (A1 b) true),some (Row.mk [.s nm] true),some (Row.mk (slC none) true),some (Row.mk (slC none) true),some (Row.mk [.b false] true),some (Row.mk (A1 b) true)]) (by omega) (by omega)
      (by have:=(Low.refl (h:=g ++ [some (Row.mk (A1 b) true),some (Row.mk [.s nm] true),some (Row.mk (slC none) true)]) (Nat.le_refl _)).new [some (Row.mk (slC none) true),some (Row.mk [.b false] true),some (Row.mk (A1 b) true)]
          simpa using this) (by simp) (by simp) (by simp)
    have hS:A4x [.a (A1 b),.c (.f 153 [(g.length + 1,0),(g.length + 3,0),(g.length + 4,0)])] (g ++ [some (Row.mk (A1 b) true),some (Row.mk [.s nm] true),some (Row.mk (slC none) true),some (Row.mk (slC none) true),some (Row.mk [.b false] true)])=some (.t [],h'):=by
      refine C3I (n:=8) ?_
      rw [C15]
      simp only [esc,esh,Nat.reduceAdd,Nat.reduceMul,Nat.reduceLT]
      exact f1
    have hr:rd h' (g.length + 2)=some ⟨slC none,true⟩:=by rw [f2.2.2 _ (by simp)];simp
    change rd h' (g.length + 3)=some ⟨slC (K7 b nm),true⟩ at f3
    change rd h' (g.length + 4)=some ⟨[.b (K7 b nm).isSome],true⟩ at f4
    have t1:=G0 (n:=3) f3 A1K
    have t2:A3 h' (.c (.p (g.length + 4) 0))=some (.c (.b (K7 b nm).isSome)):=D8 (cs:=[.b (K7 b nm).isSome]) f4 rfl rfl
    have t3:=storeAll (n:=3) (xs:=slC (K7 b nm)) hr A1K A1K
    have f4':rd (h'.set (g.length + 2) (some ⟨slC (K7 b nm),true⟩)) (g.length + 4)=some ⟨[.b (K7 b nm).isSome],true⟩:=by rw [C7 (by omega)];exact f4
    have t4:A3 (h'.set (g.length + 2) (some ⟨slC (K7 b nm),true⟩)) (.c (.p (g.length + 4) 0))=some (.c (.b (K7 b nm).isSome)):=D8 (cs:=[.b (K7 b nm).isSome]) f4' rfl rfl
    have t5:=G0 (n:=3) (G3 (x:=some ⟨slC (K7 b nm),true⟩) (B8 hr)) A1K
    have z0:[Cell.i .i64 0,.s [],.i .i64 0]=slC none:=rfl
    rw [C12,z0]
    generalize slC (K7 b nm)=Y at *
    generalize slC none=Z at *
    generalize (K7 b nm).isSome=S at *
    generalize A1 b=y at *
    exact ⟨_,by simp only [esc,esh,Nat.reduceAdd,Nat.reduceMul,Nat.reduceLT,hbl,emk,hS,t1,t2,t3,t4,t5] <;> rfl⟩
  obtain ⟨g',e⟩:=key (ro h)
  exact C3B e (by simp [Val.flat,C0u,Cell.flat])
end Go.Proofs.YteckncopbicmcaaGreat
end
noncomputable section
namespace Go.Proofs.YteckncopbicmcaaGreat
open Go Go.Esc
set_option maxRecDepth 100000
def A_dread_Route:AFn:=⟨.seq [2,3,4] (.ops [aO 3 (.box (.t 0)),aO 4 (.box (.t 1)),aO 6 (.mv (.v (.c (.i .i64 0)))),aO 7 (.mv (.v (.c (.i .i64 0)))),aO 8 (.mv (.v (.c (.b false))))]) (.seq [2,9,10] (.ops [aO 13 (.loadN 4 (.t 3)),aO 14 (.loadN 11 (.t 4)),aO 15 (.call 76 [(.t 13),(.t 14)]),aO 12 (.mv (.t 15)),aO 16 (.ext (.t 12) 0),aO 17 (.ext (.t 12) 1),aO 9 (.alloc ([.i .i64 0] ++ List.replicate 32 (.i .i64 0))),aN (.storeN 33 (.t 9) (.t 16)),aO 10 (.mv (.t 17))]) (.seq [2,9] (.seq [2,9,19] (.ops [aO 18 (.mv (.t 10)),aO 19 (.un .not (.t 18))]) (.cond (.t 19) (.seq [6,7,8] (.ops [aO 6 (.mv (.v (.c (.i .i64 0)))),aO 7 (.mv (.v (.c (.i .i64 0)))),aO 8 (.mv (.v (.c (.b false))))]) .ret) .skip)) (.seq [9,11] (.draw 0 [aO 20 (.loadN 33 (.t 9)),aO 21 (.mv (.t 2)),aO 22 (.call 78 [(.t 21)])] [aO 23 (.call 77 [(.t 20),(.t 22)]),aO 11 (.mv (.t 23))]) (.seq [6,7,8] (.draw 0 [aO 24 (.mv (.t 11)),aO 25 (.mv (.t 11)),aO 26 (.fAddr (.t 9) 1),aO 27 (.iAddrA 32 1 (.t 26) (.t 25)),aO 28 (.load1 (.t 27)),aO 6 (.mv (.t 24))] [aO 7 (.mv (.t 28)),aO 8 (.mv (.v (.c (.b true))))]) .ret)))),[.tmp 6,.tmp 7,.tmp 8]⟩
def A9Z:B0:=B1 76 A13 (B1 78 A2a (B1 77 A4X C0))
def A6v (n:Nat) (args:List Val) (h:A0):A6:=ax A9Z n A_dread_Route.code A_dread_Route.fin (params 0 args) h
theorem C2e (n:Nat) (a0 a1 a2:Val) (h:A0):A6v n [a0,a1,a2] h=bnd (cells? a0) fun c1=>bnd (cells? a1) fun c2=>bnd (A4 ((h ++ [some (Row.mk (c1) true)]) ++ [some (Row.mk (c2) true)]) 4 (.c (.p h.length 0))) fun v3=>bnd (A4 ((h ++ [some (Row.mk (c1) true)]) ++ [some (Row.mk (c2) true)]) 11 (.c (.p (h ++ [some (Row.mk (c1) true)]).length 0))) fun v4=>bnd (A13 [v3,v4] ((h ++ [some (Row.mk (c1) true)]) ++ [some (Row.mk (c2) true)])) fun p5=>bnd (C5 p5.1 0) fun v6=>bnd (C5 p5.1 1) fun v7=>bnd (B4 (p5.2 ++ [some (Row.mk ([.i .i64 0] ++ List.replicate 32 (.i .i64 0)) true)]) 33 (.c (.p p5.2.length 0)) v6) fun h8=>bnd (aun .not v7) fun v9=>cnd v9 (D3 [some (.c (.i .i64 0)),some (.c (.i .i64 0)),some (.c (.b false))] h8) (bnd (A4 h8 33 (.c (.p p5.2.length 0))) fun v10=>bnd (quiet (h8 ++ []) (A2a [a2] (h8 ++ []))) fun p11=>bnd (A4X [v10,p11.1] p11.2) fun p12=>bnd (A7 (.c (.p p5.2.length 0)) 1) fun v13=>bnd (E1 32 1 v13 p12.1) fun v14=>bnd (A3 p12.2 v14) fun v15=>D3 [some p12.1,some v15,some (.c (.b true))] (p12.2 ++ [])):=by kernel_rfl
theorem K_dread_Route:FnK Tryz.prog 22 A_dread_Route A9Z A6v:=.mk' (B3 B4m (B3 B4t (B3 C4W C2))) Tryz.func22 (by kernel_rfl) (fun _ _ _=>C1)
def A4D:Fun:=tidy (Lim A_dread_Route A9Z)
theorem C3Y:SOk Tryz.prog 22 A4D:=K_dread_Route.sok
theorem C3X:C9 A6v A4D:=K_dread_Route.flat
def A_dread_Lookup:AFn:=⟨.seq [2,3,4,6] (.ops [aO 3 (.box (.t 0)),aO 4 (.box (.t 1)),aO 6 (.alloc ([.i .i64 0,.i .i64 0,.i .i64 0])),aO 7 (.mv (.v (.c (.b false))))]) (.seq [2,3,6,9,10] (.ops [aO 14 (.loadN 4 (.t 3)),aO 15 (.loadN 11 (.t 4)),aO 16 (.mv (.t 2)),aO 17 (.call 22 [(.t 14),(.t 15),(.t 16)]),aO 13 (.mv (.t 17)),aO 18 (.ext (.t 13) 0),aO 19 (.ext (.t 13) 1),aO 20 (.ext (.t 13) 2),aO 8 (.mv (.t 18)),aO 9 (.mv (.t 19)),aO 10 (.mv (.t 20))]) (.seq [2,3,6,9] (.seq [2,3,6,9,29] (.ops [aO 21 (.mv (.t 10)),aO 22 (.un .not (.t 21)),aO 23 (.mv (.t 22)),aG 24 23 false (.fAddr (.t 3) 0),aG 25 23 false (.loadN 3 (.t 24)),aG 26 23 false (.mv (.t 9)),aG 27 23 false (.call 72 [(.t 25),(.t 26)]),aG 28 23 false (.un .not (.t 27)),aO 29 (.pick (.t 23) (.v (.c (.b true))) (.t 28))]) (.cond (.t 29) (.seq [6,7] (.ops [aO 30 (.build ([.i .i64 0,.i .i64 0,.i .i64 0]) []),aN (.storeN 3 (.t 6) (.t 30)),aO 7 (.mv (.v (.c (.b false))))]) .ret) .skip)) (.seq [6,9,11,12] (.ops [aO 32 (.loadN 4 (.t 3)),aO 33 (.mv (.t 9)),aO 34 (.call 71 [(.t 32),(.t 33)]),aO 35 (.mv (.t 2)),aO 36 (.call 73 [(.t 34),(.t 35)]),aO 31 (.mv (.t 36)),aO 37 (.ext (.t 31) 0),aO 38 (.ext (.t 31) 1),aO 11 (.alloc ([.i .i64 0,.s [],.i .i64 0])),aN (.storeN 3 (.t 11) (.t 37)),aO 12 (.mv (.t 38))]) (.seq [6,9,11] (.seq [6,9,11,40] (.ops [aO 39 (.mv (.t 12)),aO 40 (.un .not (.t 39))]) (.cond (.t 40) (.seq [6,7] (.ops [aO 41 (.build ([.i .i64 0,.i .i64 0,.i .i64 0]) []),aN (.storeN 3 (.t 6) (.t 41)),aO 7 (.mv (.v (.c (.b false))))]) .ret) .skip)) (.seq [6,7] (.ops [aO 42 (.mv (.t 9)),aO 43 (.fAddr (.t 11) 0),aO 44 (.load1 (.t 43)),aO 45 (.fAddr (.t 11) 1),aO 46 (.fAddr (.t 45) 1),aO 47 (.load1 (.t 46)),aO 48 (.build ([.i .i64 0,.i .i64 0,.i .i64 0]) [(0,1,(.t 42)),(1,1,(.t 44)),(2,1,(.t 47))]),aN (.storeN 3 (.t 6) (.t 48)),aO 7 (.mv (.v (.c (.b true))))]) .ret))))),[.cellN 6 3,.tmp 7]⟩
def A9Y:B0:=B1 22 A4D (B1 72 X0 (B1 71 S7 (B1 73 A1W C0)))
def A6u (n:Nat) (args:List Val) (h:A0):A6:=ax A9Y n A_dread_Lookup.code A_dread_Lookup.fin (params 0 args) h
theorem C2d (n:Nat) (a0 a1 a2:Val) (h:A0):A6u n [a0,a1,a2] h=bnd (cells? a0) fun c1=>bnd (cells? a1) fun c2=>bnd (A4 (((h ++ [some (Row.mk (c1) true)]) ++ [some (Row.mk (c2) true)]) ++ [some (Row.mk ([.i .i64 0,.i .i64 0,.i .i64 0]) true)]) 4 (.c (.p h.length 0))) fun v3=>bnd (A4 (((h ++ [some (Row.mk (c1) true)]) ++ [some (Row.mk (c2) true)]) ++ [some (Row.mk ([.i .i64 0,.i .i64 0,.i .i64 0]) true)]) 11 (.c (.p (h ++ [some (Row.mk (c1) true)]).length 0))) fun v4=>bnd (A4D [v3,v4,a2] (((h ++ [some (Row.mk (c1) true)]) ++ [some (Row.mk (c2) true)]) ++ [some (Row.mk ([.i .i64 0,.i .i64 0,.i .i64 0]) true)])) fun p5=>bnd (C5 p5.1 0) fun v6=>bnd (C5 p5.1 1) fun v7=>bnd (C5 p5.1 2) fun v8=>bnd (aun .not v8) fun v9=>bnd (gd v9 false (bnd (A7 (.c (.p h.length 0)) 0) fun v10=>some (v10,p5.2)) (some (.no,p5.2))) fun p11=>bnd (gd v9 false (bnd (A4 p11.2 3 p11.1) fun v12=>some (v12,p11.2)) (some (.no,p11.2))) fun p13=>bnd (gd v9 false (some (v7,p13.2)) (some (.no,p13.2))) fun p14=>bnd (gd v9 false (bnd (X0 [p13.1,p14.1] p14.2) fun p15=>some (p15.1,p15.2)) (some (.no,p14.2))) fun p16=>bnd (gd v9 false (bnd (aun .not p16.1) fun v17=>some (v17,p16.2)) (some (.no,p16.2))) fun p18=>bnd (C4 v9 (.c (.b true)) p18.1) fun v19=>cnd v19 (bnd (A8 ([.i .i64 0,.i .i64 0,.i .i64 0]) []) fun c20=>bnd (B4 p18.2 3 (.c (.p ((h ++ [some (Row.mk (c1) true)]) ++ [some (Row.mk (c2) true)]).length 0)) (.a c20)) fun h21=>D3 [A4 h21 3 (.c (.p ((h ++ [some (Row.mk (c1) true)]) ++ [some (Row.mk (c2) true)]).length 0)),some (.c (.b false))] h21) (bnd (A4 p18.2 4 (.c (.p h.length 0))) fun v22=>bnd (S7 [v22,v7] p18.2) fun p23=>bnd (A1W [p23.1,a2] p23.2) fun p24=>bnd (C5 p24.1 0) fun v25=>bnd (C5 p24.1 1) fun v26=>bnd (B4 (p24.2 ++ [some (Row.mk ([.i .i64 0,.s [],.i .i64 0]) true)]) 3 (.c (.p p24.2.length 0)) v25) fun h27=>bnd (aun .not v26) fun v28=>cnd v28 (bnd (A8 ([.i .i64 0,.i .i64 0,.i .i64 0]) []) fun c29=>bnd (B4 h27 3 (.c (.p ((h ++ [some (Row.mk (c1) true)]) ++ [some (Row.mk (c2) true)]).length 0)) (.a c29)) fun h30=>D3 [A4 h30 3 (.c (.p ((h ++ [some (Row.mk (c1) true)]) ++ [some (Row.mk (c2) true)]).length 0)),some (.c (.b false))] h30) (bnd (A7 (.c (.p p24.2.length 0)) 0) fun v31=>bnd (A3 h27 v31) fun v32=>bnd (A7 (.c (.p p24.2.length 0)) 1) fun v33=>bnd (A7 v33 1) fun v34=>bnd (A3 h27 v34) fun v35=>bnd (A8 ([.i .i64 0,.i .i64 0,.i .i64 0]) [(0,1,v7),(1,1,v32),(2,1,v35)]) fun c36=>bnd (B4 h27 3 (.c (.p ((h ++ [some (Row.mk (c1) true)]) ++ [some (Row.mk (c2) true)]).length 0)) (.a c36)) fun h37=>D3 [A4 h37 3 (.c (.p ((h ++ [some (Row.mk (c1) true)]) ++ [some (Row.mk (c2) true)]).length 0)),some (.c (.b true))] h37)):=by kernel_rfl
theorem K_dread_Lookup:FnK Tryz.prog 20 A_dread_Lookup A9Y A6u:=.mk' (B3 C3Y (B3 A7w (B3 A3j (B3 B4f C2)))) Tryz.func20 (by kernel_rfl) (fun _ _ _=>C1)
def A4C:Fun:=tidy (Lim A_dread_Lookup A9Y)
theorem C3W:SOk Tryz.prog 20 A4C:=K_dread_Lookup.sok
theorem C3V:C9 A6u A4C:=K_dread_Lookup.flat
def A_dread_List_1:AFn:=⟨.seq [1,2,3,4,5,6] (.ops [aO 6 (.box (.t 0))]) (.seq [1,4,5,6,8,9] (.ops [aO 11 (.loadN 4 (.t 2)),aO 12 (.loadN 11 (.t 3)),aO 13 (.mv (.t 1)),aO 14 (.call 20 [(.t 11),(.t 12),(.t 13)]),aO 10 (.mv (.t 14)),aO 15 (.ext (.t 10) 0),aO 16 (.ext (.t 10) 1),aO 8 (.alloc ([.i .i64 0,.i .i64 0,.i .i64 0])),aN (.storeN 3 (.t 8) (.t 15)),aO 9 (.mv (.t 16))]) (.seq [1,4,5,6,22] (.ops [aO 17 (.mv (.t 9)),aO 18 (.mv (.t 17)),aG 19 18 true (.loadN 3 (.t 8)),aG 20 18 true (.loadN 3 (.t 6)),aG 21 18 true (.eqA false ([.i .i64,.i .i64,.i .i64]) (.t 19) (.t 20)),aO 22 (.pick (.t 18) (.t 21) (.v (.c (.b false))))]) (.cond (.t 22) (.seq [1,5,6] (.ops [aO 23 (.load1 (.t 4)),aO 24 (.mv (.t 1)),aO 25 (.buildSl 1 1 ([.s []]) [(0,1,(.t 24))]),aO 26 (.app 1 (.t 23) (.t 25)),aN (.store1 (.t 4) (.t 26))]) (.ops [aO 27 (.load1 (.t 5)),aO 28 (.mv (.t 1)),aO 29 (.fAddr (.t 6) 2),aO 30 (.load1 (.t 29)),aN (.mput none (.t 27) (.t 28) (.t 30))])) .skip))),[]⟩
def A9X:B0:=B1 20 A4C C0
def B0I (n:Nat) (args:List Val) (h:A0):A6:=ax A9X n A_dread_List_1.code A_dread_List_1.fin (params 0 args) h
theorem B0J (n:Nat) (a0 a1 a2 a3 a4 a5:Val) (h:A0):B0I n [a0,a1,a2,a3,a4,a5] h=bnd (cells? a0) fun c1=>bnd (A4 (h ++ [some (Row.mk (c1) true)]) 4 a2) fun v2=>bnd (A4 (h ++ [some (Row.mk (c1) true)]) 11 a3) fun v3=>bnd (A4C [v2,v3,a1] (h ++ [some (Row.mk (c1) true)])) fun p4=>bnd (C5 p4.1 0) fun v5=>bnd (C5 p4.1 1) fun v6=>bnd (B4 (p4.2 ++ [some (Row.mk ([.i .i64 0,.i .i64 0,.i .i64 0]) true)]) 3 (.c (.p p4.2.length 0)) v5) fun h7=>bnd (gd v6 true (bnd (A4 h7 3 (.c (.p p4.2.length 0))) fun v8=>some (v8,h7)) (some (.no,h7))) fun p9=>bnd (gd v6 true (bnd (A4 p9.2 3 (.c (.p h.length 0))) fun v10=>some (v10,p9.2)) (some (.no,p9.2))) fun p11=>bnd (gd v6 true (bnd (aeq false ([.i .i64,.i .i64,.i .i64]) p9.1 p11.1) fun v12=>some (v12,p11.2)) (some (.no,p11.2))) fun p13=>bnd (C4 v6 p13.1 (.c (.b false))) fun v14=>cnd v14 (bnd (A3 p13.2 a4) fun v15=>bnd (A8 ([.s []]) [(0,1,a1)]) fun c16=>bnd (F0 (p13.2 ++ [some (Row.mk (c16) true)]) 1 v15 (.c (.sl p13.2.length 0 1 1))) fun p17=>bnd (E7 p17.2 a4 p17.1) fun h18=>bnd (A3 h18 a5) fun v19=>bnd (A7 (.c (.p h.length 0)) 2) fun v20=>bnd (A3 h18 v20) fun v21=>bnd (U9 h18 none v19 a1 v21) fun h22=>D3 [] h22) (D3 [] p13.2):=by kernel_rfl
theorem K_dread_List_1:FnK Tryz.prog 85 A_dread_List_1 A9X B0I:=.mk' (B3 C3W C2) Tryz.func85 (by kernel_rfl) (fun _ _ _=>C1)
def A4B:Fun:=Lim A_dread_List_1 A9X
theorem C3S:SOk Tryz.prog 85 A4B:=K_dread_List_1.ok
theorem B08:OfT B0I A4B:=K_dread_List_1.of
def B6a:ACode:=.seq [2,3,7,12,13,14,21,22,23,24] (.ops [aO 24 (.bin .lss (.t 23) (.t 22))]) (.seq [2,3,7,12,13,14,21,22,23] (.cond (.t 24) .skip (.exit 2)) (.seq [2,3,7,12,13,14,21,22,23] (.block 3 (.seq [2,3,7,9,12,13,14,21,22,23] (.ops [aO 25 (.iAddrL 3 (.t 21) (.t 23)),aO 26 (.loadN 3 (.t 25)),aO 9 (.alloc ([.i .i64 0,.s [],.i .i64 0])),aN (.storeN 3 (.t 9) (.t 26))]) (.ops [aO 27 (.mv (.t 2)),aO 28 (.mv (.t 7)),aO 29 (.fAddr (.t 9) 0),aO 30 (.load1 (.t 29)),aO 31 (.fAddr (.t 9) 1),aO 32 (.fAddr (.t 31) 1),aO 33 (.load1 (.t 32)),aO 34 (.build ([.i .i64 0,.i .i64 0,.i .i64 0]) [(0,1,(.t 28)),(1,1,(.t 30)),(2,1,(.t 33))]),aO 35 (.fAddr (.t 9) 1),aO 36 (.fAddr (.t 35) 0),aO 37 (.load1 (.t 36)),aO 38 (.callV (.t 27) [(.t 34),(.t 37)])]))) (.ops [aO 39 (.bin .add (.t 23) (.v (.c (.i .i64 1)))),aO 23 (.mv (.t 39))])))
def B6b:ACode:=.ops [aO 40 (.bin .add (.t 14) (.v (.c (.i .i64 1)))),aO 14 (.mv (.t 40))]
def B1W:ACode:=.seq [2,3,12,13,14,15] (.ops [aO 15 (.bin .lss (.t 14) (.t 13))]) (.seq [2,3,12,13,14] (.cond (.t 15) .skip (.exit 0)) (.seq [2,3,12,13,14] (.block 1 (.seq [2,3,7,12,13,14] (.ops [aO 16 (.iAddrL 1 (.t 12) (.t 14)),aO 17 (.load1 (.t 16)),aO 7 (.mv (.t 17))]) (.seq [2,3,7,12,13,14,21,22,23] (.ops [aO 18 (.loadN 4 (.t 3)),aO 19 (.mv (.t 7)),aO 20 (.call 71 [(.t 18),(.t 19)]),aO 21 (.call 88 [(.t 20)]),aO 22 (.len (.t 21)),aO 23 (.mv (.v (.c (.i .i64 0))))]) (.block 2 (.loop [2,3,7,12,13,14,21,22,23] B6a))))) B6b))
def A_dread_each__List_1:AFn:=⟨.seq [2,3,4] (.ops [aO 3 (.box (.t 0)),aO 4 (.box (.t 1))]) (.seq [2,3,12,13,14] (.ops [aO 10 (.loadN 4 (.t 3)),aO 11 (.loadN 11 (.t 4)),aO 12 (.call 87 [(.t 10),(.t 11)]),aO 13 (.len (.t 12)),aO 14 (.mv (.v (.c (.i .i64 0))))]) (.block 0 (.loop [2,3,12,13,14] B1W))),[]⟩
def A0j:B0:=B1 87 A4N (B1 71 S7 (B1 88 A1X (B1 85 A4B C0)))
def B1X (n:Nat):A9 (Val × A0):=D6 0 A_dread_each__List_1.fin
def A70 (n m:Nat) (x2 x3 x12 x13 x14:Val) (h:A0):A6:=C6 (ax A0j n B1W) [2,3,12,13,14] (B1X n) m [(2,x2),(3,x3),(12,x12),(13,x13),(14,x14)] h
def B0K (n:Nat) (args:List Val) (h:A0):A6:=ax A0j n A_dread_each__List_1.code A_dread_each__List_1.fin (params 0 args) h
def C7O (n m:Nat):A9 (Val × A0):=P9 [2,3,12,13,14] (C6 (ax A0j n B1W) [2,3,12,13,14] (B1X n) m) (B1X n)
def C7P (n m:Nat):A9 (Val × A0):=E4 [2,3,12,13,14] (ax A0j n B6b) (C7O n m)
def C7Q (n m:Nat):A9 (Val × A0):=D6 1 (C7P n m)
def C7R (n m:Nat):A9 (Val × A0):=D6 2 (C7Q n m)
def A71 (n m m2:Nat) (x2 x3 x7 x12 x13 x14 x21 x22 x23:Val) (h:A0):A6:=C6 (ax A0j n B6a) [2,3,7,12,13,14,21,22,23] (C7R n m) m2 [(2,x2),(3,x3),(7,x7),(12,x12),(13,x13),(14,x14),(21,x21),(22,x22),(23,x23)] h
theorem C2f (n:Nat) (a0 a1 a2:Val) (h:A0):B0K n [a0,a1,a2] h=bnd (cells? a0) fun c1=>bnd (cells? a1) fun c2=>bnd (A4 ((h ++ [some (Row.mk (c1) true)]) ++ [some (Row.mk (c2) true)]) 4 (.c (.p h.length 0))) fun v3=>bnd (A4 ((h ++ [some (Row.mk (c1) true)]) ++ [some (Row.mk (c2) true)]) 11 (.c (.p (h ++ [some (Row.mk (c1) true)]).length 0))) fun v4=>bnd (A4N [v3,v4] ((h ++ [some (Row.mk (c1) true)]) ++ [some (Row.mk (c2) true)])) fun p5=>bnd (D5 p5.1) fun v6=>A70 n n a2 (.c (.p h.length 0)) p5.1 v6 (.c (.i .i64 0)) p5.2:=by kernel_rfl
theorem C7S (n m:Nat) (x2 x3 x12 x13 x14:Val) (h:A0):A70 n (m + 1) x2 x3 x12 x13 x14 h=bnd (A2 .lss x14 x13) fun v7=>cnd v7 (bnd (B7 1 x12 x14) fun v8=>bnd (A3 h v8) fun v9=>bnd (A4 h 4 x3) fun v10=>bnd (S7 [v10,v9] h) fun p11=>bnd (A1X [p11.1] p11.2) fun p12=>bnd (D5 p12.1) fun v13=>A71 n m n x2 x3 v9 x12 x13 x14 p12.1 v13 (.c (.i .i64 0)) p12.2) (D3 [] h):=by kernel_rfl
theorem C7T (n m m2:Nat) (x2 x3 x7 x12 x13 x14 x21 x22 x23:Val) (h:A0):A71 n m (m2 + 1) x2 x3 x7 x12 x13 x14 x21 x22 x23 h=bnd (A2 .lss x23 x22) fun v14=>cnd v14 (bnd (B7 3 x21 x23) fun v15=>bnd (A4 h 3 v15) fun v16=>bnd (B4 (h ++ [some (Row.mk ([.i .i64 0,.s [],.i .i64 0]) true)]) 3 (.c (.p h.length 0)) v16) fun h17=>bnd (A7 (.c (.p h.length 0)) 0) fun v18=>bnd (A3 h17 v18) fun v19=>bnd (A7 (.c (.p h.length 0)) 1) fun v20=>bnd (A7 v20 1) fun v21=>bnd (A3 h17 v21) fun v22=>bnd (A8 ([.i .i64 0,.i .i64 0,.i .i64 0]) [(0,1,x7),(1,1,v19),(2,1,v22)]) fun c23=>bnd (A7 (.c (.p h.length 0)) 1) fun v24=>bnd (A7 v24 0) fun v25=>bnd (A3 h17 v25) fun v26=>bnd (L7 A0j x2 [(.a c23),v26] h17) fun p27=>bnd (A2 .add x23 (.c (.i .i64 1))) fun v28=>A71 n m m2 x2 x3 x7 x12 x13 x14 x21 x22 v28 p27.2) (bnd (A2 .add x14 (.c (.i .i64 1))) fun v29=>A70 n m x2 x3 x12 x13 v29 h):=by kernel_rfl
theorem K_dread_each__List_1:FnK Tryz.prog 83 A_dread_each__List_1 A0j B0K:=.mk' (B3 C4w (B3 A3j (B3 C3E (B3 C3S C2)))) Tryz.func83 (by kernel_rfl) (fun _ _ _=>C1)
def A4E:Fun:=Lim A_dread_each__List_1 A0j
theorem C30:SOk Tryz.prog 83 A4E:=K_dread_each__List_1.ok
theorem C3Z:OfT B0K A4E:=K_dread_each__List_1.of
def B57:ACode:=.seq [6,7,16,17,18,19] (.ops [aO 19 (.bin .lss (.t 18) (.t 17))]) (.seq [6,7,16,17,18] (.cond (.t 19) .skip (.exit 0)) (.seq [6,7,16,17,18] (.block 1 (.seq [6,7,9,16,17,18] (.ops [aO 20 (.iAddrL 1 (.t 16) (.t 18)),aO 21 (.load1 (.t 20)),aO 9 (.mv (.t 21))]) (.ops [aO 22 (.mv (.t 7)),aO 23 (.mv (.t 9)),aO 24 (.load1 (.t 6)),aO 25 (.mv (.t 9)),aO 26 (.look none (.c (.i .i64 0)) false (.t 24) (.t 25)),aO 27 (.build ([.s [],.i .i64 0]) [(0,1,(.t 23)),(1,1,(.t 26))]),aO 28 (.buildSl 2 1 (([.s [],.i .i64 0])) [(0,2,(.t 27))]),aO 29 (.app 2 (.t 22) (.t 28)),aO 7 (.mv (.t 29))]))) (.ops [aO 30 (.bin .add (.t 18) (.v (.c (.i .i64 1)))),aO 18 (.mv (.t 30))])))
def B58:ACode:=.seq [4] (.ops [aO 31 (.mv (.t 7)),aO 4 (.mv (.t 31))]) .ret
def A_dread_List:AFn:=⟨.seq [2,3] (.ops [aO 2 (.box (.t 0)),aO 3 (.box (.t 1)),aO 4 (.nilrow 2)]) (.seq [2,3,5] (.ops [aO 5 (.alloc ([.ns]))]) (.seq [2,3,5,6] (.ops [aO 10 (.mkMap),aO 6 (.alloc ([.nm])),aN (.store1 (.t 6) (.t 10))]) (.seq [5,6] (.ops [aO 11 (.loadN 4 (.t 2)),aO 12 (.loadN 11 (.t 3)),aO 13 (.mkf 85 [(.t 2),(.t 3),(.t 5),(.t 6)]),aO 14 (.call 83 [(.t 11),(.t 12),(.t 13)])]) (.seq [5,6,7] (.ops [aO 7 (.nilrow 2)]) (.seq [7] (.seq [6,7,16,17,18] (.ops [aO 15 (.load1 (.t 5)),aO 16 (.call 86 [(.t 15)]),aO 17 (.len (.t 16)),aO 18 (.mv (.v (.c (.i .i64 0))))]) (.block 0 (.loop [6,7,16,17,18] B57))) B58))))),[.tmp 4]⟩
def A3U:B0:=B1 83 A4E (B1 86 A0N C0)
def C7K (n:Nat):A9 (Val × A0):=E4 [7] (ax A3U n B58) A_dread_List.fin
def C7L (n:Nat):A9 (Val × A0):=D6 0 (C7K n)
def A7Z (n m:Nat) (x6 x7 x16 x17 x18:Val) (h:A0):A6:=C6 (ax A3U n B57) [6,7,16,17,18] (C7L n) m [(6,x6),(7,x7),(16,x16),(17,x17),(18,x18)] h
def A6t (n:Nat) (args:List Val) (h:A0):A6:=ax A3U n A_dread_List.code A_dread_List.fin (params 0 args) h
theorem C2c (n:Nat) (a0 a1:Val) (h:A0):A6t n [a0,a1] h=bnd (cells? a0) fun c1=>bnd (cells? a1) fun c2=>bnd (E7 ((((((h ++ [some (Row.mk (c1) true)]) ++ [some (Row.mk (c2) true)]) ++ [some (Row.mk ([]) true)]) ++ [some (Row.mk ([.ns]) true)]) ++ [some (E6 [])]) ++ [some (Row.mk ([.nm]) true)]) (.c (.p (((((h ++ [some (Row.mk (c1) true)]) ++ [some (Row.mk (c2) true)]) ++ [some (Row.mk ([]) true)]) ++ [some (Row.mk ([.ns]) true)]) ++ [some (E6 [])]).length 0)) (.c (.m ((((h ++ [some (Row.mk (c1) true)]) ++ [some (Row.mk (c2) true)]) ++ [some (Row.mk ([]) true)]) ++ [some (Row.mk ([.ns]) true)]).length))) fun h3=>bnd (A4 h3 4 (.c (.p h.length 0))) fun v4=>bnd (A4 h3 11 (.c (.p (h ++ [some (Row.mk (c1) true)]).length 0))) fun v5=>bnd (X2 85 [(.c (.p h.length 0)),(.c (.p (h ++ [some (Row.mk (c1) true)]).length 0)),(.c (.p (((h ++ [some (Row.mk (c1) true)]) ++ [some (Row.mk (c2) true)]) ++ [some (Row.mk ([]) true)]).length 0)),(.c (.p (((((h ++ [some (Row.mk (c1) true)]) ++ [some (Row.mk (c2) true)]) ++ [some (Row.mk ([]) true)]) ++ [some (Row.mk ([.ns]) true)]) ++ [some (E6 [])]).length 0))]) fun v6=>bnd (A4E [v4,v5,v6] h3) fun p7=>bnd (A3 (p7.2 ++ [some (Row.mk ([]) true)]) (.c (.p (((h ++ [some (Row.mk (c1) true)]) ++ [some (Row.mk (c2) true)]) ++ [some (Row.mk ([]) true)]).length 0))) fun v8=>bnd (A0N [v8] (p7.2 ++ [some (Row.mk ([]) true)])) fun p9=>bnd (D5 p9.1) fun v10=>A7Z n n (.c (.p (((((h ++ [some (Row.mk (c1) true)]) ++ [some (Row.mk (c2) true)]) ++ [some (Row.mk ([]) true)]) ++ [some (Row.mk ([.ns]) true)]) ++ [some (E6 [])]).length 0)) (.c (.sl p7.2.length 0 0 2)) p9.1 v10 (.c (.i .i64 0)) p9.2:=by kernel_rfl
theorem B59 (n m:Nat) (x6 x7 x16 x17 x18:Val) (h:A0):A7Z n (m + 1) x6 x7 x16 x17 x18 h=bnd (A2 .lss x18 x17) fun v11=>cnd v11 (bnd (B7 1 x16 x18) fun v12=>bnd (A3 h v12) fun v13=>bnd (A3 h x6) fun v14=>bnd (P4 h none (.c (.i .i64 0)) false v14 v13) fun v15=>bnd (A8 ([.s [],.i .i64 0]) [(0,1,v13),(1,1,v15)]) fun c16=>bnd (A8 (([.s [],.i .i64 0])) [(0,2,(.a c16))]) fun c17=>bnd (F0 (h ++ [some (Row.mk (c17) true)]) 2 x7 (.c (.sl h.length 0 1 2))) fun p18=>bnd (A2 .add x18 (.c (.i .i64 1))) fun v19=>A7Z n m x6 p18.1 x16 x17 v19 p18.2) (some (x7,h)):=by kernel_rfl
theorem K_dread_List:FnK Tryz.prog 28 A_dread_List A3U A6t:=.mk' (B3 C30 (B3 B4w C2)) Tryz.func28 (by kernel_rfl) (fun _ _ _=>C1)
def A4A:Fun:=tidy (Lim A_dread_List A3U)
theorem C3T:SOk Tryz.prog 28 A4A:=K_dread_List.sok
theorem C3U:U6 A6t A4A:=K_dread_List.out
end Go.Proofs.YteckncopbicmcaaGreat
end
section
namespace Go.Proofs.YteckncopbicmcaaGreat
open Go Go.Esc
def Z7 (X:List Int) (nm:List UInt8):Nat:=A0c nm % J1 (X.headD 0)
def A02 (X:List Int) (nm:List UInt8):Int:=X.tail.getD (Z7 X nm) 0
theorem C83 (X:List Int) (nm:List UInt8):Z7 X nm < 32:=by
  have h1:=A5T (X.headD 0)
  have h2:0 < J1 (X.headD 0):=by unfold J1;exact Nat.two_pow_pos _
  have:=Nat.mod_lt (A0c nm) h2
  unfold Z7;omega
def A54 (D:Dev) (n k:Int) (d:List Int) (nm:List UInt8):List Part :=
  bif V3 D n k d then [.c (.i .i64 (Z7 (R9 D n k d) nm:Nat)),.c (.i .i64 (A02 (R9 D n k d) nm)),.c (.b true)] else [.c (.i .i64 0),.c (.i .i64 0),.c (.b false)]
theorem C7N {D:Dev} {n m k l s p:Int} {d:List Int} {f:Cell} {nm:List UInt8} {h:A0} (hD:okD D) (hd:d.length=7) (hv:IsView h f D) (hs:nm.length < 9223372036854775807) :
    A4D [.a (vwC D.length n m f),.a (A5 k l s p d),.c (.s nm)] h=some (.t (A54 D n k d nm),h):=by
  have key:∀ g,IsView g f D → ∃ g',A6v 0 [.a (vwC D.length n m f),.a (A5 k l s p d),.c (.s nm)] g=some (.t (A54 D n k d nm),g'):=by
    intro g hv
    have hIl:(A5 k l s p d).length=11:=by simp [A5,G6,hd]
    have l11:ldN (some (Row.mk (A5 k l s p d) true)) 0 11=some (.a (A5 k l s p d)):=Q0 hIl
    have l4:=A21 (b:=D.length) (n:=n) (m:=m) (f:=f)
    have hz:(encI (0 :: zI 32)).length=33:=R6 (d:=0) O9
    have hX:=B7x D n k d
    have hI:=B66 (n:=n) (m:=m) (k:=k) (l:=l) (s:=s) (p:=p) (h:=g ++ [some (Row.mk (vwC D.length n m f) true),some (Row.mk (A5 k l s p d) true)]) hD hd (hv.more _)
    rw [C2e,A24]
    unfold A54
    cases c:V3 D n k d with
    | false =>
      rw [c] at hI
      generalize encI (R9 D n k d)=x at *
      generalize encI (0 :: zI 32)=z at *
      generalize vwC D.length n m f=V at *
      generalize A5 k l s p d=I at *
      exact ⟨_,by simp only [esc,esh,Nat.reduceAdd,Nat.reduceMul,Nat.reduceLT,l4,l11,hI,hz,hX] <;> rfl⟩
    | true =>
      rw [c] at hI
      have hM:=fun h=>B8D (s:=nm) hs (h:=h)
      obtain ⟨x,t,e,ht⟩:=B7w D n k d
      rw [e] at hI hX ⊢
      have hP:=fun h=>C9f (d:=x) (h:=h) ht (B8x (s:=nm))
      have hlt:=C83 (x :: t) nm
      have eP:A0c nm % J1 x=Z7 (x :: t) nm:=rfl
      rw [eP] at hP
      have ad:∀ q,E1 32 1 (.c (.p q 1)) (.c (.i .i64 (Z7 (x :: t) nm:Nat)))=some (.c (.p q (1 + Z7 (x :: t) nm))):=fun q=>by
        rw [C6x (by omega) (by omega)];simp
      have l1:ld1 (some (Row.mk (encI (x :: t)) true)) (1 + Z7 (x :: t) nm)=some (.c (.i .i64 (A02 (x :: t) nm))):=by
        rw [B2H]
        have:(encI (x :: t))[1 + Z7 (x :: t) nm]? = some (.i .i64 (A02 (x :: t) nm)):=by
          rw [R5,Nat.add_comm,List.getElem?_cons_succ,List.getElem?_eq_getElem (by omega)]
          unfold A02
          rw [List.tail_cons,List.getD_eq_getElem?_getD,List.getElem?_eq_getElem (by omega)];rfl
        rw [this];rfl
      generalize A02 (x :: t) nm=B at *
      generalize Z7 (x :: t) nm=P at *
      generalize encI (x :: t)=X at *
      generalize encI (0 :: zI 32)=z at *
      generalize vwC D.length n m f=V at *
      generalize A5 k l s p d=I at *
      exact ⟨_,by simp only [esc,A0T,X1,A7E,T8,A2s,A0o,Q0,A9r,Nat.reduceAdd,l4,l11,hI,hz,hX,hM,hP,ad,l1] <;> rfl⟩
  obtain ⟨g',e⟩:=key (ro h) hv.ro
  exact C3X e (by unfold A54;cases V3 D n k d <;> rfl)
abbrev Plc:=Int × Nat × Int
def L9:Option Plc → List Cell
  | none=>[.i .i64 0,.i .i64 0,.i .i64 0]
  | some p=>[.i .i64 p.1,.i .i64 (p.2.1:Int),.i .i64 p.2.2]
def A04 (D:Dev) (n k:Int) (d:List Int) (nm:List UInt8):Option Plc :=
  if V3 D n k d=true ∧ P8 D.length n (A02 (R9 D n k d) nm)=true then (K7 (blk D (A02 (R9 D n k d) nm)) nm).map fun s=>(A02 (R9 D n k d) nm,s.1,s.2.2) else none
theorem C7M {D:Dev} {n m k l s p:Int} {d:List Int} {f:Cell} {nm:List UInt8} {h:A0} (hD:okD D) (hd:d.length=7) (hv:IsView h f D) (hs:nm.length < 9223372036854775807) :
    A4C [.a (vwC D.length n m f),.a (A5 k l s p d),.c (.s nm)] h=some (.t [.a (L9 (A04 D n k d nm)),.c (.b (A04 D n k d nm).isSome)],h):=by
  have key:∀ g,IsView g f D → ∃ g',A6u 0 [.a (vwC D.length n m f),.a (A5 k l s p d),.c (.s nm)] g=some (.t [.a (L9 (A04 D n k d nm)),.c (.b (A04 D n k d nm).isSome)],g'):=by
    intro g hv
    have hIl:(A5 k l s p d).length=11:=by simp [A5,G6,hd]
    have l11:ldN (some (Row.mk (A5 k l s p d) true)) 0 11=some (.a (A5 k l s p d)):=Q0 hIl
    have l4:=A21 (b:=D.length) (n:=n) (m:=m) (f:=f)
    have l3:=A3R (b:=D.length) (n:=n) (m:=m) (f:=f)
    have ef:A8 [Cell.i .i64 0,.i .i64 0,.i .i64 0] []=some [Cell.i .i64 0,.i .i64 0,.i .i64 0]:=rfl
    have l3z:ldN (some (Row.mk [Cell.i .i64 0,.i .i64 0,.i .i64 0] true)) 0 3=some (.a [Cell.i .i64 0,.i .i64 0,.i .i64 0]):=rfl
    have s3z:∀ x,stN (some (Row.mk [Cell.i .i64 0,.i .i64 0,.i .i64 0] true)) 0 3 [Cell.i .i64 x,.i .i64 0,.i .i64 0]=some ⟨[Cell.i .i64 x,.i .i64 0,.i .i64 0],true⟩:=fun _=>rfl
    have hR:=C7N (n:=n) (m:=m) (k:=k) (l:=l) (s:=s) (p:=p) (nm:=nm) (h:=g ++ [some (Row.mk (vwC D.length n m f) true),some (Row.mk (A5 k l s p d) true),some (Row.mk [.i .i64 0,.i .i64 0,.i .i64 0] true)]) hD hd (hv.more _) hs
    rw [C2d]
    unfold A04
    unfold A54 at hR
    cases c:V3 D n k d with
    | false =>
      rw [c,cond_false] at hR
      rw [if_neg (by simp)]
      generalize vwC D.length n m f=V at *
      generalize A5 k l s p d=I at *
      exact ⟨_,by simp only [esc,esh,Nat.reduceAdd,Nat.reduceMul,Nat.reduceLT,l4,l11,hR,ef,l3z,s3z,L9,Option.isSome_none] <;> rfl⟩
    | true =>
      rw [c,cond_true] at hR
      generalize Z7 (R9 D n k d) nm=P at *
      generalize A02 (R9 D n k d) nm=B at *
      have hG:=fun h=>A5H (b:=D.length) (n:=n) (m:=m) (i:=B) (h:=h)
      cases c2:P8 D.length n B with
      | false =>
        simp only [c2] at hG
        rw [if_neg (by simp)]
        generalize vwC D.length n m f=V at *
        generalize A5 k l s p d=I at *
        exact ⟨_,by simp only [esc,esh,Nat.reduceAdd,Nat.reduceMul,Nat.reduceLT,l4,l11,l3,hR,hG,ef,l3z,s3z,L9,Option.isSome_none] <;> rfl⟩
      | true =>
        simp only [c2] at hG
        rw [if_pos ⟨rfl,rfl⟩]
        have hB:=A3Q (n:=n) (m:=m) (no:=B) (h:=g ++ [some (Row.mk (vwC D.length n m f) true),some (Row.mk (A5 k l s p d) true),some (Row.mk [.i .i64 0,.i .i64 0,.i .i64 0] true)]) hD (hv.more _)
        have hF:=fun h=>B5r (b:=blk D B) (nm:=nm) (h:=h) (A0X hD)
        cases c3:K7 (blk D B) nm with
        | none =>
          simp only [c3] at hF
          generalize A1 (blk D B)=y at *
          generalize vwC D.length n m f=V at *
          generalize A5 k l s p d=I at *
          have s3:stN (some (Row.mk [Cell.i .i64 0,.s [],.i .i64 0] true)) 0 3 (slC none)=some ⟨slC none,true⟩:=rfl
          exact ⟨_,by simp only [esc,esh,Nat.reduceAdd,Nat.reduceMul,Nat.reduceLT,l4,l11,l3,hR,hG,hB,hF,ef,l3z,s3z,s3,L9,Option.isSome_none,Option.map_none] <;> rfl⟩
        | some sl =>
          obtain ⟨kk,s',i'⟩:=sl
          simp only [c3] at hF
          generalize A1 (blk D B)=y at *
          generalize vwC D.length n m f=V at *
          generalize A5 k l s p d=I at *
          have s3:stN (some (Row.mk [Cell.i .i64 0,.s [],.i .i64 0] true)) 0 3 (slC (some (kk,s',i')))=some ⟨slC (some (kk,s',i')),true⟩:=rfl
          have g0:ld1 (some (Row.mk (slC (some (kk,s',i'))) true)) 0=some (.c (.i .i64 (kk:Int))):=rfl
          have g2:ld1 (some (Row.mk (slC (some (kk,s',i'))) true)) 2=some (.c (.i .i64 i')):=rfl
          have ef3:A8 [Cell.i .i64 0,.i .i64 0,.i .i64 0] [(0,1,.c (.i .i64 B)),(1,1,.c (.i .i64 (kk:Int))),(2,1,.c (.i .i64 i'))]=some [Cell.i .i64 B,.i .i64 (kk:Int),.i .i64 i']:=rfl
          have s33:stN (some (Row.mk [Cell.i .i64 0,.i .i64 0,.i .i64 0] true)) 0 3 [Cell.i .i64 B,.i .i64 (kk:Int),.i .i64 i']=some ⟨[Cell.i .i64 B,.i .i64 (kk:Int),.i .i64 i'],true⟩:=rfl
          have l33:ldN (some (Row.mk [Cell.i .i64 B,.i .i64 (kk:Int),.i .i64 i'] true)) 0 3=some (.a [Cell.i .i64 B,.i .i64 (kk:Int),.i .i64 i']):=rfl
          exact ⟨_,by simp only [esc,A0T,X1,A7E,T8,A2s,A0o,Q0,A9r,Nat.reduceAdd,l4,l11,l3,hR,hG,hB,hF,ef,s3,g0,g2,ef3,s33,l33,L9,Option.isSome_some,Option.map_some] <;> rfl⟩
  obtain ⟨g',e⟩:=key (ro h) hv.ro
  exact C3V e (by cases A04 D n k d nm <;> rfl)
end Go.Proofs.YteckncopbicmcaaGreat
end
section
namespace Go.Proofs.YteckncopbicmcaaGreat
open Go Go.Esc
def J7 (l:List Slt):List Cell:=(l.map fun x=>slC (some x)).flatten
theorem A9n {l:List Slt}:(J7 l).length=l.length * 3:=by
  induction l with
  | nil=>rfl
  | cons x l ih=>simp only [J7,List.map_cons,List.flatten_cons,List.length_append,A1K,List.length_cons] at ih ⊢;omega
theorem D2z {l:List Slt} {x:Slt}:J7 (l ++ [x])=J7 l ++ slC (some x):=by simp [J7]
theorem D2y {l:List Slt}:F9 (J7 l)=true:=by
  induction l with
  | nil=>rfl
  | cons x l ih =>
    have:J7 (x :: l)=slC (some x) ++ J7 l:=rfl
    rw [this,A8o,C0u,ih];rfl
theorem D0m {l:List Slt}:noX (J7 l)=true:=by
  induction l with
  | nil=>rfl
  | cons x l ih =>
    have:J7 (x :: l)=[.i .i64 (x.1:Int),.s x.2.1,.i .i64 x.2.2] ++ J7 l:=rfl
    rw [this]
    simp [noX,Cell.isX] at ih ⊢
    exact ih
def Q1 (b:List UInt8):Nat → Nat → List Slt
  | 0,_=>[]
  | e + 1,k=>match M0 b k with
    | some x=>(k,x) :: Q1 b e (k + 1)
    | none=>Q1 b e (k + 1)
def K8 (b:List UInt8):List Slt:=Q1 b 7 0
theorem B2K {b:List UInt8} {e k:Nat} (hx:M0 b k=none):Q1 b (e + 1) k=Q1 b e (k + 1):=by rw [Q1,hx]
theorem B2L {b:List UInt8} {e k:Nat} {x:Ent} (hx:M0 b k=some x):Q1 b (e + 1) k=(k,x) :: Q1 b e (k + 1):=by rw [Q1,hx]
theorem C6U {h:A0} {jd m sz:Nat} {ys:List Cell} (hy:rd h jd=some ⟨ys,true⟩) (hyl:ys.length=m * sz) (hsz:0 < sz) (hn:m ≤ 1073741824) :
    F0 h sz (.c .ns) (.c (.sl jd 0 m sz))=some (.c (.sl h.length 0 m sz),h ++ [some ⟨ys,true⟩]):=by
  have h2:M4 h sz (.c (.sl jd 0 m sz))=some ys:=by
    simp only [M4,if_true,W7,hy,Option.bind_some,List.drop_zero,Nat.zero_add]
    rw [← hyl,List.take_length,if_pos ⟨Nat.le_refl _,rfl⟩]
  have e1:ys.length / sz=m:=by rw [hyl];exact Nat.mul_div_cancel _ hsz
  simp only [F0,h2,Option.bind_some]
  rw [e1,if_pos hn]
def Held (h:A0) (x:Cell) (l:List Slt) (b r0 r:Nat):Prop:=(l=[] ∧ x=.ns) ∨ ∃ id,x=.sl id 0 l.length 3 ∧ rd h id=some ⟨J7 l,true⟩ ∧ b ≤ id ∧ id ≠ r0 ∧ id ≠ r
theorem Held.more {h:A0} {x:Cell} {l:List Slt} {b r0 r:Nat} (hd:Held h x l b r0 r) (t:A0):Held (h ++ t) x l b r0 r:=by
  rcases hd with hd | ⟨id,h1,h2,h3⟩
  · exact .inl hd
  · exact .inr ⟨id,h1,B6 h2,h3⟩
theorem C9S {k:Nat} {n:Int} {s:List UInt8} {x:Cell} {l:List Slt} {r0 r:Nat} {B h:A0} {c0:List Cell} (hlow:Low B.length B h) (hr:rd h r=some ⟨[x],true⟩) (h0:rd h r0=some ⟨c0,true⟩) (h0r:r0 ≠ r) (hBr:B.length ≤ r) (hB0:B.length ≤ r0) (hd:Held h x l B.length r0 r) (hl:l.length ≤ 7) :
    ∃ x' h',A4v [.a [.i .i64 (k:Int),.s s,.i .i64 n],.c (.p r 0)] h=some (.c (.b true),h') ∧ Low B.length B h' ∧ rd h' r=some ⟨[x'],true⟩ ∧ rd h' r0=some ⟨c0,true⟩ ∧ Held h' x' (l ++ [(k,(s,n))]) B.length r0 r:=by
  have hlt:=B8 hr
  have hlt0:=B8 h0
  have l1:A3 (h ++ [some (Row.mk [.i .i64 (k:Int),.s s,.i .i64 n] true)]) (.c (.p r 0))=some (.c x):=D8 (cs:=[x]) (B6 hr) rfl (by simp)
  have ef:A8 [Cell.i .i64 0,.s [],.i .i64 0] [(0,3,.a [.i .i64 (k:Int),.s s,.i .i64 n])]=some [.i .i64 (k:Int),.s s,.i .i64 n]:=rfl
  have hBh:=hlow.2.1
  rcases hd with ⟨rfl,rfl⟩ | ⟨id,rfl,hi,hbi,hi0,hir⟩
  · have hA:=C6U (h:=h ++ [some (Row.mk [.i .i64 (k:Int),.s s,.i .i64 n] true),some (Row.mk [.i .i64 (k:Int),.s s,.i .i64 n] true)]) (jd:=h.length + 1) (m:=1) (sz:=3) (ys:=[.i .i64 (k:Int),.s s,.i .i64 n]) (by simp) rfl (by omega) (by omega)
    simp only [List.length_append,List.length_cons,List.length_nil,Nat.zero_add,List.append_assoc,List.cons_append,List.nil_append,Nat.reduceAdd] at hA
    have hr2:rd (h ++ [some (Row.mk [.i .i64 (k:Int),.s s,.i .i64 n] true),some (Row.mk [.i .i64 (k:Int),.s s,.i .i64 n] true),some (Row.mk [.i .i64 (k:Int),.s s,.i .i64 n] true)]) r=some ⟨[.ns],true⟩:=B6 hr
    have t1:=N5 (x:=.sl (h.length + 2) 0 1 3) (off:=0) hr2 (by simp)
    refine ⟨.sl (h.length + 2) 0 1 3,_,B4g (n:=0) (by rw [B38];simp only [esc,esh,Nat.reduceAdd,Nat.reduceMul,Nat.reduceLT,l1,ef,hA,t1] <;> rfl),(hlow.new _).set hBr _,?_,?_,.inr ⟨h.length + 2,rfl,?_,by omega,by omega,by omega⟩⟩
    · exact G3 (B8 hr2)
    · rw [C7 (Ne.symm h0r)];exact B6 h0
    · rw [C7 (by omega)];simp [J7,slC]
  · have hA:=A0V (h:=h ++ [some (Row.mk [.i .i64 (k:Int),.s s,.i .i64 n] true),some (Row.mk [.i .i64 (k:Int),.s s,.i .i64 n] true)]) (id:=id) (jd:=h.length + 1) (n:=l.length) (m:=1) (sz:=3) (cs:=J7 l) (ys:=[.i .i64 (k:Int),.s s,.i .i64 n]) (rw:=true) (B6 hi) A9n (by simp) rfl rfl (by omega) (by omega)
    have hli:=B8 hi
    have es:(h ++ [some (Row.mk [.i .i64 (k:Int),.s s,.i .i64 n] true),some (Row.mk [.i .i64 (k:Int),.s s,.i .i64 n] true)]).length=h.length + 2:=by simp
    rw [es] at hA
    have hr2:rd ((h ++ [some (Row.mk [.i .i64 (k:Int),.s s,.i .i64 n] true),some (Row.mk [.i .i64 (k:Int),.s s,.i .i64 n] true)]).set id none ++ [some (Row.mk (J7 l ++ [.i .i64 (k:Int),.s s,.i .i64 n]) true)]) r=some ⟨[.sl id 0 l.length 3],true⟩:=by
      refine B6 ?_
      rw [C7 hir];exact B6 hr
    have t1:=N5 (x:=.sl (h.length + 2) 0 (l.length + 1) 3) (off:=0) hr2 (by simp)
    refine ⟨.sl (h.length + 2) 0 (l.length + 1) 3,_,B4g (n:=0) (by rw [B38];simp only [esc,esh,Nat.reduceAdd,Nat.reduceMul,Nat.reduceLT,l1,ef,hA,t1] <;> rfl),(((hlow.new _).set hbi _).new _).set hBr _,?_,?_,.inr ⟨h.length + 2,by simp,?_,by omega,by omega,by omega⟩⟩
    · exact G3 (B8 hr2)
    · rw [C7 (Ne.symm h0r)]
      refine B6 ?_
      rw [C7 hi0];exact B6 h0
    · rw [C7 (by omega),D2z]
      have:((h ++ [some (Row.mk [.i .i64 (k:Int),.s s,.i .i64 n] true),some (Row.mk [.i .i64 (k:Int),.s s,.i .i64 n] true)]).set id none).length=h.length + 2:=by simp
      rw [← this]
      exact E8
theorem B1Z {b:List UInt8} {r0 r q:Nat} {B:A0} (hb:b.length=256) (h0r:r0 ≠ r) (hBr:B.length ≤ r) (hB0:B.length ≤ r0):∀ (e k m:Nat) (h:A0) (x:Cell) (l:List Slt),k + e=7 → e < m → l.length ≤ k → Low B.length B h →
    rd h r=some ⟨[x],true⟩ → rd h r0=some ⟨A1 b,true⟩ → Held h x l B.length r0 r →
    ∃ x' h',A7P q m (.c (.f 163 [(r,0)])) (.c (.p r0 0)) (.c (.i .i64 (k:Int))) h=some (.t [],h') ∧ Low B.length B h' ∧ rd h' r=some ⟨[x'],true⟩ ∧ Held h' x' (l ++ Q1 b e k) B.length r0 r
  | e,k,0,h,x,l,_,hm,_,_,_,_,_=>by omega
  | 0,k,m + 1,h,x,l,hk,hm,hl,hlow,hr,h0,hd=>by
    have e0:k=7:=by omega
    subst e0
    have c0:¬ ((7:Nat):Int) < 7:=by omega
    refine ⟨x,h,?_,hlow,hr,by rw [Q1,List.append_nil];exact hd⟩
    rw [B5B]
    simp only [esc,c0] <;> rfl
  | e + 1,k,m + 1,h,x,l,hk,hm,hl,hlow,hr,h0,hd=>by
    have c0:(k:Int) < 7:=by omega
    have hbl:(A1 b).length=256:=by rw [B5,hb]
    have s1:=G0 (h:=h) (id:=r0) h0 hbl
    have hR:=B5F (h:=h) (k:=k) hb (by omega)
    have w1:=E2 (show k + 1 < 9223372036854775808 by omega)
    have hcv:∀ (x:Val) (h:A0),L7 A26 (.c (.f 163 [(r,0)])) [x] h=A4v [x,.c (.p r 0)] h:=fun _ _=>Eq.trans rfl rfl
    rw [B5B]
    cases hx:M0 b k with
    | none =>
      rw [hx] at hR
      rw [B2K hx]
      obtain ⟨x',h',f1,f2⟩:=B1Z (q:=q) hb h0r hBr hB0 e (k + 1) m (h ++ [some ⟨[.s [],.i .i64 0],true⟩]) x l (by omega) (by omega) (by omega) (hlow.new _) (B6 hr) (B6 h0) (hd.more _)
      refine ⟨x',h',?_,f2⟩
      generalize A1 b=y at *
      simp only [esc,esh,Nat.reduceAdd,Nat.reduceMul,Nat.reduceLT,c0,s1,hR,E3,Option.isSome_none,w1]
      exact f1
    | some en =>
      obtain ⟨s,n⟩:=en
      rw [hx] at hR
      rw [B2L hx]
      have ef:A8 [Cell.i .i64 0,.s [],.i .i64 0] [(0,1,.c (.i .i64 (k:Int))),(1,2,.a [.s s,.i .i64 n])]=some [.i .i64 (k:Int),.s s,.i .i64 n]:=rfl
      obtain ⟨x1,h1,g1,g2,g3,g4,g5⟩:=C9S (k:=k) (n:=n) (s:=s) (hlow.new [some (Row.mk [.s s,.i .i64 n] true)]) (B6 hr) (B6 h0) h0r hBr hB0 (hd.more _) (by omega)
      obtain ⟨x',h',f1,f2,f3,f4⟩:=B1Z (q:=q) hb h0r hBr hB0 e (k + 1) m h1 x1 (l ++ [(k,(s,n))]) (by omega) (by omega) (by simp;omega) g2 g3 g4 g5
      rw [List.append_assoc,List.singleton_append] at f4
      refine ⟨x',h',?_,f2,f3,f4⟩
      generalize A1 b=y at *
      simp only [esc,esh,Nat.reduceAdd,Nat.reduceMul,Nat.reduceLT,c0,s1,hR,E3,Option.isSome_some,ef,hcv,g1,w1]
      exact f1
theorem C67 {b:List UInt8} {h:A0} (hb:b.length=256):∃ v t,A1X [.a (A1 b)] h=some (v,h ++ t) ∧ Has (h ++ t) v 3 (K8 b).length (J7 (K8 b)) ∧ (t=[] ∧ v=.c .ns ∧ K8 b=[] ∨ t=[some ⟨J7 (K8 b),true⟩] ∧ v=.c (.sl h.length 0 (K8 b).length 3)):=by
  have key:∀ g,∃ x g',A4t 8 [.a (A1 b)] g=some (.c x,g') ∧ Held g' x (K8 b) g.length (g.length + 3) (g.length + 2):=by
    intro g
    have hbl:(A1 b).length=256:=by rw [B5,hb]
    have emk:X2 163 [.c (.p (g.length + 2) 0)]=some (.c (.f 163 [(g.length + 2,0)])):=rfl
    obtain ⟨x,h',f1,f2,f3,f4⟩:=B1Z (b:=b) (r0:=g.length + 3) (r:=g.length + 2) (q:=8) (B:=g) hb (by omega) (by omega) (by omega) 7 0 8 (g ++ [some (Row.mk (A1 b) true),some (Row.mk [] true),some (Row.mk [.ns] true),some (Row.mk (A1 b) true)]) .ns [] (by omega) (by omega) (by simp)
      ((Low.refl (Nat.le_refl _)).new _) (by simp) (by simp) (.inl ⟨rfl,rfl⟩)
    have hS:A4y [.a (A1 b),.c (.f 163 [(g.length + 2,0)])] (g ++ [some (Row.mk (A1 b) true),some (Row.mk [] true),some (Row.mk [.ns] true)])=some (.t [],h'):=by
      refine C3K (n:=8) ?_
      rw [C16]
      simp only [esc,esh,Nat.reduceAdd,Nat.reduceMul,Nat.reduceLT]
      exact f1
    have t1:A3 h' (.c (.p (g.length + 2) 0))=some (.c x):=D8 (cs:=[x]) f3 rfl (by simp)
    rw [C13]
    generalize A1 b=y at *
    exact ⟨x,h',by simp only [esc,esh,Nat.reduceAdd,Nat.reduceMul,Nat.reduceLT,hbl,emk,hS,t1],f4⟩
  obtain ⟨x,g',e,hd⟩:=key (ro h)
  rcases hd with ⟨hl,rfl⟩ | ⟨id,rfl,hr,hbi,_⟩
  · refine ⟨.c .ns,[],?_,?_,.inl ⟨rfl,rfl,hl⟩⟩
    · rw [List.append_nil];exact C3D e (by simp [Val.low,Cell.low,Cell.flat])
    · rw [hl];exact .inl ⟨rfl,rfl,rfl⟩
  · rw [M9] at hbi
    refine ⟨.c (.sl h.length 0 (K8 b).length 3),[some ⟨J7 (K8 b),true⟩],C3F e ⟨A9n,id,rfl,hbi,hr⟩ D2y,Has.row (rw:=true) (by simp) A9n D0m,.inr ⟨rfl,rfl⟩⟩
end Go.Proofs.YteckncopbicmcaaGreat
end
section
namespace Go.Proofs.YteckncopbicmcaaGreat
open Go Go.Esc
def C1W (h:A0) (x:Cell) (cs:List Cell) (n sz b:Nat) (rs:List Nat):Prop:=(n=0 ∧ cs=[] ∧ x=.ns) ∨ ∃ id,x=.sl id 0 n sz ∧ rd h id=some ⟨cs,true⟩ ∧ cs.length=n * sz ∧ b ≤ id ∧ id ∉ rs
def VarC (h:A0) (r:Nat) (cs:List Cell) (n sz b:Nat) (rs:List Nat):Prop:=∃ x,rd h r=some ⟨[x],true⟩ ∧ C1W h x cs n sz b rs
theorem VarC.nil {h:A0} {r sz b:Nat} {rs:List Nat} (hr:rd h r=some ⟨[.ns],true⟩):VarC h r [] 0 sz b rs:=⟨.ns,hr,.inl ⟨rfl,rfl,rfl⟩⟩
theorem VarC.keep {h h':A0} {r n sz b:Nat} {cs:List Cell} {rs:List Nat} (hv:VarC h r cs n sz b rs) (h1:rd h' r=rd h r) (h2:∀ id,id ∉ rs → ∀ x,rd h id=some x → rd h' id=some x):VarC h' r cs n sz b rs:=by
  obtain ⟨x,hx,hd⟩:=hv
  refine ⟨x,by rw [h1];exact hx,?_⟩
  rcases hd with hd | ⟨id,e,hr,hl,hb,hn⟩
  · exact .inl hd
  · exact .inr ⟨id,e,h2 id hn _ hr,hl,hb,hn⟩
theorem VarC.more {h:A0} {r n sz b:Nat} {cs:List Cell} {rs rs':List Nat} (hv:VarC h r cs n sz b rs) (t:A0) (hrs:∀ j ∈ rs',j ∈ rs ∨ h.length ≤ j):VarC (h ++ t) r cs n sz b rs':=by
  obtain ⟨x,hx,hd⟩:=hv
  refine ⟨x,B6 hx,?_⟩
  rcases hd with hd | ⟨id,e,hr,hl,hb,hn⟩
  · exact .inl hd
  · refine .inr ⟨id,e,B6 hr,hl,hb,fun hm=>?_⟩
    have:=B8 hr
    rcases hrs id hm with h1 | h1
    · exact hn h1
    · omega
theorem VarC.fewer {h:A0} {r n sz b:Nat} {cs:List Cell} {rs rs':List Nat} (hv:VarC h r cs n sz b rs) (hrs:∀ j ∈ rs',j ∈ rs):VarC h r cs n sz b rs':=by
  have:=hv.more (rs':=rs') [] (fun j hj=>.inl (hrs j hj))
  rwa [List.append_nil] at this
theorem VarC.push {h:A0} {r n sz b:Nat} {cs ys:List Cell} {rs:List Nat} (hv:VarC h r cs n sz b rs) (hr:r ∈ rs) (hbr:b ≤ r) (hbh:b ≤ h.length) (hlt:∀ j ∈ rs,j < h.length) (hl:n ≤ 100000) (hy:ys.length=sz) (hsz:0 < sz) :
    ∃ x v h2 h3,A3 h (.c (.p r 0))=some (.c x) ∧ F0 (h ++ [some ⟨ys,true⟩]) sz (.c x) (.c (.sl h.length 0 1 sz))=some (.c v,h2) ∧ E7 h2 (.c (.p r 0)) (.c v)=some h3 ∧
      VarC h3 r (cs ++ ys) (n + 1) sz b rs ∧ Low b h h3 ∧ (∀ j ∈ rs,j ≠ r → rd h3 j=rd h j) ∧ h.length ≤ h3.length:=by
  obtain ⟨x,hx,hd⟩:=hv
  have hrl:=B8 hx
  have l1:A3 h (.c (.p r 0))=some (.c x):=D8 hx rfl (by simp)
  rcases hd with ⟨rfl,rfl,rfl⟩ | ⟨id,rfl,hi,hcl,hb,hn⟩
  · have hA:=B1u (h:=h ++ [some ⟨ys,true⟩]) (jd:=h.length) (m:=1) (sz:=sz) (ys:=ys) (by simp) (by omega) hsz (by omega)
    have e1:(h ++ [some (Row.mk ys true)]).length=h.length + 1:=by simp
    rw [e1] at hA
    have hr2:rd (h ++ [some (Row.mk ys true)] ++ [some (Row.mk ys true)]) r=some ⟨[.ns],true⟩:=B6 (B6 hx)
    have s1:=N5 (x:=.sl (h.length + 1) 0 1 sz) (off:=0) hr2 (by simp)
    refine ⟨.ns,_,_,_,l1,hA,s1,⟨.sl (h.length + 1) 0 1 sz,G3 (B8 hr2),.inr ⟨h.length + 1,rfl,?_,by simp [hy],by omega,fun h1=>by have:=hlt _ h1;omega⟩⟩,(((Low.refl hbh).new _).new _).set hbr _,fun j hj hjr=>?_,by simp⟩
    · rw [C7 (by omega)]
      have:=E8 (h:=h ++ [some (Row.mk ys true)]) (r:=⟨ys,true⟩)
      rw [e1] at this
      exact this
    · rw [C7 (Ne.symm hjr)]
      have:=hlt j hj
      rw [G5 (by simp;omega),G5 this]
  · have hil:=B8 hi
    have hne:id ≠ r:=fun e=>hn (e ▸ hr)
    have hA:=A0V (h:=h ++ [some ⟨ys,true⟩]) (id:=id) (jd:=h.length) (n:=n) (m:=1) (sz:=sz) (cs:=cs) (ys:=ys) (rw:=true) (B6 hi) hcl (by simp) (by omega) rfl hsz (by omega)
    have e1:(h ++ [some (Row.mk ys true)]).length=h.length + 1:=by simp
    rw [e1] at hA
    have hr2:rd ((h ++ [some (Row.mk ys true)]).set id none ++ [some (Row.mk (cs ++ ys) true)]) r=some ⟨[.sl id 0 n sz],true⟩:=by
      refine B6 ?_
      rw [C7 hne];exact B6 hx
    have s1:=N5 (x:=.sl (h.length + 1) 0 (n + 1) sz) (off:=0) hr2 (by simp)
    refine ⟨_,_,_,_,l1,hA,s1,⟨.sl (h.length + 1) 0 (n + 1) sz,G3 (B8 hr2),.inr ⟨h.length + 1,by simp,?_,by simp [hcl,hy,Nat.add_mul],by omega,fun h1=>by have:=hlt _ h1;omega⟩⟩,((((Low.refl hbh).new _).set hb _).new _).set hbr _,fun j hj hjr=>?_,by simp;omega⟩
    · rw [C7 (by omega)]
      have:=E8 (h:=(h ++ [some (Row.mk ys true)]).set id none) (r:=⟨cs ++ ys,true⟩)
      rw [List.length_set,e1] at this
      exact this
    · have hji:j ≠ id:=fun e=>hn (e ▸ hj)
      have:=hlt j hj
      rw [C7 (Ne.symm hjr),G5 (by simp;omega),C7 (Ne.symm hji),G5 this]
end Go.Proofs.YteckncopbicmcaaGreat
end
section
namespace Go.Proofs.YteckncopbicmcaaGreat
open Go Go.Esc
abbrev Tld:=Plc × List UInt8
def A2Y (no:Int) (l:List Slt):List Tld:=l.map fun s=>((no,s.1,s.2.2),s.2.1)
def A1k (D:Dev) (L:List Int):List Tld:=L.flatMap fun no=>A2Y no (K8 (blk D no))
theorem D2x {l:List Slt}:∀ {i:Nat} {x:Slt},l[i]? = some x → ((J7 l).drop (i * 3)).take 3=slC (some x):=by
  induction l with
  | nil=>intro i x h;simp at h
  | cons y l ih =>
    intro i x h
    have e:J7 (y :: l)=slC (some y) ++ J7 l:=rfl
    cases i with
    | zero=>simp at h;subst h;rw [e];rfl
    | succ i =>
      simp at h
      rw [e,show (i + 1) * 3=3 + i * 3 by omega,← List.drop_drop,List.drop_left' (by rw [A1K])]
      exact ih h
theorem C0w {σ:Type} {L1:Nat → Val → A0 → A6} {L0:A0 → A6} {C:Val → Val → A0 → A6} {no:Int} {id c0:Nat} {l:List Slt} (P:Nat → σ → A0 → Prop) (step:σ → Tld → σ)
    (hL:∀ m x h,L1 (m + 1) x h=bnd (A2 .lss x (.c (.i .i64 (l.length:Nat)))) fun v14=>cnd v14 (bnd (B7 3 (.c (.sl id 0 l.length 3)) x) fun v15=>bnd (A4 h 3 v15) fun v16=>bnd (B4 ((h ++ [some (Row.mk ([.i .i64 0,.s [],.i .i64 0]) true)])) 3 ((.c (.p h.length 0))) v16) fun h17=>bnd (A7 ((.c (.p h.length 0))) 0) fun v18=>bnd (A3 h17 v18) fun v19=>bnd (A7 ((.c (.p h.length 0))) 1) fun v20=>bnd (A7 v20 1) fun v21=>bnd (A3 h17 v21) fun v22=>bnd (A8 ([.i .i64 0,.i .i64 0,.i .i64 0]) [(0,1,.c (.i .i64 no)),(1,1,v19),(2,1,v22)]) fun c23=>bnd (A7 ((.c (.p h.length 0))) 1) fun v24=>bnd (A7 v24 0) fun v25=>bnd (A3 h17 v25) fun v26=>bnd (C (.a c23) v26 h17) fun p27=>bnd (A2 .add x (.c (.i .i64 1))) fun v28=>L1 m v28 p27.2) (L0 h))
    (hI:∀ c s h,P c s h → rd h id=some ⟨J7 l,true⟩)
    (hM:∀ c s h t,P c s h → P c s (h ++ t))
    (hC:∀ c s h x,P c s h → c < c0 + 7 → x ∈ l → ∃ h',C (.a (L9 (some (no,x.1,x.2.2)))) (.c (.s x.2.1)) h=some (.t [],h') ∧ P (c + 1) (step s ((no,x.1,x.2.2),x.2.1)) h') (h62:l.length ≤ 7) :
    ∀ (e i M:Nat) (s:σ) (h:A0),i + e=l.length → e < M → P (c0 + i) s h → ∃ h',L1 M (.c (.i .i64 (i:Int))) h=L0 h' ∧ P (c0 + l.length) ((A2Y no (l.drop i)).foldl step s) h'
  | e,i,0,s,h,_,hm,_=>by omega
  | 0,i,M + 1,s,h,hi,hm,hP=>by
    have c1:¬ (i:Int) < (l.length:Nat):=by omega
    refine ⟨h,?_,by rw [List.drop_of_length_le (by omega),show l.length=i by omega];exact hP⟩
    rw [hL]
    simp only [B9,D7,c1,decide_false,F1]
  | e + 1,i,M + 1,s,h,hi,hm,hP=>by
    have hil:i < l.length:=by omega
    have c1:(i:Int) < (l.length:Nat):=by omega
    have hx:l[i]? = some l[i]:=List.getElem?_eq_getElem hil
    have hr:=hI _ s h hP
    have ad:B7 3 (.c (.sl id 0 l.length 3)) (.c (.i .i64 (i:Int)))=some (.c (.p id (i * 3))):=by rw [G8 hil];simp
    have hmem:l[i] ∈ l:=List.getElem_mem hil
    obtain ⟨⟨kk,s',i'⟩,ex⟩:∃ x,x=l[i]:=⟨_,rfl⟩
    rw [← ex] at hx hmem
    have hsl:=D2x hx
    have hlen:=A9n (l:=l)
    have l3:A4 h 3 (.c (.p id (i * 3)))=some (.a (slC (some (kk,s',i')))):=by rw [A3C hr (by rw [hlen];omega) rfl,hsl]
    have s3:B4 (h ++ [some (Row.mk [Cell.i .i64 0,.s [],.i .i64 0] true)]) 3 (.c (.p h.length 0)) (.a (slC (some (kk,s',i'))))=some (h ++ [some ⟨slC (some (kk,s',i')),true⟩]):=by rw [A0o];rfl
    have g0:A3 (h ++ [some (Row.mk (slC (some (kk,s',i'))) true)]) (.c (.p h.length 0))=some (.c (.i .i64 (kk:Int))):=by rw [T8];rfl
    have g1:A3 (h ++ [some (Row.mk (slC (some (kk,s',i'))) true)]) (.c (.p h.length 1))=some (.c (.s s')):=by rw [T8];rfl
    have g2:A3 (h ++ [some (Row.mk (slC (some (kk,s',i'))) true)]) (.c (.p h.length 2))=some (.c (.i .i64 i')):=by rw [T8];rfl
    have ef:A8 [Cell.i .i64 0,.i .i64 0,.i .i64 0] [(0,1,.c (.i .i64 no)),(1,1,.c (.i .i64 (kk:Int))),(2,1,.c (.i .i64 i'))]=some (L9 (some (no,kk,i'))):=rfl
    obtain ⟨h',f1,f2⟩:=hC _ s (h ++ [some ⟨slC (some (kk,s',i')),true⟩]) (kk,s',i') (hM _ _ _ _ hP) (by omega) hmem
    obtain ⟨h'',e1,e2⟩:=C0w P step hL hI hM hC h62 e (i + 1) M _ h' (by omega) (by omega) f2
    have w1:=E2 (show i + 1 < 9223372036854775808 by omega)
    rw [hL,List.drop_eq_getElem_cons hil,← ex]
    refine ⟨h'',?_,e2⟩
    simp only [B9,D7,c1,decide_true,F6,ad,l3,s3,I9,Nat.add_zero,Nat.zero_add,Nat.reduceAdd,g0,g1,g2,ef,f1,I0,w1]
    exact e1
theorem B4T {D:Dev} {no:Int} {L:List Int}:A1k D (no :: L)=A2Y no (K8 (blk D no)) ++ A1k D L:=by simp [A1k]
theorem B8q (b:List UInt8):(K8 b).length ≤ 7:=by
  have:∀ e k,(Q1 b e k).length ≤ e:=by
    intro e
    induction e with
    | zero=>intro k;simp [Q1]
    | succ e ih =>
      intro k
      have:=ih (k + 1)
      rw [Q1]
      split <;> simp <;> omega
  exact this 7 0
theorem B5I {σ:Type} {L0:Nat → Val → A0 → A6} {L1:Nat → Nat → Val → Val → Val → Val → Val → A0 → A6} {C:Val → Val → A0 → A6} {N:Nat} {x3:Val} {D:Dev} {n m:Int} {f:Cell} {sid:Nat} {L:List Int} (hD:okD D) (P:List Nat → Nat → σ → A0 → Prop) (step:σ → Tld → σ) (hN:8 ≤ N)
    (hL0:∀ m x h,L0 (m + 1) x h=bnd (A2 .lss x (.c (.i .i64 (L.length:Nat)))) fun v7=>cnd v7 (bnd (B7 1 (.c (.sl sid 0 L.length 1)) x) fun v8=>bnd (A3 h v8) fun v9=>bnd (A4 h 4 x3) fun v10=>bnd (S7 [v10,v9] h) fun p11=>bnd (A1X [p11.1] p11.2) fun p12=>bnd (D5 p12.1) fun v13=>L1 m N v9 x p12.1 v13 (.c (.i .i64 0)) p12.2) (D3 [] h))
    (hL1:∀ m0 v9 x v w m y h,L1 m0 (m + 1) v9 x v w y h=bnd (A2 .lss y w) fun v14=>cnd v14 (bnd (B7 3 v y) fun v15=>bnd (A4 h 3 v15) fun v16=>bnd (B4 ((h ++ [some (Row.mk ([.i .i64 0,.s [],.i .i64 0]) true)])) 3 ((.c (.p h.length 0))) v16) fun h17=>bnd (A7 ((.c (.p h.length 0))) 0) fun v18=>bnd (A3 h17 v18) fun v19=>bnd (A7 ((.c (.p h.length 0))) 1) fun v20=>bnd (A7 v20 1) fun v21=>bnd (A3 h17 v21) fun v22=>bnd (A8 ([.i .i64 0,.i .i64 0,.i .i64 0]) [(0,1,v9),(1,1,v19),(2,1,v22)]) fun c23=>bnd (A7 ((.c (.p h.length 0))) 1) fun v24=>bnd (A7 v24 0) fun v25=>bnd (A3 h17 v25) fun v26=>bnd (C (.a c23) v26 h17) fun p27=>bnd (A2 .add y (.c (.i .i64 1))) fun v28=>L1 m0 m v9 x v w v28 p27.2) (bnd (A2 .add x (.c (.i .i64 1))) fun v29=>L0 m0 v29 h))
    (hI:∀ rs c s h,P rs c s h → A4 h 4 x3=some (.a (vwC D.length n m f)) ∧ IsView h f D ∧ rd h sid=some ⟨encI L,true⟩)
    (hR:∀ rs c s h t,P rs c s h → P rs c s (h ++ t))
    (hN1:∀ rs c s h r,P rs c s h → P (h.length :: rs) c s (h ++ [some r]))
    (hF:∀ i rs c s h,P (i :: rs) c s h → P rs c s h)
    (hW:∀ rs c c' s h,P rs c s h → c ≤ c' → P rs c' s h)
    (hC:∀ rs c s h no x,P rs c s h → c < 7 * L.length → no ∈ L → x ∈ K8 (blk D no) → ∃ h',C (.a (L9 (some (no,x.1,x.2.2)))) (.c (.s x.2.1)) h=some (.t [],h') ∧ P rs (c + 1) (step s ((no,x.1,x.2.2),x.2.1)) h' ∧ ∀ j ∈ rs,rd h' j=rd h j)
    (h62:L.length < 1000) :
    ∀ (e i M:Nat) (rs:List Nat) (s:σ) (h:A0),i + e=L.length → e < M → P rs (7 * i) s h → ∃ h',L0 M (.c (.i .i64 (i:Int))) h=some (.t [],h') ∧ P rs (7 * L.length) ((A1k D (L.drop i)).foldl step s) h'
  | e,i,0,rs,s,h,_,hm,_=>by omega
  | 0,i,M + 1,rs,s,h,hi,hm,hP=>by
    have c0:¬ (i:Int) < (L.length:Nat):=by omega
    refine ⟨h,?_,by rw [List.drop_of_length_le (by omega),show L.length=i by omega];exact hP⟩
    rw [hL0]
    simp only [B9,D7,c0,decide_false,F1]
    rfl
  | e + 1,i,M + 1,rs,s,h,hi,hm,hP=>by
    have hil:i < L.length:=by omega
    have c0:(i:Int) < (L.length:Nat):=by omega
    obtain ⟨i1,i2,i3⟩:=hI rs _ s h hP
    have hmem:L[i] ∈ L:=List.getElem_mem hil
    have ad:B7 1 (.c (.sl sid 0 L.length 1)) (.c (.i .i64 (i:Int)))=some (.c (.p sid i)):=by rw [G8 hil];simp
    have l1:A3 h (.c (.p sid i))=some (.c (.i .i64 L[i])):=D8 i3 (by rw [R5,List.getElem?_eq_getElem hil];rfl) rfl
    have hB:=A3Q (n:=n) (m:=m) (no:=L[i]) hD i2
    obtain ⟨v,t,b1,b2,b3⟩:=C67 (b:=blk D L[i]) (h:=h) (A0X hD)
    have hlen:=b2.len
    have w1:=E2 (show i + 1 < 9223372036854775808 by omega)
    have h7:=B8q (blk D L[i])
    have main:∃ h',L1 M N (.c (.i .i64 L[i])) (.c (.i .i64 (i:Int))) v (.c (.i .i64 ((K8 (blk D L[i])).length:Nat))) (.c (.i .i64 ((0:Nat):Int))) (h ++ t)=bnd (A2 .add (.c (.i .i64 (i:Int))) (.c (.i .i64 1))) (fun v29=>L0 M v29 h') ∧ P rs (7 * (i + 1)) ((A2Y L[i] (K8 (blk D L[i]))).foldl step s) h':=by
      rcases b3 with ⟨rfl,rfl,b3⟩ | ⟨rfl,rfl⟩
      · refine ⟨h,?_,by rw [b3];exact hW _ _ _ _ _ hP (by omega)⟩
        obtain ⟨N',rfl⟩:∃ N',N=N' + 1:=⟨N - 1,by omega⟩
        rw [hL1,b3,List.append_nil]
        rfl
      · have hl0:(h ++ [some (Row.mk (J7 (K8 (blk D L[i]))) true)])=h ++ [some ⟨J7 (K8 (blk D L[i])),true⟩]:=rfl
        obtain ⟨h',f1,f2⟩:=C0w (L1:=fun m y h'=>L1 M m (.c (.i .i64 L[i])) (.c (.i .i64 (i:Int))) (.c (.sl h.length 0 (K8 (blk D L[i])).length 3)) (.c (.i .i64 ((K8 (blk D L[i])).length:Nat))) y h') (L0:=fun h'=>bnd (A2 .add (.c (.i .i64 (i:Int))) (.c (.i .i64 1))) (fun v29=>L0 M v29 h')) (C:=C) (no:=L[i]) (id:=h.length) (c0:=7 * i) (l:=K8 (blk D L[i]))
          (fun c s' h'=>P (h.length :: rs) c s' h' ∧ rd h' h.length=some ⟨J7 (K8 (blk D L[i])),true⟩) step (fun m y h'=>hL1 M _ _ _ _ m y h') (fun c s' h' hp=>hp.2) (fun c s' h' t hp=>⟨hR _ _ _ _ _ hp.1,B6 hp.2⟩)
          (fun c s' h' x hp hc hx=>by
            obtain ⟨h2,c1,c2,c3⟩:=hC _ _ _ _ L[i] x hp.1 (by omega) hmem hx
            exact ⟨h2,c1,c2,by rw [c3 h.length (by simp)];exact hp.2⟩) (by omega) (K8 (blk D L[i])).length 0 N s (h ++ [some ⟨J7 (K8 (blk D L[i])),true⟩]) (by omega) (by omega) ⟨hN1 _ _ _ _ _ hP,by simp⟩
        rw [List.drop_zero] at f2
        exact ⟨h',f1,hW _ _ _ _ _ (hF _ _ _ _ _ f2.1) (by omega)⟩
    obtain ⟨h1,m1,m2⟩:=main
    obtain ⟨h',f1,f2⟩:=B5I hD P step hN hL0 hL1 hI hR hN1 hF hW hC h62 e (i + 1) M rs _ h1 (by omega) (by omega) m2
    rw [hL0,List.drop_eq_getElem_cons hil,B4T,List.foldl_append]
    refine ⟨h',?_,f2⟩
    simp only [B9,D7,c0,decide_true,F6,ad,l1,i1,hB,b1,hlen]
    refine m1.trans ?_
    simp only [I0,B9,w1]
    exact f1
end Go.Proofs.YteckncopbicmcaaGreat
end
noncomputable section
namespace Go.Proofs.YteckncopbicmcaaGreat
open Go Go.Esc
set_option maxRecDepth 100000
def B6t:ACode:=.seq [0,1,5] (.seq [0,1,5,15] (.ops [aO 6 (.mv (.t 5)),aO 7 (.mv (.t 0)),aO 8 (.lenS (.t 7)),aO 9 (.bin .lss (.t 6) (.t 8)),aO 10 (.mv (.t 9)),aG 11 10 true (.mv (.t 5)),aG 12 10 true (.mv (.t 1)),aG 13 10 true (.lenS (.t 12)),aG 14 10 true (.bin .lss (.t 11) (.t 13)),aO 15 (.pick (.t 10) (.t 14) (.v (.c (.b false))))]) (.cond (.t 15) .skip (.exit 0))) (.seq [0,1,5] (.block 1 (.seq [0,1,5,24] (.draw 0 [aO 18 (.mv (.t 0)),aO 19 (.mv (.t 5)),aO 20 (.idxS (.t 18) (.t 19)),aO 21 (.mv (.t 1)),aO 22 (.mv (.t 5)),aO 23 (.idxS (.t 21) (.t 22))] [aO 24 (.bin .neq (.t 20) (.t 23))]) (.cond (.t 24) (.seq [4] (.draw 0 [aO 25 (.mv (.t 0)),aO 26 (.mv (.t 5)),aO 27 (.idxS (.t 25) (.t 26)),aO 28 (.mv (.t 1)),aO 29 (.mv (.t 5)),aO 30 (.idxS (.t 28) (.t 29))] [aO 31 (.bin .lss (.t 27) (.t 30)),aO 4 (.mv (.t 31))]) .ret) .skip))) (.ops [aO 16 (.mv (.t 5)),aO 17 (.bin .add (.t 16) (.v (.c (.i .i64 1)))),aO 5 (.mv (.t 17))]))
def B6u:ACode:=.seq [4] (.ops [aO 32 (.mv (.t 0)),aO 33 (.lenS (.t 32)),aO 34 (.mv (.t 1)),aO 35 (.lenS (.t 34)),aO 36 (.bin .lss (.t 33) (.t 35)),aO 4 (.mv (.t 36))]) .ret
def A_er03_Less:AFn:=⟨.seq [0,1] (.ops [aO 4 (.mv (.v (.c (.b false))))]) (.seq [0,1] (.seq [0,1,5] (.ops [aO 5 (.mv (.v (.c (.i .i64 0))))]) (.block 0 (.loop [0,1,5] B6t))) B6u),[.tmp 4]⟩
def A3Z:B0:=C0
def C8e (n:Nat):A9 (Val × A0):=E4 [0,1] (ax A3Z n B6u) A_er03_Less.fin
def C8f (n:Nat):A9 (Val × A0):=D6 0 (C8e n)
def A8a (n m:Nat) (x0 x1 x5:Val) (h:A0):A6:=C6 (ax A3Z n B6t) [0,1,5] (C8f n) m [(0,x0),(1,x1),(5,x5)] h
def B0O (n:Nat) (args:List Val) (h:A0):A6:=ax A3Z n A_er03_Less.code A_er03_Less.fin (params 0 args) h
theorem C2m (n:Nat) (a0 a1:Val) (h:A0):B0O n [a0,a1] h=A8a n n a0 a1 (.c (.i .i64 0)) h:=by kernel_rfl
theorem B6v (n m:Nat) (x0 x1 x5:Val) (h:A0):A8a n (m + 1) x0 x1 x5 h=bnd (T7 x0) fun v1=>bnd (A2 .lss x5 v1) fun v2=>bnd (gd v2 true (some (x5,h)) (some (.no,h))) fun p3=>bnd (gd v2 true (some (x1,p3.2)) (some (.no,p3.2))) fun p4=>bnd (gd v2 true (bnd (T7 p4.1) fun v5=>some (v5,p4.2)) (some (.no,p4.2))) fun p6=>bnd (gd v2 true (bnd (A2 .lss p3.1 p6.1) fun v7=>some (v7,p6.2)) (some (.no,p6.2))) fun p8=>bnd (C4 v2 p8.1 (.c (.b false))) fun v9=>cnd v9 (bnd (U7 x0 x5) fun v10=>bnd (U7 x1 x5) fun v11=>bnd (A2 .neq v10 v11) fun v12=>cnd v12 (bnd (U7 x0 x5) fun v13=>bnd (U7 x1 x5) fun v14=>bnd (A2 .lss v13 v14) fun v15=>some (v15,((p8.2 ++ []) ++ []))) (bnd (A2 .add x5 (.c (.i .i64 1))) fun v16=>A8a n m x0 x1 v16 (p8.2 ++ []))) (bnd (T7 x0) fun v17=>bnd (T7 x1) fun v18=>bnd (A2 .lss v17 v18) fun v19=>some (v19,p8.2)):=by kernel_rfl
theorem K_er03_Less:FnK Tryz.prog 160 A_er03_Less A3Z B0O:=.mk' (C2) Tryz.func160 (by kernel_rfl) (fun _ _ _=>C1)
def A3d:Fun:=tidy (Lim A_er03_Less A3Z)
theorem C4d:SOk Tryz.prog 160 A3d:=K_er03_Less.sok
theorem C4c:C9 B0O A3d:=K_er03_Less.flat
def B6x:ACode:=.ops [aO 11 (.mv (.t 6)),aO 12 (.bin .add (.t 11) (.v (.c (.i .i64 1)))),aO 6 (.mv (.t 12))]
def B13:ACode:=.seq [0,3,4,5,6] (.seq [0,3,4,5,6,10] (.ops [aO 7 (.mv (.t 6)),aO 8 (.mv (.t 0)),aO 9 (.len (.t 8)),aO 10 (.bin .lss (.t 7) (.t 9))]) (.cond (.t 10) .skip (.exit 2))) (.seq [0,3,4,5,6] (.block 3 (.seq [0,3,4,5,6] (.seq [0,3,4,5,6,29] (.draw 0 [aO 13 (.mv (.t 3)),aO 14 (.len (.t 13)),aO 15 (.bin .gtr (.t 14) (.v (.c (.i .i64 0)))),aO 16 (.mv (.t 15)),aG 17 16 true (.mv (.t 3)),aG 18 16 true (.mv (.t 3)),aG 19 16 true (.len (.t 18)),aG 20 16 true (.bin .sub (.t 19) (.v (.c (.i .i64 1)))),aG 21 16 true (.iAddrL 1 (.t 17) (.t 20)),aG 22 16 true (.load1 (.t 21)),aG 23 16 true (.mv (.t 0)),aG 24 16 true (.mv (.t 6)),aG 25 16 true (.iAddrL 1 (.t 23) (.t 24)),aG 26 16 true (.load1 (.t 25))] [aG 27 16 true (.call 160 [(.t 22),(.t 26)]),aG 28 16 true (.un .not (.t 27)),aO 29 (.pick (.t 16) (.t 28) (.v (.c (.b false))))]) (.cond (.t 29) (.exit 3) .skip)) (.seq [0,3,4,5,6,39] (.ops [aO 30 (.mv (.t 4)),aO 31 (.un .not (.t 30)),aO 32 (.mv (.t 31)),aG 33 32 false (.mv (.t 0)),aG 34 32 false (.mv (.t 6)),aG 35 32 false (.iAddrL 1 (.t 33) (.t 34)),aG 36 32 false (.load1 (.t 35)),aG 37 32 false (.mv (.t 5)),aG 38 32 false (.call 160 [(.t 36),(.t 37)]),aO 39 (.pick (.t 32) (.v (.c (.b true))) (.t 38))]) (.cond (.t 39) (.draw 0 [aO 40 (.mv (.t 0)),aO 41 (.mv (.t 6)),aO 42 (.iAddrL 1 (.t 40) (.t 41)),aO 43 (.load1 (.t 42)),aO 4 (.mv (.v (.c (.b true))))] [aO 5 (.mv (.t 43))]) .skip)))) B6x)
def B6w:ACode:=.seq [0,3,5] (.seq [0,3,5,45] (.ops [aO 44 (.mv (.t 4)),aO 45 (.un .not (.t 44))]) (.cond (.t 45) (.seq [2] (.ops [aO 46 (.mv (.t 3)),aO 2 (.mv (.t 46))]) .ret) .skip)) (.ops [aO 47 (.mv (.t 3)),aO 48 (.mv (.t 5)),aO 49 (.buildSl 1 1 ([.s []]) [(0,1,(.t 48))]),aO 50 (.app 1 (.t 47) (.t 49)),aO 3 (.mv (.t 50))])
def B12:ACode:=.block 1 (.seq [0,3,4] (.ops [aO 4 (.mv (.v (.c (.b false))))]) (.seq [0,3,4,5] (.ops [aO 5 (.mv (.v (.c (.s []))))]) (.seq [0,3,4,5] (.seq [0,3,4,5,6] (.ops [aO 6 (.mv (.v (.c (.i .i64 0))))]) (.block 2 (.loop [0,3,4,5,6] B13))) B6w)))
def A_er03_Sort:AFn:=⟨.seq [0] (.ops [aO 2 (.nilrow 1)]) (.seq [0,3] (.ops [aO 3 (.nilrow 1)]) (.block 0 (.loop [0,3] B12))),[.tmp 2]⟩
def A0I:B0:=B1 160 A3d C0
def B14 (n:Nat):A9 (Val × A0):=D6 0 A_er03_Sort.fin
def A5D (n m:Nat) (x0 x3:Val) (h:A0):A6:=C6 (ax A0I n B12) [0,3] (B14 n) m [(0,x0),(3,x3)] h
def A6z (n:Nat) (args:List Val) (h:A0):A6:=ax A0I n A_er03_Sort.code A_er03_Sort.fin (params 0 args) h
def C8g (n m:Nat):A9 (Val × A0):=P9 [0,3] (C6 (ax A0I n B12) [0,3] (B14 n) m) (B14 n)
def C8h (n m:Nat):A9 (Val × A0):=D6 1 (C8g n m)
def C8i (n m:Nat):A9 (Val × A0):=E4 [0,3,4,5] (ax A0I n B6w) (C8h n m)
def B15 (n m:Nat):A9 (Val × A0):=D6 2 (C8i n m)
def A8c (n m m2:Nat) (x0 x3 x4 x5 x6:Val) (h:A0):A6:=C6 (ax A0I n B13) [0,3,4,5,6] (B15 n m) m2 [(0,x0),(3,x3),(4,x4),(5,x5),(6,x6)] h
def C8j (n m m2:Nat):A9 (Val × A0):=P9 [0,3,4,5,6] (C6 (ax A0I n B13) [0,3,4,5,6] (B15 n m) m2) (B15 n m)
def A8b (n m m2:Nat) (x0 x3 x4 x5 x6:Val) (h:A0):A6:=hold ((ax A0I n B6x) (C8j n m m2) [(0,x0),(3,x3),(4,x4),(5,x5),(6,x6)] h)
theorem C2n (n:Nat) (a0:Val) (h:A0):A6z n [a0] h=A5D n n a0 (.c (.sl (h ++ [some (Row.mk ([]) true)]).length 0 0 1)) ((h ++ [some (Row.mk ([]) true)]) ++ [some (Row.mk ([]) true)]):=by kernel_rfl
theorem C8k (n m:Nat) (x0 x3:Val) (h:A0):A5D n (m + 1) x0 x3 h=A8c n m n x0 x3 (.c (.b false)) (.c (.s [])) (.c (.i .i64 0)) h:=by kernel_rfl
theorem B6y (n m m2:Nat) (x0 x3 x4 x5 x6:Val) (h:A0):A8c n m (m2 + 1) x0 x3 x4 x5 x6 h=bnd (D5 x0) fun v1=>bnd (A2 .lss x6 v1) fun v2=>cnd v2 (bnd (D5 x3) fun v3=>bnd (A2 .gtr v3 (.c (.i .i64 0))) fun v4=>bnd (gd v4 true (some (x3,(h ++ []))) (some (.no,(h ++ [])))) fun p5=>bnd (gd v4 true (some (x3,p5.2)) (some (.no,p5.2))) fun p6=>bnd (gd v4 true (bnd (D5 p6.1) fun v7=>some (v7,p6.2)) (some (.no,p6.2))) fun p8=>bnd (gd v4 true (bnd (A2 .sub p8.1 (.c (.i .i64 1))) fun v9=>some (v9,p8.2)) (some (.no,p8.2))) fun p10=>bnd (gd v4 true (bnd (B7 1 p5.1 p10.1) fun v11=>some (v11,p10.2)) (some (.no,p10.2))) fun p12=>bnd (gd v4 true (bnd (A3 h p12.1) fun v13=>some (v13,p12.2)) (some (.no,p12.2))) fun p14=>bnd (gd v4 true (some (x0,p14.2)) (some (.no,p14.2))) fun p15=>bnd (gd v4 true (some (x6,p15.2)) (some (.no,p15.2))) fun p16=>bnd (gd v4 true (bnd (B7 1 p15.1 p16.1) fun v17=>some (v17,p16.2)) (some (.no,p16.2))) fun p18=>bnd (gd v4 true (bnd (A3 h p18.1) fun v19=>some (v19,p18.2)) (some (.no,p18.2))) fun p20=>bnd (gd v4 true (bnd (A3d [p14.1,p20.1] p20.2) fun p21=>some (p21.1,p21.2)) (some (.no,p20.2))) fun p22=>bnd (gd v4 true (bnd (aun .not p22.1) fun v23=>some (v23,p22.2)) (some (.no,p22.2))) fun p24=>bnd (C4 v4 p24.1 (.c (.b false))) fun v25=>cnd v25 (A8b n m m2 x0 x3 x4 x5 x6 p24.2) (bnd (aun .not x4) fun v26=>bnd (gd v26 false (some (x0,p24.2)) (some (.no,p24.2))) fun p27=>bnd (gd v26 false (some (x6,p27.2)) (some (.no,p27.2))) fun p28=>bnd (gd v26 false (bnd (B7 1 p27.1 p28.1) fun v29=>some (v29,p28.2)) (some (.no,p28.2))) fun p30=>bnd (gd v26 false (bnd (A3 p30.2 p30.1) fun v31=>some (v31,p30.2)) (some (.no,p30.2))) fun p32=>bnd (gd v26 false (some (x5,p32.2)) (some (.no,p32.2))) fun p33=>bnd (gd v26 false (bnd (A3d [p32.1,p33.1] p33.2) fun p34=>some (p34.1,p34.2)) (some (.no,p33.2))) fun p35=>bnd (C4 v26 (.c (.b true)) p35.1) fun v36=>cnd v36 (bnd (B7 1 x0 x6) fun v37=>bnd (A3 p35.2 v37) fun v38=>A8b n m m2 x0 x3 (.c (.b true)) v38 x6 (p35.2 ++ [])) (A8b n m m2 x0 x3 x4 x5 x6 p35.2))) (bnd (aun .not x4) fun v39=>cnd v39 (some (x3,h)) (bnd (A8 ([.s []]) [(0,1,x5)]) fun c40=>bnd (F0 (h ++ [some (Row.mk (c40) true)]) 1 x3 (.c (.sl h.length 0 1 1))) fun p41=>A5D n m x0 p41.1 p41.2)):=by kernel_rfl
theorem A2F (n m m2:Nat) (x0 x3 x4 x5 x6:Val) (h:A0):A8b n m m2 x0 x3 x4 x5 x6 h=bnd (A2 .add x6 (.c (.i .i64 1))) fun v42=>A8c n m m2 x0 x3 x4 x5 v42 h:=by kernel_rfl
theorem K_er03_Sort:FnK Tryz.prog 82 A_er03_Sort A0I A6z:=.mk' (B3 C4d C2) Tryz.func82 (by kernel_rfl) (fun _ _ _=>C1)
def A12:Fun:=tidy (Lim A_er03_Sort A0I)
theorem C4e:SOk Tryz.prog 82 A12:=K_er03_Sort.sok
theorem C4f:U6 A6z A12:=K_er03_Sort.out
end Go.Proofs.YteckncopbicmcaaGreat
end
section
namespace Go.Proofs.YteckncopbicmcaaGreat
open Go Go.Esc
theorem C99 {a b:List UInt8} {h:A0}:A45 [.c (.s a),.c (.s b)] h=some (.c (.b (E5 a b)),h) :=
  C5k (n:=0) (h2:=ro h) (by rw [C20];simp only [esc]) rfl
theorem B8n (s t:List UInt8) (hs:s.length < 9223372036854775807) (n:Nat) (h:A0):∀ d i m:Nat,i + d=s.length → d < m → i ≤ t.length →
    A8a n m (.c (.s s)) (.c (.s t)) (.c (.i .i64 i)) h=some (.c (.b (E5 (s.drop i) (t.drop i))),h)
  | d,i,0,_,hm,_=>by omega
  | 0,i,m + 1,hi,hm,ht=>by
    have h1:¬ ((i:Int) < s.length):=by omega
    have h2:s.drop i=[]:=List.drop_of_length_le (by omega)
    rw [B6v,h2]
    cases h4:t.drop i with
    | nil =>
      have:¬ (s.length:Int) < t.length:=by have:=congrArg List.length h4;simp at this;omega
      simp only [esc,h1,this,E5]
    | cons x r =>
      have:(s.length:Int) < t.length:=by have:=congrArg List.length h4;simp at this;omega
      simp only [esc,h1,this,E5]
  | d + 1,i,m + 1,hi,hm,ht=>by
    have h1:(i:Int) < s.length:=by omega
    have h2:i < s.length:=by omega
    rw [B6v,List.drop_eq_getElem_cons h2]
    by_cases h3:i < t.length
    · have h4:(i:Int) < t.length:=by omega
      have ih:=B8n s t hs n h d (i + 1) m (by omega) (by omega) (by omega)
      rw [List.drop_eq_getElem_cons h3]
      by_cases c:s[i]=t[i]
      · simp only [esc,h1,h4,A03 h2,A03 h3,c,E5,UInt8.lt_irrefl,Bool.false_or,beq_self_eq_true,Bool.true_and,E2 (show i + 1 < 9223372036854775808 by omega)]
        exact ih
      · have c':¬ (s[i].toNat:Int)=t[i].toNat:=fun e=>c (UInt8.toNat_inj.1 (by omega))
        have c2:(s[i] == t[i])=false:=by simp [c]
        have c3:((s[i].toNat:Int) < t[i].toNat)=(s[i] < t[i]):=by rw [UInt8.lt_iff_toNat_lt];simp
        simp only [esc,h1,h4,A03 h2,A03 h3,c',c2,E5,c3,Bool.false_and,Bool.or_false]
    · have h4:¬ (i:Int) < t.length:=by omega
      have h5:¬ (s.length:Int) < t.length:=by omega
      have h6:t.drop i=[]:=List.drop_of_length_le (by omega)
      rw [h6]
      simp only [esc,h1,h4,h5,E5]
theorem B3c {s t:List UInt8} (hs:s.length < 9223372036854775807) (h:A0):A3d [.c (.s s),.c (.s t)] h=some (.c (.b (E5 s t)),h):=by
  refine C4c (n:=s.length + 1) (h2:=ro h) ?_ rfl
  rw [C2m]
  have hl:=B8n s t hs (s.length + 1) (ro h) s.length 0 (s.length + 1) (by omega) (by omega) (by omega)
  simp only [List.drop_zero] at hl
  exact hl
end Go.Proofs.YteckncopbicmcaaGreat
end
section
namespace Go.Proofs.YteckncopbicmcaaGreat
section
variable {α:Type} {lt:α → α → Prop}
theorem B93 (irr:∀ a,¬ lt a a) (tr:∀ a b c,lt a b → lt b c → lt a c):∀ {l m:List α},l.Pairwise lt → m.Pairwise lt → (∀ x,x ∈ l ↔ x ∈ m) → l=m
  | [],[],_,_,_=>rfl
  | [],y :: m,_,_,h=>absurd ((h y).2 (List.mem_cons_self ..)) (by simp)
  | x :: l,[],_,_,h=>absurd ((h x).1 (List.mem_cons_self ..)) (by simp)
  | x :: l,y :: m,hl,hm,h=>by
    rw [List.pairwise_cons] at hl hm
    have e:x=y:=by
      rcases List.mem_cons.1 ((h x).1 (List.mem_cons_self ..)) with e | h1
      · exact e
      · rcases List.mem_cons.1 ((h y).2 (List.mem_cons_self ..)) with e | h2
        · exact e.symm
        · exact absurd (tr _ _ _ (hm.1 x h1) (hl.1 y h2)) (irr y)
    subst e
    rw [B93 irr tr hl.2 hm.2 fun z=>?_]
    constructor
    · intro hz
      rcases List.mem_cons.1 ((h z).1 (List.mem_cons_of_mem _ hz)) with e | h1
      · subst e;exact absurd (hl.1 z hz) (irr z)
      · exact h1
    · intro hz
      rcases List.mem_cons.1 ((h z).2 (List.mem_cons_of_mem _ hz)) with e | h1
      · subst e;exact absurd (hm.1 z hz) (irr z)
      · exact h1
theorem D1w (tr:∀ a b c,lt a b → lt b c → lt a c) (tot:∀ a b,lt a b ∨ a=b ∨ lt b a) {l:List α} {x:α} {p:Nat} (hl:l.Pairwise lt) (hx:x ∉ l) (h1:∀ y ∈ l.take p,lt y x) (h2:∀ y ∈ l.drop p,¬ lt y x) :
    (l.take p ++ x :: l.drop p).Pairwise lt:=by
  have hl':=hl
  rw [← List.take_append_drop p l] at hl'
  rw [List.pairwise_append] at hl'
  obtain ⟨k1,k2,k3⟩:=hl'
  rw [List.pairwise_append]
  refine ⟨k1,?_,?_⟩
  · rw [List.pairwise_cons]
    refine ⟨fun y hy=>?_,k2⟩
    rcases tot x y with h | h | h
    · exact h
    · subst h;exact absurd (List.mem_of_mem_drop hy) hx
    · exact absurd h (h2 y hy)
  · intro a ha b hb
    rcases List.mem_cons.1 hb with e | hb
    · subst e;exact h1 a ha
    · exact k3 a ha b hb
theorem mem_insert {l:List α} {x y:α} {p:Nat}:y ∈ l.take p ++ x :: l.drop p ↔ y=x ∨ y ∈ l:=by
  have e:y ∈ l ↔ y ∈ l.take p ∨ y ∈ l.drop p:=by rw [← List.mem_append,List.take_append_drop]
  rw [List.mem_append,List.mem_cons,e]
  constructor
  · rintro (h | h | h)
    · exact .inr (.inl h)
    · exact .inl h
    · exact .inr (.inr h)
  · rintro (h | h | h)
    · exact .inr (.inl h)
    · exact .inl h
    · exact .inr (.inr h)
end
end Go.Proofs.YteckncopbicmcaaGreat
end
section
namespace Go.Proofs.YteckncopbicmcaaGreat
open Go Go.Esc
theorem A0W:∀ a:List UInt8,E5 a a=false
  | []=>rfl
  | x :: a=>by simp [E5,A0W a,UInt8.lt_irrefl]
theorem Z5:∀ {a b c:List UInt8},E5 a b=true → E5 b c=true → E5 a c=true
  | [],[],_,h,_=>by simp [E5] at h
  | [],_ :: _,[],_,h=>by simp [E5] at h
  | [],_ :: _,_ :: _,_,_=>rfl
  | _ :: _,[],_,h,_=>by simp [E5] at h
  | _ :: _,_ :: _,[],_,h=>by simp [E5] at h
  | x :: a,y :: b,z :: c,h1,h2=>by
    simp only [E5,Bool.or_eq_true,Bool.and_eq_true,decide_eq_true_eq,beq_iff_eq] at h1 h2 ⊢
    rcases h1 with h1 | ⟨rfl,h1⟩
    · rcases h2 with h2 | ⟨rfl,h2⟩
      · exact .inl (UInt8.lt_trans h1 h2)
      · exact .inl h1
    · rcases h2 with h2 | ⟨rfl,h2⟩
      · exact .inl h2
      · exact .inr ⟨rfl,Z5 h1 h2⟩
theorem B1x:∀ a b:List UInt8,E5 a b=true ∨ a=b ∨ E5 b a=true
  | [],[]=>.inr (.inl rfl)
  | [],_ :: _=>.inl rfl
  | _ :: _,[]=>.inr (.inr rfl)
  | x :: a,y :: b=>by
    simp only [E5,Bool.or_eq_true,Bool.and_eq_true,decide_eq_true_eq,beq_iff_eq,List.cons.injEq]
    rcases Nat.lt_trichotomy x.toNat y.toNat with h | h | h
    · exact .inl (.inl (UInt8.lt_iff_toNat_lt.2 h))
    · have e:=UInt8.toNat_inj.1 h
      subst e
      rcases B1x a b with h | h | h
      · exact .inl (.inr ⟨rfl,h⟩)
      · exact .inr (.inl ⟨rfl,h⟩)
      · exact .inr (.inr (.inr ⟨rfl,h⟩))
    · exact .inr (.inr (.inl (UInt8.lt_iff_toNat_lt.2 h)))
end Go.Proofs.YteckncopbicmcaaGreat
end
section
namespace Go.Proofs.YteckncopbicmcaaGreat
open Go Go.Esc
def plc (l:List (List UInt8)) (s:List UInt8):Nat → Nat → Nat → Nat
  | 0,lo,_=>lo
  | f + 1,lo,hi=>if lo < hi then (if E5 (l.getD (lo + (hi - lo) / 2) []) s then plc l s f (lo + (hi - lo) / 2 + 1) hi else plc l s f lo (lo + (hi - lo) / 2)) else lo
theorem B24 (l:List (List UInt8)) (s:List UInt8):∀ f lo hi,lo ≤ hi → plc l s f lo hi ≤ hi
  | 0,lo,hi,h=>h
  | f + 1,lo,hi,h=>by
    unfold plc
    split
    · split
      · exact B24 l s f _ hi (by omega)
      · exact Nat.le_trans (B24 l s f lo _ (by omega)) (by omega)
    · exact h
theorem B25 {l:List (List UInt8)} {s:List UInt8} (hl:l.Pairwise fun a b=>E5 a b=true):∀ f lo hi,lo ≤ hi → hi ≤ l.length → hi - lo ≤ f → (∀ i x,i < lo → l[i]? = some x → E5 x s=true) → (∀ i x,hi ≤ i → l[i]? = some x → E5 x s=false) →
    (∀ i x,i < plc l s f lo hi → l[i]? = some x → E5 x s=true) ∧ (∀ i x,plc l s f lo hi ≤ i → l[i]? = some x → E5 x s=false)
  | 0,lo,hi,h,_,hf,h1,h2=>by
    have:hi=lo:=by omega
    subst this
    exact ⟨h1,h2⟩
  | f + 1,lo,hi,h,hh,hf,h1,h2=>by
    unfold plc
    by_cases c:lo < hi
    · rw [if_pos c]
      have hm:lo + (hi - lo) / 2 < hi:=by omega
      have hlo:lo ≤ lo + (hi - lo) / 2:=by omega
      generalize lo + (hi - lo) / 2=mid at *
      have hg:l[mid]? = some (l.getD mid []):=by rw [List.getD_eq_getElem?_getD,List.getElem?_eq_getElem (by omega)];rfl
      have mono:∀ (i j:Nat) (x y:List UInt8),i < j → l[i]? = some x → l[j]? = some y → E5 x y=true:=by
        intro i j x y hij hi hj
        rw [List.pairwise_iff_getElem] at hl
        obtain ⟨a,rfl⟩:=List.getElem?_eq_some_iff.1 hi
        obtain ⟨b,rfl⟩:=List.getElem?_eq_some_iff.1 hj
        exact hl i j a b hij
      cases cb:E5 (l.getD mid []) s with
      | true =>
        rw [if_pos rfl]
        refine B25 hl f (mid + 1) hi (by omega) hh (by omega) (fun i x hi hx=>?_) h2
        by_cases e:i=mid
        · subst e
          rw [hg] at hx
          rw [← Option.some.inj hx];exact cb
        · exact Z5 (mono i mid x _ (by omega) hx hg) cb
      | false =>
        rw [if_neg (by simp)]
        refine B25 hl f lo mid (by omega) (by omega) (by omega) h1 (fun i x hi hx=>?_)
        by_cases e:i=mid
        · subst e
          rw [hg] at hx
          rw [← Option.some.inj hx];exact cb
        · cases cx:E5 x s with
          | false=>rfl
          | true=>rw [Z5 (mono mid i _ x (by omega) hg hx) cx] at cb;exact cb
    · rw [if_neg c]
      have:hi=lo:=by omega
      subst this
      exact ⟨h1,h2⟩
def X7 (l:List (List UInt8)) (s:List UInt8) (n:Nat):Bool:=decide (l[n]? = some s)
theorem A0s (l:List (List UInt8)) (i:Nat):(encS l)[i]? = (l[i]?).map fun x=>.s x:=by simp [encS]
theorem B23 {v:Val} {nv q:Nat} {l:List (List UInt8)} {s:List UInt8} {h:A0} (hv:Has h v 1 nv (encS l)) (hn:l.length=nv) (h62:nv < 4611686018427387904):∀ f m lo hi:Nat,lo ≤ hi → hi ≤ nv → hi - lo ≤ f → f < m →
    A3G q m v (.c (.s s)) (.c (.i .i64 lo)) (.c (.i .i64 hi)) h=some (.t [.c (.i .i64 (plc l s f lo hi:Nat)),.c (.b (X7 l s (plc l s f lo hi)))],h)
  | f,0,lo,hi,_,_,_,hm=>by omega
  | f,m + 1,lo,hi,h1,h2,hf,hm=>by
    have hlen:=hv.len
    have fin:lo=hi → A3G q (m + 1) v (.c (.s s)) (.c (.i .i64 lo)) (.c (.i .i64 hi)) h=some (.t [.c (.i .i64 lo),.c (.b (X7 l s lo))],h):=by
      intro e
      subst e
      have c0:¬ (lo:Int) < lo:=by omega
      rw [B8Q]
      unfold X7
      by_cases c1:lo < nv
      · have c1':(lo:Int) < nv:=by omega
        obtain ⟨id,off,ev,hid,k1,k2⟩:=hv.sl (by omega)
        have hx:=k1 lo (.s l[lo]) (by rw [A0s,List.getElem?_eq_getElem (by omega)];rfl)
        have eb:B7 1 v (.c (.i .i64 (lo:Int)))=some (.c (.p id (off + lo))):=by rw [ev,G8 (by omega)];simp
        have e2:l[lo]? = some l[lo]:=List.getElem?_eq_getElem (by omega)
        rw [e2]
        simp only [esc,hlen,c0,c1',eb,hx]
      · have c1':¬ (lo:Int) < nv:=by omega
        have e2:l[lo]? = none:=List.getElem?_eq_none (by omega)
        rw [e2]
        simp only [esc,hlen,c0,c1',reduceCtorEq]
    cases f with
    | zero =>
      have e:lo=hi:=by omega
      exact fin e
    | succ f =>
      unfold plc
      by_cases c:lo < hi
      · rw [if_pos c]
        have c':(lo:Int) < hi:=by omega
        obtain ⟨id,off,ev,hid,k1,k2⟩:=hv.sl (by omega)
        have w1:IntKind.wrap .i64 ((hi:Int) - lo)=((hi - lo:Nat):Int):=by rw [wrap_i64 (by omega) (by omega)];omega
        have w2:=A52 (a:=((hi - lo:Nat):Int)) (b:=2) (by omega) (by omega) (by omega)
        have w3:((hi - lo:Nat):Int) / 2=(((hi - lo) / 2:Nat):Int):=by omega
        rw [w3] at w2
        have w4:IntKind.wrap .i64 ((lo:Int) + (((hi - lo) / 2:Nat):Int))=((lo + (hi - lo) / 2:Nat):Int):=A0F (by omega)
        have hm1:lo + (hi - lo) / 2 < hi:=by omega
        have hm2:lo ≤ lo + (hi - lo) / 2:=by omega
        generalize (hi - lo) / 2=d at *
        generalize lo + d=mid at *
        have hx:=k1 mid (.s l[mid]) (by rw [A0s,List.getElem?_eq_getElem (by omega)];rfl)
        have eb:B7 1 v (.c (.i .i64 (mid:Int)))=some (.c (.p id (off + mid))):=by rw [ev,G8 (by omega)];simp
        have eg:l.getD mid []=l[mid]:=by rw [List.getD_eq_getElem?_getD,List.getElem?_eq_getElem (by omega)];rfl
        rw [eg]
        have hL:=fun h=>C99 (a:=l[mid]) (b:=s) (h:=h)
        rw [B8Q]
        cases cb:E5 l[mid] s with
        | true =>
          rw [cb] at hL
          have ih:=B23 (q:=q) (s:=s) hv hn h62 f m (mid + 1) hi (by omega) h2 (by omega) (by omega)
          rw [if_pos rfl]
          simp only [esc,hlen,c',w1,w2,w4,eb,hx,hL,E2 (show mid + 1 < 9223372036854775808 by omega)]
          exact ih
        | false =>
          rw [cb] at hL
          have ih:=B23 (q:=q) (s:=s) hv hn h62 f m lo mid hm2 (by omega) (by omega) (by omega)
          rw [if_neg (by simp)]
          simp only [esc,hlen,c',w1,w2,w4,eb,hx,hL]
          exact ih
      · rw [if_neg c]
        exact fin (by omega)
theorem D0c {v:Val} {nv:Nat} {l:List (List UInt8)} {s:List UInt8} {h:A0} (hv:Has h v 1 nv (encS l)) (h62:nv < 4611686018427387904) :
    A3g [v,.c (.s s)] h=some (.t [.c (.i .i64 (plc l s nv 0 nv:Nat)),.c (.b (X7 l s (plc l s nv 0 nv)))],h):=by
  have hn:l.length=nv:=by simpa [K0] using hv.length
  have key:∀ N,nv < N → ∀ g,Has g v 1 nv (encS l) → ∃ g',A64 N [v,.c (.s s)] g=some (.t [.c (.i .i64 (plc l s nv 0 nv:Nat)),.c (.b (X7 l s (plc l s nv 0 nv)))],g'):=by
    intro N hN g hv
    have e:=B23 (q:=N) (s:=s) hv hn h62 nv N 0 nv (by omega) (by omega) (by omega) hN
    rw [C22]
    exact ⟨_,by simp only [esc,hv.len];exact e⟩
  obtain ⟨g',e⟩:=key (nv + 1) (by omega) (ro h) hv.ro
  exact C5n e rfl
end Go.Proofs.YteckncopbicmcaaGreat
end
section
namespace Go.Proofs.YteckncopbicmcaaGreat
open Go Go.Esc
theorem C00 {v u:Val} {nv nu:Nat} {l r:List (List UInt8)} {h:A0} (hv:Has h v 1 nv (encS l)) (hu:Has h u 1 nu (encS r)) (hlr:l.length=r.length) (hl:l.length < 9223372036854775807) {k:Nat}:∀ d i m,i + d=l.length → d < m →
    A79 k m v u (.c (.i .i64 i)) h=some (.c (.b (decide (l.drop i=r.drop i))),h)
  | d,i,0,_,hm=>by omega
  | 0,i,m + 1,hi,hm=>by
    have hnv:l.length=nv:=by simpa [K0] using hv.length
    have e1:l.drop i=[]:=List.drop_of_length_le (by omega)
    have e2:r.drop i=[]:=List.drop_of_length_le (by omega)
    have h1':¬ (i:Int) < l.length:=by omega
    rw [B6s]
    simp only [esc,hv.len,← hnv,h1',e1,e2]
  | d + 1,i,m + 1,hi,hm=>by
    have ih:=C00 hv hu hlr hl (k:=k) d (i + 1) m (by omega) (by omega)
    have hnv:l.length=nv:=by simpa [K0] using hv.length
    have hnu:r.length=nu:=by simpa [K0] using hu.length
    have hlen:=hv.len
    obtain ⟨id,off,rfl,hid,h1,h2⟩:=hv.sl (by omega)
    obtain ⟨id',off',rfl,hid',h1',h2'⟩:=hu.sl (by omega)
    have hx:=h1 i (.s l[i]) (by rw [A0s,List.getElem?_eq_getElem (by omega)];rfl)
    have hy:=h1' i (.s r[i]) (by rw [A0s,List.getElem?_eq_getElem (by omega)];rfl)
    have ea:B7 1 (.c (.sl id off nv 1)) (.c (.i .i64 (i:Int)))=some (.c (.p id (off + i))):=by rw [G8 (by omega)];simp
    have eb:B7 1 (.c (.sl id' off' nu 1)) (.c (.i .i64 (i:Int)))=some (.c (.p id' (off' + i))):=by rw [G8 (by omega)];simp
    have c1:(i:Int) < nv:=by omega
    rw [B6s,List.drop_eq_getElem_cons (by omega:i < l.length),List.drop_eq_getElem_cons (by omega:i < r.length)]
    by_cases c:l[i]=r[i]
    · simp only [esc,c1,ea,eb,hx,hy,c,E2 (show i + 1 < 9223372036854775808 by omega),List.cons.injEq,true_and]
      exact ih
    · simp only [esc,c1,ea,eb,hx,hy,c,List.cons.injEq,false_and]
theorem B9W {v u:Val} {nv nu:Nat} {l r:List (List UInt8)} {h:A0} (hv:Has h v 1 nv (encS l)) (hu:Has h u 1 nu (encS r)) (hl:l.length < 9223372036854775807) :
    A11 [v,u] h=some (.c (.b (decide (l=r))),h):=by
  refine C4b (n:=l.length + 1) (h2:=ro h) ?_ (by simp)
  have hnv:l.length=nv:=by simpa [K0] using hv.length
  have hnu:r.length=nu:=by simpa [K0] using hu.length
  rw [C2l]
  by_cases c:l.length=r.length
  · have:=C00 hv.ro hu.ro c hl (k:=l.length + 1) l.length 0 (l.length + 1) (by omega) (by omega)
    simp only [List.drop_zero] at this
    have c':(nv:Int)=nu:=by omega
    simp only [esc,hv.len,hu.len,c']
    exact this
  · have c':¬ (nv:Int)=nu:=by omega
    have c2:¬ l=r:=fun e=>c (by rw [e])
    simp only [esc,hv.len,hu.len,c',c2]
end Go.Proofs.YteckncopbicmcaaGreat
end
section
namespace Go.Proofs.YteckncopbicmcaaGreat
open Go Go.Esc
theorem C0v {id n a:Nat} (ha:a ≤ n):A2q 1 (.c (.sl id 0 n 1)) (some (.c (.i .i64 (a:Int)))) none=some (.c (.sl id a (n - a) 1)):=by
  simp only [A2q,bound]
  rw [if_pos (by omega)]
  simp only [Option.bind_some,Int.toNat_natCast]
  rw [if_pos ⟨ha,Nat.le_refl _,trivial⟩]
  simp
theorem C7t {H:A0} {id k p:Nat} {out:List (List UInt8)} (hr:rd H id=some ⟨encS (out ++ [[]]),true⟩) (hk:out.length=k) (hp:p ≤ k) :
    ∃ c,A2k H 1 (.c (.sl id (p + 1) (k - p) 1)) (.c (.sl id p (k + 1 - p) 1))=some (c,H.set id (some ⟨encS ((out ++ [[]]).take (p + 1) ++ out.drop p),true⟩)):=by
  have hl:(encS (out ++ [[]])).length=k + 1:=by rw [K0];simp [hk]
  have h1:((encS (out ++ [[]])).drop p).take (k + 1 - p)=(encS (out ++ [[]])).drop p:=List.take_of_length_le (by rw [List.length_drop];omega)
  have h2:M4 H 1 (.c (.sl id p (k + 1 - p) 1))=some ((encS (out ++ [[]])).drop p):=by
    simp only [M4,if_true,W7,hr,Option.bind_some,Nat.mul_one,h1]
    rw [if_pos ⟨by omega,by simp⟩]
  have h3:((encS (out ++ [[]])).drop p).length=k + 1 - p:=by rw [List.length_drop];omega
  have h4:Nat.min (k + 1 - p) (k - p)=k - p:=Nat.min_eq_right (by omega)
  have h5:lay (encS (out ++ [[]])) (p + 1) (((encS (out ++ [[]])).drop p).take (k - p))=encS ((out ++ [[]]).take (p + 1) ++ out.drop p):=by
    unfold lay
    have e1:((encS (out ++ [[]])).drop p).take (k - p)=encS (out.drop p):=by
      unfold encS
      rw [List.map_append,List.drop_append_of_le_length (by simp;omega),List.take_append_of_le_length (by simp;omega),List.take_of_length_le (by simp;omega),List.map_drop]
    have e2:(encS (out ++ [[]])).drop (p + 1 + (encS (out.drop p)).length)=[]:=List.drop_of_length_le (by rw [hl,K0,List.length_drop];omega)
    rw [e1,e2]
    simp only [List.append_nil,encS,List.map_append,List.map_take,List.map_drop]
  refine ⟨.c (.i .i64 ((k - p:Nat):Int)),?_⟩
  simp only [A2k,h2,Option.bind_some,hr,h3,Nat.div_one,h4,Nat.mul_one,h5]
  rw [if_pos ⟨trivial,by omega,trivial⟩]
end Go.Proofs.YteckncopbicmcaaGreat
end
section
namespace Go.Proofs.YteckncopbicmcaaGreat
open Go Go.Esc
abbrev E9:=List (List UInt8)
def atS (o:E9) (s:List UInt8):Nat:=plc o s o.length 0 o.length
def N3 (o:E9) (s:List UInt8):E9:=bif X7 o s (atS o s) then o else o.take (atS o s) ++ s :: o.drop (atS o s)
def J8 (l:E9):E9:=l.foldl N3 []
theorem B5g (o:E9) (s:List UInt8):atS o s ≤ o.length:=B24 o s _ _ _ (Nat.zero_le _)
theorem B8a (o:E9) (s:List UInt8):(N3 o s).length ≤ o.length + 1:=by
  have:=B5g o s
  unfold N3
  cases X7 o s (atS o s) <;> simp <;> omega
theorem C8Q (l:E9):∀ o:E9,(l.foldl N3 o).length ≤ o.length + l.length:=by
  induction l with
  | nil=>intro o;simp
  | cons x l ih =>
    intro o
    have h1:=ih (N3 o x)
    have h2:=B8a o x
    simp only [List.foldl_cons,List.length_cons] at h1 ⊢
    omega
theorem C0A (l:E9):(J8 l).length ≤ l.length:=by
  have:=C8Q l []
  simpa [J8] using this
abbrev Up (l:E9):Prop:=l.Pairwise fun a b=>E5 a b=true
theorem B5h {o:E9} {s:List UInt8} (ho:Up o):(∀ i x,i < atS o s → o[i]? = some x → E5 x s=true) ∧ (∀ i x,atS o s ≤ i → o[i]? = some x → E5 x s=false) :=
  B25 ho o.length 0 o.length (Nat.zero_le _) (Nat.le_refl _) (by omega) (fun i x hi=>by omega) (fun i x hi hx=>by
    have:=(List.getElem?_eq_some_iff.1 hx).1;omega)
theorem B8c {o:E9} {s:List UInt8} (ho:Up o):X7 o s (atS o s)=true ↔ s ∈ o:=by
  unfold X7
  rw [decide_eq_true_eq]
  constructor
  · intro h;exact List.mem_of_getElem? h
  · intro h
    obtain ⟨i,hi⟩:=List.mem_iff_getElem?.1 h
    obtain ⟨h1,h2⟩:=B5h (s:=s) ho
    have hge:atS o s ≤ i:=by
      false_or_by_contra
      have:=h1 i s (by omega) hi
      rw [A0W] at this;cases this
    by_cases e:atS o s=i
    · rw [e];exact hi
    · have hil:=(List.getElem?_eq_some_iff.1 hi).1
      have hg:o[atS o s]? = some o[atS o s]:=List.getElem?_eq_getElem (by omega)
      have k1:=h2 _ _ (Nat.le_refl _) hg
      have k2:E5 o[atS o s] s=true:=by
        obtain ⟨a,ha⟩:=List.getElem?_eq_some_iff.1 hi
        have:=List.pairwise_iff_getElem.1 ho (atS o s) i (by omega) a (by omega)
        rw [ha] at this;exact this
      rw [k1] at k2;cases k2
theorem C9B {o:E9} {s:List UInt8} (ho:Up o):Up (N3 o s) ∧ ∀ x,x ∈ N3 o s ↔ x=s ∨ x ∈ o:=by
  unfold N3
  cases c:X7 o s (atS o s) with
  | true =>
    have hm:=(B8c ho).1 c
    rw [cond_true]
    exact ⟨ho,fun x=>⟨fun h=>.inr h,fun h=>by rcases h with h | h;subst h;exact hm;exact h⟩⟩
  | false =>
    have hm:s ∉ o:=fun h=>by rw [(B8c ho).2 h] at c;cases c
    obtain ⟨h1,h2⟩:=B5h (s:=s) ho
    rw [cond_false]
    refine ⟨D1w (lt:=fun a b=>E5 a b=true) (fun a b c=>Z5) (fun a b=>B1x a b) ho hm (fun y hy=>?_) (fun y hy=>?_),fun x=>mem_insert⟩
    · obtain ⟨i,hi⟩:=List.mem_iff_getElem?.1 hy
      have hl:=(List.getElem?_eq_some_iff.1 hi).1
      rw [List.length_take] at hl
      rw [List.getElem?_take_of_lt (by omega)] at hi
      exact h1 i y (by omega) hi
    · obtain ⟨i,hi⟩:=List.mem_iff_getElem?.1 hy
      rw [List.getElem?_drop] at hi
      have:=h2 _ y (by omega) hi
      rw [this];simp
theorem B67 (l:E9):∀ o:E9,Up o → Up (l.foldl N3 o) ∧ ∀ x,x ∈ l.foldl N3 o ↔ x ∈ o ∨ x ∈ l:=by
  induction l with
  | nil=>intro o ho;exact ⟨ho,fun x=>by simp⟩
  | cons y l ih =>
    intro o ho
    obtain ⟨h1,h2⟩:=C9B (s:=y) ho
    obtain ⟨h3,h4⟩:=ih _ h1
    refine ⟨h3,fun x=>?_⟩
    rw [List.foldl_cons,h4,h2,List.mem_cons]
    constructor
    · rintro ((h | h) | h)
      · exact .inr (.inl h)
      · exact .inl h
      · exact .inr (.inr h)
    · rintro (h | h | h)
      · exact .inl (.inr h)
      · exact .inl (.inl h)
      · exact .inr h
theorem C0B (l:E9):Up (J8 l):=(B67 l [] List.Pairwise.nil).1
theorem B3u (l:E9) (x:List UInt8):x ∈ J8 l ↔ x ∈ l:=by
  have:=(B67 l [] List.Pairwise.nil).2 x
  simpa [J8] using this
theorem D3M {l m:E9} (hl:Up l) (hm:Up m) (h:∀ x,x ∈ l ↔ x ∈ m):l=m :=
  B93 (lt:=fun a b=>E5 a b=true) (fun a=>by rw [A0W];simp) (fun a b c=>Z5) hl hm h
theorem B3v {v:Val} {nv q:Nat} {l:E9} {g:A0} (hv:Has g v 1 nv (encS l)) (hn:l.length=nv) (h62:nv < 1073741824):∀ (e i m:Nat) (o:E9) (h:A0) (id:Nat),i + e=nv → e < m → o.length ≤ i → Low g.length g h → g.length ≤ id → rd h id=some ⟨encS o,true⟩ →
    ∃ v2 h2,A8W q m (.c (.sl id 0 o.length 1)) v (.c (.i .i64 nv)) (.c (.i .i64 i)) h=some (v2,h2) ∧ Out g.length h2 v2 1 ((l.drop i).foldl N3 o).length (encS ((l.drop i).foldl N3 o))
  | e,i,0,o,h,id,_,hm,_,_,_,_=>by omega
  | 0,i,m + 1,o,h,id,hi,hm,hol,hlow,hid,hr=>by
    have e0:i=nv:=by omega
    subst e0
    have c0:¬ (i:Int) < i:=by omega
    rw [B8V,List.drop_of_length_le (by omega),List.foldl_nil]
    exact ⟨_,_,by simp only [esc,c0] <;> rfl,by rw [K0];omega,_,rfl,hid,hr⟩
  | e + 1,i,m + 1,o,h,id,hi,hm,hol,hlow,hid,hr=>by
    have c0:(i:Int) < nv:=by omega
    obtain ⟨jd,off,ev,hjd,k1,k2⟩:=(hv.since hlow).sl (by omega)
    have hx:=k1 i (.s l[i]) (by rw [A0s,List.getElem?_eq_getElem (by omega)];rfl)
    have eb:B7 1 v (.c (.i .i64 (i:Int)))=some (.c (.p jd (off + i))):=by rw [ev,G8 (by omega)];simp
    have hP:=D0c (s:=l[i]) (Has.row (sz:=1) (n:=o.length) hr (by rw [K0];omega) (A3H o)) (by omega)
    rw [List.drop_eq_getElem_cons (by omega:i < l.length),List.foldl_cons]
    change A3g _ h=some (.t [.c (.i .i64 (atS o l[i]:Nat)),.c (.b (X7 o l[i] (atS o l[i])))],h) at hP
    have hat:=B5g o l[i]
    rw [B8V]
    generalize hs:l[i]=s at *
    cases c:X7 o s (atS o s) with
    | true =>
      have ei:N3 o s=o:=by unfold N3;rw [c,cond_true]
      rw [c] at hP
      obtain ⟨v2,h2,f1,f2⟩:=B3v (q:=q) hv hn h62 e (i + 1) m o h id (by omega) (by omega) (by omega) hlow hid hr
      rw [ei]
      refine ⟨v2,h2,?_,f2⟩
      simp only [esc,c0,eb,hx,hP,B8U,E2 (show i + 1 < 9223372036854775808 by omega)]
      exact f1
    | false =>
      have ei:N3 o s=o.take (atS o s) ++ s :: o.drop (atS o s):=by unfold N3;rw [c,cond_false]
      rw [c] at hP
      have il:=B8a o s
      generalize hp:atS o s=p at *
      obtain ⟨h1,a1,a2,a3,a4,a5⟩:=push (ys:=[.s []]) (sz:=1) (n:=o.length) hlow hr (by rw [K0];omega) hid rfl (by omega) (by omega)
      have he:encS o ++ [.s []]=encS (o ++ [[]]):=by simp [encS]
      rw [he] at a2
      have ef:A8 [Cell.s []] [(0,1,.c (.s []))]=some [.s []]:=rfl
      have w1:IntKind.wrap .i64 ((p:Int) + 1)=((p + 1:Nat):Int):=E2 (by omega)
      have t1:=C0v (id:=h.length + 1) (n:=o.length + 1) (a:=p + 1) (by omega)
      have t2:=C0v (id:=h.length + 1) (n:=o.length + 1) (a:=p) (by omega)
      rw [show o.length + 1 - (p + 1)=o.length - p by omega] at t1
      obtain ⟨cc,t3⟩:=C7t (H:=h1) (id:=h.length + 1) (k:=o.length) (p:=p) a2 rfl hat
      have t4:B7 1 (.c (.sl (h.length + 1) 0 (o.length + 1) 1)) (.c (.i .i64 (p:Int)))=some (.c (.p (h.length + 1) p)):=by rw [G8 (by omega)];simp
      have hlt:=B8 a2
      have t5:rd (h1.set (h.length + 1) (some ⟨encS ((o ++ [[]]).take (p + 1) ++ o.drop p),true⟩)) (h.length + 1)=some ⟨encS ((o ++ [[]]).take (p + 1) ++ o.drop p),true⟩:=G3 hlt
      have t6:=N5 (x:=.s s) (off:=p) t5 (by rw [K0,List.length_append,List.length_take,List.length_append];simp;omega)
      have t7:(encS ((o ++ [[]]).take (p + 1) ++ o.drop p)).set p (.s s)=encS (N3 o s):=by
        rw [ei]
        have e1:(o ++ [[]]).take (p + 1)=o.take p ++ [(o ++ [[]])[p]'(by simp;omega)]:=by
          rw [List.take_succ_eq_append_getElem (by simp;omega),List.take_append_of_le_length hat]
        rw [e1]
        unfold encS
        rw [← List.map_set]
        congr 1
        rw [List.append_assoc,List.set_append_right _ _ (by simp;omega),List.length_take,Nat.min_eq_left hat,Nat.sub_self]
        rfl
      rw [List.set_set,t7] at t6
      obtain ⟨v2,h2,f1,f2⟩:=B3v (q:=q) hv hn h62 e (i + 1) m (N3 o s) (h1.set (h.length + 1) (some ⟨encS (N3 o s),true⟩)) (h.length + 1) (by omega) (by omega) (by omega) (a3.set a4 _) a4 (G3 hlt)
      have el:(N3 o s).length=o.length + 1:=by rw [ei];simp;omega
      rw [el] at f1
      refine ⟨v2,h2,?_,f2⟩
      simp only [esc,c0,eb,hx,hP,ef,a1,w1,t1,t2,t3,t4,t6,B8U,E2 (show i + 1 < 9223372036854775808 by omega)]
      exact f1
theorem B8T {v:Val} {nv:Nat} {l:E9} {h:A0} (hv:Has h v 1 nv (encS l)) (h62:nv < 1073741824) :
    A0N [v] h=some (.c (.sl h.length 0 (J8 l).length 1),h ++ [some ⟨encS (J8 l),true⟩]):=by
  have hn:l.length=nv:=by simpa [K0] using hv.length
  have key:∀ N,nv < N → ∀ g,Has g v 1 nv (encS l) → ∃ v2 g',A65 N [v] g=some (v2,g') ∧ Out g.length g' v2 1 (J8 l).length (encS (J8 l)):=by
    intro N hN g hv
    obtain ⟨v2,g',f1,f2⟩:=B3v (q:=N) hv hn h62 nv 0 N [] ((g ++ [some (Row.mk [] true)]) ++ [some (Row.mk [] true)]) (g.length + 1) (by omega) hN (Nat.le_refl _) (((Low.refl (Nat.le_refl _)).new _).new _) (by omega) (by simp [encS])
    rw [List.drop_zero] at f2
    rw [C23]
    refine ⟨v2,g',?_,f2⟩
    rw [hv.len,B9]
    simpa using f1
  obtain ⟨v2,g',e,ho⟩:=key (nv + 1) (by omega) (ro h) hv.ro
  exact C5p e (by simpa [M9] using ho) (by simp)
end Go.Proofs.YteckncopbicmcaaGreat
end
section
namespace Go.Proofs.YteckncopbicmcaaGreat
open Go Go.Esc
def D0 (l:List Ent):List Cell:=(l.map fun x=>E3 (some x)).flatten
theorem A77 {l:List Ent}:(D0 l).length=l.length * 2:=by
  induction l with
  | nil=>rfl
  | cons x l ih=>simp only [D0,List.map_cons,List.flatten_cons,List.length_append,E3,List.length_cons,List.length_nil] at ih ⊢;omega
theorem C7U {k:Nat} {x:Ent} {r:List Cell}:List.drop ((k + 1) * 2) (E3 (some x) ++ r)=List.drop (k * 2) r:=by
  rw [show (k + 1) * 2=k * 2 + 2 by omega]
  rfl
theorem A2D:∀ (l:List Ent) (k:Nat) (hk:k < l.length),((D0 l).drop (k * 2)).take 2=E3 (some l[k])
  | [],k,hk=>by simp at hk
  | x :: l,0,_=>rfl
  | x :: l,k + 1,hk=>by
    have e:D0 (x :: l)=E3 (some x) ++ D0 l:=rfl
    rw [e,C7U,List.getElem_cons_succ]
    exact A2D l k (by simpa using hk)
def G1 (l:List Ent) (k:Nat):Ent:=l.getD k ([],0)
theorem A3v {l:List Ent} {k:Nat} (hk:k < l.length):G1 l k=l[k]:=by simp [G1,List.getD,hk]
def G9 (l:List Ent):Nat → List UInt8
  | 0=>hdB
  | k + 1=>D2 (G9 l k) (H9 k) (M6 (G1 l k).1 (G1 l k).2)
theorem A1E {l:List Ent}:∀ k,k ≤ 7 → (G9 l k).length=256
  | 0,_=>B2q
  | k + 1,hk=>by rw [G9,A0a (by rw [A1E k (by omega),A5B];unfold H9;omega)];exact A1E k (by omega)
def atX (b nm:List UInt8):Nat:=match K7 b nm with
  | some x=>x.1
  | none=>0
theorem D2w {o:Option Slt}:(slC o)[0]? = some (.i .i64 ((match o with | some x=>x.1 | none=>0:Nat):Int)):=by cases o <;> rfl
def A3I (l:List Ent) (k:Nat):Bool:=decide (atX (G9 l l.length) (G1 l k).1=k)
def A07 (l:List Ent):Bool:=(List.range' 0 l.length).all (A3I l)
def A0z (l:List Ent):Bool:=l.all fun x=>A1C x.1 x.2
theorem B81 {v:Val} {nv q:Nat} {l:List Ent} {B:A0} {g:Nat} (hv:Has B v 2 nv (D0 l)) (hn:l.length=nv) (h7:nv ≤ 7) (hg:rd B g=some ⟨A1 (zeros 256),true⟩):∀ (e k m:Nat) (h:A0),k + e=nv → e < m → Low B.length B h → rd h B.length=some ⟨A1 (G9 l nv),true⟩ →
    ∃ h',A7N q m (.c (.p g 0)) (.c (.p B.length 0)) v (.c (.i .i64 (nv:Int))) (.c (.i .i64 (k:Int))) h=some (.t [.a (A1 (bif (List.range' k e).all (A3I l) then G9 l nv else zeros 256)),.c (.i .i64 (bif (List.range' k e).all (A3I l) then 0 else 5))],h')
  | e,k,0,h,_,hm,_,_=>by omega
  | 0,k,m + 1,h,hk,hm,hlow,hr=>by
    have e0:k=nv:=by omega
    subst e0
    have c0:¬ (k:Int) < k:=by omega
    have hL:(A1 (G9 l k)).length=256:=by rw [B5];exact A1E k h7
    have hz:(A1 (zeros 256)).length=256:=by rw [B5];exact zeros_length
    have hrg:=hlow.rd hg
    have s1:=G0 hr hL
    have s2:=storeAll (xs:=A1 (G9 l k)) hrg hz hL
    have s3:=G0 (h:=h.set g (some ⟨A1 (G9 l k),true⟩)) (id:=g) (G3 (B8 hrg)) hL
    rw [B5x,List.range'_zero,List.all_nil,cond_true,cond_true]
    generalize A1 (G9 l k)=y at *
    exact ⟨_,by simp only [esc,c0,s1,s2,s3] <;> rfl⟩
  | e + 1,k,m + 1,h,hk,hm,hlow,hr=>by
    have c0:(k:Int) < nv:=by omega
    have hL:(A1 (G9 l nv)).length=256:=by rw [B5];exact A1E nv h7
    have hvB:Has h v 2 nv (D0 l):=by
      refine hv.low hlow fun id off m he=>?_
      rcases hv with ⟨rfl,_⟩ | ⟨id',off',r',rfl,hrd,_⟩
      · cases he
      · cases he;exact B8 hrd
    obtain ⟨id,off,ev,hid,k1,k2⟩:=hvB.sl (by omega)
    have eb:B7 2 v (.c (.i .i64 (k:Int)))=some (.c (.p id (off + k * 2))):=by rw [ev,G8 (by omega)]
    have hld:=k2 (k * 2) 2 (by rw [A77];omega)
    rw [A2D l k (by omega),← A3v (by omega)] at hld
    have w1:=E2 (show k + 1 < 9223372036854775808 by omega)
    have hF:=fun h=>B5r (b:=G9 l nv) (nm:=(G1 l k).1) (h:=h) (A1E nv h7)
    have s1:=fun t=>G0 (h:=h ++ t) (B6 hr) hL
    have hat:(slC (K7 (G9 l nv) (G1 l k).1))[0]? = some (.i .i64 (atX (G9 l nv) (G1 l k).1:Nat)):=D2w
    have hSl:=A1K (o:=K7 (G9 l nv) (G1 l k).1)
    rw [B5x,List.range'_succ,List.all_cons]
    have hon:A3I l k=decide (atX (G9 l nv) (G1 l k).1=k):=by unfold A3I;rw [hn]
    rw [hon]
    generalize slC (K7 (G9 l nv) (G1 l k).1)=S at *
    generalize atX (G9 l nv) (G1 l k).1=A at *
    obtain ⟨h',ih⟩:=B81 (q:=q) hv hn h7 hg e (k + 1) m (h ++ [some (Row.mk (E3 (some (G1 l k))) true),some (Row.mk S true)]) (by omega) (by omega) (hlow.new _) (B6 hr)
    simp only [E3] at *
    by_cases c:A=k
    · subst c
      rw [decide_eq_true rfl,Bool.true_and]
      refine ⟨h',?_⟩
      generalize A1 (G9 l nv)=y at *
      simp only [esc,esh,Nat.reduceAdd,Nat.reduceMul,Nat.reduceLT,c0,eb,hld,s1,hF,hat,hSl,w1]
      exact ih
    · rw [decide_eq_false c,Bool.false_and,cond_false,cond_false]
      have c':¬ (A:Int)=k:=by omega
      have hz:(A1 (zeros 256)).length=256:=by rw [B5];exact zeros_length
      have hrg:=fun t:A0=>B6 (g:=t) (hlow.rd hg)
      have haf:A8 (List.replicate 256 (Cell.i .u8 0)) []=some (List.replicate 256 (Cell.i .u8 0)):=rfl
      rw [M1] at haf
      have s2:=fun t=>storeAll (xs:=A1 (zeros 256)) (hrg t) hz hz
      have s3:=fun t=>G0 (h:=(h ++ t).set g (some ⟨A1 (zeros 256),true⟩)) (id:=g) (G3 (B8 (hrg t))) hz
      rw [M1]
      generalize zeros 256=z at *
      generalize A1 (G9 l nv)=y at *
      exact ⟨_,by simp only [esc,esh,Nat.reduceAdd,Nat.reduceMul,Nat.reduceLT,c0,eb,hld,s1,hF,hat,hSl,c',haf,s2,s3] <;> rfl⟩
theorem B80 {v:Val} {nv q:Nat} {l:List Ent} {B:A0} {g:Nat} (hv:Has B v 2 nv (D0 l)) (hn:l.length=nv) (h7:nv ≤ 7) (hs:∀ x ∈ l,x.1.length ≤ 60) (hg:rd B g=some ⟨A1 (zeros 256),true⟩) (hq:nv < q):∀ (e k m:Nat) (h:A0),k + e=nv → e < m → Low B.length B h → rd h B.length=some ⟨A1 (G9 l k),true⟩ →
    ∃ h',A7M q m v (.c (.p g 0)) (.c (.p B.length 0)) v (.c (.i .i64 (nv:Int))) (.c (.i .i64 (k:Int))) h=some (.t [.a (A1 (bif A0z (l.drop k) && A07 l then G9 l nv else zeros 256)),.c (.i .i64 (bif A0z (l.drop k) then (bif A07 l then 0 else 5) else 1))],h')
  | e,k,0,h,_,hm,_,_=>by omega
  | 0,k,m + 1,h,hk,hm,hlow,hr=>by
    have e0:k=nv:=by omega
    subst e0
    have c0:¬ (k:Int) < k:=by omega
    have hvB:Has h v 2 k (D0 l):=by
      refine hv.low hlow fun id off m he=>?_
      rcases hv with ⟨rfl,_⟩ | ⟨id',off',r',rfl,hrd,_⟩
      · cases he
      · cases he;exact B8 hrd
    obtain ⟨h',e⟩:=B81 (q:=q) hv hn h7 hg k 0 q h (by omega) hq hlow hr
    have em:A0z (l.drop k)=true:=by rw [List.drop_of_length_le (by omega)];rfl
    have eo:(List.range' 0 k).all (A3I l)=A07 l:=by unfold A07;rw [hn]
    rw [eo] at e
    rw [B5w,em,Bool.true_and,cond_true]
    exact ⟨h',by simp only [esc,c0,hvB.len];exact e⟩
  | e + 1,k,m + 1,h,hk,hm,hlow,hr=>by
    have c0:(k:Int) < nv:=by omega
    have hNl:=A1E (l:=l) k (by omega)
    have hL:(A1 (G9 l k)).length=256:=by rw [B5];exact hNl
    have hvB:Has h v 2 nv (D0 l):=by
      refine hv.low hlow fun id off m he=>?_
      rcases hv with ⟨rfl,_⟩ | ⟨id',off',r',rfl,hrd,_⟩
      · cases he
      · cases he;exact B8 hrd
    obtain ⟨id,off,ev,hid,k1,k2⟩:=hvB.sl (by omega)
    have eb:B7 2 v (.c (.i .i64 (k:Int)))=some (.c (.p id (off + k * 2))):=by rw [ev,G8 (by omega)]
    have hld:=k2 (k * 2) 2 (by rw [A77];omega)
    rw [A2D l k (by omega),← A3v (by omega)] at hld
    have w1:=E2 (show k + 1 < 9223372036854775808 by omega)
    have hsk:(G1 l k).1.length ≤ 60:=by rw [A3v (by omega)];exact hs _ (List.getElem_mem _)
    have hM:=fun h=>B5C (s:=(G1 l k).1) (n:=(G1 l k).2) (h:=h) (by omega)
    have hW:=fun h=>B5H (s:=(G1 l k).1) (n:=(G1 l k).2) (h:=h) (by omega)
    have hF:=fun h=>B1B (k:=k) (h:=h) (by omega)
    have hmd:A0z (l.drop k)=(A1C (G1 l k).1 (G1 l k).2 && A0z (l.drop (k + 1))):=by
      rw [List.drop_eq_getElem_cons (by omega:k < l.length),A3v (by omega)];rfl
    have hEl:(M6 (G1 l k).1 (G1 l k).2).length=32:=A5B
    have hLy:=B2Y (v:=.c (.sl (h.length + 1) 0 32 1)) (nv:=32) (data:=M6 (G1 l k).1 (G1 l k).2) (l:=G9 l k) (h:=h ++ [some (Row.mk (E3 (some (G1 l k))) true),some (Row.mk (A1 (M6 (G1 l k).1 (G1 l k).2)) true)]) (Has.row (rw:=true) (by simp) (by rw [B5,A5B]) (O6 _)) hNl (by rw [hEl];omega) (a:=(H9 k:Nat))
    have elay:S2 (G9 l k) (H9 k:Nat) (M6 (G1 l k).1 (G1 l k).2)=G9 l (k + 1):=by
      unfold S2
      have:H9 k < 256:=by unfold H9;omega
      rw [if_pos ⟨by omega,by omega⟩,Int.toNat_natCast,List.take_of_length_le (by rw [hEl];unfold H9;omega)]
      rfl
    rw [elay] at hLy
    have hq2:quiet (h ++ [some (Row.mk (E3 (some (G1 l k))) true)]) (some (.c (.sl (h.length + 1) 0 32 1),h ++ [some (Row.mk (E3 (some (G1 l k))) true),some (Row.mk (A1 (M6 (G1 l k).1 (G1 l k).2)) true)]))=_:=D1h
    have hrk:∀ t:A0,rd (h ++ t) B.length=some ⟨A1 (G9 l k),true⟩:=fun t=>B6 hr
    have s1:=fun t=>G0 (h:=h ++ t) (hrk t) hL
    have hN1:(A1 (G9 l (k + 1))).length=256:=by rw [B5];exact A1E (k + 1) (by omega)
    have s2:=fun t=>storeAll (h:=h ++ t) (xs:=A1 (G9 l (k + 1))) (hrk t) hL hN1
    obtain ⟨h',ih⟩:=B80 (q:=q) hv hn h7 hs hg hq e (k + 1) m ((h ++ [some (Row.mk (E3 (some (G1 l k))) true),some (Row.mk (A1 (M6 (G1 l k).1 (G1 l k).2)) true)]).set B.length (some ⟨A1 (G9 l (k + 1)),true⟩)) (by omega) (by omega) ((hlow.new _).set (Nat.le_refl _) _) (G3 (B8 (hrk _)))
    rw [B5w,hmd]
    generalize M6 (G1 l k).1 (G1 l k).2=E at *
    simp only [E3] at *
    cases cm:A1C (G1 l k).1 (G1 l k).2 with
    | true =>
      rw [cm] at hM
      rw [Bool.true_and]
      refine ⟨h',?_⟩
      generalize A1 (G9 l (k + 1))=y1 at *
      generalize A1 (G9 l k)=y at *
      simp only [esc,esh,Nat.reduceAdd,Nat.reduceMul,Nat.reduceLT,c0,eb,hld,hM,hF,hW,hq2,s1,hLy,s2,w1]
      exact ih
    | false =>
      rw [cm] at hM
      rw [Bool.false_and,Bool.false_and,cond_false,cond_false]
      have hz:(A1 (zeros 256)).length=256:=by rw [B5];exact zeros_length
      have hrg:=fun t:A0=>B6 (g:=t) (hlow.rd hg)
      have haf:A8 (List.replicate 256 (Cell.i .u8 0)) []=some (List.replicate 256 (Cell.i .u8 0)):=rfl
      rw [M1] at haf
      have s2:=fun t=>storeAll (xs:=A1 (zeros 256)) (hrg t) hz hz
      have s3:=fun t=>G0 (h:=(h ++ t).set g (some ⟨A1 (zeros 256),true⟩)) (id:=g) (G3 (B8 (hrg t))) hz
      rw [M1]
      generalize zeros 256=z at *
      exact ⟨_,by simp only [esc,esh,Nat.reduceAdd,Nat.reduceMul,Nat.reduceLT,c0,eb,hld,hM,haf,s2,s3] <;> rfl⟩
def A1D (l:List Ent):Int:=if 7 < l.length then 11 else if A0z l=true then (if A07 l=true then 0 else 5) else 1
def A0d (l:List Ent):List UInt8:=if A1D l=0 then G9 l l.length else zeros 256
theorem B8Y {l:List Ent}:(A0d l).length=256:=by
  unfold A0d
  split
  · rename_i h
    refine A1E _ ?_
    false_or_by_contra
    unfold A1D at h
    rw [if_pos (by omega)] at h
    omega
  · exact zeros_length
theorem C68 {v:Val} {nv:Nat} {l:List Ent} {h:A0} (hv:Has h v 2 nv (D0 l)) (hs:∀ x ∈ l,x.1.length ≤ 60):A4w [v] h=some (.t [.a (A1 (A0d l)),.c (.i .i64 (A1D l))],h):=by
  have hn:l.length=nv:=by have:=hv.length;rw [A77] at this;omega
  have key:∀ g,Has g v 2 nv (D0 l) → ∃ g',A6n 8 [v] g=some (.t [.a (A1 (A0d l)),.c (.i .i64 (A1D l))],g'):=by
    intro g hv
    have hz:(A1 (zeros 256)).length=256:=by rw [B5];exact zeros_length
    have hd:(A1 hdB).length=256:=by rw [B5];exact B2q
    have hl:=hv.len
    have hH:=fun h=>C7f (h:=h)
    rw [C14,M1]
    by_cases c:7 < nv
    · have c0:(7:Int) < nv:=by omega
      have e1:A1D l=11:=by unfold A1D;rw [if_pos (by omega)]
      have e2:A0d l=zeros 256:=by unfold A0d;rw [e1,if_neg (by omega)]
      have haf:A8 (List.replicate 256 (Cell.i .u8 0)) []=some (List.replicate 256 (Cell.i .u8 0)):=rfl
      rw [M1] at haf
      rw [e1,e2]
      generalize zeros 256=z at *
      exact ⟨_,by simp only [esc,esh,Nat.reduceAdd,Nat.reduceMul,Nat.reduceLT,hl,c0,haf,hz] <;> rfl⟩
    · have c0:¬ (7:Int) < nv:=by omega
      obtain ⟨h',e⟩:=B80 (q:=8) (B:=g ++ [some (Row.mk (A1 (zeros 256)) true)]) (g:=g.length) (hv.more _) hn (by omega) hs (by simp) (by omega) nv 0 8 (g ++ [some (Row.mk (A1 (zeros 256)) true),some (Row.mk (A1 (G9 l 0)) true)]) (by omega) (by omega)
        (by have:=(Low.refl (h:=g ++ [some (Row.mk (A1 (zeros 256)) true)]) (Nat.le_refl _)).new [some (Row.mk (A1 (G9 l 0)) true)]
            simpa using this) (by simp)
      have e1:A1D l=(bif A0z l then (bif A07 l then 0 else 5) else 1):=by
        unfold A1D
        rw [if_neg (by omega)]
        cases A0z l <;> cases A07 l <;> simp
      have e2:A0d l=(bif A0z l && A07 l then G9 l nv else zeros 256):=by
        unfold A0d
        rw [e1,← hn]
        cases A0z l <;> cases A07 l <;> simp
      rw [List.drop_zero,← e1,← e2] at e
      rw [show G9 l 0=hdB from rfl] at e
      simp only [List.length_append,List.length_cons,List.length_nil,Nat.zero_add] at e
      refine ⟨h',?_⟩
      generalize A0d l=R at *
      generalize hdB=H at *
      generalize zeros 256=z at *
      simp only [esc,esh,Nat.reduceAdd,Nat.reduceMul,Nat.reduceLT,hl,c0,hH,hz,hd]
      exact e
  obtain ⟨g',e⟩:=key (ro h) hv.ro
  exact C3G e (by simp)
end Go.Proofs.YteckncopbicmcaaGreat
end
section
namespace Go.Proofs.YteckncopbicmcaaGreat
open Go Go.Esc
def isL (D:Dev) (n k:Int) (d:List Int) (t:Tld):Bool:=decide (A04 D n k d t.2=some t.1)
def O1 (D:Dev) (n k:Int) (d:List Int):List Tld:=A1k D (J5 D n k d)
def I4 (D:Dev) (n k:Int) (d:List Int) (l:List Tld):E9:=(l.filter (isL D n k d)).map (·.2)
def A3y (D:Dev) (n k:Int) (d:List Int) (s:List UInt8):Int:=((A04 D n k d s).getD (0,0,0)).2.2
def V4 (D:Dev) (n k:Int) (d:List Int):List Ent:=(J8 (I4 D n k d (O1 D n k d))).map fun s=>(s,A3y D n k d s)
def A6c (D:Dev) (n k:Int) (d:List Int) (l:List Tld):List Plc:=(l.filter fun t=>!isL D n k d t).map (·.1)
def D03 (l:List Plc):List Cell:=(l.map fun p=>L9 (some p)).flatten
theorem B5J {D:Dev} {n k:Int} {d:List Int}:(J5 D n k d).length ≤ 32:=by
  have hml:=A5T (getD (blk D (d.getD 0 0)))
  have hBl:=B1y (F5 (blk D (d.getD 0 0)) 32) (J1 (getD (blk D (d.getD 0 0))))
  unfold J5
  cases V3 D n k d with
  | false=>simp
  | true=>exact Nat.le_trans (List.length_filter_le _ _) (by omega)
def MapN (es:F4) (f:List UInt8 → Int) (l:E9):Prop:=(∀ e ∈ es,∃ s,e.1=.s s) ∧ ∀ s ∈ l,∃ i,T5 (.s s) es=some (i,.c (.i .i64 (f s)))
theorem B8f {es:F4} {s:List UInt8} (h:∀ e ∈ es,∃ s,e.1=Cell.s s):A0w none (.s s) es=true:=by
  simp only [A0w,O5,Bool.true_and,List.all_eq_true]
  intro e he
  obtain ⟨x,hx⟩:=h e he
  rw [hx]
theorem B8u {k:Cell} {p:Part}:∀ {es:F4} {i j:Nat} {q:Part},mgo k es i=some (j,q) → (es.set (j - i) (k,p)).length=es.length ∧ mgo k (es.set (j - i) (k,p)) i=some (j,p) ∧ i ≤ j ∧ ∀ k' ≠ k,((mgo k' (es.set (j - i) (k,p)) i)=mgo k' es i)
  | [],i,j,q,h=>by simp [mgo] at h
  | e :: es,i,j,q,h=>by
    unfold mgo at h
    by_cases c:e.1=k
    · rw [if_pos c] at h
      cases h
      simp only [Nat.sub_self,List.set_cons_zero]
      refine ⟨rfl,by simp [mgo],Nat.le_refl _,fun k' hk'=>?_⟩
      have:¬ e.1=k':=fun h=>hk' (by rw [← h,c])
      simp [mgo,this,Ne.symm hk']
    · rw [if_neg c] at h
      obtain ⟨h1,h2,h3,h4⟩:=B8u (p:=p) h
      have e1:j - i=(j - (i + 1)) + 1:=by omega
      rw [e1,List.set_cons_succ]
      refine ⟨by simp,?_,by omega,fun k' hk'=>?_⟩
      · simp only [mgo];rw [if_neg c];exact h2
      · simp only [mgo];rw [h4 k' hk']
theorem B8v {k k':Cell} {p:Part}:∀ {es:F4} {i:Nat},mgo k es i=none → mgo k' (es ++ [(k,p)]) i=if k'=k then some (i + es.length,p) else mgo k' es i
  | [],i,_=>by
    by_cases c:k'=k
    · subst c;simp [mgo]
    · simp [mgo,c,Ne.symm c]
  | e :: es,i,h=>by
    unfold mgo at h
    by_cases c:e.1=k
    · rw [if_pos c] at h;cases h
    · rw [if_neg c] at h
      have ih:=B8v (k':=k') (p:=p) h
      simp only [List.cons_append,mgo,ih]
      by_cases c2:k'=k
      · subst c2
        rw [if_neg c,if_pos rfl,if_pos rfl,List.length_cons]
        congr 2;omega
      · simp only [if_neg c2]
theorem B8t {k k':Cell} {p:Part} {es:F4}:T5 k (Y1 k p es)=some (((T5 k es).map (·.1)).getD es.length,p) ∧ (k' ≠ k → T5 k' (Y1 k p es)=T5 k' es):=by
  unfold Y1 T5
  cases c:mgo k es 0 with
  | none =>
    simp only [B8v c]
    exact ⟨by simp,fun h=>by rw [if_neg h]⟩
  | some jq =>
    obtain ⟨j,q⟩:=jq
    obtain ⟨_,h2,_,h4⟩:=B8u (p:=p) c
    simp only [Nat.sub_zero] at h2 h4
    exact ⟨by simp [h2],fun h=>h4 k' h⟩
theorem C91 {k:Cell} {p:Part} {es:F4} {Q:Cell → Prop} (hk:Q k) (h:∀ e ∈ es,Q e.1):∀ e ∈ Y1 k p es,Q e.1:=by
  intro e he
  unfold Y1 at he
  split at he
  · rcases List.mem_or_eq_of_mem_set he with he | rfl
    · exact h e he
    · exact hk
  · rcases List.mem_append.1 he with he | he
    · exact h e he
    · simp at he;subst he;exact hk
theorem MapN.nil (f:List UInt8 → Int):MapN [] f []:=⟨fun e he=>by simp at he,fun s hs=>by simp at hs⟩
theorem MapN.put {es:F4} {f:List UInt8 → Int} {l:E9} (hm:MapN es f l) (s:List UInt8):MapN (Y1 (.s s) (.c (.i .i64 (f s))) es) f (l ++ [s]):=by
  refine ⟨C91 (Q:=fun c=>∃ s,c=.s s) ⟨s,rfl⟩ hm.1,fun x hx=>?_⟩
  by_cases c:x=s
  · subst c;exact ⟨_,(B8t (k':=.mh)).1⟩
  · rcases List.mem_append.1 hx with hx | hx
    · obtain ⟨i,hi⟩:=hm.2 x hx
      refine ⟨i,?_⟩
      rw [(B8t (k:=.s s) (k':=.s x)).2 (by simpa using c)];exact hi
    · simp at hx;exact absurd hx c
theorem C9V {h:A0} {mid:Nat} {es:F4} {f:List UInt8 → Int} {l:E9} {s:List UInt8} (hr:rd h mid=some (E6 es)) (hm:MapN es f l) (hs:s ∈ l):P4 h none (.c (.i .i64 0)) false (.c (.m mid)) (.c (.s s))=some (.c (.i .i64 (f s))):=by
  obtain ⟨i,hi⟩:=hm.2 s hs
  simp only [P4,Z9,A2K,hr,Option.bind_some,A3D]
  rw [if_pos (B8f hm.1),hi];rfl
theorem D1g {h:A0} {mid:Nat} {es:F4} {f:List UInt8 → Int} {l:E9} {s:List UInt8} {x:Int} (hr:rd h mid=some (E6 es)) (hm:MapN es f l):U9 h none (.c (.m mid)) (.c (.s s)) (.c (.i .i64 x))=some (h.set mid (some (E6 (Y1 (.s s) (.c (.i .i64 x)) es)))):=by
  simp only [U9,Z9,A2Q,hr,Option.bind_some,A3D]
  rw [if_pos (B8f hm.1)]
end Go.Proofs.YteckncopbicmcaaGreat
end
section
namespace Go.Proofs.YteckncopbicmcaaGreat
open Go Go.Esc
theorem D04 {neg:Bool} (p q:Plc):aeq neg [.i .i64,.i .i64,.i .i64] (.a (L9 (some p))) (.a (L9 (some q)))=some (.c (.b (bif neg then !(decide (some p=some q)) else decide (some p=some q)))):=by
  simp only [aeq]
  rw [if_pos ⟨rfl,rfl⟩]
  have:decide (L9 (some p)=L9 (some q))=decide (some p=some q):=by
    apply Bool.eq_iff_iff.2
    simp only [decide_eq_true_eq,L9,List.cons.injEq,Cell.i.injEq,true_and,and_true,Option.some.injEq]
    obtain ⟨p1,p2,p3⟩:=p
    obtain ⟨q1,q2,q3⟩:=q
    simp only [Prod.mk.injEq]
    constructor
    · rintro ⟨h1,h2,h3⟩;exact ⟨h1,by omega,h3⟩
    · rintro ⟨h1,h2,h3⟩;exact ⟨h1,by omega,h3⟩
  rw [this]
theorem D1l {b:List UInt8} {k:Nat} {x:Ent} (h:M0 b k=some x):x.1.length ≤ 24:=by
  unfold M0 at h
  cases hu:A0E (nameB b k) with
  | none=>rw [hu] at h;cases h
  | some s =>
    rw [hu,Option.bind_some] at h
    split at h
    · cases h;exact (A8n (C1R hu)).2
    · cases h
theorem A8L {b:List UInt8}:∀ {e k:Nat} {x:Slt},x ∈ Q1 b e k → M0 b x.1=some x.2 ∧ k ≤ x.1 ∧ x.1 < k + e
  | 0,k,x,h=>by simp [Q1] at h
  | e + 1,k,x,h=>by
    cases hr:M0 b k with
    | none =>
      rw [B2K hr] at h
      have:=A8L h
      exact ⟨this.1,by omega,by omega⟩
    | some y =>
      rw [B2L hr] at h
      rcases List.mem_cons.1 h with rfl | h
      · exact ⟨hr,Nat.le_refl _,by dsimp only;omega⟩
      · have:=A8L h
        exact ⟨this.1,by omega,by omega⟩
theorem C9U {b:List UInt8} {x:Slt} (h:x ∈ K8 b):M0 b x.1=some x.2 ∧ x.1 < 7:=by
  have:=A8L h
  exact ⟨this.1,by omega⟩
theorem B8X {D:Dev} {n k:Int} {d:List Int} {s:List Tld} {t:Tld}:I4 D n k d (s ++ [t])=I4 D n k d s ++ (if isL D n k d t=true then [t.2] else []):=by
  unfold I4
  rw [List.filter_append,List.map_append]
  by_cases c:isL D n k d t=true
  · rw [if_pos c,List.filter_cons_of_pos c];rfl
  · rw [if_neg c,List.filter_cons_of_neg c];rfl
theorem B8W {D:Dev} {n k:Int} {d:List Int} {s:List Tld}:(I4 D n k d s).length ≤ s.length:=by
  unfold I4
  rw [List.length_map];exact List.length_filter_le _ _
def RDs (b:Nat):List Nat:=[b,b + 1,b + 3,b + 4,b + 5,b + 6,b + 8]
structure ListP (D:Dev) (n k:Int) (d:List Int) (V I:List Cell) (L:List Int) (g:A0) (rs:List Nat) (c:Nat) (s:List Tld) (h:A0):Prop where
  var:VarC h (g.length + 3) (encS (I4 D n k d s)) (I4 D n k d s).length 1 g.length (rs ++ RDs g.length)
  len:s.length ≤ c
  low:Low g.length g h
  r0:rd h g.length=some ⟨V,true⟩
  r1:rd h (g.length + 1)=some ⟨I,true⟩
  r6:rd h (g.length + 6)=some ⟨V,true⟩
  r8:rd h (g.length + 8)=some ⟨encI L,true⟩
  r5:rd h (g.length + 5)=some ⟨[.m (g.length + 4)],true⟩
  r4:∃ es,rd h (g.length + 4)=some (E6 es) ∧ MapN es (A3y D n k d) (I4 D n k d s)
  rs:∀ j ∈ rs,g.length + 9 ≤ j ∧ j < h.length
section
variable {D:Dev} {n k:Int} {d:List Int} {V I:List Cell} {L:List Int} {g h:A0} {rs:List Nat} {c:Nat} {s:List Tld}
theorem ListP.more (P:ListP D n k d V I L g rs c s h) (t:A0):ListP D n k d V I L g rs c s (h ++ t) where
  var:=P.var.more t fun j hj=>.inl hj
  len:=P.len
  low:=P.low.new _
  r0:=B6 P.r0
  r1:=B6 P.r1
  r6:=B6 P.r6
  r8:=B6 P.r8
  r5:=B6 P.r5
  r4:=by obtain ⟨es,h1,h2⟩:=P.r4;exact ⟨es,B6 h1,h2⟩
  rs:=fun j hj=>by have:=P.rs j hj;simp;omega
theorem ListP.one (P:ListP D n k d V I L g rs c s h) (r:Option Row):ListP D n k d V I L g (h.length :: rs) c s (h ++ [r]) where
  var:=P.var.more _ fun j hj=>by
    rcases List.mem_cons.1 hj with rfl | hj
    · exact .inr (Nat.le_refl _)
    · exact .inl hj
  len:=P.len
  low:=P.low.new _
  r0:=B6 P.r0
  r1:=B6 P.r1
  r6:=B6 P.r6
  r8:=B6 P.r8
  r5:=B6 P.r5
  r4:=by obtain ⟨es,h1,h2⟩:=P.r4;exact ⟨es,B6 h1,h2⟩
  rs:=fun j hj=>by
    have h8:=B8 P.r8
    rcases List.mem_cons.1 hj with rfl | hj
    · simp;omega
    · have:=P.rs j hj;simp;omega
theorem ListP.less {i:Nat} (P:ListP D n k d V I L g (i :: rs) c s h):ListP D n k d V I L g rs c s h :=
  { P with var:=P.var.fewer fun j hj=>List.mem_cons_of_mem _ hj,rs:=fun j hj=>P.rs j (List.mem_cons_of_mem _ hj) }
theorem ListP.wide {c':Nat} (P:ListP D n k d V I L g rs c s h) (hc:c ≤ c'):ListP D n k d V I L g rs c' s h :=
  { P with len:=Nat.le_trans P.len hc }
end
theorem C9R {D:Dev} {n m k l s0 p:Int} {d:List Int} {f:Cell} {L:List Int} {g h:A0} {rs:List Nat} {c:Nat} {s:List Tld} {t:Tld} (hD:okD D) (hd:d.length=7) (hv:IsView g f D) (hc:c ≤ 90000) (ht:t.2.length ≤ 24)
    (P:ListP D n k d (vwC D.length n m f) (A5 k l s0 p d) L g rs c s h) :
    ∃ h',A4B [.a (L9 (some t.1)),.c (.s t.2),.c (.p g.length 0),.c (.p (g.length + 1) 0),.c (.p (g.length + 3) 0),.c (.p (g.length + 5) 0)] h=some (.t [],h') ∧ ListP D n k d (vwC D.length n m f) (A5 k l s0 p d) L g rs (c + 1) (s ++ [t]) h' ∧ ∀ j ∈ rs,rd h' j=rd h j:=by
  obtain ⟨⟨p1,p2,p3⟩,nm⟩:=t
  have hIl:(A5 k l s0 p d).length=11:=by simp [A5,G6,hd]
  obtain ⟨h1,e1⟩:∃ h1,h1=h ++ [some (Row.mk (L9 (some (p1,p2,p3))) true)]:=⟨_,rfl⟩
  have n1:h1.length=h.length + 1:=by rw [e1];simp
  have P1:ListP D n k d (vwC D.length n m f) (A5 k l s0 p d) L g (h.length :: rs) c s h1:=e1 ▸ P.one _
  have l4:A4 h1 4 (.c (.p g.length 0))=some (.a (vwC D.length n m f)):=G0 P1.r0 rfl
  have l11:A4 h1 11 (.c (.p (g.length + 1) 0))=some (.a (A5 k l s0 p d)):=G0 P1.r1 hIl
  have hL:=C7M (n:=n) (m:=m) (k:=k) (l:=l) (s:=s0) (p:=p) (nm:=nm) (h:=h1) hD hd (hv.since P1.low) (by dsimp only at ht;omega)
  have hl:=B8 P.r8
  have keep:∀ (h':A0),(∀ j ∈ h.length :: rs,rd h' j=rd h1 j) → ∀ j ∈ rs,rd h' j=rd h j:=by
    intro h' hk j hj
    rw [hk j (List.mem_cons_of_mem _ hj),e1,G5 (P.rs j hj).2]
  obtain ⟨o,eo⟩:∃ o,o=A04 D n k d nm:=⟨_,rfl⟩
  rw [← eo] at hL
  obtain ⟨h2,e2⟩:∃ h2,h2=h1 ++ [some (Row.mk (L9 o) true)]:=⟨_,rfl⟩
  have s3:B4 (h1 ++ [some (Row.mk [Cell.i .i64 0,.i .i64 0,.i .i64 0] true)]) 3 (.c (.p h1.length 0)) (.a (L9 o))=some h2:=by
    rw [A0o,e2];cases o <;> rfl
  have P2:ListP D n k d (vwC D.length n m f) (A5 k l s0 p d) L g (h.length :: rs) c s h2:=e2 ▸ P1.more _
  have q1:A4 h2 3 (.c (.p h1.length 0))=some (.a (L9 o)):=by rw [e2,X1];cases o <;> rfl
  have rp:rd h2 h.length=some ⟨L9 (some (p1,p2,p3)),true⟩:=by rw [e2,e1];simp
  have q2:A4 h2 3 (.c (.p h.length 0))=some (.a (L9 (some (p1,p2,p3)))):=G0 rp rfl
  have no:isL D n k d ((p1,p2,p3),nm)=false → I4 D n k d (s ++ [((p1,p2,p3),nm)])=I4 D n k d s:=fun hn=>by
    rw [B8X,hn];simp
  have stay:I4 D n k d (s ++ [((p1,p2,p3),nm)])=I4 D n k d s → ListP D n k d (vwC D.length n m f) (A5 k l s0 p d) L g rs (c + 1) (s ++ [((p1,p2,p3),nm)]) h2:=fun hn=>by
    have:=P2.less
    exact { this with var:=by rw [hn];exact this.var,len:=by have:=P.len;simp;omega,r4:=by rw [hn];exact this.r4 }
  have k2:∀ j ∈ h.length :: rs,rd h2 j=rd h1 j:=fun j hj=>by
    rw [e2,G5]
    rcases List.mem_cons.1 hj with rfl | hj
    · omega
    · have:=P.rs j hj;omega
  cases o with
  | none =>
    have hn:isL D n k d ((p1,p2,p3),nm)=false:=by unfold isL;rw [← eo];simp
    refine ⟨h2,B08 (n:=0) ?_,stay (no hn),keep h2 k2⟩
    rw [B0J]
    generalize hV:vwC D.length n m f=V at *
    generalize hI:A5 k l s0 p d=I at *
    simp only [Z6,B9,← e1,l4,l11,hL,O0,List.getElem?_cons_zero,List.getElem?_cons_succ,Option.map_some,O7,S4,s3,Option.isSome_none,A5G,B7i,W2,cond_false,F1]
    rfl
  | some q =>
    have ea:=D04 (neg:=false) q (p1,p2,p3)
    by_cases c1:q=(p1,p2,p3)
    · have hn:isL D n k d ((p1,p2,p3),nm)=true:=by unfold isL;rw [← eo,c1];simp
      have hns:I4 D n k d (s ++ [((p1,p2,p3),nm)])=I4 D n k d s ++ [nm]:=by rw [B8X,if_pos hn]
      have hin:A3y D n k d nm=p3:=by unfold A3y;rw [← eo,c1];rfl
      subst c1
      have h2l:h2.length=h.length + 2:=by rw [e2];simp;omega
      obtain ⟨x,v,h3,h4,a1,a2,a3,a4,a5,a6,a7⟩:=P2.var.push (ys:=[.s nm]) (by simp [RDs]) (by omega) (by omega) (by
        intro j hj
        rcases List.mem_append.1 hj with hj | hj
        · exact (P2.rs j hj).2
        · simp only [RDs,List.mem_cons,List.not_mem_nil,or_false] at hj;omega) (by have:=B8W (D:=D) (n:=n) (k:=k) (d:=d) (s:=s);have:=P.len;omega) rfl (by omega)
      have ef:A8 [Cell.s []] [(0,1,.c (.s nm))]=some [.s nm]:=rfl
      have mem:∀ j,j ∈ RDs g.length → j ≠ g.length + 3 → rd h4 j=rd h2 j:=fun j hj hne=>a6 j (List.mem_append_right _ hj) hne
      have m5:A3 h4 (.c (.p (g.length + 5) 0))=some (.c (.m (g.length + 4))):=D8 (by rw [mem _ (by simp [RDs]) (by omega)];exact P2.r5) rfl rfl
      have m2:A3 h4 (.c (.p h.length 2))=some (.c (.i .i64 p3)):=D8 (by rw [a6 h.length (by simp) (by omega)];exact rp) rfl rfl
      obtain ⟨es,r4,hm⟩:=P2.r4
      have r4':rd h4 (g.length + 4)=some (E6 es):=by rw [mem _ (by simp [RDs]) (by omega)];exact r4
      have mp:=D1g (s:=nm) (x:=p3) r4' hm
      have hm':=hm.put nm
      rw [hin] at hm'
      have lt4:=B8 r4'
      obtain ⟨h5,e5⟩:∃ h5,h5=h4.set (g.length + 4) (some (E6 (Y1 (.s nm) (.c (.i .i64 p3)) es))):=⟨_,rfl⟩
      rw [← e5] at mp
      have oth:∀ j,j ≠ g.length + 4 → rd h5 j=rd h4 j:=fun j hj=>by rw [e5,C7 (Ne.symm hj)]
      have back:∀ j ∈ RDs g.length,j ≠ g.length + 3 → j ≠ g.length + 4 → rd h5 j=rd h2 j:=fun j hj h3 h4=>by rw [oth j h4,mem j hj h3]
      refine ⟨h5,B08 (n:=0) ?_,⟨?_,?_,?_,?_,?_,?_,?_,?_,?_,?_⟩,keep h5 fun j hj=>?_⟩
      · rw [B0J]
        rw [decide_eq_true rfl] at ea
        generalize hV:vwC D.length n m f=V at *
        generalize hI:A5 k l s0 p d=I at *
        simp only [Z6,B9,← e1,l4,l11,hL,O0,List.getElem?_cons_zero,List.getElem?_cons_succ,Option.map_some,O7,S4,s3,Option.isSome_some,A2I,q1,q2,ea,W2,cond_true,cond_false,F6,a1,ef,a2,a3,m5,I9,Nat.zero_add,m2,mp]
        rfl
      · rw [hns]
        have e6:encS (I4 D n k d s ++ [nm])=encS (I4 D n k d s) ++ [.s nm]:=by simp [encS]
        rw [e6,List.length_append]
        have:=a4.keep (h':=h5) (oth _ (by omega)) (fun id hid y hy=>by
          rw [oth id (fun e=>hid (List.mem_append_right _ (by rw [e];simp [RDs])))];exact hy)
        exact this.fewer fun j hj=>by
          rcases List.mem_append.1 hj with hj | hj
          · exact List.mem_append_left _ (List.mem_cons_of_mem _ hj)
          · exact List.mem_append_right _ hj
      · have:=P.len;simp;omega
      · rw [e5];exact (P2.low.trans a5).set (by omega) _
      · rw [back _ (by simp [RDs]) (by omega) (by omega)];exact P2.r0
      · rw [back _ (by simp [RDs]) (by omega) (by omega)];exact P2.r1
      · rw [back _ (by simp [RDs]) (by omega) (by omega)];exact P2.r6
      · rw [back _ (by simp [RDs]) (by omega) (by omega)];exact P2.r8
      · rw [back _ (by simp [RDs]) (by omega) (by omega)];exact P2.r5
      · exact ⟨_,by rw [e5];exact G3 lt4,by rw [hns];exact hm'⟩
      · intro j hj
        have:=P.rs j hj
        have e6:h5.length=h4.length:=by rw [e5];simp
        omega
      · have hj9:g.length + 9 ≤ j:=by
          rcases List.mem_cons.1 hj with rfl | hj
          · omega
          · exact (P.rs j hj).1
        rw [oth j (by omega),a6 j (List.mem_append_left _ hj) (by omega),k2 j hj]
    · have hn:isL D n k d ((p1,p2,p3),nm)=false:=by unfold isL;rw [← eo];simpa using c1
      refine ⟨h2,B08 (n:=0) ?_,stay (no hn),keep h2 k2⟩
      rw [B0J]
      rw [decide_eq_false (by simpa using c1)] at ea
      generalize hV:vwC D.length n m f=V at *
      generalize hI:A5 k l s0 p d=I at *
      simp only [Z6,B9,← e1,l4,l11,hL,O0,List.getElem?_cons_zero,List.getElem?_cons_succ,Option.map_some,O7,S4,s3,Option.isSome_some,A2I,q1,q2,ea,W2,cond_true,cond_false,F1]
      rfl
end Go.Proofs.YteckncopbicmcaaGreat
end
section
namespace Go.Proofs.YteckncopbicmcaaGreat
open Go Go.Esc
def RSs (b:Nat):List Nat:=[b,b + 1,b + 3,b + 4,b + 6]
structure StrP (D:Dev) (n k:Int) (d:List Int) (V I:List Cell) (L:List Int) (g:A0) (rs:List Nat) (c:Nat) (s:List Tld) (h:A0):Prop where
  var:VarC h (g.length + 3) (D03 (A6c D n k d s)) (A6c D n k d s).length 3 g.length (rs ++ RSs g.length)
  len:s.length ≤ c
  low:Low g.length g h
  r0:rd h g.length=some ⟨V,true⟩
  r1:rd h (g.length + 1)=some ⟨I,true⟩
  r4:rd h (g.length + 4)=some ⟨V,true⟩
  r6:rd h (g.length + 6)=some ⟨encI L,true⟩
  rs:∀ j ∈ rs,g.length + 7 ≤ j ∧ j < h.length
section
variable {D:Dev} {n k:Int} {d:List Int} {V I:List Cell} {L:List Int} {g h:A0} {rs:List Nat} {c:Nat} {s:List Tld}
theorem StrP.more (P:StrP D n k d V I L g rs c s h) (t:A0):StrP D n k d V I L g rs c s (h ++ t) where
  var:=P.var.more t fun j hj=>.inl hj
  len:=P.len
  low:=P.low.new _
  r0:=B6 P.r0
  r1:=B6 P.r1
  r4:=B6 P.r4
  r6:=B6 P.r6
  rs:=fun j hj=>by have:=P.rs j hj;simp;omega
theorem StrP.one (P:StrP D n k d V I L g rs c s h) (r:Option Row):StrP D n k d V I L g (h.length :: rs) c s (h ++ [r]) where
  var:=P.var.more _ fun j hj=>by
    rcases List.mem_cons.1 hj with rfl | hj
    · exact .inr (Nat.le_refl _)
    · exact .inl hj
  len:=P.len
  low:=P.low.new _
  r0:=B6 P.r0
  r1:=B6 P.r1
  r4:=B6 P.r4
  r6:=B6 P.r6
  rs:=fun j hj=>by
    have h8:=B8 P.r6
    rcases List.mem_cons.1 hj with rfl | hj
    · simp;omega
    · have:=P.rs j hj;simp;omega
theorem StrP.less {i:Nat} (P:StrP D n k d V I L g (i :: rs) c s h):StrP D n k d V I L g rs c s h :=
  { P with var:=P.var.fewer fun j hj=>List.mem_cons_of_mem _ hj,rs:=fun j hj=>P.rs j (List.mem_cons_of_mem _ hj) }
theorem StrP.wide {c':Nat} (P:StrP D n k d V I L g rs c s h) (hc:c ≤ c'):StrP D n k d V I L g rs c' s h :=
  { P with len:=Nat.le_trans P.len hc }
end
end Go.Proofs.YteckncopbicmcaaGreat
end
section
namespace Go.Proofs.YteckncopbicmcaaGreat
open Go Go.Esc
theorem B2e {t:List Int} {i:Nat}:A0u t i=true ↔ ∀ k,k < i → toX t k ≠ toX t i:=by
  unfold A0u
  simp only [List.all_eq_true,List.mem_range,Bool.not_eq_true',decide_eq_false_iff_not]
end Go.Proofs.YteckncopbicmcaaGreat
end
noncomputable section
namespace Go.Proofs.YteckncopbicmcaaGreat
open Go Go.Esc
set_option maxRecDepth 100000
def B6z:ACode:=.seq [0,1,5] (.seq [0,1,5,9] (.ops [aO 6 (.mv (.t 5)),aO 7 (.mv (.t 0)),aO 8 (.len (.t 7)),aO 9 (.bin .lss (.t 6) (.t 8))]) (.cond (.t 9) .skip (.exit 0))) (.seq [0,1,5] (.block 1 (.seq [0,1,5,17] (.ops [aO 12 (.mv (.t 0)),aO 13 (.mv (.t 5)),aO 14 (.iAddrL 1 (.t 12) (.t 13)),aO 15 (.load1 (.t 14)),aO 16 (.mv (.t 1)),aO 17 (.bin .eql (.t 15) (.t 16))]) (.cond (.t 17) (.seq [4] (.ops [aO 4 (.mv (.v (.c (.b true))))]) .ret) .skip))) (.ops [aO 10 (.mv (.t 5)),aO 11 (.bin .add (.t 10) (.v (.c (.i .i64 1)))),aO 5 (.mv (.t 11))]))
def B6A:ACode:=.seq [4] (.ops [aO 4 (.mv (.v (.c (.b false))))]) .ret
def A_er09_In:AFn:=⟨.seq [0,1] (.ops [aO 4 (.mv (.v (.c (.b false))))]) (.seq [] (.seq [0,1,5] (.ops [aO 5 (.mv (.v (.c (.i .i64 0))))]) (.block 0 (.loop [0,1,5] B6z))) B6A),[.tmp 4]⟩
def A30:B0:=C0
def C8l (n:Nat):A9 (Val × A0):=E4 [] (ax A30 n B6A) A_er09_In.fin
def C8m (n:Nat):A9 (Val × A0):=D6 0 (C8l n)
def A8d (n m:Nat) (x0 x1 x5:Val) (h:A0):A6:=C6 (ax A30 n B6z) [0,1,5] (C8m n) m [(0,x0),(1,x1),(5,x5)] h
def B0P (n:Nat) (args:List Val) (h:A0):A6:=ax A30 n A_er09_In.code A_er09_In.fin (params 0 args) h
theorem C2o (n:Nat) (a0 a1:Val) (h:A0):B0P n [a0,a1] h=A8d n n a0 a1 (.c (.i .i64 0)) h:=by kernel_rfl
theorem B6B (n m:Nat) (x0 x1 x5:Val) (h:A0):A8d n (m + 1) x0 x1 x5 h=bnd (D5 x0) fun v1=>bnd (A2 .lss x5 v1) fun v2=>cnd v2 (bnd (B7 1 x0 x5) fun v3=>bnd (A3 h v3) fun v4=>bnd (A2 .eql v4 x1) fun v5=>cnd v5 (some ((.c (.b true)),h)) (bnd (A2 .add x5 (.c (.i .i64 1))) fun v6=>A8d n m x0 x1 v6 h)) (some ((.c (.b false)),h)):=by kernel_rfl
theorem K_er09_In:FnK Tryz.prog 48 A_er09_In A30 B0P:=.mk' (C2) Tryz.func48 (by kernel_rfl) (fun _ _ _=>C1)
def A4H:Fun:=tidy (Lim A_er09_In A30)
theorem C4h:SOk Tryz.prog 48 A4H:=K_er09_In.sok
theorem C4g:C9 B0P A4H:=K_er09_In.flat
end Go.Proofs.YteckncopbicmcaaGreat
end
section
namespace Go.Proofs.YteckncopbicmcaaGreat
open Go Go.Esc
theorem B7z {v:Val} {nv q:Nat} {l:List Int} {x:Int} {h:A0} (hv:Has h v 1 nv (encI l)) (hn:l.length=nv) (h62:nv < 9223372036854775808):∀ e i m:Nat,i + e=nv → e < m →
    A8d q m v (.c (.i .i64 x)) (.c (.i .i64 (i:Int))) h=some (.c (.b (decide (x ∈ l.drop i))),h)
  | e,i,0,_,hm=>by omega
  | 0,i,m + 1,hi,hm=>by
    have e0:i=nv:=by omega
    subst e0
    have c0:¬ (i:Int) < i:=by omega
    rw [B6B,List.drop_of_length_le (by omega)]
    simp only [esc,hv.len,c0,List.not_mem_nil]
  | e + 1,i,m + 1,hi,hm=>by
    have ih:=B7z (q:=q) (x:=x) hv hn h62 e (i + 1) m (by omega) (by omega)
    have hlen:=hv.len
    have c0:(i:Int) < nv:=by omega
    obtain ⟨id,off,ev,hid,k1,k2⟩:=hv.sl (by omega)
    have hx:=k1 i (.i .i64 l[i]) (by rw [R5,List.getElem?_eq_getElem (by omega)];rfl)
    have eb:B7 1 v (.c (.i .i64 (i:Int)))=some (.c (.p id (off + i))):=by rw [ev,G8 (by omega)];simp
    rw [B6B,List.drop_eq_getElem_cons (by omega:i < l.length)]
    by_cases c:l[i]=x
    · have:decide (x ∈ l[i] :: l.drop (i + 1))=true:=decide_eq_true (by rw [c];exact List.mem_cons_self ..)
      rw [this]
      simp only [esc,hlen,c0,eb,hx,c]
    · have:decide (x ∈ l[i] :: l.drop (i + 1))=decide (x ∈ l.drop (i + 1)):=by
        refine decide_eq_decide.2 ?_
        rw [List.mem_cons]
        exact ⟨fun h=>by rcases h with h | h;exact absurd h.symm c;exact h,fun h=>.inr h⟩
      rw [this]
      simp only [esc,hlen,c0,eb,hx,c,E2 (show i + 1 < 9223372036854775808 by omega)]
      exact ih
theorem D1o {v:Val} {nv:Nat} {l:List Int} {x:Int} {h:A0} (hv:Has h v 1 nv (encI l)) (h62:nv < 9223372036854775808):A4H [v,.c (.i .i64 x)] h=some (.c (.b (decide (x ∈ l))),h):=by
  have hn:l.length=nv:=by simpa [G6] using hv.length
  have e:=B7z (q:=nv + 1) (x:=x) hv.ro hn h62 nv 0 (nv + 1) (by omega) (by omega)
  exact C4g (n:=nv + 1) (h2:=ro h) (by rw [C2o];exact e) rfl
theorem B2P {t:List Int} {x:Int} (hx:x ≠ 0):∀ k,x ∈ H0 t k ↔ ∃ j,j < k ∧ toX t j=x
  | 0=>by simp [H0]
  | k + 1=>by
    rw [A7L,List.mem_append,B2P hx k]
    constructor
    · rintro (⟨j,h1,h2⟩ | h)
      · exact ⟨j,by omega,h2⟩
      · split at h
        · simp at h;exact ⟨k,by omega,h.symm⟩
        · cases h
    · rintro ⟨j,h1,h2⟩
      by_cases c:∃ j,j < k ∧ toX t j=x
      · exact .inl c
      · right
        have:j=k:=by
          by_cases e:j=k
          · exact e
          · exact absurd ⟨j,by omega,h2⟩ c
        subst this
        have hb:X4 t j=true:=by
          unfold X4
          rw [Bool.and_eq_true]
          refine ⟨by rw [h2];simp [hx],?_⟩
          rw [B2e]
          intro k hk he
          exact c ⟨k,hk,he.trans h2⟩
        rw [if_pos hb,h2];simp
theorem C86 {t:List Int} {i:Nat} (h:toX t i ≠ 0):decide (toX t i ∈ H0 t i) = !A0u t i:=by
  cases c:A0u t i with
  | true =>
    rw [Bool.not_true,decide_eq_false]
    rw [B2P h]
    rintro ⟨j,h1,h2⟩
    exact B2e.1 c j h1 h2
  | false =>
    rw [Bool.not_false,decide_eq_true]
    rw [B2P h]
    false_or_by_contra
    rename_i hn
    have:A0u t i=true:=B2e.2 fun k hk he=>hn ⟨k,hk,he⟩
    rw [c] at this;cases this
end Go.Proofs.YteckncopbicmcaaGreat
end
section
namespace Go.Proofs.YteckncopbicmcaaGreat
open Go Go.Esc
def RS (b:Nat):List Nat:=[b + 3,b + 4,b + 5,b,b + 1,b + 6,b + 7]
def fO (b:Nat):Cell:=.f 267 [(b + 4,0),(b + 1,0),(b,0),(b + 3,0)]
structure OwnP (g h:A0) (V I:List Cell) (told:Bool) (ls:List Int):Prop where
  var:VarI h (g.length + 3) ls g.length (RS g.length)
  low:Low g.length g h
  len:g.length + 8 ≤ h.length
  t:rd h (g.length + 4)=some ⟨[.b told],true⟩
  f:rd h (g.length + 5)=some ⟨[fO g.length],true⟩
  v:rd h g.length=some ⟨V,true⟩
  i:rd h (g.length + 1)=some ⟨I,true⟩
  v2:rd h (g.length + 6)=some ⟨V,true⟩
  i2:rd h (g.length + 7)=some ⟨I,true⟩
theorem OwnP.push {g h:A0} {V I:List Cell} {told:Bool} {ls:List Int} (P:OwnP g h V I told ls) (hl:ls.length ≤ 1000) (n:Int) :
    ∃ x v h2 h3,A3 h (.c (.p (g.length + 3) 0))=some (.c x) ∧ F0 (h ++ [some ⟨[.i .i64 n],true⟩]) 1 (.c x) (.c (.sl h.length 0 1 1))=some (.c v,h2) ∧ E7 h2 (.c (.p (g.length + 3) 0)) (.c v)=some h3 ∧ OwnP g h3 V I told (ls ++ [n]):=by
  have hlen:=P.len
  have hm:∀ j ∈ RS g.length,j < h.length:=by intro j hj;simp only [RS,List.mem_cons,List.not_mem_nil,or_false] at hj;omega
  obtain ⟨x,v,h2,h3,a1,a2,a3,a4,a5,a6,a7⟩:=P.var.push (by simp [RS]) (by omega) (by omega) hm (by omega) n
  exact ⟨x,v,h2,h3,a1,a2,a3,a4,P.low.trans a5,by omega,by rw [a6 _ (by simp [RS]) (by omega)];exact P.t,by rw [a6 _ (by simp [RS]) (by omega)];exact P.f,by rw [a6 _ (by simp [RS]) (by omega)];exact P.v,by rw [a6 _ (by simp [RS]) (by omega)];exact P.i,by rw [a6 _ (by simp [RS]) (by omega)];exact P.v2,by rw [a6 _ (by simp [RS]) (by omega)];exact P.i2⟩
end Go.Proofs.YteckncopbicmcaaGreat
end
section
namespace Go.Proofs.YteckncopbicmcaaGreat
open Go Go.Esc
theorem D0W {x:Cell} {a n:Nat} {cs:List Cell} {h:A0} (hv:Has h (.c x) 1 n cs) (hn:1 ≤ n) (han:a + n ≤ 256) :
    A5a [.a [.i .i64 a,x]] h=some (.c (.i .i64 0),h):=by
  have key:∀ g,Has g (.c x) 1 n cs → ∃ g',A7c 0 [.a [.i .i64 a,x]] g=some (.c (.i .i64 0),g'):=by
    intro g hv
    have c1:¬ (n:Int) < 1:=by omega
    have c2:¬ (256:Int) < n:=by omega
    have c3:¬ (a:Int) < 0:=by omega
    have e1:IntKind.wrap .i64 (256 - (n:Int))=256 - n:=wrap_i64 (by omega) (by omega)
    have c4:¬ (256:Int) - n < a:=by omega
    rw [C3d]
    exact ⟨_,by simp only [esc,esh,Nat.reduceAdd,Nat.reduceMul,Nat.reduceLT,hv.len,c1,c2,c3,e1,c4] <;> rfl⟩
  obtain ⟨g',e⟩:=key (ro h) hv.ro
  exact C5C e rfl
theorem B9K {x:Cell} {n:Nat} {data l:List UInt8} {z:List Cell} {g:A0} (hv:Has g (.c x) 1 n (A1 data)) {a q:Nat} (han:a + n ≤ 256) (hl:l.length=256) (hz:z.length=256) (hn:data.length=n):∀ d i m,i + d=n → d < m →
    A9e q m (.c (.p g.length 0)) (.c (.p (g.length + 1) 0)) (.c (.p (g.length + 2) 0)) (.c x) (.c (.i .i64 n)) (.c (.i .i64 i)) (g ++ [some ⟨A1 (D2 l a (data.take i)),true⟩,some ⟨[.i .i64 a,x],true⟩,some ⟨z,true⟩]) =
      some (.a (A1 (D2 l a data)),g ++ [some ⟨A1 (D2 l a data),true⟩,some ⟨[.i .i64 a,x],true⟩,some ⟨A1 (D2 l a data),true⟩])
  | d,i,0,_,hm=>by omega
  | 0,i,m + 1,hi,hm=>by
    have e0:i=n:=by omega
    subst e0
    have c0:¬ (i:Int) < i:=by omega
    have hE:(A1 (D2 l a data)).length=256:=by rw [B5,A0a (by omega),hl]
    rw [B9J,List.take_of_length_le (by omega)]
    simp only [esc,esh,Nat.reduceAdd,Nat.reduceMul,Nat.reduceLT,c0,hE,hz]
  | d + 1,i,m + 1,hi,hm=>by
    have ih:=B9K hv (z:=z) (q:=q) han hl hz hn d (i + 1) m (by omega) (by omega)
    obtain ⟨id,off,e,hid,h1,h2⟩:=(hv.more [some ⟨A1 (D2 l a (data.take i)),true⟩,some ⟨[.i .i64 a,x],true⟩,some ⟨z,true⟩]).sl (by omega)
    cases e
    have c0:(i:Int) < n:=by omega
    have hx:=h1 i (.i .u8 data[i].toNat) (by rw [A00,List.getElem?_eq_getElem (by omega)];rfl)
    have eb:B7 1 (.c (.sl id off n 1)) (.c (.i .i64 (i:Int)))=some (.c (.p id (off + i))):=by rw [G8 (by omega)];simp
    have ea:E1 256 1 (.c (.p g.length 0)) (.c (.i .i64 ((a + i:Nat):Int)))=some (.c (.p g.length (a + i))):=by rw [T3 (by omega)];simp
    have hE:(A1 (D2 l a (data.take i))).length=256:=by rw [B5,A0a (by simp;omega),hl]
    have ho:a + i < 256:=by omega
    have e5:(D2 l a (data.take i)).set (a + i) data[i]=D2 l a (data.take (i + 1)):=by
      have:=A8I (l:=l) (xs:=data.take i) (a:=a) (x:=data[i]) (by simp;omega)
      rw [List.length_take,Nat.min_eq_left (by omega)] at this
      rw [this,List.take_succ_eq_append_getElem (by omega)]
    have es:(A1 (D2 l a (data.take i))).set (a + i) (.i .u8 data[i].toNat)=A1 (D2 l a (data.take (i + 1))):=by rw [A0r,e5]
    rw [B9J]
    simp only [esc,esh,Nat.reduceAdd,Nat.reduceMul,Nat.reduceLT,c0,eb,hx,A0F (show a + i < 9223372036854775808 by omega),ea,hE,ho,es,E2 (show i + 1 < 9223372036854775808 by omega)]
    exact ih
theorem D0X {x:Cell} {n a:Nat} {data l:List UInt8} {h:A0} (hv:Has h (.c x) 1 n (A1 data)) (hn:1 ≤ n) (han:a + n ≤ 256) (hl:l.length=256) :
    A5b [.a (A1 l),.a [.i .i64 a,x]] h=some (.a (A1 (D2 l a data)),h):=by
  have hd:data.length=n:=by simpa [B5] using hv.length
  have key:∀ N,n < N → ∀ g,Has g (.c x) 1 n (A1 data) → ∃ g',A7d N [.a (A1 l),.a [.i .i64 a,x]] g=some (.a (A1 (D2 l a data)),g'):=by
    intro N hN g hv
    have hz:(List.replicate 256 (Cell.i .u8 0)).length=256:=List.length_replicate
    have hE:(A1 l).length=256:=by rw [B5,hl]
    rw [C3e]
    generalize List.replicate 256 (Cell.i .u8 0)=z at *
    have e:=B9K hv (l:=l) (z:=z) (q:=N) han hl hz hd n 0 N (by omega) (by omega)
    simp only [List.take_zero,A8H] at e
    have hc:=D0W (hv.more [some ⟨A1 l,true⟩,some ⟨[.i .i64 a,x],true⟩,some ⟨z,true⟩]) hn han
    exact ⟨_,by simp only [esc,esh,Nat.reduceAdd,Nat.reduceMul,Nat.reduceLT,hE,hz,hc,hv.len];exact e⟩
  obtain ⟨g',e⟩:=key (n + 1) (by omega) (ro h) hv.ro
  exact C5E e (by simp)
end Go.Proofs.YteckncopbicmcaaGreat
end
section
namespace Go.Proofs.YteckncopbicmcaaGreat
open Go Go.Esc
theorem C6I {a:Int} {x:Cell}:A8 [Cell.i .i64 0,.ns] [(0,1,.c (.i .i64 a)),(1,1,.c x)]=some [.i .i64 a,x]:=rfl
theorem C6H:A8 ([]:List Cell) []=some []:=rfl
theorem D2R {j:Nat} {k l s p:Int} {d:List Int} {h:A0} (hd:d.length=7) (h8:j < 8) (c:Y0 k l s p d=true) :
    A5g [.c (.i .i64 j),.a (A5 k l s p d)] h=some (.t [.a [.i .i64 ((32 * j:Nat):Int),.sl h.length 0 32 1],.c (.i .i64 0)],h ++ [some ⟨A1 (J0 k l s p d),true⟩]):=by
  have key:∀ g,∃ g',A7k 0 [.c (.i .i64 j),.a (A5 k l s p d)] g=some (.t [.a [.i .i64 ((32 * j:Nat):Int),.sl (g.length + 4) 0 32 1],.c (.i .i64 0)],g') ∧ rd g' (g.length + 4)=some ⟨A1 (J0 k l s p d),true⟩:=by
    intro g
    have c1:¬ (j:Int) < 0:=by omega
    have c2:¬ (8:Int) ≤ j:=by omega
    have hP:=fun h=>B77 (k:=k) (l:=l) (s:=s) (p:=p) (h:=h) hd
    simp only [c,cond_true] at hP
    have hE:(encI d).length=7:=by rw [G6,hd]
    have hz:(List.replicate 32 (Cell.i .u8 0)).length=32:=List.length_replicate
    have hB:(A1 (J0 k l s p d)).length=32:=by rw [B5,A5M hd]
    have w1:IntKind.wrap .i64 ((j:Int) * 32)=((32 * j:Nat):Int):=by rw [wrap_i64 (by omega) (by omega)];omega
    have p1:=A0V (h:=g ++ [some ⟨A5 k l s p d,true⟩,some ⟨[.i .i64 0,.ns],true⟩,some ⟨A1 (J0 k l s p d),true⟩,some ⟨[],true⟩]) (id:=g.length + 3) (jd:=g.length + 2) (n:=0) (m:=32) (sz:=1) (cs:=[]) (ys:=A1 (J0 k l s p d)) (rw:=true) (by simp) (by simp) (by simp) (by rw [hB]) rfl (by omega) (by omega)
    generalize A1 (J0 k l s p d)=B at *
    simp only [esc] at p1
    rw [C3l]
    generalize List.replicate 32 (Cell.i .u8 0)=z at *
    exact ⟨_,by simp only [esc,esh,Nat.reduceAdd,Nat.reduceMul,Nat.reduceLT,c1,c2,hE,hP,hz,hB,w1,C6H,p1,C6I,Int.cast_ofNat_Int] <;> rfl,by simp⟩
  obtain ⟨g',e,hr⟩:=key (ro h)
  have hr':=hr
  rw [M9] at hr'
  have hc1:H7 g' h.length [] [.i .i64 ((32 * j:Nat):Int),.sl ((ro h).length + 4) 0 32 1]=some ([.i .i64 ((32 * j:Nat):Int),.sl h.length 0 32 1],[h.length + 4]):=by
    rw [M9]
    simp [H7,Cell.low,Cell.flat,A2N hr' (by simp:F9 (A1 (J0 k l s p d))=true)]
  have hc2:H7 g' h.length [h.length + 4] [.i .i64 0]=some ([.i .i64 0],[h.length + 4]):=A1n (by simp)
  have:=C5R e (v2:=.t [.a [.i .i64 ((32 * j:Nat):Int),.sl h.length 0 32 1],.c (.i .i64 0)]) (ids:=[h.length + 4]) (by
    simp only [J9,P5,hc1,hc2,Option.bind_some,Option.map_some])
  rw [this]
  simp [hr']
end Go.Proofs.YteckncopbicmcaaGreat
end
section
namespace Go.Proofs.YteckncopbicmcaaGreat
open Go Go.Esc
theorem C0V {j:Nat} {k l s p:Int} {d:List Int} {b:List UInt8} {h:A0} (hb:b.length=256) (hd:d.length=7) (h8:j < 8) (c:Y0 k l s p d=true) :
    A1h [.a (A1 b),.c (.i .i64 j),.a (A5 k l s p d)] h=some (.t [.a (A1 (D2 b (32 * j) (J0 k l s p d))),.c (.i .i64 0)],h):=by
  have key:∀ g,∃ g',A7m 0 [.a (A1 b),.c (.i .i64 j),.a (A5 k l s p d)] g=some (.t [.a (A1 (D2 b (32 * j) (J0 k l s p d))),.c (.i .i64 0)],g'):=by
    intro g
    have hB:(A1 b).length=256:=by rw [B5,hb]
    have hE:(encI d).length=7:=by rw [G6,hd]
    have hI:(A1 (J0 k l s p d)).length=32:=by rw [B5,A5M hd]
    have hz:(List.replicate 256 (Cell.i .u8 0)).length=256:=List.length_replicate
    have hP:=fun h=>D2R (h:=h) hd h8 c
    rw [C3n]
    generalize List.replicate 256 (Cell.i .u8 0)=z at *
    have hL:=D0X (h:=g ++ [some (Row.mk (A1 b) true),some (Row.mk (A5 k l s p d) true),some (Row.mk z true),some (Row.mk (A1 (J0 k l s p d)) true),some (Row.mk [.i .i64 ((32 * j:Nat):Int),.sl (g.length + 3) 0 32 1] true)]) (x:=.sl (g.length + 3) 0 32 1) (n:=32) (a:=32 * j) (data:=J0 k l s p d) (l:=b) (Has.tr (by simp) (by rw [hI]) (O6 _)) (by omega) (by omega) hb
    have hR:(A1 (D2 b (32 * j) (J0 k l s p d))).length=256:=by rw [B5,A0a (by rw [A5M hd];omega),hb]
    exact ⟨_,by simp only [esc,esh,Nat.reduceAdd,Nat.reduceMul,Nat.reduceLT,hB,hE,hz,hP,hL,hR] <;> rfl⟩
  obtain ⟨g',e⟩:=key (ro h)
  exact C5U e (by simp)
def J2 (b:List UInt8) (j:Nat):List UInt8:=(b.drop (32 * j)).take 32
theorem B29 {b:List UInt8} {j:Nat} (hb:b.length=256) (hj:j < 8):(J2 b j).length=32:=by unfold J2;simp;omega
theorem B9T {g:A0} {b:List UInt8} {z:List Cell} {j q:Nat} (hb:b.length=256) (hz:z.length=32) (hj:j < 8):∀ e i m:Nat,i + e=32 → e < m →
    A9w q m (.c (.i .i64 j)) (.c (.p g.length 0)) (.c (.p (g.length + 1) 0)) (.c (.p (g.length + 2) 0)) (.c (.i .i64 i)) (g ++ [some ⟨A1 b,true⟩,some ⟨z,true⟩,some ⟨A1 ((J2 b j).take i ++ zeros (32 - i)),true⟩]) =
      some (.a (A1 (J2 b j)),g ++ [some ⟨A1 b,true⟩,some ⟨A1 (J2 b j),true⟩,some ⟨A1 (J2 b j),true⟩])
  | e,i,0,_,hm=>by omega
  | 0,i,m + 1,hi,hm=>by
    have e0:i=32:=by omega
    subst e0
    have h1':¬ ((32:Nat):Int) < 32:=by omega
    have hR:=B29 hb hj
    have hl:(A1 (J2 b j)).length=32:=by rw [B5,hR]
    have e1:A1 ((J2 b j).take 32 ++ zeros (32 - 32))=A1 (J2 b j):=by rw [List.take_of_length_le (by omega)];simp [zeros]
    rw [C0U,e1]
    simp only [esc,esh,Nat.reduceAdd,Nat.reduceMul,Nat.reduceLT,h1',hl,hz]
  | e + 1,i,m + 1,hi,hm=>by
    have ih:=B9T (g:=g) (q:=q) hb hz hj e (i + 1) m (by omega) (by omega)
    have hR:=B29 hb hj
    have h1':(i:Int) < 32:=by omega
    have w1:IntKind.wrap .i64 ((j:Int) * 32)=((32 * j:Nat):Int):=by rw [wrap_i64 (by omega) (by omega)];omega
    have a1:E1 256 1 (.c (.p g.length 0)) (.c (.i .i64 ((32 * j + i:Nat):Int)))=some (.c (.p g.length (32 * j + i))):=by rw [T3 (by omega)];simp
    have a2:E1 32 1 (.c (.p (g.length + 2) 0)) (.c (.i .i64 (i:Int)))=some (.c (.p (g.length + 2) i)):=by rw [T3 (by omega)];simp
    have l1:(A1 b)[32 * j + i]? = some (.i .u8 (J2 b j)[i].toNat):=by
      rw [A00,List.getElem?_eq_getElem (by omega)]
      have:(J2 b j)[i]=b[32 * j + i]'(by omega):=by simp [J2]
      rw [this];rfl
    have ho:i < (A1 ((J2 b j).take i ++ zeros (32 - i))).length:=by rw [B5,List.length_append,zeros_length,List.length_take];omega
    have es:(A1 ((J2 b j).take i ++ zeros (32 - i))).set i (.i .u8 (J2 b j)[i].toNat)=A1 ((J2 b j).take (i + 1) ++ zeros (32 - (i + 1))):=by
      rw [A0r]
      refine congrArg A1 ?_
      have h6:((J2 b j).take i).length=i:=by simp;omega
      rw [List.set_append_right _ _ (by omega),h6,Nat.sub_self,List.take_succ_eq_append_getElem (by omega),List.append_assoc]
      refine congrArg ((J2 b j).take i ++ ·) ?_
      rw [show 32 - i=32 - (i + 1) + 1 by omega]
      unfold zeros
      rw [List.replicate_succ,List.set_cons_zero];rfl
    rw [C0U]
    simp only [esc,esh,Nat.reduceAdd,Nat.reduceMul,Nat.reduceLT,h1',w1,A0F (show 32 * j + i < 9223372036854775808 by omega),a1,a2,l1,ho,es,E2 (show i + 1 < 9223372036854775808 by omega)]
    exact ih
theorem D2S {b:List UInt8} {j:Nat} {h:A0} (hb:b.length=256) (hj:j < 8):A5h [.a (A1 b),.c (.i .i64 j)] h=some (.a (A1 (J2 b j)),h):=by
  have key:∀ N,32 < N → ∀ g,∃ g',A7l N [.a (A1 b),.c (.i .i64 j)] g=some (.a (A1 (J2 b j)),g'):=by
    intro N hN g
    have c1:¬ (j:Int) < 0:=by omega
    have c2:¬ (8:Int) ≤ j:=by omega
    have hz:(A1 (zeros 32)).length=32:=by rw [B5];exact zeros_length
    have e:=B9T (g:=g) (z:=A1 (zeros 32)) (q:=N) hb hz hj 32 0 N (by omega) (by omega)
    simp only [List.take_zero,List.nil_append,Nat.sub_zero] at e
    rw [C3m,M1]
    generalize zeros 32=zz at *
    exact ⟨_,by simp only [esc,esh,Nat.reduceAdd,Nat.reduceMul,Nat.reduceLT,c1,c2];exact e⟩
  obtain ⟨g',e⟩:=key (h.length + 33) (by omega) (ro h)
  exact C5S e (by simp)
end Go.Proofs.YteckncopbicmcaaGreat
end
section
namespace Go.Proofs.YteckncopbicmcaaGreat
open Go Go.Esc
theorem B2y:(A5 0 0 0 0 (zI 7)).length=11:=rfl
theorem B2x:[Cell.i .i64 0,.i .i64 0,.i .i64 0,.i .i64 0,.i .i64 0,.i .i64 0,.i .i64 0,.i .i64 0,.i .i64 0,.i .i64 0,.i .i64 0]=A5 0 0 0 0 (zI 7):=rfl
theorem B4N:A8 (A5 0 0 0 0 (zI 7)) []=some (A5 0 0 0 0 (zI 7)):=rfl
theorem D2Q {b:List UInt8} {j:Nat} {h:A0} (hb:b.length=256) (hj:j < 8):A5f [.a (A1 b),.c (.i .i64 j)] h=some (.t [.a (V1 (J2 b j)),.c (.b (X5 (J2 b j)))],h):=by
  have key:∀ g,∃ g',A7j 0 [.a (A1 b),.c (.i .i64 j)] g=some (.t [.a (V1 (J2 b j)),.c (.b (X5 (J2 b j)))],g'):=by
    intro g
    have c1:¬ (j:Int) < 0:=by omega
    have c2:¬ (8:Int) ≤ j:=by omega
    have hB:(A1 b).length=256:=by rw [B5,hb]
    have hR:=fun h=>D2S (h:=h) hb hj
    have hC:=fun h=>C9s (b:=J2 b j) (h:=h) (B29 hb hj)
    have hl:=B2y
    have hcl:=B53 (b:=J2 b j)
    rw [C3k,B2x]
    generalize A5 0 0 0 0 (zI 7)=z at *
    exact ⟨_,by simp only [esc,esh,Nat.reduceAdd,Nat.reduceMul,Nat.reduceLT,c1,c2,hB,hR,hC,hl,hcl] <;> rfl⟩
  obtain ⟨g',e⟩:=key (ro h)
  exact C5O e (by simp [B6Y])
end Go.Proofs.YteckncopbicmcaaGreat
end
section
namespace Go.Proofs.YteckncopbicmcaaGreat
open Go Go.Esc
def T6 (D:Dev) (n i:Int):List UInt8:=J2 (blk D (A22 D.length n i)) (A23 D.length n i).toNat
def A0v (D:Dev) (n i:Int):List Cell:=bif O4 D.length n i then V1 (T6 D n i) else A5 0 0 0 0 (zI 7)
def kdV (D:Dev) (n i:Int):Int:=bif O4 D.length n i then (bif X5 (T6 D n i) then T2 (T6 D n i) else 0) else 0
theorem C9o (D:Dev) (n i:Int):∃ l s p d,A0v D n i=A5 (kdV D n i) l s p d ∧ d.length=7:=by
  unfold A0v kdV
  cases O4 D.length n i with
  | false=>exact ⟨0,0,0,zI 7,rfl,O9⟩
  | true =>
    unfold V1
    cases X5 (T6 D n i) with
    | false=>exact ⟨0,0,0,zI 7,rfl,O9⟩
    | true=>exact ⟨_,_,_,_,rfl,O2⟩
theorem C8I (D:Dev) (n i:Int):F9 (A0v D n i)=true:=by
  obtain ⟨l,s,p,d,e,hd⟩:=C9o D n i
  rw [e]
  exact C8H (l:=_ :: _ :: _ :: _ :: d)
theorem D3O {b n m i:Int} {f:Cell} {h:A0} (hi:O4 b n i=false):A0P [.a (vwC b n m f),.c (.i .i64 i)] h=some (.a (A5 0 0 0 0 (zI 7)),h):=by
  have key:∀ g,∃ g',A4u 0 [.a (vwC b n m f),.c (.i .i64 i)] g=some (.a (A5 0 0 0 0 (zI 7)),g'):=by
    intro g
    have l3:=A3R (b:=b) (n:=n) (m:=m) (f:=f)
    have hW:=fun h=>B7n (b:=b) (n:=n) (m:=m) (i:=i) (h:=h)
    simp only [hi] at hW
    have hf:=B4N
    have hl:=B2y
    rw [B4d,B2x]
    generalize vwC b n m f=V at *
    generalize A5 0 0 0 0 (zI 7)=z at *
    exact ⟨_,by simp only [esc,esh,Nat.reduceAdd,Nat.reduceMul,Nat.reduceLT,l3,hW,hf,hl] <;> rfl⟩
  obtain ⟨g',e⟩:=key (ro h)
  exact B4F e rfl
theorem B34 {n m i:Int} {f:Cell} {D:Dev} {h:A0} (hD:okD D) (hv:IsView h f D):A0P [.a (vwC D.length n m f),.c (.i .i64 i)] h=some (.a (A0v D n i),h):=by
  cases hi:O4 D.length n i with
  | false =>
    rw [D3O hi]
    unfold A0v
    rw [hi];rfl
  | true =>
    have key:∀ g,IsView g f D → ∃ g',A4u 0 [.a (vwC D.length n m f),.c (.i .i64 i)] g=some (.a (A0v D n i),g'):=by
      intro g hv
      have l3:=A3R (b:=D.length) (n:=n) (m:=m) (f:=f)
      have l4:=A21 (b:=D.length) (n:=n) (m:=m) (f:=f)
      have hW:=fun h=>B7n (b:=D.length) (n:=n) (m:=m) (i:=i) (h:=h)
      simp only [hi] at hW
      have hf:=B4N
      have hl:=B2y
      have hK:∃ j:Nat,A23 D.length n i=j ∧ j < 8:=by
        refine ⟨(A23 D.length n i).toNat,?_,?_⟩ <;> unfold A23 <;> rw [hi,cond_true] <;> omega
      obtain ⟨j,hj,hj8⟩:=hK
      have hB:=A3Q (n:=n) (m:=m) (no:=A22 D.length n i) (h:=g ++ [some (Row.mk (vwC D.length n m f) true),some (Row.mk (A5 0 0 0 0 (zI 7)) true)]) hD (hv.more _)
      have hG:=fun h=>D2Q (b:=blk D (A22 D.length n i)) (j:=j) (h:=h) (A0X hD) hj8
      have er:J2 (blk D (A22 D.length n i)) j=T6 D n i:=by unfold T6;rw [hj,Int.toNat_natCast]
      simp only [er] at hG
      simp only [hj] at hW
      have hcl:=B53 (b:=T6 D n i)
      have ei:A0v D n i=V1 (T6 D n i):=by unfold A0v;rw [hi];rfl
      rw [B4d,B2x,ei]
      generalize vwC D.length n m f=V at *
      generalize A5 0 0 0 0 (zI 7)=z at *
      generalize V1 (T6 D n i)=y at *
      exact ⟨_,by simp only [esc,esh,Nat.reduceAdd,Nat.reduceMul,Nat.reduceLT,l3,l4,hW,hB,hG,hf,hl,hcl] <;> rfl⟩
    obtain ⟨g',e⟩:=key (ro h) hv.ro
    exact B4F e (C8I D n i)
end Go.Proofs.YteckncopbicmcaaGreat
end
section
namespace Go.Proofs.YteckncopbicmcaaGreat
open Go Go.Esc
theorem C1U {a:Int}:IntKind.wrap .u8 a=a % 256:=by
  simp only [IntKind.wrap,IntKind.bits,IntKind.signed,Bool.false_and]
  rfl
end Go.Proofs.YteckncopbicmcaaGreat
end
section
namespace Go.Proofs.YteckncopbicmcaaGreat
open Go Go.Esc
theorem B1z {t:List Int}:∀ k,(H0 t k).Nodup
  | 0=>by simp [H0]
  | k + 1=>by
    rw [A7L]
    by_cases c:X4 t k=true
    · rw [if_pos c]
      have hc:=c
      unfold X4 at hc
      rw [Bool.and_eq_true] at hc
      have h0:toX t k ≠ 0:=by simpa using hc.1
      have hn:toX t k ∉ H0 t k:=by
        have:=C86 h0
        rw [hc.2] at this
        simpa using this
      rw [List.nodup_append]
      refine ⟨B1z k,by simp,?_⟩
      intro a ha b hb e
      simp at hb
      subst hb;subst e
      exact hn ha
    · rw [if_neg c,List.append_nil];exact B1z k
theorem C7i {D:Dev} {n k:Int} {d:List Int}:(J5 D n k d).Nodup:=by
  unfold J5
  cases V3 D n k d with
  | false=>simp
  | true=>exact (B1z _).filter _
theorem B2M {b:List UInt8}:∀ e k,(Q1 b e k).Pairwise fun x y=>x.1 < y.1
  | 0,k=>by simp [Q1]
  | e + 1,k=>by
    cases hr:M0 b k with
    | none=>rw [B2K hr];exact B2M e (k + 1)
    | some x =>
      rw [B2L hr]
      refine List.pairwise_cons.2 ⟨fun y hy=>?_,B2M e (k + 1)⟩
      have:=A8L hy
      show k < y.1
      omega
theorem C76 {D:Dev} {n k:Int} {d:List Int}:(O1 D n k d).Pairwise fun x y=>(x.1.1,x.1.2.1) ≠ (y.1.1,y.1.2.1):=by
  unfold O1 A1k
  rw [List.pairwise_flatMap]
  refine ⟨fun b _=>?_,(C7i (D:=D) (n:=n) (k:=k) (d:=d)).imp fun {a b} hab=>?_⟩
  · unfold A2Y
    rw [List.pairwise_map]
    refine (B2M 7 0).imp fun {x y} hxy=>?_
    intro e
    have:=congrArg Prod.snd e
    dsimp only at this
    omega
  · intro x hx y hy e
    unfold A2Y at hx hy
    rw [List.mem_map] at hx hy
    obtain ⟨x',_,rfl⟩:=hx
    obtain ⟨y',_,rfl⟩:=hy
    exact hab (congrArg Prod.fst e)
theorem D0h {D:Dev} {n k:Int} {d:List Int}:(I4 D n k d (O1 D n k d)).Nodup:=by
  unfold I4
  rw [List.Nodup,List.pairwise_map]
  refine ((C76 (D:=D) (n:=n) (k:=k) (d:=d)).filter _).imp_of_mem fun {x y} hx hy hxy e=>?_
  have h1:=of_decide_eq_true (List.mem_filter.1 hx).2
  have h2:=of_decide_eq_true (List.mem_filter.1 hy).2
  rw [e,h2] at h1
  have:=Option.some.inj h1
  exact hxy (by rw [this])
theorem D2E (l:E9):(J8 l).Nodup:=(C0B l).imp fun {a b} h e=>by
  subst e;rw [A0W] at h;cases h
theorem D2D {l:E9} (hl:l.Nodup):(J8 l).length=l.length:=by
  have:=(List.perm_ext_iff_of_nodup (D2E l) hl).2 (B3u l)
  exact this.length_eq
theorem D0V {D:Dev} {n k:Int} {d:List Int} (l:List Tld):(I4 D n k d l).length + (A6c D n k d l).length=l.length:=by
  unfold I4 A6c
  rw [List.length_map,List.length_map]
  induction l with
  | nil=>rfl
  | cons t l ih =>
    by_cases c:isL D n k d t=true
    · rw [List.filter_cons_of_pos c,List.filter_cons_of_neg (by simp [c])];simp;omega
    · rw [List.filter_cons_of_neg c,List.filter_cons_of_pos (by simp [c])];simp;omega
theorem C9T {D:Dev} {n k:Int} {d:List Int}:(V4 D n k d).length + (A6c D n k d (O1 D n k d)).length=(O1 D n k d).length:=by
  rw [← D0V (D:=D) (n:=n) (k:=k) (d:=d) (O1 D n k d)]
  unfold V4
  rw [List.length_map,D2D D0h]
end Go.Proofs.YteckncopbicmcaaGreat
end
section
namespace Go.Proofs.YteckncopbicmcaaGreat
open Go Go.Esc
abbrev Spn:=Nat × Nat × Nat
def spn:Nat → Nat → Nat → List Spn
  | 0,_,_=>[]
  | e + 1,off,n=>if n=0 then [] else (off / 256,off % 256,min n (256 - off % 256)) :: spn e (off + min n (256 - off % 256)) (n - min n (256 - off % 256))
theorem A2V {off:Nat}:∀ e,spn e off 0=[]
  | 0=>rfl
  | e + 1=>by rw [spn,if_pos rfl]
theorem A9q {e off n:Nat} (hn:0 < n):spn (e + 1) off n=(off / 256,off % 256,min n (256 - off % 256)) :: spn e (off + min n (256 - off % 256)) (n - min n (256 - off % 256)):=by
  rw [spn,if_neg (by omega)]
theorem C0H:∀ (e off n:Nat),(spn e off n).length ≤ n
  | 0,off,n=>by simp [spn]
  | e + 1,off,n=>by
    by_cases hn:n=0
    · subst hn;rw [A2V];simp
    · rw [A9q (by omega),List.length_cons]
      have:=C0H e (off + min n (256 - off % 256)) (n - min n (256 - off % 256))
      omega
theorem C0I:∀ (e off n:Nat),∀ s ∈ spn e off n,s.2.1 < 256 ∧ 1 ≤ s.2.2 ∧ s.2.1 + s.2.2 ≤ 256 ∧ s.1 ≤ (off + n) / 256 ∧ (0 < n → s.1 * 256 + s.2.1 + s.2.2 ≤ off + n)
  | 0,off,n,s,h=>by simp [spn] at h
  | e + 1,off,n,s,h=>by
    by_cases hn:n=0
    · subst hn;rw [A2V] at h;simp at h
    · rw [A9q (by omega)] at h
      rcases List.mem_cons.1 h with rfl | h
      · refine ⟨by dsimp only;omega,by dsimp only;omega,by dsimp only;omega,by dsimp only;omega,fun _=>by dsimp only;omega⟩
      · have ih:=C0I e _ _ s h
        have e1:off + min n (256 - off % 256) + (n - min n (256 - off % 256))=off + n:=by omega
        rw [e1] at ih
        refine ⟨ih.1,ih.2.1,ih.2.2.1,ih.2.2.2.1,fun _=>?_⟩
        by_cases h0:0 < n - min n (256 - off % 256)
        · exact ih.2.2.2.2 h0
        · have:n - min n (256 - off % 256)=0:=by omega
          rw [this,A2V] at h;simp at h
theorem C0G (f:Nat → UInt8):∀ (e off n:Nat),n ≤ e → ((spn e off n).map fun s=>(List.range' (s.1 * 256 + s.2.1) s.2.2).map f).flatten=(List.range' off n).map f
  | 0,off,n,h=>by
    have:n=0:=by omega
    subst this;rfl
  | e + 1,off,n,h=>by
    by_cases hn:n=0
    · subst hn;rw [A2V];rfl
    · rw [A9q (by omega),List.map_cons,List.flatten_cons,C0G f e _ _ (by omega),← List.map_append]
      dsimp only
      have e1:off / 256 * 256 + off % 256=off:=by omega
      have e2:n=min n (256 - off % 256) + (n - min n (256 - off % 256)):=by omega
      rw [e1]
      conv=>rhs;rw [e2]
      rw [← List.range'_append (step:=1),Nat.one_mul]
def spC (l:List Spn):List Cell:=(l.map fun s=>[Cell.i .i64 (s.1:Int),.i .i64 (s.2.1:Int),.i .i64 (s.2.2:Int)]).flatten
theorem A9p {l:List Spn}:(spC l).length=l.length * 3:=by
  induction l with
  | nil=>rfl
  | cons x l ih=>simp only [spC,List.map_cons,List.flatten_cons,List.length_append,List.length_cons,List.length_nil] at ih ⊢;omega
theorem D2F {l m:List Spn}:spC (l ++ m)=spC l ++ spC m:=by simp [spC]
theorem C0F {s:Spn} {l:List Spn}:spC (s :: l)=[Cell.i .i64 (s.1:Int),.i .i64 (s.2.1:Int),.i .i64 (s.2.2:Int)] ++ spC l:=rfl
theorem D2G {l:List Spn}:F9 (spC l)=true:=by
  induction l with
  | nil=>rfl
  | cons x l ih=>rw [C0F,A8o,ih];rfl
theorem C0E:∀ (l:List Spn) (i:Nat) (s:Spn),l[i]? = some s → ((spC l).drop (i * 3)).take 3=[Cell.i .i64 (s.1:Int),.i .i64 (s.2.1:Int),.i .i64 (s.2.2:Int)]
  | [],i,s,h=>by simp at h
  | x :: l,0,s,h=>by
    simp at h;subst h;rfl
  | x :: l,i + 1,s,h=>by
    rw [C0F,show (i + 1) * 3=3 + i * 3 by omega,← List.drop_drop]
    exact C0E l i s (by simpa using h)
end Go.Proofs.YteckncopbicmcaaGreat
end
noncomputable section
namespace Go.Proofs.YteckncopbicmcaaGreat
open Go Go.Esc
set_option maxRecDepth 100000
def A_fread_Size:AFn:=⟨.seq [1] (.ops [aO 1 (.box (.t 0)),aO 2 (.mv (.v (.c (.i .i64 0))))]) (.seq [1] (.seq [1,5] (.ops [aO 3 (.fAddr (.t 1) 0),aO 4 (.load1 (.t 3)),aO 5 (.bin .neq (.t 4) (.v (.c (.i .i64 1))))]) (.cond (.t 5) (.seq [2] (.ops [aO 2 (.mv (.v (.c (.i .i64 0))))]) .ret) .skip)) (.seq [2] (.ops [aO 6 (.fAddr (.t 1) 2),aO 7 (.load1 (.t 6)),aO 8 (.min (.t 7) (.v (.c (.i .i64 34304)))),aO 9 (.max (.v (.c (.i .i64 0))) (.t 8)),aO 2 (.mv (.t 9))]) .ret)),[.tmp 2]⟩
def A95:B0:=C0
def A6I (n:Nat) (args:List Val) (h:A0):A6:=ax A95 n A_fread_Size.code A_fread_Size.fin (params 0 args) h
theorem C2z (n:Nat) (a0:Val) (h:A0):A6I n [a0] h=bnd (cells? a0) fun c1=>bnd (A7 (.c (.p h.length 0)) 0) fun v2=>bnd (A3 (h ++ [some (Row.mk (c1) true)]) v2) fun v3=>bnd (A2 .neq v3 (.c (.i .i64 1))) fun v4=>cnd v4 (some ((.c (.i .i64 0)),(h ++ [some (Row.mk (c1) true)]))) (bnd (A7 (.c (.p h.length 0)) 2) fun v5=>bnd (A3 (h ++ [some (Row.mk (c1) true)]) v5) fun v6=>bnd (T9 v6 (.c (.i .i64 34304))) fun v7=>bnd (A0n (.c (.i .i64 0)) v7) fun v8=>some (v8,(h ++ [some (Row.mk (c1) true)]))):=by kernel_rfl
theorem K_fread_Size:FnK Tryz.prog 197 A_fread_Size A95 A6I:=.mk' (C2) Tryz.func197 (by kernel_rfl) (fun _ _ _=>C1)
def A1g:Fun:=tidy (Lim A_fread_Size A95)
theorem B4n:SOk Tryz.prog 197 A1g:=K_fread_Size.sok
theorem C4D:C9 A6I A1g:=K_fread_Size.flat
def B7f:ACode:=.seq [0,1,5] (.seq [0,1,5,18] (.ops [aO 17 (.mv (.t 1)),aO 18 (.bin .gtr (.t 17) (.v (.c (.i .i64 0))))]) (.cond (.t 18) .skip (.exit 0))) (.block 1 (.seq [0,1,5,6] (.ops [aO 19 (.mv (.t 0)),aO 20 (.bin .rem (.t 19) (.v (.c (.i .i64 256)))),aO 6 (.mv (.t 20))]) (.seq [0,1,5,6,7] (.ops [aO 21 (.mv (.t 1)),aO 22 (.mv (.t 6)),aO 23 (.bin .sub (.v (.c (.i .i64 256))) (.t 22)),aO 24 (.min (.t 21) (.t 23)),aO 7 (.mv (.t 24))]) (.seq [0,1,5,7] (.ops [aO 25 (.mv (.t 5)),aO 26 (.mv (.t 0)),aO 27 (.bin .quo (.t 26) (.v (.c (.i .i64 256)))),aO 28 (.mv (.t 6)),aO 29 (.mv (.t 7)),aO 30 (.build ([.i .i64 0,.i .i64 0,.i .i64 0]) [(0,1,(.t 27)),(1,1,(.t 28)),(2,1,(.t 29))]),aO 31 (.buildSl 3 1 ([.i .i64 0,.i .i64 0,.i .i64 0]) [(0,3,(.t 30))]),aO 32 (.app 3 (.t 25) (.t 31)),aO 5 (.mv (.t 32))]) (.seq [0,1,5,7] (.ops [aO 33 (.mv (.t 0)),aO 34 (.mv (.t 7)),aO 35 (.bin .add (.t 33) (.t 34)),aO 0 (.mv (.t 35))]) (.ops [aO 36 (.mv (.t 1)),aO 37 (.mv (.t 7)),aO 38 (.bin .sub (.t 36) (.t 37)),aO 1 (.mv (.t 38))]))))))
def B7g:ACode:=.seq [4] (.ops [aO 39 (.mv (.t 5)),aO 4 (.mv (.t 39))]) .ret
def A_fread_Spans:AFn:=⟨.seq [0,1] (.ops [aO 4 (.nilrow 3)]) (.seq [0,1] (.ops [aO 8 (.mv (.t 0)),aO 9 (.max (.v (.c (.i .i64 0))) (.t 8)),aO 0 (.mv (.t 9))]) (.seq [0,1] (.seq [0,1,11] (.ops [aO 10 (.mv (.t 0)),aO 11 (.bin .geq (.t 10) (.v (.c (.i .i64 34304))))]) (.cond (.t 11) (.seq [4] (.ops [aO 4 (.nilrow 3)]) .ret) .skip)) (.seq [0,1] (.ops [aO 12 (.mv (.t 1)),aO 13 (.max (.v (.c (.i .i64 0))) (.t 12)),aO 14 (.mv (.t 0)),aO 15 (.bin .sub (.v (.c (.i .i64 34304))) (.t 14)),aO 16 (.min (.t 13) (.t 15)),aO 1 (.mv (.t 16))]) (.seq [0,1,5] (.ops [aO 5 (.nilrow 3)]) (.seq [5] (.block 0 (.loop [0,1,5] B7f)) B7g))))),[.tmp 4]⟩
def A35:B0:=C0
def C8W (n:Nat):A9 (Val × A0):=E4 [5] (ax A35 n B7g) A_fread_Spans.fin
def C8X (n:Nat):A9 (Val × A0):=D6 0 (C8W n)
def A8r (n m:Nat) (x0 x1 x5:Val) (h:A0):A6:=C6 (ax A35 n B7f) [0,1,5] (C8X n) m [(0,x0),(1,x1),(5,x5)] h
def A6J (n:Nat) (args:List Val) (h:A0):A6:=ax A35 n A_fread_Spans.code A_fread_Spans.fin (params 0 args) h
theorem C2A (n:Nat) (a0 a1:Val) (h:A0):A6J n [a0,a1] h=bnd (A0n (.c (.i .i64 0)) a0) fun v1=>bnd (A2 .geq v1 (.c (.i .i64 34304))) fun v2=>cnd v2 (some ((.c (.sl (h ++ [some (Row.mk ([]) true)]).length 0 0 3)),((h ++ [some (Row.mk ([]) true)]) ++ [some (Row.mk ([]) true)]))) (bnd (A0n (.c (.i .i64 0)) a1) fun v3=>bnd (A2 .sub (.c (.i .i64 34304)) v1) fun v4=>bnd (T9 v3 v4) fun v5=>A8r n n v1 v5 (.c (.sl (h ++ [some (Row.mk ([]) true)]).length 0 0 3)) ((h ++ [some (Row.mk ([]) true)]) ++ [some (Row.mk ([]) true)])):=by kernel_rfl
theorem B2l (n m:Nat) (x0 x1 x5:Val) (h:A0):A8r n (m + 1) x0 x1 x5 h=bnd (A2 .gtr x1 (.c (.i .i64 0))) fun v6=>cnd v6 (bnd (A2 .rem x0 (.c (.i .i64 256))) fun v7=>bnd (A2 .sub (.c (.i .i64 256)) v7) fun v8=>bnd (T9 x1 v8) fun v9=>bnd (A2 .quo x0 (.c (.i .i64 256))) fun v10=>bnd (A8 ([.i .i64 0,.i .i64 0,.i .i64 0]) [(0,1,v10),(1,1,v7),(2,1,v9)]) fun c11=>bnd (A8 ([.i .i64 0,.i .i64 0,.i .i64 0]) [(0,3,(.a c11))]) fun c12=>bnd (F0 (h ++ [some (Row.mk (c12) true)]) 3 x5 (.c (.sl h.length 0 1 3))) fun p13=>bnd (A2 .add x0 v9) fun v14=>bnd (A2 .sub x1 v9) fun v15=>A8r n m v14 v15 p13.1 p13.2) (some (x5,h)):=by kernel_rfl
theorem K_fread_Spans:FnK Tryz.prog 210 A_fread_Spans A35 A6J:=.mk' (C2) Tryz.func210 (by kernel_rfl) (fun _ _ _=>C1)
def A4Q:Fun:=tidy (Lim A_fread_Spans A35)
theorem C4E:SOk Tryz.prog 210 A4Q:=K_fread_Spans.sok
theorem C4F:U6 A6J A4Q:=K_fread_Spans.out
def B7b:ACode:=.ops [aO 59 (.bin .add (.t 34) (.v (.c (.i .i64 1)))),aO 34 (.mv (.t 59))]
def B2i:ACode:=.seq [4,5,9,32,33,34,35] (.ops [aO 35 (.bin .lss (.t 34) (.t 33))]) (.seq [4,5,9,32,33,34] (.cond (.t 35) .skip (.exit 0)) (.seq [4,5,9,32,33,34] (.block 1 (.seq [4,5,9,11,32,33,34] (.ops [aO 36 (.iAddrL 3 (.t 32) (.t 34)),aO 37 (.loadN 3 (.t 36)),aO 11 (.alloc ([.i .i64 0,.i .i64 0,.i .i64 0])),aN (.storeN 3 (.t 11) (.t 37))]) (.seq [4,5,9,11,12,32,33,34] (.ops [aO 38 (.loadN 4 (.t 4)),aO 39 (.loadN 11 (.t 5)),aO 40 (.iAddrA 3 1 (.t 11) (.v (.c (.i .i64 0)))),aO 41 (.load1 (.t 40)),aO 42 (.call 211 [(.t 38),(.t 39),(.t 41)]),aO 12 (.mv (.t 42))]) (.seq [4,5,9,11,12,32,33,34,44] (.ops [aO 43 (.mv (.t 12)),aO 44 (.bin .neq (.t 43) (.v (.c (.i .i64 0))))]) (.cond (.t 44) (.draw 0 [aO 45 (.mv (.t 9)),aO 46 (.loadN 4 (.t 4)),aO 47 (.mv (.t 12)),aO 48 (.call 71 [(.t 46),(.t 47)]),aO 49 (.iAddrA 3 1 (.t 11) (.v (.c (.i .i64 1)))),aO 50 (.load1 (.t 49)),aO 51 (.iAddrA 3 1 (.t 11) (.v (.c (.i .i64 2)))),aO 52 (.load1 (.t 51)),aO 53 (.call 141 [(.t 48),(.t 50),(.t 52)])] [aO 54 (.app 1 (.t 45) (.t 53)),aO 9 (.mv (.t 54))]) (.ops [aO 55 (.mv (.t 9)),aO 56 (.iAddrA 3 1 (.t 11) (.v (.c (.i .i64 2)))),aO 57 (.load1 (.t 56)),aO 58 (.appZ 1 ([.i .u8 0]) (.t 55) (.t 57)),aO 9 (.mv (.t 58))])))))) B7b))
def B7a:ACode:=.seq [8] (.ops [aO 60 (.mv (.t 9)),aO 8 (.mv (.t 60))]) .ret
def A_fread_Read:AFn:=⟨.seq [2,3,4,5] (.ops [aO 4 (.box (.t 0)),aO 5 (.box (.t 1)),aO 8 (.nilrow 1)]) (.seq [2,3,4,5] (.seq [2,3,4,5,24] (.ops [aO 13 (.mv (.t 2)),aO 14 (.bin .lss (.t 13) (.v (.c (.i .i64 0)))),aO 15 (.mv (.t 14)),aG 16 15 false (.mv (.t 2)),aG 17 15 false (.loadN 11 (.t 5)),aG 18 15 false (.call 197 [(.t 17)]),aG 19 15 false (.bin .geq (.t 16) (.t 18)),aO 20 (.pick (.t 15) (.v (.c (.b true))) (.t 19)),aO 21 (.mv (.t 20)),aG 22 21 false (.mv (.t 3)),aG 23 21 false (.bin .lss (.t 22) (.v (.c (.i .i64 1)))),aO 24 (.pick (.t 21) (.v (.c (.b true))) (.t 23))]) (.cond (.t 24) (.seq [8] (.ops [aO 8 (.nilrow 1)]) .ret) .skip)) (.seq [2,3,4,5,9] (.ops [aO 9 (.nilrow 1)]) (.seq [9] (.seq [4,5,9,32,33,34] (.ops [aO 25 (.mv (.t 2)),aO 26 (.mv (.t 3)),aO 27 (.loadN 11 (.t 5)),aO 28 (.call 197 [(.t 27)]),aO 29 (.mv (.t 2)),aO 30 (.bin .sub (.t 28) (.t 29)),aO 31 (.min (.t 26) (.t 30)),aO 32 (.call 210 [(.t 25),(.t 31)]),aO 33 (.len (.t 32)),aO 34 (.mv (.v (.c (.i .i64 0))))]) (.block 0 (.loop [4,5,9,32,33,34] B2i))) B7a))),[.tmp 8]⟩
def A1Q:B0:=B1 197 A1g (B1 210 A4Q (B1 211 A4M (B1 71 S7 (B1 141 Y9 C0))))
def C8T (n:Nat):A9 (Val × A0):=E4 [9] (ax A1Q n B7a) A_fread_Read.fin
def B2k (n:Nat):A9 (Val × A0):=D6 0 (C8T n)
def A8q (n m:Nat) (x4 x5 x9 x32 x33 x34:Val) (h:A0):A6:=C6 (ax A1Q n B2i) [4,5,9,32,33,34] (B2k n) m [(4,x4),(5,x5),(9,x9),(32,x32),(33,x33),(34,x34)] h
def A6H (n:Nat) (args:List Val) (h:A0):A6:=ax A1Q n A_fread_Read.code A_fread_Read.fin (params 0 args) h
def C8U (n m:Nat):A9 (Val × A0):=P9 [4,5,9,32,33,34] (C6 (ax A1Q n B2i) [4,5,9,32,33,34] (B2k n) m) (B2k n)
def B2j (n m:Nat) (x4 x5 x9 x32 x33 x34:Val) (h:A0):A6:=hold ((ax A1Q n B7b) (C8U n m) [(4,x4),(5,x5),(9,x9),(32,x32),(33,x33),(34,x34)] h)
theorem C2y (n:Nat) (a0 a1 a2 a3:Val) (h:A0):A6H n [a0,a1,a2,a3] h=bnd (cells? a0) fun c1=>bnd (cells? a1) fun c2=>bnd (A2 .lss a2 (.c (.i .i64 0))) fun v3=>bnd (gd v3 false (some (a2,(((h ++ [some (Row.mk (c1) true)]) ++ [some (Row.mk (c2) true)]) ++ [some (Row.mk ([]) true)]))) (some (.no,(((h ++ [some (Row.mk (c1) true)]) ++ [some (Row.mk (c2) true)]) ++ [some (Row.mk ([]) true)])))) fun p4=>bnd (gd v3 false (bnd (A4 p4.2 11 (.c (.p (h ++ [some (Row.mk (c1) true)]).length 0))) fun v5=>some (v5,p4.2)) (some (.no,p4.2))) fun p6=>bnd (gd v3 false (bnd (A1g [p6.1] p6.2) fun p7=>some (p7.1,p7.2)) (some (.no,p6.2))) fun p8=>bnd (gd v3 false (bnd (A2 .geq p4.1 p8.1) fun v9=>some (v9,p8.2)) (some (.no,p8.2))) fun p10=>bnd (C4 v3 (.c (.b true)) p10.1) fun v11=>bnd (gd v11 false (some (a3,p10.2)) (some (.no,p10.2))) fun p12=>bnd (gd v11 false (bnd (A2 .lss p12.1 (.c (.i .i64 1))) fun v13=>some (v13,p12.2)) (some (.no,p12.2))) fun p14=>bnd (C4 v11 (.c (.b true)) p14.1) fun v15=>cnd v15 (some ((.c (.sl p14.2.length 0 0 1)),(p14.2 ++ [some (Row.mk ([]) true)]))) (bnd (A4 (p14.2 ++ [some (Row.mk ([]) true)]) 11 (.c (.p (h ++ [some (Row.mk (c1) true)]).length 0))) fun v16=>bnd (A1g [v16] (p14.2 ++ [some (Row.mk ([]) true)])) fun p17=>bnd (A2 .sub p17.1 a2) fun v18=>bnd (T9 a3 v18) fun v19=>bnd (A4Q [a2,v19] p17.2) fun p20=>bnd (D5 p20.1) fun v21=>A8q n n (.c (.p h.length 0)) (.c (.p (h ++ [some (Row.mk (c1) true)]).length 0)) (.c (.sl p14.2.length 0 0 1)) p20.1 v21 (.c (.i .i64 0)) p20.2):=by kernel_rfl
theorem B7d (n m:Nat) (x4 x5 x9 x32 x33 x34:Val) (h:A0):A8q n (m + 1) x4 x5 x9 x32 x33 x34 h=bnd (A2 .lss x34 x33) fun v22=>cnd v22 (bnd (B7 3 x32 x34) fun v23=>bnd (A4 h 3 v23) fun v24=>bnd (B4 (h ++ [some (Row.mk ([.i .i64 0,.i .i64 0,.i .i64 0]) true)]) 3 (.c (.p h.length 0)) v24) fun h25=>bnd (A4 h25 4 x4) fun v26=>bnd (A4 h25 11 x5) fun v27=>bnd (E1 3 1 (.c (.p h.length 0)) (.c (.i .i64 0))) fun v28=>bnd (A3 h25 v28) fun v29=>bnd (A4M [v26,v27,v29] h25) fun p30=>bnd (A2 .neq p30.1 (.c (.i .i64 0))) fun v31=>cnd v31 (bnd (A4 p30.2 4 x4) fun v32=>bnd (quiet (p30.2 ++ []) (S7 [v32,p30.1] (p30.2 ++ []))) fun p33=>bnd (E1 3 1 (.c (.p h.length 0)) (.c (.i .i64 1))) fun v34=>bnd (A3 p30.2 v34) fun v35=>bnd (E1 3 1 (.c (.p h.length 0)) (.c (.i .i64 2))) fun v36=>bnd (A3 p30.2 v36) fun v37=>bnd (quiet p33.2 (Y9 [p33.1,v35,v37] p33.2)) fun p38=>bnd (F0 p38.2 1 x9 p38.1) fun p39=>B2j n m x4 x5 p39.1 x32 x33 x34 p39.2) (bnd (E1 3 1 (.c (.p h.length 0)) (.c (.i .i64 2))) fun v40=>bnd (A3 p30.2 v40) fun v41=>bnd (A2i p30.2 1 ([.i .u8 0]) x9 v41) fun p42=>B2j n m x4 x5 p42.1 x32 x33 x34 p42.2)) (some (x9,h)):=by kernel_rfl
theorem B7c (n m:Nat) (x4 x5 x9 x32 x33 x34:Val) (h:A0):B2j n m x4 x5 x9 x32 x33 x34 h=bnd (A2 .add x34 (.c (.i .i64 1))) fun v43=>A8q n m x4 x5 x9 x32 x33 v43 h:=by kernel_rfl
theorem K_fread_Read:FnK Tryz.prog 136 A_fread_Read A1Q A6H:=.mk' (B3 B4n (B3 C4E (B3 C4v (B3 A3j (B3 A7x C2))))) Tryz.func136 (by kernel_rfl) (fun _ _ _=>C1)
def A4P:Fun:=tidy (Lim A_fread_Read A1Q)
theorem C4B:SOk Tryz.prog 136 A4P:=K_fread_Read.sok
theorem C4C:U6 A6H A4P:=K_fread_Read.out
def A_fread_All:AFn:=⟨.seq [2,3] (.ops [aO 2 (.box (.t 0)),aO 3 (.box (.t 1)),aO 4 (.nilrow 1)]) (.seq [4] (.ops [aO 5 (.loadN 4 (.t 2)),aO 6 (.loadN 11 (.t 3)),aO 7 (.call 136 [(.t 5),(.t 6),(.v (.c (.i .i64 0))),(.v (.c (.i .i64 34304)))]),aO 4 (.mv (.t 7))]) .ret),[.tmp 4]⟩
def A94:B0:=B1 136 A4P C0
def A6G (n:Nat) (args:List Val) (h:A0):A6:=ax A94 n A_fread_All.code A_fread_All.fin (params 0 args) h
theorem C2x (n:Nat) (a0 a1:Val) (h:A0):A6G n [a0,a1] h=bnd (cells? a0) fun c1=>bnd (cells? a1) fun c2=>bnd (A4 (((h ++ [some (Row.mk (c1) true)]) ++ [some (Row.mk (c2) true)]) ++ [some (Row.mk ([]) true)]) 4 (.c (.p h.length 0))) fun v3=>bnd (A4 (((h ++ [some (Row.mk (c1) true)]) ++ [some (Row.mk (c2) true)]) ++ [some (Row.mk ([]) true)]) 11 (.c (.p (h ++ [some (Row.mk (c1) true)]).length 0))) fun v4=>bnd (A4P [v3,v4,.c (.i .i64 0),.c (.i .i64 34304)] (((h ++ [some (Row.mk (c1) true)]) ++ [some (Row.mk (c2) true)]) ++ [some (Row.mk ([]) true)])) fun p5=>some (p5.1,p5.2):=by kernel_rfl
theorem K_fread_All:FnK Tryz.prog 64 A_fread_All A94 A6G:=.mk' (B3 C4B C2) Tryz.func64 (by kernel_rfl) (fun _ _ _=>C1)
def A4O:Fun:=tidy (Lim A_fread_All A94)
theorem C4z:SOk Tryz.prog 64 A4O:=K_fread_All.sok
theorem C4A:U6 A6G A4O:=K_fread_All.out
end Go.Proofs.YteckncopbicmcaaGreat
end
section
namespace Go.Proofs.YteckncopbicmcaaGreat
open Go Go.Esc
theorem B1q {k:IntKind} {a b:Int}:A0n (.c (.i k a)) (.c (.i k b))=some (.c (.i k (if a < b then b else a))):=rfl
theorem A7G {k:IntKind} {a b:Int}:T9 (.c (.i k a)) (.c (.i k b))=some (.c (.i k (if b < a then b else a))):=rfl
def W5 (off:Int):Int:=if 0 < off then off else 0
def A1A (off n:Int):Nat:=if W5 off < 34304 then (if 34304 - W5 off < (if 0 < n then n else 0) then 34304 - W5 off else (if 0 < n then n else 0)).toNat else 0
def A2U (off n:Int):List Spn:=spn (A1A off n) (W5 off).toNat (A1A off n)
theorem B7h {g:A0} {q:Nat}:∀ (e off n m id:Nat) (h:A0) (l:List Spn),n ≤ e → e < m → off + n ≤ 34304 → l.length + n ≤ 40000 → Low g.length g h → g.length ≤ id → rd h id=some ⟨spC l,true⟩ →
    ∃ v' h',A8r q m (.c (.i .i64 (off:Int))) (.c (.i .i64 (n:Int))) (.c (.sl id 0 l.length 3)) h=some (v',h') ∧ Out g.length h' v' 3 (l ++ spn e off n).length (spC (l ++ spn e off n))
  | e,off,n,0,id,h,l,_,hm,_,_,_,_,_=>by omega
  | 0,off,n,m + 1,id,h,l,hn,hm,ho,hl,hlow,hb,hr=>by
    have e0:n=0:=by omega
    subst e0
    have c0:¬ (0:Int) < ((0:Nat):Int):=by omega
    rw [B2l,A2V,List.append_nil]
    exact ⟨_,_,by simp only [esc,c0] <;> rfl,A9p,id,rfl,hb,hr⟩
  | e + 1,off,n,m + 1,id,h,l,hn,hm,ho,hl,hlow,hb,hr=>by
    by_cases h0:n=0
    · subst h0
      have c0:¬ (0:Int) < ((0:Nat):Int):=by omega
      rw [B2l,A2V,List.append_nil]
      exact ⟨_,_,by simp only [esc,c0] <;> rfl,A9p,id,rfl,hb,hr⟩
    · have c0:(0:Int) < (n:Int):=by omega
      rw [A9q (by omega)]
      generalize hK:min n (256 - off % 256)=K
      have r1:A2 .rem (.c (.i .i64 (off:Int))) (.c (.i .i64 256))=some (.c (.i .i64 ((off % 256:Nat):Int))):=by
        rw [B3d (by omega) (by omega)];congr 3
      have w1:IntKind.wrap .i64 (256 - ((off % 256:Nat):Int))=((256 - off % 256:Nat):Int):=by rw [wrap_i64 (by omega) (by omega)];omega
      have m1:T9 (.c (.i .i64 (n:Int))) (.c (.i .i64 ((256 - off % 256:Nat):Int)))=some (.c (.i .i64 (K:Int))):=by
        rw [A7G]
        congr 3
        split <;> omega
      have q1:A2 .quo (.c (.i .i64 (off:Int))) (.c (.i .i64 256))=some (.c (.i .i64 ((off / 256:Nat):Int))):=by
        rw [A52 (by omega) (by omega) (by omega)];congr 3
      have ef1:A8 [Cell.i .i64 0,.i .i64 0,.i .i64 0] [(0,1,.c (.i .i64 ((off / 256:Nat):Int))),(1,1,.c (.i .i64 ((off % 256:Nat):Int))),(2,1,.c (.i .i64 (K:Int)))]=some (spC [(off / 256,off % 256,K)]):=rfl
      have ef2:A8 [Cell.i .i64 0,.i .i64 0,.i .i64 0] [(0,3,.a (spC [(off / 256,off % 256,K)]))]=some (spC [(off / 256,off % 256,K)]):=rfl
      obtain ⟨h',a1,a2,a3,a4,a5⟩:=push (ys:=spC [(off / 256,off % 256,K)]) hlow hr A9p hb rfl (by omega) (by omega)
      rw [← D2F] at a2 a5
      have w2:IntKind.wrap .i64 ((off:Int) + (K:Int))=((off + K:Nat):Int):=A0F (by omega)
      have w3:IntKind.wrap .i64 ((n:Int) - (K:Int))=((n - K:Nat):Int):=by rw [wrap_i64 (by omega) (by omega)];omega
      have el:(l ++ [(off / 256,off % 256,K)]).length=l.length + 1:=by simp
      obtain ⟨v',h'',f1,f2⟩:=B7h (q:=q) e (off + K) (n - K) m (h.length + 1) h' (l ++ [(off / 256,off % 256,K)]) (by omega) (by omega) (by omega) (by simp;omega) a3 a4 a2
      rw [List.append_assoc,List.singleton_append] at f2
      rw [el] at f1
      refine ⟨v',h'',?_,f2⟩
      rw [B2l]
      simp only [esc,c0,r1,w1,m1,q1,ef1,ef2,a1,w2,w3]
      exact f1
theorem C8V {off n:Int} {h:A0} (h1:off < 9223372036854775808):A4Q [.c (.i .i64 off),.c (.i .i64 n)] h=some (.c (.sl h.length 0 (A2U off n).length 3),h ++ [some ⟨spC (A2U off n),true⟩]):=by
  have key:∀ g,∃ v g',A6J (A1A off n + 1) [.c (.i .i64 off),.c (.i .i64 n)] g=some (v,g') ∧ Out g.length g' v 3 (A2U off n).length (spC (A2U off n)):=by
    intro g
    have x1:=B1q (k:=.i64) (a:=0) (b:=off)
    have x2:=B1q (k:=.i64) (a:=0) (b:=n)
    rw [C2A]
    unfold A2U
    have ho:(if 0 < off then off else 0)=W5 off:=rfl
    rw [ho] at x1
    have hN:A1A off n=if W5 off < 34304 then (if 34304 - W5 off < (if 0 < n then n else 0) then 34304 - W5 off else (if 0 < n then n else 0)).toNat else 0:=rfl
    have p1:0 ≤ W5 off:=by unfold W5;split <;> omega
    have p2:0 ≤ (if 0 < n then n else 0):=by split <;> omega
    generalize (if 0 < n then n else 0)=n1 at *
    generalize W5 off=o1 at *
    by_cases c1:34304 ≤ o1
    · rw [if_neg (by omega)] at hN
      rw [hN,A2V]
      exact ⟨_,_,by simp only [esc,x1,c1] <;> rfl,rfl,g.length + 1,by simp,by omega,by simp [spC]⟩
    · rw [if_pos (by omega)] at hN
      have w1:IntKind.wrap .i64 (34304 - o1)=34304 - o1:=wrap_i64 (by omega) (by omega)
      have x3:=A7G (k:=.i64) (a:=n1) (b:=34304 - o1)
      have e1:(if 34304 - o1 < n1 then 34304 - o1 else n1)=((A1A off n:Nat):Int):=by rw [hN];split <;> omega
      rw [e1] at x3
      generalize A1A off n=N at *
      obtain ⟨o2,rfl⟩:∃ o2:Nat,o1=o2:=⟨o1.toNat,by omega⟩
      obtain ⟨v',h',f1,f2⟩:=B7h (g:=g) (q:=N + 1) N o2 N (N + 1) (g.length + 1) (g ++ [some (Row.mk [] true),some (Row.mk [] true)]) [] (by omega) (by omega) (by split at e1 <;> omega) (by simp;split at e1 <;> omega) ((Low.refl (Nat.le_refl _)).new _) (by omega) (by simp [spC])
      rw [List.nil_append] at f2
      rw [List.length_nil] at f1
      refine ⟨v',h',?_,f2⟩
      simp only [esc,x1,x2,c1,w1,x3]
      exact f1
  obtain ⟨v,g',e,ho⟩:=key (ro h)
  exact C4F e (by simpa [M9] using ho) D2G
end Go.Proofs.YteckncopbicmcaaGreat
end
section
namespace Go.Proofs.YteckncopbicmcaaGreat
open Go Go.Esc
def I6 (k s:Int):Int:=if k=1 then (if 0 < (if 34304 < s then 34304 else s) then (if 34304 < s then 34304 else s) else 0) else 0
theorem D2u {k s:Int}:0 ≤ I6 k s ∧ I6 k s ≤ 34304:=by
  unfold I6
  split
  · split <;> split <;> omega
  · omega
theorem D2t {k s:Int} (h:0 < I6 k s):k=1:=by
  unfold I6 at h
  split at h
  · assumption
  · omega
theorem B7e {k l s p:Int} {d:List Int} {h:A0}:A1g [.a (A5 k l s p d)] h=some (.c (.i .i64 (I6 k s)),h):=by
  have key:∀ g,∃ g',A6I 0 [.a (A5 k l s p d)] g=some (.c (.i .i64 (I6 k s)),g'):=by
    intro g
    have i0:(A5 k l s p d)[0]? = some (.i .i64 k):=rfl
    have i2:(A5 k l s p d)[2]? = some (.i .i64 s):=rfl
    have x1:=A7G (k:=.i64) (a:=s) (b:=34304)
    rw [C2z]
    generalize A5 k l s p d=I at *
    unfold I6
    by_cases c1:k=1
    · rw [if_pos c1]
      generalize (if 34304 < s then 34304 else s)=y at *
      have x2:=B1q (k:=.i64) (a:=0) (b:=y)
      exact ⟨_,by simp only [esc,esh,Nat.reduceAdd,Nat.reduceMul,Nat.reduceLT,eq_self,i0,i2,c1,x1,x2] <;> rfl⟩
    · rw [if_neg c1]
      exact ⟨_,by simp only [esc,esh,Nat.reduceAdd,Nat.reduceMul,Nat.reduceLT,eq_self,i0,i2,c1] <;> rfl⟩
  obtain ⟨g',e⟩:=key (ro h)
  exact C4D e rfl
def A5t (D:Dev) (n:Int) (d:List Int) (p:Nat):UInt8:=if R2 D n d (p / 256)=0 then 0 else (blk D (R2 D n d (p / 256))).getD (p % 256) 0
def A2P (D:Dev) (n:Int) (d:List Int) (s:Spn):List UInt8:=(List.range' (s.1 * 256 + s.2.1) s.2.2).map (A5t D n d)
theorem D01 {D:Dev} {n:Int} {d:List Int} {a b c:Nat} (hc:b + c ≤ 256) (h0:R2 D n d a=0):A2P D n d (a,b,c)=zeros c:=by
  unfold A2P zeros
  refine List.ext_getElem (by simp) fun i h1 h2=>?_
  simp only [List.length_replicate] at h2
  rw [List.getElem_map,List.getElem_range',List.getElem_replicate]
  unfold A5t
  have e:(a * 256 + b + 1 * i) / 256=a:=by omega
  rw [e,if_pos h0]
theorem D02 {D:Dev} {n:Int} {d:List Int} {a b c:Nat} (hD:okD D) (hc:b + c ≤ 256) (h0:R2 D n d a ≠ 0):A2P D n d (a,b,c)=((blk D (R2 D n d a)).drop b).take c:=by
  have hl:=A0X hD (i:=R2 D n d a)
  unfold A2P
  refine List.ext_getElem (by simp [hl];omega) fun i h1 h2=>?_
  have hi:i < c:=by simpa using h1
  rw [List.getElem_map,List.getElem_range',List.getElem_take,List.getElem_drop]
  unfold A5t
  have e:(a * 256 + b + 1 * i) / 256=a:=by omega
  have e2:(a * 256 + b + 1 * i) % 256=b + i:=by omega
  rw [e,e2,if_neg h0,List.getD_eq_getElem?_getD,List.getElem?_eq_getElem (by omega)]
  rfl
theorem D1d {h:A0} {id n m sz:Nat} {cs ys:List Cell} (hr:rd h id=some ⟨cs,true⟩) (hl:cs.length=n * sz) (hy:ys.length=m * sz) (hsz:0 < sz) (hn:n + m ≤ 1073741824) :
    ∃ h',F0 (h ++ [some ⟨ys,true⟩]) sz (.c (.sl id 0 n sz)) (.c (.sl h.length 0 m sz))=some (.c (.sl (h.length + 1) 0 (n + m) sz),h') ∧ rd h' (h.length + 1)=some ⟨cs ++ ys,true⟩ ∧ (∀ i r,i ≠ id → rd h i=some r → rd h' i=some r) ∧ (∀ b,b ≤ id → b ≤ h.length → Low b h h'):=by
  have hlt:=B8 hr
  refine ⟨(h ++ [some (Row.mk ys true)]).set id none ++ [some (Row.mk (cs ++ ys) true)],?_,?_,fun i r hi hir=>?_,fun b hb hb2=>(((Low.refl hb2).new _).set hb none).new _⟩
  · rw [A0V (h:=h ++ [some ⟨ys,true⟩]) (B6 hr) hl E8 hy rfl hsz hn]
    simp
  · have:=E8 (h:=(h ++ [some (Row.mk ys true)]).set id none) (r:=Row.mk (cs ++ ys) true)
    rw [List.length_set] at this
    simpa using this
  · refine B6 ?_
    rw [C7 (Ne.symm hi)]
    exact B6 hir
theorem D1e {h:A0} {id n m:Nat} {cs:List Cell} (hr:rd h id=some ⟨cs,true⟩) (hl:cs.length=n) (hn:n + m ≤ 1073741824) :
    ∃ h',A2i h 1 [.i .u8 0] (.c (.sl id 0 n 1)) (.c (.i .i64 (m:Int)))=some (.c (.sl h.length 0 (n + m) 1),h') ∧ rd h' h.length=some ⟨cs ++ A1 (zeros m),true⟩ ∧ (∀ i r,i ≠ id → rd h i=some r → rd h' i=some r) ∧ (∀ b,b ≤ id → b ≤ h.length → Low b h h'):=by
  have hm:Y2 (.c (.i .i64 (m:Int)))=some m:=by simp only [Y2];rw [if_pos (by omega)];simp
  refine ⟨h.set id none ++ [some (Row.mk (cs ++ A1 (zeros m)) true)],?_,?_,fun i r hi hir=>?_,fun b hb hb2=>((Low.refl hb2).set hb none).new _⟩
  · simp only [A2i,hm,Option.bind_some,hr,B3f]
    rw [if_pos ⟨trivial,trivial,by omega,trivial,hn⟩]
  · have:=E8 (h:=h.set id none) (r:=Row.mk (cs ++ A1 (zeros m)) true)
    rw [List.length_set] at this
    exact this
  · refine B6 ?_
    rw [C7 (Ne.symm hi)]
    exact hir
theorem B8r {g h h':A0} (h1:Low g.length g h) (h2:Low g.length h h'):Low g.length g h':=h1.trans h2
theorem B3b {D:Dev} {n m k l s p:Int} {d:List Int} {f:Cell} {g:A0} {pv q sid:Nat} {L:List Spn} (hD:okD D) (hd:d.length=7) (hv:IsView g f D) (hk:k=1)
    (h1:rd g pv=some ⟨vwC D.length n m f,true⟩) (h2:rd g (pv + 1)=some ⟨A5 k l s p d,true⟩) (hL:∀ s ∈ L,s.2.1 < 256 ∧ s.2.1 + s.2.2 ≤ 256 ∧ s.1 < 134) (hLl:L.length ≤ 40000) :
    ∀ (e i M id:Nat) (h:A0) (bs:List UInt8),i + e=L.length → e < M → bs.length ≤ i * 256 → Low g.length g h → g.length ≤ id → id ≠ sid → rd h sid=some ⟨spC L,true⟩ → rd h id=some ⟨A1 bs,true⟩ →
    ∃ v' h',A8q q M (.c (.p pv 0)) (.c (.p (pv + 1) 0)) (.c (.sl id 0 bs.length 1)) (.c (.sl sid 0 L.length 3)) (.c (.i .i64 (L.length:Int))) (.c (.i .i64 (i:Int))) h=some (v',h') ∧
      Out g.length h' v' 1 (bs ++ ((L.drop i).map (A2P D n d)).flatten).length (A1 (bs ++ ((L.drop i).map (A2P D n d)).flatten))
  | e,i,0,id,h,bs,_,hM,_,_,_,_,_,_=>by omega
  | 0,i,M + 1,id,h,bs,hi,hM,hb,hlow,hid,hne,hs,hr=>by
    have e0:i=L.length:=by omega
    subst e0
    have c0:¬ ((L.length:Nat):Int) < (L.length:Nat):=by omega
    have e1:(L.drop L.length)=[]:=List.drop_of_length_le (Nat.le_refl _)
    rw [B7d,e1,List.map_nil,List.flatten_nil,List.append_nil]
    exact ⟨_,_,by simp only [esc,c0] <;> rfl,by rw [B5,Nat.mul_one],id,rfl,hid,hr⟩
  | e + 1,i,M + 1,id,h,bs,hi,hM,hb,hlow,hid,hne,hs,hr=>by
    have hil:i < L.length:=by omega
    have c0:(i:Int) < (L.length:Nat):=by omega
    obtain ⟨a,b,c⟩:∃ x,x=L[i]:=⟨_,rfl⟩
    obtain ⟨sp,hsp⟩:∃ x,x=L[i]:=⟨_,rfl⟩
    obtain ⟨a,b,c⟩:=sp
    have hm:=hL L[i] (List.getElem_mem hil)
    rw [← hsp] at hm
    dsimp only at hm
    have g1:=hlow.rd h1
    have hgl:=hlow.2.1
    have g2:=hlow.rd h2
    have hvh:=hv.since hlow
    have ad:B7 3 (.c (.sl sid 0 L.length 3)) (.c (.i .i64 (i:Int)))=some (.c (.p sid (i * 3))):=by rw [G8 hil,Nat.zero_add]
    have t1:A4 h 3 (.c (.p sid (i * 3)))=some (.a [Cell.i .i64 (a:Int),.i .i64 (b:Int),.i .i64 (c:Int)]):=by
      rw [A3C hs (by rw [A9p];omega) (by simp),C0E L i (a,b,c) (by rw [List.getElem?_eq_getElem hil,hsp])]
    obtain ⟨H,hH⟩:∃ H,H=h ++ [some (Row.mk [Cell.i .i64 (a:Int),.i .i64 (b:Int),.i .i64 (c:Int)] true)]:=⟨_,rfl⟩
    have lH:H.length=h.length + 1:=by rw [hH];simp
    have k1:rd H pv=some ⟨vwC D.length n m f,true⟩:=by rw [hH];exact B6 g1
    have k2:rd H (pv + 1)=some ⟨A5 k l s p d,true⟩:=by rw [hH];exact B6 g2
    have k3:rd H h.length=some ⟨[Cell.i .i64 (a:Int),.i .i64 (b:Int),.i .i64 (c:Int)],true⟩:=by rw [hH];exact E8
    have lowH:Low g.length g H:=by rw [hH];exact hlow.new _
    have hs2:rd H sid=some ⟨spC L,true⟩:=by rw [hH];exact B6 hs
    have hr2:rd H id=some ⟨A1 bs,true⟩:=by rw [hH];exact B6 hr
    have hvH:=hv.since lowH
    have st:B4 (h ++ [some (Row.mk [.i .i64 0,.i .i64 0,.i .i64 0] true)]) 3 (.c (.p h.length 0)) (.a [Cell.i .i64 (a:Int),.i .i64 (b:Int),.i .i64 (c:Int)])=some H:=by
      rw [hH,A0o]
      rfl
    have q1:=G0 (h:=H) (id:=pv) k1 (n:=4) rfl
    have q2:=G0 (h:=H) (id:=pv + 1) k2 (n:=11) (by show (A5 k l s p d).length=11;simp [A5,G6,hd])
    have q3:A3 H (.c (.p h.length 0))=some (.c (.i .i64 (a:Int))):=D8 k3 rfl rfl
    have q4:A3 H (.c (.p h.length 1))=some (.c (.i .i64 (b:Int))):=D8 k3 rfl rfl
    have q5:A3 H (.c (.p h.length 2))=some (.c (.i .i64 (c:Int))):=D8 k3 rfl rfl
    have ad0:E1 3 1 (.c (.p h.length 0)) (.c (.i .i64 0))=some (.c (.p h.length 0)):=rfl
    have ad1:E1 3 1 (.c (.p h.length 0)) (.c (.i .i64 1))=some (.c (.p h.length 1)):=rfl
    have ad2:E1 3 1 (.c (.p h.length 0)) (.c (.i .i64 2))=some (.c (.p h.length 2)):=rfl
    have hA:=C8J (n:=n) (m:=m) (k:=k) (l:=l) (s:=s) (p:=p) (j:=(a:Int)) hD hd hvH
    have hat:atF D n k d (a:Int)=R2 D n d a:=by unfold atF;rw [if_pos (by omega),Int.toNat_natCast]
    rw [hat] at hA
    have hdrop:L.drop i=(a,b,c) :: L.drop (i + 1):=by rw [List.drop_eq_getElem_cons hil,← hsp]
    have w1:=E2 (show i + 1 < 9223372036854775808 by omega)
    rw [hdrop,List.map_cons,List.flatten_cons,B7d]
    obtain ⟨V,hV0⟩:∃ V,vwC D.length n m f=V:=⟨_,rfl⟩
    rw [hV0] at q1 hA
    obtain ⟨I,hI0⟩:∃ I,A5 k l s p d=I:=⟨_,rfl⟩
    rw [hI0] at q2 hA
    by_cases cz:R2 D n d a=0
    · rw [D01 (by omega) cz]
      rw [cz] at hA
      obtain ⟨h',a1,a2,a3,a4⟩:=D1e (m:=c) hr2 (by rw [B5]) (by omega)
      rw [← A74] at a2
      have el:(bs ++ zeros c).length=bs.length + c:=by simp
      obtain ⟨v',h'',f1,f2⟩:=B3b hD hd hv hk h1 h2 hL hLl e (i + 1) M H.length h' (bs ++ zeros c) (by omega) (by omega) (by rw [el];omega) (B8r lowH (a4 _ hid (by omega))) (by omega) (by have:=B8 hs;omega) (a3 _ _ (Ne.symm hne) hs2) a2
      rw [List.append_assoc] at f2
      rw [el] at f1
      refine ⟨v',h'',?_,f2⟩
      simp only [esc,c0,ad,t1,st,q1,q2,q5,ad0,q3,ad2,hA,eq_self,a1,B7c,w1]
      exact f1
    · rw [D02 hD (by omega) cz]
      have hB:=A3Q (n:=n) (m:=m) (no:=R2 D n d a) hD hvH
      rw [hV0] at hB
      have hC:=A80 (h:=H) (A0X hD (i:=R2 D n d a)) (a:=(b:Int)) (n:=(c:Int))
      have ecut:P7 (blk D (R2 D n d a)) (b:Int) (c:Int)=((blk D (R2 D n d a)).drop b).take c:=by
        unfold P7
        rw [if_pos (by omega),Int.toNat_natCast,Int.toNat_natCast]
      rw [ecut] at hC
      have hcl:(((blk D (R2 D n d a)).drop b).take c).length=c:=by
        rw [List.length_take,List.length_drop,A0X hD];omega
      generalize ((blk D (R2 D n d a)).drop b).take c=cc at *
      rw [hcl] at hC
      have hQ:=A51 (h:=H) (v:=.c (.sl H.length 0 c 1)) (Grows.rfl'.new (A1 cc))
      obtain ⟨h',a1,a2,a3,a4⟩:=D1d (n:=bs.length) (m:=c) (sz:=1) (ys:=A1 cc) hr2 (by rw [B5];omega) (by rw [B5];omega) (by omega) (by omega)
      rw [← A74] at a2
      have el:(bs ++ cc).length=bs.length + c:=by simp [hcl]
      obtain ⟨v',h'',f1,f2⟩:=B3b hD hd hv hk h1 h2 hL hLl e (i + 1) M (H.length + 1) h' (bs ++ cc) (by omega) (by omega) (by rw [el];omega) (B8r lowH (a4 _ hid (by omega))) (by omega) (by have:=B8 hs;omega) (a3 _ _ (Ne.symm hne) hs2) a2
      rw [List.append_assoc] at f2
      rw [el] at f1
      refine ⟨v',h'',?_,f2⟩
      simp only [esc,c0,cz,ad,t1,st,q1,q2,q4,q5,ad0,ad1,q3,ad2,hA,hB,hC,hQ,eq_self,a1,B7c,w1]
      exact f1
def K3 (k s off cnt:Int):Nat:=if 0 ≤ off ∧ off < I6 k s ∧ 1 ≤ cnt then (min cnt (I6 k s - off)).toNat else 0
def U5 (D:Dev) (n k s:Int) (d:List Int) (off cnt:Int):List UInt8:=(List.range' off.toNat (K3 k s off cnt)).map (A5t D n d)
theorem C8S {D:Dev} {n m k l s p off cnt:Int} {d:List Int} {f:Cell} {h:A0} (hD:okD D) (hd:d.length=7) (hv:IsView h f D) :
    A4P [.a (vwC D.length n m f),.a (A5 k l s p d),.c (.i .i64 off),.c (.i .i64 cnt)] h=some (.c (.sl h.length 0 (U5 D n k s d off cnt).length 1),h ++ [some ⟨A1 (U5 D n k s d off cnt),true⟩]):=by
  have key:∀ g,IsView g f D → ∃ v g',A6H 40001 [.a (vwC D.length n m f),.a (A5 k l s p d),.c (.i .i64 off),.c (.i .i64 cnt)] g=some (v,g') ∧ Out g.length g' v 1 (U5 D n k s d off cnt).length (A1 (U5 D n k s d off cnt)):=by
    intro g hv
    have hIl:(A5 k l s p d).length=11:=by simp [A5,G6,hd]
    have hS:=fun h=>B7e (k:=k) (l:=l) (s:=s) (p:=p) (d:=d) (h:=h)
    have hsz:=D2u (k:=k) (s:=s)
    rw [C2y]
    by_cases c:0 ≤ off ∧ off < I6 k s ∧ 1 ≤ cnt
    · have hk:k=1:=D2t (s:=s) (by omega)
      have c1:¬ off < 0:=by omega
      have c2:¬ I6 k s ≤ off:=by omega
      have c3:¬ cnt < 1:=by omega
      have w1:IntKind.wrap .i64 (I6 k s - off)=I6 k s - off:=wrap_i64 (by omega) (by omega)
      have m1:=A7G (k:=.i64) (a:=cnt) (b:=I6 k s - off)
      have hN:(if I6 k s - off < cnt then I6 k s - off else cnt)=((K3 k s off cnt:Nat):Int):=by
        unfold K3
        rw [if_pos c]
        split <;> omega
      rw [hN] at m1
      have hNo:off.toNat + K3 k s off cnt ≤ 34304:=by
        have:(K3 k s off cnt:Int) ≤ I6 k s - off:=by rw [← hN];split <;> omega
        omega
      have e1:A2U off (K3 k s off cnt:Int)=spn (K3 k s off cnt) off.toNat (K3 k s off cnt):=by
        have eo:W5 off=off:=by unfold W5;split <;> omega
        have em:A1A off (K3 k s off cnt:Int)=K3 k s off cnt:=by
          unfold A1A
          rw [eo,if_pos (by omega)]
          generalize K3 k s off cnt=N at *
          have e2:(if (0:Int) < (N:Int) then (N:Int) else 0)=N:=by split <;> omega
          rw [e2,if_neg (by omega),Int.toNat_natCast]
        unfold A2U
        rw [em,eo]
      have eb:=C0G (A5t D n d) (K3 k s off cnt) off.toNat (K3 k s off cnt) (Nat.le_refl _)
      have hmem:=C0I (K3 k s off cnt) off.toNat (K3 k s off cnt)
      have hlen:=C0H (K3 k s off cnt) off.toNat (K3 k s off cnt)
      have hSp:=fun h=>C8V (off:=off) (n:=(K3 k s off cnt:Int)) (h:=h) (by omega)
      rw [e1] at hSp
      have hpos:0 < K3 k s off cnt:=by
        have:(0:Int) < (K3 k s off cnt:Int):=by rw [← hN];split <;> omega
        omega
      have er:U5 D n k s d off cnt=((spn (K3 k s off cnt) off.toNat (K3 k s off cnt)).map (A2P D n d)).flatten:=by
        unfold U5
        rw [← eb];rfl
      rw [er]
      generalize spn (K3 k s off cnt) off.toNat (K3 k s off cnt)=L at *
      have hLd:L.drop 0=L:=rfl
      obtain ⟨v',h',f1,f2⟩:=B3b (l:=l) (n:=n) (m:=m) (s:=s) (p:=p) (g:=g ++ [some (Row.mk (vwC D.length n m f) true),some (Row.mk (A5 k l s p d) true),some (Row.mk [] true)]) (pv:=g.length) (q:=40001) (sid:=g.length + 4) (L:=L) hD hd (hv.more _) hk (by simp) (by simp)
        (fun x hx=>by
          have h1:=hmem x hx
          have h2:=h1.2.2.2.2 hpos
          exact ⟨h1.1,h1.2.2.1,by omega⟩) (by omega) L.length 0 40001 (g.length + 3) (g ++ [some (Row.mk (vwC D.length n m f) true),some (Row.mk (A5 k l s p d) true),some (Row.mk [] true),some (Row.mk [] true),some (Row.mk (spC L) true)]) [] (by omega) (by omega) (by simp)
        (by
          have:=(Low.refl (h:=g ++ [some (Row.mk (vwC D.length n m f) true),some (Row.mk (A5 k l s p d) true),some (Row.mk [] true)]) (Nat.le_refl _)).new [some (Row.mk [] true),some (Row.mk (spC L) true)]
          simpa using this) (by simp) (by omega) (by simp) (by simp [A1])
      rw [hLd,List.nil_append] at f2
      rw [List.length_nil] at f1
      refine ⟨v',h',?_,f2.1,?_⟩
      · have l11:ldN (some (Row.mk (A5 k l s p d) true)) 0 11=some (.a (A5 k l s p d)):=Q0 hIl
        generalize vwC D.length n m f=V at *
        generalize A5 k l s p d=I at *
        simp only [esc,esh,Nat.reduceAdd,Nat.reduceMul,Nat.reduceLT,c1,c2,c3,hS,w1,m1,hSp,l11]
        exact f1
      · obtain ⟨id,e,hb,hr⟩:=f2.2
        exact ⟨id,e,by simp at hb;omega,hr⟩
    · have er:U5 D n k s d off cnt=[]:=by
        unfold U5 K3
        rw [if_neg c];rfl
      rw [er]
      have l11:ldN (some (Row.mk (A5 k l s p d) true)) 0 11=some (.a (A5 k l s p d)):=Q0 hIl
      have fin:∀ h:A0,Out g.length (g ++ [some (Row.mk (vwC D.length n m f) true),some (Row.mk (A5 k l s p d) true),some (Row.mk [] true),some (Row.mk [] true)]) (.c (.sl (g.length + 3) 0 0 1)) 1 ([]:List UInt8).length (A1 []):=fun h=>⟨rfl,g.length + 3,rfl,by omega,by simp [A1]⟩
      refine ⟨.c (.sl (g.length + 3) 0 0 1),_,?_,fin g⟩
      generalize vwC D.length n m f=V at *
      generalize A5 k l s p d=I at *
      by_cases c1:off < 0
      · simp only [esc,esh,Nat.reduceAdd,Nat.reduceMul,Nat.reduceLT,c1]
      · by_cases c2:I6 k s ≤ off
        · simp only [esc,esh,Nat.reduceAdd,Nat.reduceMul,Nat.reduceLT,c1,c2,hS,l11]
        · have c3:cnt < 1:=by omega
          simp only [esc,esh,Nat.reduceAdd,Nat.reduceMul,Nat.reduceLT,c1,c2,c3,hS,l11]
  obtain ⟨v,g',e,ho⟩:=key (ro h) hv.ro
  exact C4C e (by simpa [M9] using ho) (by simp)
theorem C8R {D:Dev} {n m k l s p:Int} {d:List Int} {f:Cell} {h:A0} (hD:okD D) (hd:d.length=7) (hv:IsView h f D) :
    A4O [.a (vwC D.length n m f),.a (A5 k l s p d)] h=some (.c (.sl h.length 0 (U5 D n k s d 0 34304).length 1),h ++ [some ⟨A1 (U5 D n k s d 0 34304),true⟩]):=by
  have key:∀ g,IsView g f D → ∃ v g',A6G 0 [.a (vwC D.length n m f),.a (A5 k l s p d)] g=some (v,g') ∧ Out g.length g' v 1 (U5 D n k s d 0 34304).length (A1 (U5 D n k s d 0 34304)):=by
    intro g hv
    have hIl:(A5 k l s p d).length=11:=by simp [A5,G6,hd]
    have l11:ldN (some (Row.mk (A5 k l s p d) true)) 0 11=some (.a (A5 k l s p d)):=Q0 hIl
    have l4:=A21 (b:=D.length) (n:=n) (m:=m) (f:=f)
    have hR:=C8S (n:=n) (m:=m) (k:=k) (l:=l) (s:=s) (p:=p) (off:=0) (cnt:=34304) (h:=g ++ [some (Row.mk (vwC D.length n m f) true),some (Row.mk (A5 k l s p d) true),some (Row.mk [] true)]) hD hd (hv.more _)
    simp only [esc] at hR
    rw [C2x]
    generalize U5 D n k s d 0 34304=bs at *
    generalize vwC D.length n m f=V at *
    generalize A5 k l s p d=I at *
    exact ⟨_,_,by simp only [esc,esh,Nat.reduceAdd,Nat.reduceMul,Nat.reduceLT,l4,l11,hR] <;> rfl,by rw [B5,Nat.mul_one],g.length + 3,rfl,by omega,by simp⟩
  obtain ⟨v,g',e,ho⟩:=key (ro h) hv.ro
  exact C4A e (by simpa [M9] using ho) (by simp)
end Go.Proofs.YteckncopbicmcaaGreat
end
section
namespace Go.Proofs.YteckncopbicmcaaGreat
open Go Go.Esc
def A1r (D:Dev) (n i:Int):Bool:=O4 D.length n i && X5 (T6 D n i)
def lnV (D:Dev) (n i:Int):Int:=bif A1r D n i then U1 (T6 D n i) else 0
def szV (D:Dev) (n i:Int):Int:=bif A1r D n i then U3 (T6 D n i) else 0
def paV (D:Dev) (n i:Int):Int:=bif A1r D n i then U2 (T6 D n i) else 0
def drV (D:Dev) (n i:Int):List Int:=bif A1r D n i then H8 (T6 D n i) else zI 7
theorem B1V {D:Dev} {n i:Int}:(drV D n i).length=7:=by
  unfold drV
  cases A1r D n i with
  | false=>exact O9
  | true=>exact O2
theorem C9D {D:Dev} {n i:Int}:kdV D n i=bif A1r D n i then T2 (T6 D n i) else 0:=by
  unfold kdV A1r
  cases O4 D.length n i <;> rfl
theorem B2A (D:Dev) (n i:Int):A0v D n i=A5 (kdV D n i) (lnV D n i) (szV D n i) (paV D n i) (drV D n i):=by
  rw [C9D]
  unfold A0v lnV szV paV drV A1r
  cases O4 D.length n i with
  | false=>rfl
  | true =>
    rw [Bool.true_and,cond_true]
    unfold V1
    cases X5 (T6 D n i) <;> rfl
theorem C9E {D:Dev} {n i:Int} (h:kdV D n i ≠ 0):I3 D.length n=true ∧ 1 ≤ i ∧ i ≤ n:=by
  rw [← B8d]
  unfold kdV at h
  cases hi:O4 D.length n i with
  | false=>rw [hi] at h;exact absurd rfl h
  | true=>rfl
structure Nd where
  ino:Int
  kind:Int
  links:Int
  parent:Int
  size:Int
  data:List UInt8
  names:List Ent
  deriving DecidableEq
def A1y (D:Dev) (n:Int) (e:Ent):Bool:=decide (kdV D n e.2=1) || decide (kdV D n e.2=2)
def Q2 (D:Dev) (n i:Int):List Ent:=(V4 D n (kdV D n i) (drV D n i)).filter (A1y D n)
def L8 (D:Dev) (n i:Int):List UInt8:=U5 D n (kdV D n i) (szV D n i) (drV D n i) 0 34304
def V5 (D:Dev) (n i:Int):Nd:=⟨i,kdV D n i,lnV D n i,paV D n i,I6 (kdV D n i) (szV D n i),L8 D n i,Q2 D n i⟩
theorem B8p {D:Dev} {n k:Int} {d:List Int}:(V4 D n k d).length ≤ 224:=by
  have hbl:=B5J (D:=D) (n:=n) (k:=k) (d:=d)
  have:∀ L:List Int,(A1k D L).length ≤ 7 * L.length:=by
    intro L
    induction L with
    | nil=>simp [A1k]
    | cons b L ih =>
      have:=B8q (blk D b)
      rw [B4T,List.length_append,List.length_cons]
      simp [A2Y]
      omega
  have h1:=this (J5 D n k d)
  have h2:=C9T (D:=D) (n:=n) (k:=k) (d:=d)
  unfold O1 at h2
  omega
theorem D0j {D:Dev} {n i:Int}:(Q2 D n i).length ≤ 224:=by
  have h1:=B8p (D:=D) (n:=n) (k:=kdV D n i) (d:=drV D n i)
  have h2:=List.length_filter_le (A1y D n) (V4 D n (kdV D n i) (drV D n i))
  unfold Q2
  omega
def W6 (r:List Int) (i:Int):List Int:=if i ∈ r then r else r ++ [i]
def A0f (r:List Int) (es:List Ent):List Int:=es.foldl (fun r e=>W6 r e.2) r
def A3S (N:Int → List Ent):Nat → Nat → List Int → List Int
  | 0,_,R=>R
  | e + 1,i,R=>if h:i < (1 :: R).length then A3S N e (i + 1) (A0f R (N ((1 :: R)[i]))) else R
theorem C0j {r:List Int} {i a:Int}:a ∈ W6 r i ↔ a ∈ r ∨ a=i:=by
  unfold W6
  split
  · constructor
    · exact .inl
    · rintro (h | rfl) <;> assumption
  · simp
theorem D2j (r:List Int) (i:Int):r <+: W6 r i:=by
  unfold W6
  split
  · exact List.prefix_refl _
  · exact List.prefix_append _ _
theorem D2i {r:List Int} {i:Int} (h:r.Nodup):(W6 r i).Nodup:=by
  unfold W6
  split
  · exact h
  · rename_i hn
    rw [List.nodup_append]
    exact ⟨h,by simp,fun a ha b hb e=>by simp at hb;subst hb;subst e;exact hn ha⟩
theorem A9k {r:List Int} {e:Ent} {es:List Ent}:A0f r (e :: es)=A0f (W6 r e.2) es:=rfl
theorem A9l {a:Int}:∀ {es:List Ent} {r:List Int},a ∈ A0f r es ↔ a ∈ r ∨ ∃ e ∈ es,e.2=a
  | [],r=>by simp [A0f]
  | e :: es,r=>by
    rw [A9k,A9l,C0j]
    constructor
    · rintro ((h | rfl) | ⟨x,hx,rfl⟩)
      · exact .inl h
      · exact .inr ⟨e,by simp,rfl⟩
      · exact .inr ⟨x,by simp [hx],rfl⟩
    · rintro (h | ⟨x,hx,rfl⟩)
      · exact .inl (.inl h)
      · rw [List.mem_cons] at hx
        rcases hx with rfl | hx
        · exact .inl (.inr rfl)
        · exact .inr ⟨x,hx,rfl⟩
theorem C0l:∀ (es:List Ent) (r:List Int),r <+: A0f r es
  | [],r=>List.prefix_refl _
  | e :: es,r=>by rw [A9k];exact (D2j r e.2).trans (C0l es _)
theorem C0k:∀ {es:List Ent} {r:List Int},r.Nodup → (A0f r es).Nodup
  | [],r,h=>h
  | e :: es,r,h=>by rw [A9k];exact C0k (D2i h)
structure RowI (N:Int → List Ent) (i:Nat) (R:List Int):Prop where
  nd:R.Nodup
  hd:1 ∈ R
  rg:∀ a ∈ R,1 ≤ a ∧ a ≤ 128
  dn:∀ (j:Nat) (a:Int),j < i → (1 :: R)[j]? = some a → ∀ e ∈ N a,e.2 ∈ R
  by_:∀ a ∈ R,a ≠ 1 → ∃ b ∈ R,∃ e ∈ N b,e.2=a
theorem RowI.one {N:Int → List Ent}:RowI N 0 [1] :=
  ⟨by simp,by simp,fun a ha=>by simp at ha;omega,fun j a hj=>by omega,fun a ha hn=>by simp at ha;exact absurd ha hn⟩
theorem RowI.step {N:Int → List Ent} (hN:∀ a,∀ e ∈ N a,1 ≤ e.2 ∧ e.2 ≤ 128) {i:Nat} {R:List Int} (h:RowI N i R) (hi:i < (1 :: R).length):RowI N (i + 1) (A0f R (N ((1 :: R)[i]))):=by
  have hm:(1 :: R)[i] ∈ R:=by
    have:=List.getElem_mem hi
    rw [List.mem_cons] at this
    rcases this with e | e
    · rw [e];exact h.hd
    · exact e
  have hp:=C0l (N ((1 :: R)[i])) R
  refine ⟨C0k h.nd,hp.subset h.hd,fun a ha=>?_,fun j a hj hja e he=>?_,fun a ha hn=>?_⟩
  · rcases A9l.1 ha with ha | ⟨e,he,rfl⟩
    · exact h.rg a ha
    · exact hN _ e he
  · by_cases hji:j=i
    · subst hji
      have:a=(1 :: R)[j]:=by
        have hpre:(1 :: R) <+: (1 :: A0f R (N ((1 :: R)[j]))):=List.cons_prefix_cons.2 ⟨rfl,hp⟩
        have h2:=List.prefix_iff_getElem?.1 hpre j hi
        rw [h2] at hja
        exact (Option.some.inj hja).symm
      subst this
      exact A9l.2 (.inr ⟨e,he,rfl⟩)
    · have hja2:(1 :: R)[j]? = some a:=by
        have hpre:(1 :: R) <+: (1 :: A0f R (N ((1 :: R)[i]))):=List.cons_prefix_cons.2 ⟨rfl,hp⟩
        have h2:=List.prefix_iff_getElem?.1 hpre j (by omega)
        rw [List.getElem?_eq_getElem (by omega),← hja,h2]
      exact hp.subset (h.dn j a (by omega) hja2 e he)
  · rcases A9l.1 ha with ha | ⟨e,he,rfl⟩
    · obtain ⟨b,hb,e,he,h3⟩:=h.by_ a ha hn
      exact ⟨b,hp.subset hb,e,he,h3⟩
    · exact ⟨_,hp.subset hm,e,he,rfl⟩
theorem B97 {R:List Int} (hn:R.Nodup) (hr:∀ a ∈ R,1 ≤ a ∧ a ≤ 128):R.length ≤ 128:=by
  have:(R.map Int.toNat).Nodup:=by
    rw [List.Nodup,List.pairwise_map]
    refine hn.imp_of_mem fun {a b} ha hb hab e=>?_
    have:=hr a ha
    have:=hr b hb
    omega
  have hs:∀ x ∈ R.map Int.toNat,x ∈ List.range' 1 128:=by
    intro x hx
    rw [List.mem_map] at hx
    obtain ⟨a,ha,rfl⟩:=hx
    have:=hr a ha
    rw [List.mem_range'_1]
    omega
  have:=List.Nodup.length_le_of_subset this hs
  simpa using this
def B94 (D:Dev) (n:Int):List Int:=A3S (Q2 D n) 130 0 [1]
def B3B (D:Dev) (n:Int):List Nd:=if kdV D n 1=2 then ((List.range 129).filter fun (i:Nat)=>decide ((i:Int) ∈ B94 D n)).map fun (i:Nat)=>V5 D n (i:Int) else []
theorem C90 {b n:Int} (h:I3 b n=true):n ≤ 128:=by
  simp only [I3,Bool.and_eq_true,decide_eq_true_eq] at h
  omega
theorem D0k {D:Dev} {n a:Int}:∀ e ∈ Q2 D n a,kdV D n e.2=1 ∨ kdV D n e.2=2:=by
  intro e he
  have:=(List.mem_filter.1 he).2
  unfold A1y at this
  simpa using this
theorem B83 {D:Dev} {n a:Int}:∀ e ∈ Q2 D n a,1 ≤ e.2 ∧ e.2 ≤ 128:=by
  intro e he
  have h:=C9E (D:=D) (n:=n) (i:=e.2) (by rcases D0k e he with h | h <;> omega)
  have:=C90 h.1
  omega
def K1 (t:List Nd) (i:Int):Option Nd:=t.find? fun x=>decide (x.ino=i)
def A2A (t:List Nd) (i:Int):Nat:=(t.map fun x=>(x.names.filter fun e=>decide (e.2=i)).length).sum
end Go.Proofs.YteckncopbicmcaaGreat
end
