/- What the proof of this claim leans on, part 6. -/
import Derived.Test.YteckncopbicmcaaGreatFDreadListsp5
set_option linter.all false
section
namespace Go.Proofs.YteckncopbicmcaaGreat
open Go Go.Esc
theorem C1c (s:List UInt8) (hs:s.length < 9223372036854775807) (n:Nat) (h:A0):∀ d i m:Nat,i + d=s.length → d < m →
    A8j n m (.c (.s s)) (.c (.i .i64 i)) h=some (.c (.b ((s.drop i).all T7)),h)
  | d,i,0,_,hm=>by omega
  | 0,i,m + 1,hi,hm=>by
    have c0:¬ ((i:Int) < s.length):=by omega
    rw [B7x,show s.drop i=[] from List.drop_of_length_le (by omega)]
    simp only [esc,c0,List.all_nil]
  | d + 1,i,m + 1,hi,hm=>by
    have h1:(i:Int) < s.length:=by omega
    have h2:i < s.length:=by omega
    have ih:=C1c s hs n h d (i + 1) m (by omega) (by omega)
    rw [B7x,List.drop_eq_getElem_cons h2,List.all_cons]
    by_cases c1:(s[i].toNat:Int)=0
    · have f:T7 s[i]=false:=by unfold T7;rw [decide_eq_true c1];rfl
      simp only [esc,h1,V5 h2,c1,f,Bool.false_and]
    · by_cases c2:(s[i].toNat:Int)=47
      · have f:T7 s[i]=false:=by unfold T7;rw [decide_eq_true c2];simp
        simp only [esc,h1,V5 h2,c1,c2,f,Bool.false_and,Int.reduceEq]
      · have f:T7 s[i]=true:=by unfold T7;rw [decide_eq_false c1,decide_eq_false c2];rfl
        simp only [esc,h1,V5 h2,c1,c2,f,Bool.true_and,E6 (show i + 1 < 9223372036854775808 by omega)]
        exact ih
theorem right_eq {s:List UInt8} (hs:s.length < 9223372036854775807) (h:A0):A10 [.c (.s s)] h=some (.c (.b (Q1 s)),h):=by
  refine C4T (n:=s.length + 1) (h2:=ro h) ?_ rfl
  rw [C2L]
  have hl:=C1c s hs (s.length + 1) (ro h) s.length 0 (s.length + 1) (by omega) (by omega)
  rw [List.drop_zero] at hl
  unfold Q1
  by_cases c1:(s.length:Int) < 1
  · simp only [esc,c1,Bool.true_or,Bool.false_and]
  · by_cases c2:(24:Int) < s.length
    · simp only [esc,c1,c2,Bool.true_or,Bool.false_and,Bool.or_true]
    · by_cases c3:s=[46]
      · subst c3;simp only [esc];rfl
      · by_cases c4:s=[46,46]
        · subst c4;simp only [esc];rfl
        · simp only [esc,c1,c2,c3,c4,Bool.or_self,Bool.true_and]
          exact hl
theorem D1W {s:List UInt8} (hs:s.length ≤ 24):M6 s s.length=UInt8.ofNat s.length :: (s ++ zeros 24).take 24:=by
  unfold M6
  refine congrArg (UInt8.ofNat s.length :: ·) ?_
  rw [List.take_append,List.take_of_length_le (Nat.le_refl _),List.take_of_length_le hs]
  unfold zeros
  rw [List.take_replicate,Nat.min_eq_left (by omega)]
theorem C08 {g:A0} (s:List UInt8) (hs:s.length ≤ 24) (k:Nat):∀ d i m h id,i + d=24 → d < m → Low g.length g h → g.length ≤ id → rd h id=some ⟨A1 (UInt8.ofNat s.length :: (s ++ zeros 24).take i),true⟩ →
    ∃ v' h',A8i k m (.c (.s s)) (.c (.sl id 0 (i + 1) 1)) (.c (.i .i64 i)) h=some (v',h') ∧ Out g.length h' v' 1 25 (A1 (M6 s s.length))
  | d,i,0,h,id,_,hm,_,_,_=>by omega
  | 0,i,m + 1,h,id,hi,hm,hlow,hb,hr=>by
    have e:i=24:=by omega
    subst e
    have h1':¬ ((24:Nat):Int) < 24:=by omega
    rw [← D1W hs] at hr
    rw [B7u]
    exact ⟨_,_,by simp only [esc,h1'] <;> rfl,by rw [B1,A3C (Nat.le_refl _) hs],id,rfl,hb,hr⟩
  | d + 1,i,m + 1,h,id,hi,hm,hlow,hb,hr=>by
    have hlen:(s ++ zeros 24).length=s.length + 24:=by rw [List.length_append,zeros_length]
    have hi24:i < (s ++ zeros 24).length:=by omega
    have c1:(i:Int) < 24:=by omega
    have step:∀ x:UInt8,(s ++ zeros 24)[i]=x → ∃ v' h',bnd (E7 (h ++ [some ⟨[.i .u8 x.toNat],true⟩]) 1 (.c (.sl id 0 (i + 1) 1)) (.c (.sl h.length 0 1 1))) (fun p=>A8h k m (.c (.s s)) p.1 (.c (.i .i64 i)) p.2)=some (v',h') ∧ Out g.length h' v' 1 25 (A1 (M6 s s.length)):=by
      intro x hx
      obtain ⟨h',a1,a2,a3,a4,a5⟩:=push (ys:=[.i .u8 x.toNat]) (sz:=1) (n:=i + 1) hlow hr (by rw [B1,List.length_cons,List.length_take];omega) hb rfl (by omega) (by omega)
      have e4:A1 (UInt8.ofNat s.length :: (s ++ zeros 24).take i) ++ [Cell.i .u8 x.toNat]=A1 (UInt8.ofNat s.length :: (s ++ zeros 24).take (i + 1)):=by
        rw [List.take_succ_eq_append_getElem hi24,hx,← List.cons_append,W7];rfl
      rw [e4] at a2
      obtain ⟨v',h'',b1,b2⟩:=C08 s hs k d (i + 1) m h' (h.length + 1) (by omega) (by omega) a3 a4 a2
      refine ⟨v',h'',?_,b2⟩
      simp only [esc,a1]
      rw [C9e]
      simp only [esc,E6 (show i + 1 < 9223372036854775808 by omega)]
      exact b1
    rw [B7u]
    by_cases c2:i < s.length
    · have c2':(i:Int) < s.length:=by omega
      obtain ⟨v',h',b1,b2⟩:=step s[i] (by rw [List.getElem_append_left c2])
      have e5:A8 [Cell.i .u8 0] [(0,1,.c (.i .u8 s[i].toNat))]=some [.i .u8 s[i].toNat]:=rfl
      exact ⟨v',h',by simp only [esc,c1,c2',V5 c2,e5];exact b1,b2⟩
    · have c2':¬ (i:Int) < s.length:=by omega
      obtain ⟨v',h',b1,b2⟩:=step 0 (by rw [List.getElem_append_right (by omega)];exact List.getElem_replicate _)
      have e5:A8 [Cell.i .u8 0] [(0,1,.c (.i .u8 0))]=some [.i .u8 (0:UInt8).toNat]:=rfl
      exact ⟨v',h',by simp only [esc,c1,c2',e5];exact b1,b2⟩
theorem C07 {s:List UInt8} (hs:s.length ≤ 24) (h:A0):A1Z [.c (.s s)] h=some (.c (.sl h.length 0 25 1),h ++ [some ⟨A1 (M6 s s.length),true⟩]):=by
  obtain ⟨v',h',e,ho⟩:=C08 (g:=ro h) s hs 25 24 0 25 (ro h ++ [some ⟨[],true⟩,some ⟨A1 [UInt8.ofNat s.length],true⟩]) ((ro h).length + 1) (by omega) (by omega) ((Low.refl (Nat.le_refl _)).new _) (by omega) (by simp)
  refine C4S (n:=25) (v:=v') (h2:=h') ?_ (by simpa [K4] using ho) (by simp)
  have e1:IntKind.wrap .u8 (s.length:Int)=((UInt8.ofNat s.length).toNat:Int):=by rw [wrap_u8 (by omega) (by omega),UInt8.toNat_ofNat'];omega
  have e5:A8 [Cell.i .u8 0] [(0,1,.c (.i .u8 (UInt8.ofNat s.length).toNat))]=some (A1 [UInt8.ofNat s.length]):=rfl
  rw [C2K]
  simp only [esc,e1,e5]
  exact e
theorem D2y {v:Val} {nv:Nat} {l:List UInt8} {h:A0} (hv:Has h v 1 nv (A1 l)) (hl:l.length=25) :
    A4B [v] h=some (.t [.c (.s ((T0 l).getD [])),.c (.b (T0 l).isSome)],h):=by
  have key:∀ g,Has g v 1 nv (A1 l) → ∃ g',A6t 0 [v] g=some (.t [.c (.s ((T0 l).getD [])),.c (.b (T0 l).isSome)],g'):=by
    intro g hv
    have hnv:nv=25:=by
      have:l.length=nv:=by simpa [B1] using hv.length
      omega
    subst hnv
    have hvl:=hv.len
    have hv0:=hv
    obtain ⟨id,off,rfl,hid,h1,h2⟩:=hv.sl (by omega)
    obtain ⟨x,r,rfl⟩:∃ x r,l=x :: r:=by
      cases l with
      | nil=>simp at hl
      | cons x r=>exact ⟨x,r,rfl⟩
    have hx:=x.toNat_lt
    have a0:B9 1 (.c (.sl id off 25 1)) (.c (.i .i64 0))=some (.c (.p id (off + 0))):=rfl
    have l0:=h1 0 (.i .u8 x.toNat) rfl
    rw [Nat.add_zero] at l0
    have e1:IntKind.wrap .i64 (x.toNat:Int)=x.toNat:=wrap_i64 (by omega) (by omega)
    rw [C2N]
    unfold T0
    simp only [List.headD_cons,List.drop_succ_cons,List.drop_zero]
    by_cases c1:x.toNat ≤ 24
    · rw [if_pos c1]
      have c1':¬ (24:Int) < x.toNat:=by omega
      have e2:IntKind.wrap .i64 (1 + (x.toNat:Int))=((1 + x.toNat:Nat):Int):=by rw [wrap_i64 (by omega) (by omega)];omega
      have e3:=D3B (id:=id) (off:=off) (n:=25) (sz:=1) (a:=1) (b:=1 + x.toNat) (by omega) (by omega)
      rw [show 1 + x.toNat - 1=x.toNat by omega,Nat.mul_one,show ((1:Nat):Int)=1 from rfl] at e3
      have hh:Has g (.c (.sl id (off + 1) x.toNat 1)) 1 x.toNat (A1 (r.take x.toNat)):=by
        rcases hv0 with ⟨e,_⟩ | ⟨id',off',row,e,hr,g1,g2,g3,g4⟩
        · cases e
        · cases e
          refine Has.part hr (by omega) ?_ (K1 _)
          have:(row.cells.drop (off + 1)).take (x.toNat * 1)=((A1 (x :: r)).drop 1).take x.toNat:=by
            rw [← g3,List.drop_take,List.drop_drop,List.take_take]
            congr 1
            omega
          rw [this,B6S,B6V];rfl
      have hs:(r.take x.toNat).length < 9223372036854775807:=by simp;omega
      have hsl:(r.take x.toNat).length ≤ 24:=by simp;omega
      cases hf:Q1 (r.take x.toNat) with
      | false =>
        rw [if_neg (by simp)]
        exact ⟨_,by simp only [esc,hvl,a0,l0,e1,c1',e2,Int.cast_ofNat_Int,e3,hh.str,right_eq hs,hf,Option.getD_none,Option.isSome_none] <;> rfl⟩
      | true =>
        have hp:=C07 hsl g
        have hS:=A9u (h:=g ++ [some ⟨A1 (M6 (r.take x.toNat) (r.take x.toNat).length),true⟩]) (v:=.c (.sl g.length 0 25 1)) (nv:=25) (l:=M6 (r.take x.toNat) (r.take x.toNat).length) (Has.tr (by simp) (by rw [B1,A3C (Nat.le_refl _) hsl]) (K1 _))
          (hv0.more [some ⟨A1 (M6 (r.take x.toNat) (r.take x.toNat).length),true⟩]) (by rw [A3C (Nat.le_refl _) hsl];omega)
        have epk:H7 (r.take x.toNat)=M6 (r.take x.toNat) (r.take x.toNat).length:=by unfold H7;rw [hf];rfl
        rw [epk]
        by_cases c2:M6 (r.take x.toNat) (r.take x.toNat).length=x :: r
        · rw [if_pos ⟨rfl,c2⟩]
          rw [decide_eq_true c2] at hS
          exact ⟨_,by simp only [esc,hvl,a0,l0,e1,c1',e2,Int.cast_ofNat_Int,e3,hh.str,right_eq hs,hf,hp,hS,Option.getD_some,Option.isSome_some] <;> rfl⟩
        · rw [if_neg (fun h=>c2 h.2)]
          rw [decide_eq_false c2] at hS
          exact ⟨_,by simp only [esc,hvl,a0,l0,e1,c1',e2,Int.cast_ofNat_Int,e3,hh.str,right_eq hs,hf,hp,hS,Option.getD_none,Option.isSome_none] <;> rfl⟩
    · rw [if_neg c1]
      have c1':(24:Int) < x.toNat:=by omega
      exact ⟨_,by simp only [esc,hvl,a0,l0,e1,c1',Int.cast_ofNat_Int,Option.getD_none,Option.isSome_none] <;> rfl⟩
  obtain ⟨g',e⟩:=key (ro h) hv.ro
  exact C4W e (by simp)
end Go.Proofs.YteckncopbicmcaaGreat
end
noncomputable section
namespace Go.Proofs.YteckncopbicmcaaGreat
open Go Go.Esc
set_option maxRecDepth 100000
def A_er18_May:AFn:=⟨.seq [1] (.ops [aO 1 (.box (.t 0)),aO 2 (.mv (.v (.c (.b false))))]) (.seq [2] (.ops [aO 3 (.fAddr (.t 1) 0),aO 4 (.load1 (.t 3)),aO 5 (.call 166 [(.t 4)]),aO 6 (.mv (.t 5)),aG 7 6 true (.fAddr (.t 1) 1),aG 8 6 true (.load1 (.t 7)),aG 9 6 true (.bin .geq (.t 8) (.v (.c (.i .i64 1)))),aO 10 (.pick (.t 6) (.t 9) (.v (.c (.b false)))),aO 11 (.mv (.t 10)),aG 12 11 true (.fAddr (.t 1) 1),aG 13 11 true (.load1 (.t 12)),aG 14 11 true (.bin .leq (.t 13) (.v (.c (.i .i64 128)))),aO 15 (.pick (.t 11) (.t 14) (.v (.c (.b false)))),aO 2 (.mv (.t 15))]) .ret),[.tmp 2]⟩
def A95:B3:=A7 166 A10 B8
def A6z (n:Nat) (args:List Val) (h:A0):A6:=ax A95 n A_er18_May.code A_er18_May.fin (params 0 args) h
theorem C2V (n:Nat) (a0:Val) (h:A0):A6z n [a0] h=bnd (cells? a0) fun c1=>bnd (B7 (.c (.p h.length 0)) 0) fun v2=>bnd (A5 (h ++ [some (Row.mk (c1) true)]) v2) fun v3=>bnd (A10 [v3] (h ++ [some (Row.mk (c1) true)])) fun p4=>bnd (gd p4.1 true (bnd (B7 (.c (.p h.length 0)) 1) fun v5=>some (v5,p4.2)) (some (.no,p4.2))) fun p6=>bnd (gd p4.1 true (bnd (A5 p6.2 p6.1) fun v7=>some (v7,p6.2)) (some (.no,p6.2))) fun p8=>bnd (gd p4.1 true (bnd (A2 .geq p8.1 (.c (.i .i64 1))) fun v9=>some (v9,p8.2)) (some (.no,p8.2))) fun p10=>bnd (C4 p4.1 p10.1 (.c (.b false))) fun v11=>bnd (gd v11 true (bnd (B7 (.c (.p h.length 0)) 1) fun v12=>some (v12,p10.2)) (some (.no,p10.2))) fun p13=>bnd (gd v11 true (bnd (A5 p13.2 p13.1) fun v14=>some (v14,p13.2)) (some (.no,p13.2))) fun p15=>bnd (gd v11 true (bnd (A2 .leq p15.1 (.c (.i .i64 128))) fun v16=>some (v16,p15.2)) (some (.no,p15.2))) fun p17=>bnd (C4 v11 p17.1 (.c (.b false))) fun v18=>some (v18,p17.2):=by kernel_rfl
theorem K_er18_May:FnK Tryz.prog 93 A_er18_May A95 A6z:=.mk' (A9 B4G C1) Tryz.func93 (by kernel_rfl) (fun _ _ _=>C0)
def A4I:Fun:=tidy (Lim A_er18_May A95)
theorem C5c:SOk Tryz.prog 93 A4I:=K_er18_May.sok
theorem C5b:D1 A6z A4I:=K_er18_May.flat
def A_er18_Bytes:AFn:=⟨.seq [1] (.ops [aO 1 (.box (.t 0)),aO 2 (.nilrow 1)]) (.seq [3] (.draw 0 [aO 4 (.fAddr (.t 1) 1),aO 5 (.load1 (.t 4)),aO 6 (.conv .u64 (.t 5)),aO 7 (.call 168 [(.v (.c (.i .i64 2))),(.t 6)]),aO 8 (.fAddr (.t 1) 0),aO 9 (.load1 (.t 8))] [aO 10 (.call 167 [(.t 9)]),aO 11 (.app 1 (.t 7) (.t 10)),aO 3 (.mv (.t 11))]) (.seq [2] (.ops [aO 12 (.mv (.t 3)),aO 13 (.buildSl 1 5 ([.i .u8 0,.i .u8 0,.i .u8 0,.i .u8 0,.i .u8 0]) [(0,1,(.v (.c (.i .u8 0)))),(1,1,(.v (.c (.i .u8 0)))),(2,1,(.v (.c (.i .u8 0)))),(3,1,(.v (.c (.i .u8 0)))),(4,1,(.v (.c (.i .u8 0))))]),aO 14 (.app 1 (.t 12) (.t 13)),aO 2 (.mv (.t 14))]) .ret)),[.tmp 2]⟩
def A94:B3:=A7 168 W2 (A7 167 A1Z B8)
def A6y (n:Nat) (args:List Val) (h:A0):A6:=ax A94 n A_er18_Bytes.code A_er18_Bytes.fin (params 0 args) h
theorem C2T (n:Nat) (a0:Val) (h:A0):A6y n [a0] h=bnd (cells? a0) fun c1=>bnd (B7 (.c (.p h.length 0)) 1) fun v2=>bnd (A5 ((h ++ [some (Row.mk (c1) true)]) ++ [some (Row.mk ([]) true)]) v2) fun v3=>bnd (I1 .u64 v3) fun v4=>bnd (quiet (((h ++ [some (Row.mk (c1) true)]) ++ [some (Row.mk ([]) true)]) ++ []) (W2 [.c (.i .i64 2),v4] (((h ++ [some (Row.mk (c1) true)]) ++ [some (Row.mk ([]) true)]) ++ []))) fun p5=>bnd (B7 (.c (.p h.length 0)) 0) fun v6=>bnd (A5 ((h ++ [some (Row.mk (c1) true)]) ++ [some (Row.mk ([]) true)]) v6) fun v7=>bnd (A1Z [v7] p5.2) fun p8=>bnd (E7 p8.2 1 p5.1 p8.1) fun p9=>bnd (A8 ([.i .u8 0,.i .u8 0,.i .u8 0,.i .u8 0,.i .u8 0]) [(0,1,.c (.i .u8 0)),(1,1,.c (.i .u8 0)),(2,1,.c (.i .u8 0)),(3,1,.c (.i .u8 0)),(4,1,.c (.i .u8 0))]) fun c10=>bnd (E7 (p9.2 ++ [some (Row.mk (c10) true)]) 1 p9.1 (.c (.sl p9.2.length 0 5 1))) fun p11=>some (p11.1,p11.2):=by kernel_rfl
theorem K_er18_Bytes:FnK Tryz.prog 94 A_er18_Bytes A94 A6y:=.mk' (A9 B1s (A9 B4F C1)) Tryz.func94 (by kernel_rfl) (fun _ _ _=>C0)
def A4G:Fun:=tidy (Lim A_er18_Bytes A94)
theorem C47:SOk Tryz.prog 94 A4G:=K_er18_Bytes.sok
theorem C48:N9 A6y A4G:=K_er18_Bytes.out
def A_er18_Read:AFn:=⟨.seq [0,1,4] (.ops [aO 4 (.alloc ([.s [],.i .i64 0])),aO 5 (.mv (.v (.c (.b false))))]) (.seq [0,1,4,6,7] (.ops [aO 10 (.mv (.t 0)),aO 11 (.mv (.t 1)),aO 12 (.bin .mul (.v (.c (.i .i64 32))) (.t 11)),aO 13 (.bin .add (.v (.c (.i .i64 34))) (.t 12)),aO 14 (.call 91 [(.t 10),(.t 13),(.v (.c (.i .i64 25)))]),aO 15 (.call 90 [(.t 14)]),aO 9 (.mv (.t 15)),aO 16 (.ext (.t 9) 0),aO 17 (.ext (.t 9) 1),aO 6 (.mv (.t 16)),aO 7 (.mv (.t 17))]) (.seq [0,1,4,7,8] (.ops [aO 18 (.mv (.t 6)),aO 19 (.mv (.t 0)),aO 20 (.mv (.t 1)),aO 21 (.bin .mul (.v (.c (.i .i64 32))) (.t 20)),aO 22 (.bin .add (.v (.c (.i .i64 32))) (.t 21)),aO 23 (.call 92 [(.t 19),(.t 22),(.v (.c (.i .i64 2)))]),aO 24 (.build ([.s [],.i .i64 0]) [(0,1,(.t 18)),(1,1,(.t 23))]),aO 8 (.alloc ([.s [],.i .i64 0])),aN (.storeN 2 (.t 8) (.t 24))]) (.seq [4,8] (.seq [4,8,42] (.ops [aO 25 (.mv (.t 7)),aO 26 (.un .not (.t 25)),aO 27 (.mv (.t 26)),aG 28 27 false (.loadN 2 (.t 8)),aG 29 27 false (.call 93 [(.t 28)]),aG 30 27 false (.un .not (.t 29)),aO 31 (.pick (.t 27) (.v (.c (.b true))) (.t 30)),aO 32 (.mv (.t 31)),aG 33 32 false (.loadN 2 (.t 8)),aG 34 32 false (.call 94 [(.t 33)]),aG 35 32 false (.mv (.t 0)),aG 36 32 false (.mv (.t 1)),aG 37 32 false (.bin .mul (.v (.c (.i .i64 32))) (.t 36)),aG 38 32 false (.bin .add (.v (.c (.i .i64 32))) (.t 37)),aG 39 32 false (.call 91 [(.t 35),(.t 38),(.v (.c (.i .i64 32)))]),aG 40 32 false (.call 49 [(.t 34),(.t 39)]),aG 41 32 false (.un .not (.t 40)),aO 42 (.pick (.t 32) (.v (.c (.b true))) (.t 41))]) (.cond (.t 42) (.seq [4,5] (.ops [aO 43 (.build ([.s [],.i .i64 0]) []),aN (.storeN 2 (.t 4) (.t 43)),aO 5 (.mv (.v (.c (.b false))))]) .ret) .skip)) (.seq [4,5] (.ops [aO 44 (.loadN 2 (.t 8)),aN (.storeN 2 (.t 4) (.t 44)),aO 5 (.mv (.v (.c (.b true))))]) .ret)))),[.cellN 4 2,.tmp 5]⟩
def A96:B3:=A7 91 A22 (A7 90 A4B (A7 92 X2 (A7 93 A4I (A7 94 A4G (A7 49 Z3 B8)))))
def A6A (n:Nat) (args:List Val) (h:A0):A6:=ax A96 n A_er18_Read.code A_er18_Read.fin (params 0 args) h
theorem C2W (n:Nat) (a0 a1:Val) (h:A0):A6A n [a0,a1] h=bnd (A2 .mul (.c (.i .i64 32)) a1) fun v1=>bnd (A2 .add (.c (.i .i64 34)) v1) fun v2=>bnd (A22 [a0,v2,.c (.i .i64 25)] (h ++ [some (Row.mk ([.s [],.i .i64 0]) true)])) fun p3=>bnd (A4B [p3.1] p3.2) fun p4=>bnd (C5 p4.1 0) fun v5=>bnd (C5 p4.1 1) fun v6=>bnd (A2 .mul (.c (.i .i64 32)) a1) fun v7=>bnd (A2 .add (.c (.i .i64 32)) v7) fun v8=>bnd (X2 [a0,v8,.c (.i .i64 2)] p4.2) fun p9=>bnd (A8 ([.s [],.i .i64 0]) [(0,1,v5),(1,1,p9.1)]) fun c10=>bnd (B6 (p9.2 ++ [some (Row.mk ([.s [],.i .i64 0]) true)]) 2 (.c (.p p9.2.length 0)) (.a c10)) fun h11=>bnd (aun .not v6) fun v12=>bnd (gd v12 false (bnd (A3 h11 2 (.c (.p p9.2.length 0))) fun v13=>some (v13,h11)) (some (.no,h11))) fun p14=>bnd (gd v12 false (bnd (A4I [p14.1] p14.2) fun p15=>some (p15.1,p15.2)) (some (.no,p14.2))) fun p16=>bnd (gd v12 false (bnd (aun .not p16.1) fun v17=>some (v17,p16.2)) (some (.no,p16.2))) fun p18=>bnd (C4 v12 (.c (.b true)) p18.1) fun v19=>bnd (gd v19 false (bnd (A3 p18.2 2 (.c (.p p9.2.length 0))) fun v20=>some (v20,p18.2)) (some (.no,p18.2))) fun p21=>bnd (gd v19 false (bnd (A4G [p21.1] p21.2) fun p22=>some (p22.1,p22.2)) (some (.no,p21.2))) fun p23=>bnd (gd v19 false (some (a0,p23.2)) (some (.no,p23.2))) fun p24=>bnd (gd v19 false (some (a1,p24.2)) (some (.no,p24.2))) fun p25=>bnd (gd v19 false (bnd (A2 .mul (.c (.i .i64 32)) p25.1) fun v26=>some (v26,p25.2)) (some (.no,p25.2))) fun p27=>bnd (gd v19 false (bnd (A2 .add (.c (.i .i64 32)) p27.1) fun v28=>some (v28,p27.2)) (some (.no,p27.2))) fun p29=>bnd (gd v19 false (bnd (A22 [p24.1,p29.1,.c (.i .i64 32)] p29.2) fun p30=>some (p30.1,p30.2)) (some (.no,p29.2))) fun p31=>bnd (gd v19 false (bnd (Z3 [p23.1,p31.1] p31.2) fun p32=>some (p32.1,p32.2)) (some (.no,p31.2))) fun p33=>bnd (gd v19 false (bnd (aun .not p33.1) fun v34=>some (v34,p33.2)) (some (.no,p33.2))) fun p35=>bnd (C4 v19 (.c (.b true)) p35.1) fun v36=>cnd v36 (bnd (A8 ([.s [],.i .i64 0]) []) fun c37=>bnd (B6 p35.2 2 (.c (.p h.length 0)) (.a c37)) fun h38=>C7 [A3 h38 2 (.c (.p h.length 0)),some (.c (.b false))] h38) (bnd (A3 p35.2 2 (.c (.p p9.2.length 0))) fun v39=>bnd (B6 p35.2 2 (.c (.p h.length 0)) v39) fun h40=>C7 [A3 h40 2 (.c (.p h.length 0)),some (.c (.b true))] h40):=by kernel_rfl
theorem K_er18_Read:FnK Tryz.prog 32 A_er18_Read A96 A6A:=.mk' (A9 C4H (A9 C4X (A9 B1r (A9 C5c (A9 C47 (A9 A7s C1)))))) Tryz.func32 (by kernel_rfl) (fun _ _ _=>C0)
def A0H:Fun:=tidy (Lim A_er18_Read A96)
theorem B1t:SOk Tryz.prog 32 A0H:=K_er18_Read.sok
theorem C5d:D1 A6A A0H:=K_er18_Read.flat
def B7E:ACode:=.seq [0,1,5] (.seq [0,1,5,9] (.ops [aO 8 (.mv (.t 5)),aO 9 (.bin .lss (.t 8) (.v (.c (.i .i64 7))))]) (.cond (.t 9) .skip (.exit 0))) (.seq [0,1,5] (.block 1 (.seq [0,1,5,6,7] (.ops [aO 13 (.mv (.t 0)),aO 14 (.mv (.t 5)),aO 15 (.call 32 [(.t 13),(.t 14)]),aO 12 (.mv (.t 15)),aO 16 (.ext (.t 12) 0),aO 17 (.ext (.t 12) 1),aO 6 (.alloc ([.s [],.i .i64 0])),aN (.storeN 2 (.t 6) (.t 16)),aO 7 (.mv (.t 17))]) (.seq [0,1,5,24] (.ops [aO 18 (.mv (.t 7)),aO 19 (.mv (.t 18)),aG 20 19 true (.fAddr (.t 6) 0),aG 21 19 true (.load1 (.t 20)),aG 22 19 true (.mv (.t 1)),aG 23 19 true (.bin .eql (.t 21) (.t 22)),aO 24 (.pick (.t 19) (.t 23) (.v (.c (.b false))))]) (.cond (.t 24) (.seq [4] (.ops [aO 25 (.mv (.t 5)),aO 4 (.mv (.t 25))]) .ret) .skip)))) (.ops [aO 10 (.mv (.t 5)),aO 11 (.bin .add (.t 10) (.v (.c (.i .i64 1)))),aO 5 (.mv (.t 11))]))
def B7F:ACode:=.seq [4] (.ops [aO 4 (.mv (.v (.c (.i .i64 (-1)))))]) .ret
def A_er18_Find:AFn:=⟨.seq [0,1] (.ops [aO 4 (.mv (.v (.c (.i .i64 0))))]) (.seq [] (.seq [0,1,5] (.ops [aO 5 (.mv (.v (.c (.i .i64 0))))]) (.block 0 (.loop [0,1,5] B7E))) B7F),[.tmp 4]⟩
def A3Y:B3:=A7 32 A0H B8
def C9q (n:Nat):B4 (Val × A0):=E5 [] (ax A3Y n B7F) A_er18_Find.fin
def C9r (n:Nat):B4 (Val × A0):=D6 0 (C9q n)
def A8n (n m:Nat) (x0 x1 x5:Val) (h:A0):A6:=C8 (ax A3Y n B7E) [0,1,5] (C9r n) m [(0,x0),(1,x1),(5,x5)] h
def B06 (n:Nat) (args:List Val) (h:A0):A6:=ax A3Y n A_er18_Find.code A_er18_Find.fin (params 0 args) h
theorem C2U (n:Nat) (a0 a1:Val) (h:A0):B06 n [a0,a1] h=A8n n n a0 a1 (.c (.i .i64 0)) h:=by kernel_rfl
theorem B7G (n m:Nat) (x0 x1 x5:Val) (h:A0):A8n n (m + 1) x0 x1 x5 h=bnd (A2 .lss x5 (.c (.i .i64 7))) fun v1=>cnd v1 (bnd (A0H [x0,x5] h) fun p2=>bnd (C5 p2.1 0) fun v3=>bnd (C5 p2.1 1) fun v4=>bnd (B6 (p2.2 ++ [some (Row.mk ([.s [],.i .i64 0]) true)]) 2 (.c (.p p2.2.length 0)) v3) fun h5=>bnd (gd v4 true (bnd (B7 (.c (.p p2.2.length 0)) 0) fun v6=>some (v6,h5)) (some (.no,h5))) fun p7=>bnd (gd v4 true (bnd (A5 p7.2 p7.1) fun v8=>some (v8,p7.2)) (some (.no,p7.2))) fun p9=>bnd (gd v4 true (some (x1,p9.2)) (some (.no,p9.2))) fun p10=>bnd (gd v4 true (bnd (A2 .eql p9.1 p10.1) fun v11=>some (v11,p10.2)) (some (.no,p10.2))) fun p12=>bnd (C4 v4 p12.1 (.c (.b false))) fun v13=>cnd v13 (some (x5,p12.2)) (bnd (A2 .add x5 (.c (.i .i64 1))) fun v14=>A8n n m x0 x1 v14 p12.2)) (some ((.c (.i .i64 (-1))),h)):=by kernel_rfl
theorem K_er18_Find:FnK Tryz.prog 75 A_er18_Find A3Y B06:=.mk' (A9 B1t C1) Tryz.func75 (by kernel_rfl) (fun _ _ _=>C0)
def A4H:Fun:=tidy (Lim A_er18_Find A3Y)
theorem C5a:SOk Tryz.prog 75 A4H:=K_er18_Find.sok
theorem C49:D1 B06 A4H:=K_er18_Find.flat
end Go.Proofs.YteckncopbicmcaaGreat
end
section
namespace Go.Proofs.YteckncopbicmcaaGreat
open Go Go.Esc
theorem D2r {s:List UInt8} {n:Int} {h:A0} (hs:s.length < 9223372036854775807):A4I [.a [.s s,.i .i64 n]] h=some (.c (.b (U3 s n)),h):=by
  have key:∀ g,∃ g',A6z 0 [.a [.s s,.i .i64 n]] g=some (.c (.b (U3 s n)),g'):=by
    intro g
    have hC:=fun h=>right_eq hs h
    rw [C2V]
    unfold U3
    cases hf:Q1 s with
    | false =>
      rw [hf] at hC
      exact ⟨_,by simp only [esc,esh,Nat.reduceAdd,Nat.reduceMul,Nat.reduceLT,hC] <;> rfl⟩
    | true =>
      rw [hf] at hC
      by_cases c1:1 ≤ n
      · by_cases c2:n ≤ 128
        · rw [decide_eq_true c1,decide_eq_true c2]
          exact ⟨_,by simp only [esc,esh,Nat.reduceAdd,Nat.reduceMul,Nat.reduceLT,hC,c1,c2] <;> rfl⟩
        · rw [decide_eq_true c1,decide_eq_false c2]
          exact ⟨_,by simp only [esc,esh,Nat.reduceAdd,Nat.reduceMul,Nat.reduceLT,hC,c1,c2] <;> rfl⟩
      · rw [decide_eq_false c1]
        exact ⟨_,by simp only [esc,esh,Nat.reduceAdd,Nat.reduceMul,Nat.reduceLT,hC,c1] <;> rfl⟩
  obtain ⟨g',e⟩:=key (ro h)
  exact C5b e rfl
theorem D07 {s:List UInt8} {n:Int} (hm:U3 s n=true):Q1 s=true:=by
  unfold U3 at hm
  simp only [Bool.and_eq_true] at hm
  exact hm.1
theorem D2p {s:List UInt8} {n:Int} {h:A0} (hm:U3 s n=true):A4G [.a [.s s,.i .i64 n]] h=some (.c (.sl h.length 0 32 1),h ++ [some ⟨A1 (J1 s n),true⟩]):=by
  have hf:=D07 hm
  have hs:=(A3p hf).2
  have ep:M6 s s.length=H7 s:=by unfold H7;rw [hf,cond_true]
  have key:∀ g,∃ v g',A6y 0 [.a [.s s,.i .i64 n]] g=some (v,g') ∧ Out g.length g' v 1 32 (A1 (J1 s n)):=by
    intro g
    have hB:=fun h=>A7P (w:=2) (v:=n) (h:=h) (by omega)
    simp only [Int.cast_ofNat_Int] at hB
    have hP:=fun h=>C07 hs h
    rw [ep] at hP
    have ef5:A8 [Cell.i .u8 0,.i .u8 0,.i .u8 0,.i .u8 0,.i .u8 0] [(0,1,.c (.i .u8 0)),(1,1,.c (.i .u8 0)),(2,1,.c (.i .u8 0)),(3,1,.c (.i .u8 0)),(4,1,.c (.i .u8 0))]=some (A1 [0,0,0,0,0]):=rfl
    have hpl:(A1 (H7 s)).length=25:=by rw [B1];exact A2J
    have hA:=T2 (h:=g ++ [some (Row.mk [.s s,.i .i64 n] true),some (Row.mk [] true),some (Row.mk (A1 (B5 2 n)) true),some (Row.mk (A1 (H7 s)) true)]) (id:=g.length + 2) (jd:=g.length + 3) (n:=2) (m:=25) (sz:=1) (cs:=A1 (B5 2 n)) (ys:=A1 (H7 s)) (rw:=true) (by simp) (by simp [B1]) (by simp) (by rw [hpl]) rfl (by omega) (by omega)
    simp only [List.length_append,List.length_cons,List.length_nil,Nat.zero_add,List.append_assoc,List.cons_append,List.nil_append,A1A,List.set_cons_succ,List.set_cons_zero,Nat.reduceAdd,← W7] at hA
    have hl27:(A1 (B5 2 n ++ H7 s)).length=27 * 1:=by rw [B1,List.length_append,A0T,A2J]
    have hA2:=T2 (h:=g ++ [some (Row.mk [.s s,.i .i64 n] true),some (Row.mk [] true),none,some (Row.mk (A1 (H7 s)) true),some (Row.mk (A1 (B5 2 n ++ H7 s)) true),some (Row.mk (A1 [0,0,0,0,0]) true)]) (id:=g.length + 4) (jd:=g.length + 5) (n:=27) (m:=5) (sz:=1) (cs:=A1 (B5 2 n ++ H7 s)) (ys:=A1 [0,0,0,0,0]) (rw:=true) (by simp) hl27 (by simp) rfl rfl (by omega) (by omega)
    simp only [List.length_append,List.length_cons,List.length_nil,Nat.zero_add,List.append_assoc,List.cons_append,List.nil_append,A1A,List.set_cons_succ,List.set_cons_zero,Nat.reduceAdd,← W7] at hA2
    rw [← List.append_assoc (B5 2 n),show B5 2 n ++ H7 s ++ [0,0,0,0,0]=J1 s n from rfl] at hA2
    rw [C2T]
    refine ⟨.c (.sl (g.length + 6) 0 32 1),g ++ [some (Row.mk [.s s,.i .i64 n] true),some (Row.mk [] true),none,some (Row.mk (A1 (H7 s)) true),none,some (Row.mk (A1 [0,0,0,0,0]) true),some (Row.mk (A1 (J1 s n)) true)],?_,by rw [B1,A1i],g.length + 6,rfl,by omega,?_⟩
    · generalize J1 s n=E at *
      generalize B5 2 n ++ H7 s=Q at *
      generalize A1 [0,0,0,0,0]=F at *
      generalize A1 (H7 s)=P at *
      generalize A1 (B5 2 n)=B2 at *
      simp only [esc,esh,Nat.reduceAdd,Nat.reduceMul,Nat.reduceLT,hB,D2d,hP,hpl,hA,ef5,hA2]
    · simp
  obtain ⟨v,g',e,ho⟩:=key (ro h)
  exact C48 e (by simpa [K4] using ho) (by simp)
end Go.Proofs.YteckncopbicmcaaGreat
end
section
namespace Go.Proofs.YteckncopbicmcaaGreat
open Go Go.Esc
theorem C8a {b:List UInt8} {k:Nat}:G1 b ((G3 k + 2:Nat):Int) 25=nameB b k:=by
  unfold G1 nameB
  rw [if_pos (by omega),Int.toNat_natCast]
  rfl
theorem D2E {k:Nat} (hk:k < 7):IntKind.wrap .i64 (32 * (k:Int))=((32 * k:Nat):Int):=by rw [wrap_i64 (by omega) (by omega)];omega
theorem D2f {k:Nat} (hk:k < 7):IntKind.wrap .i64 (32 + ((32 * k:Nat):Int))=((G3 k:Nat):Int):=by unfold G3;rw [wrap_i64 (by omega) (by omega)];omega
theorem D2g {k:Nat} (hk:k < 7):IntKind.wrap .i64 (34 + ((32 * k:Nat):Int))=((G3 k + 2:Nat):Int):=by unfold G3;rw [wrap_i64 (by omega) (by omega)];omega
theorem B3U {v:Val} {nv k:Nat} {b:List UInt8} {h:A0} (hv:Has h v 1 nv (A1 b)) (hb:b.length=256) (hk:k < 7):A0H [v,.c (.i .i64 (k:Int))] h=some (.t [.a (F0 (I3 b k)),.c (.b (I3 b k).isSome)],h):=by
  have key:∀ g,Has g v 1 nv (A1 b) → ∃ g',A6A 0 [v,.c (.i .i64 (k:Int))] g=some (.t [.a (F0 (I3 b k)),.c (.b (I3 b k).isSome)],g'):=by
    intro g hv
    have hnl:=B3x hb hk
    have hsl:=C1D hb hk
    have hC:=fun l=>C0Q (hv.more l) (a:=((G3 k + 2:Nat):Int)) (n:=25) (by unfold G3;omega) (by omega)
    rw [C8a,hnl] at hC
    have hU:=fun (c0:Option Row)=>D2y (v:=.c (.sl (g.length + 1) 0 25 1)) (nv:=25) (l:=nameB b k) (h:=g ++ [c0,some (Row.mk (A1 (nameB b k)) true)]) (Has.row (rw:=true) (by simp) (by rw [B1,hnl]) (K1 _)) hnl
    have hA:=fun l=>A5U (hv.more l) hb (a:=(G3 k:Nat)) (w:=2)
    rw [B5F hk] at hA
    have ef:∀ (s:List UInt8) (n:Int),A8 [Cell.s [],.i .i64 0] [(0,1,.c (.s s)),(1,1,.c (.i .i64 n))]=some [.s s,.i .i64 n]:=fun _ _=>rfl
    have ef0:A8 [Cell.s [],.i .i64 0] []=some [.s [],.i .i64 0]:=rfl
    have w0:=D2E hk
    have w1:=D2f hk
    have w2:=D2g hk
    rw [C2W]
    unfold I3
    cases hu:T0 (nameB b k) with
    | none =>
      rw [hu] at hU
      simp only [Option.getD_none,Option.isSome_none] at hU
      generalize J8 b k=n at *
      generalize A1 (nameB b k)=z at *
      exact ⟨_,by simp only [esc,esh,Nat.reduceAdd,Nat.reduceMul,Nat.reduceLT,w0,w1,w2,hC,hU,hA,ef,ef0,Option.bind_none,F0,Option.isSome_none] <;> rfl⟩
    | some s =>
      rw [hu] at hU
      simp only [Option.getD_some,Option.isSome_some] at hU
      have hfs:=(A3p (B4j hu)).2
      have hM:=fun h=>D2r (s:=s) (n:=J8 b k) (h:=h) (by omega)
      rw [Option.bind_some]
      unfold isE
      cases hm:U3 s (J8 b k) with
      | false =>
        rw [hm] at hM
        rw [Bool.false_and,if_neg (by simp)]
        generalize J8 b k=n at *
        generalize A1 (nameB b k)=z at *
        exact ⟨_,by simp only [esc,esh,Nat.reduceAdd,Nat.reduceMul,Nat.reduceLT,w0,w1,w2,hC,hU,hA,ef,ef0,hM,F0,Option.isSome_none] <;> rfl⟩
      | true =>
        rw [hm] at hM
        rw [Bool.true_and]
        have hB:=fun h=>D2p (s:=s) (n:=J8 b k) (h:=h) hm
        have hC2:=fun l=>C0Q (hv.more l) (a:=(G3 k:Nat)) (n:=32) (by unfold G3;omega) (by omega)
        rw [B6q,hsl] at hC2
        have hS:=fun (c0 c1 c2:Option Row)=>A9u (l:=J1 s (J8 b k)) (r:=U5 b k) (h:=g ++ [c0,c1,c2,some (Row.mk (A1 (J1 s (J8 b k))) true),some (Row.mk (A1 (U5 b k)) true)]) (v:=.c (.sl (g.length + 3) 0 32 1)) (u:=.c (.sl (g.length + 4) 0 32 1)) (Has.row (rw:=true) (by simp) (by rw [B1,A1i]) (K1 _)) (Has.row (rw:=true) (by simp) (by rw [B1,hsl]) (K1 _)) (by rw [A1i];omega)
        by_cases ce:J1 s (J8 b k)=U5 b k
        · rw [if_pos (decide_eq_true ce)]
          rw [decide_eq_true ce] at hS
          generalize J1 s (J8 b k)=E at *
          generalize U5 b k=L at *
          generalize J8 b k=n at *
          generalize A1 (nameB b k)=z at *
          exact ⟨_,by simp only [esc,esh,Nat.reduceAdd,Nat.reduceMul,Nat.reduceLT,w0,w1,w2,hC,hU,hA,ef,ef0,hM,hB,hC2,hS,F0,Option.isSome_some] <;> rfl⟩
        · rw [if_neg (by rw [decide_eq_true_eq];exact ce)]
          rw [decide_eq_false ce] at hS
          generalize J1 s (J8 b k)=E at *
          generalize U5 b k=L at *
          generalize J8 b k=n at *
          generalize A1 (nameB b k)=z at *
          exact ⟨_,by simp only [esc,esh,Nat.reduceAdd,Nat.reduceMul,Nat.reduceLT,w0,w1,w2,hC,hU,hA,ef,ef0,hM,hB,hC2,hS,F0,Option.isSome_none] <;> rfl⟩
  obtain ⟨g',e⟩:=key (ro h) hv.ro
  exact C5d e (by simp [Val.flat,B6Y,Cell.flat])
def A2K (o:Option Nat):Int:=match o with
  | some k=>k
  | none=>-1
theorem B3Y {v:Val} {nv q:Nat} {b nm:List UInt8} (hb:b.length=256):∀ (e k m:Nat) (h:A0),k + e=7 → e < m → Has h v 1 nv (A1 b) →
    ∃ h',A8n q m v (.c (.s nm)) (.c (.i .i64 (k:Int))) h=some (.c (.i .i64 (A2K ((S9 b nm e k).map (·.1)))),h')
  | e,k,0,h,_,hm,_=>by omega
  | 0,k,m + 1,h,hk,hm,hv=>by
    have e0:k=7:=by omega
    subst e0
    have c0:¬ ((7:Nat):Int) < 7:=by omega
    rw [B7G]
    exact ⟨_,by simp only [esc,c0] <;> rfl⟩
  | e + 1,k,m + 1,h,hk,hm,hv=>by
    have c0:(k:Int) < 7:=by omega
    have hR:=B3U (k:=k) hv hb (by omega)
    have w1:=E6 (show k + 1 < 9223372036854775808 by omega)
    rw [B7G]
    cases hx:I3 b k with
    | none =>
      rw [hx] at hR
      rw [B22 hx]
      obtain ⟨h',ih⟩:=B3Y (q:=q) (nm:=nm) hb e (k + 1) m (h ++ [some ⟨[.s [],.i .i64 0],true⟩]) (by omega) (by omega) (hv.more _)
      exact ⟨h',by simp only [esc,esh,Nat.reduceAdd,Nat.reduceMul,Nat.reduceLT,c0,hR,F0,Option.isSome_none,w1];exact ih⟩
    | some x =>
      obtain ⟨s,n⟩:=x
      rw [hx] at hR
      by_cases ce:s=nm
      · subst ce
        rw [B2Z hx]
        exact ⟨_,by simp only [esc,esh,Nat.reduceAdd,Nat.reduceMul,Nat.reduceLT,c0,hR,F0,Option.isSome_some] <;> rfl⟩
      · rw [B21 hx ce]
        obtain ⟨h',ih⟩:=B3Y (q:=q) (nm:=nm) hb e (k + 1) m (h ++ [some ⟨[.s s,.i .i64 n],true⟩]) (by omega) (by omega) (hv.more _)
        exact ⟨h',by simp only [esc,esh,Nat.reduceAdd,Nat.reduceMul,Nat.reduceLT,c0,hR,F0,Option.isSome_some,ce,w1];exact ih⟩
theorem D2q {v:Val} {nv:Nat} {b nm:List UInt8} {h:A0} (hv:Has h v 1 nv (A1 b)) (hb:b.length=256):A4H [v,.c (.s nm)] h=some (.c (.i .i64 (A2K ((J2 b nm).map (·.1)))),h):=by
  obtain ⟨h',e⟩:=B3Y (q:=8) (nm:=nm) hb 7 0 8 (ro h) (by omega) (by omega) hv.ro
  exact C49 (n:=8) (by rw [C2U];exact e) rfl
end Go.Proofs.YteckncopbicmcaaGreat
end
noncomputable section
namespace Go.Proofs.YteckncopbicmcaaGreat
open Go Go.Esc
set_option maxRecDepth 100000
def B72:ACode:=.ops [aO 40 (.mv (.t 16)),aO 41 (.bin .add (.t 40) (.v (.c (.i .i64 1)))),aO 16 (.mv (.t 41))]
def B2O:ACode:=.seq [0,3,10,11,12,14,15,16] (.seq [0,3,10,11,12,14,15,16,39] (.ops [aO 38 (.mv (.t 16)),aO 39 (.bin .lss (.t 38) (.v (.c (.i .i64 7))))]) (.cond (.t 39) .skip (.exit 2))) (.seq [0,3,10,11,12,14,15,16] (.block 3 (.seq [0,3,10,11,12,14,15,16,17,18] (.ops [aO 43 (.mv (.t 0)),aO 44 (.mv (.t 14)),aO 45 (.mv (.t 15)),aO 46 (.iAddrL 1 (.t 44) (.t 45)),aO 47 (.load1 (.t 46)),aO 48 (.call 33 [(.t 43),(.t 47)]),aO 49 (.mv (.t 16)),aO 50 (.call 32 [(.t 48),(.t 49)]),aO 42 (.mv (.t 50)),aO 51 (.ext (.t 42) 0),aO 52 (.ext (.t 42) 1),aO 17 (.alloc ([.s [],.i .i64 0])),aN (.storeN 2 (.t 17) (.t 51)),aO 18 (.mv (.t 52))]) (.seq [0,3,10,11,12,14,15,16,17] (.seq [0,3,10,11,12,14,15,16,17,54] (.ops [aO 53 (.mv (.t 18)),aO 54 (.un .not (.t 53))]) (.cond (.t 54) (.exit 3) .skip)) (.seq [0,3,10,11,12,14,15,16,17,19] (.draw 1 [aO 55 (.mv (.t 14)),aO 56 (.mv (.t 15)),aO 57 (.iAddrL 1 (.t 55) (.t 56)),aO 58 (.load1 (.t 57)),aO 59 (.mv (.t 16)),aO 60 (.fAddr (.t 17) 1),aO 61 (.load1 (.t 60)),aO 62 (.build ([.i .i64 0,.i .i64 0,.i .i64 0]) [(0,1,(.t 58)),(1,1,(.t 59)),(2,1,(.t 61))]),aS 19 0 (.alloc ([.i .i64 0,.i .i64 0,.i .i64 0]))] [aN (.storeN 3 (.t 19) (.t 62))]) (.seq [0,3,10,11,12,14,15,16,17,19,20] (.draw 0 [aO 63 (.fAddr (.t 17) 0),aO 64 (.load1 (.t 63)),aO 65 (.call 81 [(.t 64)]),aO 66 (.fAddr (.t 12) 0),aO 67 (.load1 (.t 66)),aO 68 (.call 80 [(.t 65),(.t 67)]),aO 69 (.fAddr (.t 12) 1),aO 70 (.iAddrA 32 1 (.t 69) (.t 68)),aO 71 (.load1 (.t 70)),aO 72 (.mv (.t 14)),aO 73 (.mv (.t 15)),aO 74 (.iAddrL 1 (.t 72) (.t 73)),aO 75 (.load1 (.t 74))] [aO 76 (.bin .eql (.t 71) (.t 75)),aO 20 (.mv (.t 76))]) (.seq [0,3,10,11,12,14,15,16,17,19,92] (.draw 0 [aO 77 (.mv (.t 20)),aO 78 (.mv (.t 77)),aG 79 78 true (.mv (.t 0)),aG 80 78 true (.mv (.t 14)),aG 81 78 true (.mv (.t 15)),aG 82 78 true (.iAddrL 1 (.t 80) (.t 81)),aG 83 78 true (.load1 (.t 82)),aG 84 78 true (.call 33 [(.t 79),(.t 83)]),aG 85 78 true (.fAddr (.t 17) 0),aG 86 78 true (.load1 (.t 85)),aG 87 78 true (.call 75 [(.t 84),(.t 86)]),aG 88 78 true (.mv (.t 16)),aG 89 78 true (.bin .eql (.t 87) (.t 88)),aO 90 (.pick (.t 78) (.t 89) (.v (.c (.b false)))),aO 91 (.mv (.t 3))] [aO 92 (.eqB true (.t 90) (.t 91))]) (.cond (.t 92) (.seq [0,3,10,11,12,14,15,16,17] (.ops [aO 93 (.mv (.t 10)),aO 94 (.loadN 3 (.t 19)),aO 95 (.buildSl 3 1 (([.i .i64 0,.i .i64 0,.i .i64 0])) [(0,3,(.t 94))]),aO 96 (.app 3 (.t 93) (.t 95)),aO 10 (.mv (.t 96))]) (.ops [aO 97 (.mv (.t 11)),aO 98 (.fAddr (.t 17) 0),aO 99 (.load1 (.t 98)),aO 100 (.buildSl 1 1 ([.s []]) [(0,1,(.t 99))]),aO 101 (.app 1 (.t 97) (.t 100)),aO 11 (.mv (.t 101))])) .skip))))))) B72)
def B71:ACode:=.ops [aO 36 (.mv (.t 15)),aO 37 (.bin .add (.t 36) (.v (.c (.i .i64 1)))),aO 15 (.mv (.t 37))]
def B2N:ACode:=.seq [0,3,10,11,12,14,15] (.seq [0,3,10,11,12,14,15,35] (.ops [aO 32 (.mv (.t 15)),aO 33 (.mv (.t 14)),aO 34 (.len (.t 33)),aO 35 (.bin .lss (.t 32) (.t 34))]) (.cond (.t 35) .skip (.exit 0))) (.seq [0,3,10,11,12,14,15] (.block 1 (.seq [0,3,10,11,12,14,15,16] (.ops [aO 16 (.mv (.v (.c (.i .i64 0))))]) (.block 2 (.loop [0,3,10,11,12,14,15,16] B2O)))) B71)
def B70:ACode:=.seq [8,9] (.ops [aO 102 (.mv (.t 10)),aO 103 (.mv (.t 11)),aO 8 (.mv (.t 102)),aO 9 (.mv (.t 103))]) .ret
def A_er24_Entries:AFn:=⟨.seq [0,3,5,6] (.ops [aO 5 (.box (.t 1)),aO 6 (.box (.t 2)),aO 8 (.nilrow 3),aO 9 (.nilrow 1)]) (.seq [0,3,5,6,10] (.ops [aO 10 (.nilrow 3)]) (.seq [0,3,5,6,10,11] (.ops [aO 11 (.nilrow 1)]) (.seq [0,3,5,6,10,11,12] (.ops [aO 22 (.mv (.t 0)),aO 23 (.loadN 3 (.t 5)),aO 24 (.loadN 11 (.t 6)),aO 25 (.call 79 [(.t 22),(.t 23),(.t 24)]),aO 21 (.mv (.t 25)),aO 26 (.ext (.t 21) 0),aO 27 (.ext (.t 21) 1),aO 12 (.alloc ([.i .i64 0] ++ List.replicate 32 (.i .i64 0))),aN (.storeN 33 (.t 12) (.t 26)),aO 13 (.mv (.t 27))]) (.seq [0,3,10,11,12,14] (.ops [aO 28 (.mv (.t 0)),aO 29 (.loadN 3 (.t 5)),aO 30 (.loadN 11 (.t 6)),aO 31 (.call 31 [(.t 28),(.t 29),(.t 30)]),aO 14 (.mv (.t 31))]) (.seq [10,11] (.seq [0,3,10,11,12,14,15] (.ops [aO 15 (.mv (.v (.c (.i .i64 0))))]) (.block 0 (.loop [0,3,10,11,12,14,15] B2N))) B70))))),[.tmp 8,.tmp 9]⟩
def A0i:B3:=A7 79 A14 (A7 31 A13 (A7 33 X3 (A7 32 A0H (A7 81 A1Y (A7 80 A4y (A7 75 A4H B8))))))
def C9E (n:Nat):B4 (Val × A0):=E5 [10,11] (ax A0i n B70) A_er24_Entries.fin
def B2Q (n:Nat):B4 (Val × A0):=D6 0 (C9E n)
def A3o (n m:Nat) (x0 x3 x10 x11 x12 x14 x15:Val) (h:A0):A6:=C8 (ax A0i n B2N) [0,3,10,11,12,14,15] (B2Q n) m [(0,x0),(3,x3),(10,x10),(11,x11),(12,x12),(14,x14),(15,x15)] h
def A6J (n:Nat) (args:List Val) (h:A0):A6:=ax A0i n A_er24_Entries.code A_er24_Entries.fin (params 0 args) h
def C9F (n m:Nat):B4 (Val × A0):=R1 [0,3,10,11,12,14,15] (C8 (ax A0i n B2N) [0,3,10,11,12,14,15] (B2Q n) m) (B2Q n)
def C9G (n m:Nat):B4 (Val × A0):=E5 [0,3,10,11,12,14,15] (ax A0i n B71) (C9F n m)
def C9H (n m:Nat):B4 (Val × A0):=D6 1 (C9G n m)
def B2R (n m:Nat):B4 (Val × A0):=D6 2 (C9H n m)
def A8t (n m m2:Nat) (x0 x3 x10 x11 x12 x14 x15 x16:Val) (h:A0):A6:=C8 (ax A0i n B2O) [0,3,10,11,12,14,15,16] (B2R n m) m2 [(0,x0),(3,x3),(10,x10),(11,x11),(12,x12),(14,x14),(15,x15),(16,x16)] h
def C9I (n m m2:Nat):B4 (Val × A0):=R1 [0,3,10,11,12,14,15,16] (C8 (ax A0i n B2O) [0,3,10,11,12,14,15,16] (B2R n m) m2) (B2R n m)
def A3n (n m m2:Nat) (x0 x3 x10 x11 x12 x14 x15 x16:Val) (h:A0):A6:=hold ((ax A0i n B72) (C9I n m m2) [(0,x0),(3,x3),(10,x10),(11,x11),(12,x12),(14,x14),(15,x15),(16,x16)] h)
theorem C28 (n:Nat) (a0 a1 a2 a3:Val) (h:A0):A6J n [a0,a1,a2,a3] h=bnd (cells? a1) fun c1=>bnd (cells? a2) fun c2=>bnd (A3 ((((((h ++ [some (Row.mk (c1) true)]) ++ [some (Row.mk (c2) true)]) ++ [some (Row.mk ([]) true)]) ++ [some (Row.mk ([]) true)]) ++ [some (Row.mk ([]) true)]) ++ [some (Row.mk ([]) true)]) 3 (.c (.p h.length 0))) fun v3=>bnd (A3 ((((((h ++ [some (Row.mk (c1) true)]) ++ [some (Row.mk (c2) true)]) ++ [some (Row.mk ([]) true)]) ++ [some (Row.mk ([]) true)]) ++ [some (Row.mk ([]) true)]) ++ [some (Row.mk ([]) true)]) 11 (.c (.p (h ++ [some (Row.mk (c1) true)]).length 0))) fun v4=>bnd (A14 [a0,v3,v4] ((((((h ++ [some (Row.mk (c1) true)]) ++ [some (Row.mk (c2) true)]) ++ [some (Row.mk ([]) true)]) ++ [some (Row.mk ([]) true)]) ++ [some (Row.mk ([]) true)]) ++ [some (Row.mk ([]) true)])) fun p5=>bnd (C5 p5.1 0) fun v6=>bnd (C5 p5.1 1) fun v7=>bnd (B6 (p5.2 ++ [some (Row.mk ([.i .i64 0] ++ List.replicate 32 (.i .i64 0)) true)]) 33 (.c (.p p5.2.length 0)) v6) fun h8=>bnd (A3 h8 3 (.c (.p h.length 0))) fun v9=>bnd (A3 h8 11 (.c (.p (h ++ [some (Row.mk (c1) true)]).length 0))) fun v10=>bnd (A13 [a0,v9,v10] h8) fun p11=>A3o n n a0 a3 (.c (.sl ((((h ++ [some (Row.mk (c1) true)]) ++ [some (Row.mk (c2) true)]) ++ [some (Row.mk ([]) true)]) ++ [some (Row.mk ([]) true)]).length 0 0 3)) (.c (.sl (((((h ++ [some (Row.mk (c1) true)]) ++ [some (Row.mk (c2) true)]) ++ [some (Row.mk ([]) true)]) ++ [some (Row.mk ([]) true)]) ++ [some (Row.mk ([]) true)]).length 0 0 1)) (.c (.p p5.2.length 0)) p11.1 (.c (.i .i64 0)) p11.2:=by kernel_rfl
theorem B73 (n m:Nat) (x0 x3 x10 x11 x12 x14 x15:Val) (h:A0):A3o n (m + 1) x0 x3 x10 x11 x12 x14 x15 h=bnd (E3 x14) fun v12=>bnd (A2 .lss x15 v12) fun v13=>cnd v13 (A8t n m n x0 x3 x10 x11 x12 x14 x15 (.c (.i .i64 0)) h) (C7 [some x10,some x11] h):=by kernel_rfl
theorem B2S (n m m2:Nat) (x0 x3 x10 x11 x12 x14 x15 x16:Val) (h:A0):A8t n m (m2 + 1) x0 x3 x10 x11 x12 x14 x15 x16 h=bnd (A2 .lss x16 (.c (.i .i64 7))) fun v14=>cnd v14 (bnd (B9 1 x14 x15) fun v15=>bnd (A5 h v15) fun v16=>bnd (X3 [x0,v16] h) fun p17=>bnd (A0H [p17.1,x16] p17.2) fun p18=>bnd (C5 p18.1 0) fun v19=>bnd (C5 p18.1 1) fun v20=>bnd (B6 (p18.2 ++ [some (Row.mk ([.s [],.i .i64 0]) true)]) 2 (.c (.p p18.2.length 0)) v19) fun h21=>bnd (aun .not v20) fun v22=>cnd v22 (A3n n m m2 x0 x3 x10 x11 x12 x14 x15 x16 h21) (bnd (B9 1 x14 x15) fun v23=>bnd (A5 h21 v23) fun v24=>bnd (B7 (.c (.p p18.2.length 0)) 1) fun v25=>bnd (A5 h21 v25) fun v26=>bnd (A8 ([.i .i64 0,.i .i64 0,.i .i64 0]) [(0,1,v24),(1,1,x16),(2,1,v26)]) fun c27=>bnd (B6 ((h21 ++ [none]).set (h21.length + 0) (some (Row.mk ([.i .i64 0,.i .i64 0,.i .i64 0]) true))) 3 (.c (.p (h21.length + 0) 0)) (.a c27)) fun h28=>bnd (B7 (.c (.p p18.2.length 0)) 0) fun v29=>bnd (A5 h28 v29) fun v30=>bnd (quiet (h28 ++ []) (A1Y [v30] (h28 ++ []))) fun p31=>bnd (B7 x12 0) fun v32=>bnd (A5 h28 v32) fun v33=>bnd (quiet p31.2 (A4y [p31.1,v33] p31.2)) fun p34=>bnd (B7 x12 1) fun v35=>bnd (D8 32 1 v35 p34.1) fun v36=>bnd (A5 h28 v36) fun v37=>bnd (B9 1 x14 x15) fun v38=>bnd (A5 h28 v38) fun v39=>bnd (A2 .eql v37 v39) fun v40=>bnd (gd v40 true (some (x0,(p34.2 ++ []))) (some (.no,(p34.2 ++ [])))) fun p41=>bnd (gd v40 true (some (x14,p41.2)) (some (.no,p41.2))) fun p42=>bnd (gd v40 true (some (x15,p42.2)) (some (.no,p42.2))) fun p43=>bnd (gd v40 true (bnd (B9 1 p42.1 p43.1) fun v44=>some (v44,p43.2)) (some (.no,p43.2))) fun p45=>bnd (gd v40 true (bnd (A5 p34.2 p45.1) fun v46=>some (v46,p45.2)) (some (.no,p45.2))) fun p47=>bnd (gd v40 true (bnd (quiet p47.2 (X3 [p41.1,p47.1] p47.2)) fun p48=>some (p48.1,p48.2)) (some (.no,p47.2))) fun p49=>bnd (gd v40 true (bnd (B7 (.c (.p p18.2.length 0)) 0) fun v50=>some (v50,p49.2)) (some (.no,p49.2))) fun p51=>bnd (gd v40 true (bnd (A5 p34.2 p51.1) fun v52=>some (v52,p51.2)) (some (.no,p51.2))) fun p53=>bnd (gd v40 true (bnd (quiet p53.2 (A4H [p49.1,p53.1] p53.2)) fun p54=>some (p54.1,p54.2)) (some (.no,p53.2))) fun p55=>bnd (gd v40 true (some (x16,p55.2)) (some (.no,p55.2))) fun p56=>bnd (gd v40 true (bnd (A2 .eql p55.1 p56.1) fun v57=>some (v57,p56.2)) (some (.no,p56.2))) fun p58=>bnd (C4 v40 p58.1 (.c (.b false))) fun v59=>bnd (A0l true v59 x3) fun v60=>cnd v60 (bnd (A3 p58.2 3 (.c (.p (h21.length + 0) 0))) fun v61=>bnd (A8 (([.i .i64 0,.i .i64 0,.i .i64 0])) [(0,3,v61)]) fun c62=>bnd (E7 (p58.2 ++ [some (Row.mk (c62) true)]) 3 x10 (.c (.sl p58.2.length 0 1 3))) fun p63=>bnd (B7 (.c (.p p18.2.length 0)) 0) fun v64=>bnd (A5 p63.2 v64) fun v65=>bnd (A8 ([.s []]) [(0,1,v65)]) fun c66=>bnd (E7 (p63.2 ++ [some (Row.mk (c66) true)]) 1 x11 (.c (.sl p63.2.length 0 1 1))) fun p67=>A3n n m m2 x0 x3 p63.1 p67.1 x12 x14 x15 x16 p67.2) (A3n n m m2 x0 x3 x10 x11 x12 x14 x15 x16 p58.2))) (bnd (A2 .add x15 (.c (.i .i64 1))) fun v68=>A3o n m x0 x3 x10 x11 x12 x14 v68 h):=by kernel_rfl
theorem B2P (n m m2:Nat) (x0 x3 x10 x11 x12 x14 x15 x16:Val) (h:A0):A3n n m m2 x0 x3 x10 x11 x12 x14 x15 x16 h=bnd (A2 .add x16 (.c (.i .i64 1))) fun v69=>A8t n m m2 x0 x3 x10 x11 x12 x14 x15 v69 h:=by kernel_rfl
theorem K_er24_Entries:FnK Tryz.prog 25 A_er24_Entries A0i A6J:=.mk' (A9 B4L (A9 B4K (A9 B1u (A9 B1t (A9 B4E (A9 C4M (A9 C5a C1))))))) Tryz.func25 (by kernel_rfl) (fun _ _ _=>C0)
def A15:Fun:=tidy (Lim A_er24_Entries A0i)
theorem B4M:SOk Tryz.prog 25 A15:=K_er24_Entries.sok
theorem C5v:B1C A6J A15:=K_er24_Entries.tidy
def B76:ACode:=.ops [aO 32 (.mv (.t 12)),aO 33 (.bin .add (.t 32) (.v (.c (.i .i64 1)))),aO 12 (.mv (.t 33))]
def B2U:ACode:=.seq [7,8,9,10,11,12] (.seq [7,8,9,10,11,12,31] (.ops [aO 28 (.mv (.t 12)),aO 29 (.mv (.t 9)),aO 30 (.len (.t 29)),aO 31 (.bin .lss (.t 28) (.t 30))]) (.cond (.t 31) .skip (.exit 2))) (.seq [7,8,9,10,11,12] (.block 3 (.seq [7,8,9,10,11,12,42] (.draw 0 [aO 34 (.mv (.t 9)),aO 35 (.mv (.t 12)),aO 36 (.iAddrL 1 (.t 34) (.t 35)),aO 37 (.load1 (.t 36)),aO 38 (.mv (.t 10)),aO 39 (.mv (.t 11)),aO 40 (.iAddrL 1 (.t 38) (.t 39)),aO 41 (.load1 (.t 40))] [aO 42 (.bin .eql (.t 37) (.t 41))]) (.cond (.t 42) (.draw 1 [aO 43 (.mv (.t 7)),aO 44 (.mv (.t 9)),aO 45 (.mv (.t 12)),aO 46 (.iAddrL 1 (.t 44) (.t 45)),aO 47 (.load1 (.t 46)),aO 48 (.mv (.t 8)),aO 49 (.mv (.t 12)),aO 50 (.iAddrL 3 (.t 48) (.t 49)),aO 51 (.fAddr (.t 50) 2),aO 52 (.load1 (.t 51)),aO 53 (.build ([.s [],.i .i64 0]) [(0,1,(.t 47)),(1,1,(.t 52))]),aS 54 0 (.buildSl 2 1 (([.s [],.i .i64 0])) [(0,2,(.t 53))])] [aO 55 (.app 2 (.t 43) (.t 54)),aO 7 (.mv (.t 55))]) .skip))) B76)
def B75:ACode:=.ops [aO 26 (.mv (.t 11)),aO 27 (.bin .add (.t 26) (.v (.c (.i .i64 1)))),aO 11 (.mv (.t 27))]
def B2T:ACode:=.seq [7,8,9,10,11] (.seq [7,8,9,10,11,25] (.ops [aO 22 (.mv (.t 11)),aO 23 (.mv (.t 10)),aO 24 (.len (.t 23)),aO 25 (.bin .lss (.t 22) (.t 24))]) (.cond (.t 25) .skip (.exit 0))) (.seq [7,8,9,10,11] (.block 1 (.seq [7,8,9,10,11,12] (.ops [aO 12 (.mv (.v (.c (.i .i64 0))))]) (.block 2 (.loop [7,8,9,10,11,12] B2U)))) B75)
def B74:ACode:=.seq [6] (.ops [aO 56 (.mv (.t 7)),aO 6 (.mv (.t 56))]) .ret
def A_er24_List:AFn:=⟨.seq [0,4,5] (.ops [aO 4 (.box (.t 1)),aO 5 (.box (.t 2)),aO 6 (.nilrow 2)]) (.seq [0,4,5,7] (.ops [aO 7 (.nilrow 2)]) (.seq [7,8,9] (.ops [aO 14 (.mv (.t 0)),aO 15 (.loadN 3 (.t 4)),aO 16 (.loadN 11 (.t 5)),aO 17 (.call 25 [(.t 14),(.t 15),(.t 16),(.v (.c (.b false)))]),aO 13 (.mv (.t 17)),aO 18 (.ext (.t 13) 0),aO 19 (.ext (.t 13) 1),aO 8 (.mv (.t 18)),aO 9 (.mv (.t 19))]) (.seq [7,8,9,10] (.ops [aO 20 (.mv (.t 9)),aO 21 (.call 82 [(.t 20)]),aO 10 (.mv (.t 21))]) (.seq [7] (.seq [7,8,9,10,11] (.ops [aO 11 (.mv (.v (.c (.i .i64 0))))]) (.block 0 (.loop [7,8,9,10,11] B2T))) B74)))),[.tmp 6]⟩
def A0j:B3:=A7 25 A15 (A7 82 A4A B8)
def C9J (n:Nat):B4 (Val × A0):=E5 [7] (ax A0j n B74) A_er24_List.fin
def B2W (n:Nat):B4 (Val × A0):=D6 0 (C9J n)
def A5x (n m:Nat) (x7 x8 x9 x10 x11:Val) (h:A0):A6:=C8 (ax A0j n B2T) [7,8,9,10,11] (B2W n) m [(7,x7),(8,x8),(9,x9),(10,x10),(11,x11)] h
def A6K (n:Nat) (args:List Val) (h:A0):A6:=ax A0j n A_er24_List.code A_er24_List.fin (params 0 args) h
def C9K (n m:Nat):B4 (Val × A0):=R1 [7,8,9,10,11] (C8 (ax A0j n B2T) [7,8,9,10,11] (B2W n) m) (B2W n)
def C9L (n m:Nat):B4 (Val × A0):=E5 [7,8,9,10,11] (ax A0j n B75) (C9K n m)
def C9M (n m:Nat):B4 (Val × A0):=D6 1 (C9L n m)
def B2X (n m:Nat):B4 (Val × A0):=D6 2 (C9M n m)
def A8u (n m m2:Nat) (x7 x8 x9 x10 x11 x12:Val) (h:A0):A6:=C8 (ax A0j n B2U) [7,8,9,10,11,12] (B2X n m) m2 [(7,x7),(8,x8),(9,x9),(10,x10),(11,x11),(12,x12)] h
def C9N (n m m2:Nat):B4 (Val × A0):=R1 [7,8,9,10,11,12] (C8 (ax A0j n B2U) [7,8,9,10,11,12] (B2X n m) m2) (B2X n m)
def B2V (n m m2:Nat) (x7 x8 x9 x10 x11 x12:Val) (h:A0):A6:=hold ((ax A0j n B76) (C9N n m m2) [(7,x7),(8,x8),(9,x9),(10,x10),(11,x11),(12,x12)] h)
theorem C29 (n:Nat) (a0 a1 a2:Val) (h:A0):A6K n [a0,a1,a2] h=bnd (cells? a1) fun c1=>bnd (cells? a2) fun c2=>bnd (A3 ((((h ++ [some (Row.mk (c1) true)]) ++ [some (Row.mk (c2) true)]) ++ [some (Row.mk ([]) true)]) ++ [some (Row.mk ([]) true)]) 3 (.c (.p h.length 0))) fun v3=>bnd (A3 ((((h ++ [some (Row.mk (c1) true)]) ++ [some (Row.mk (c2) true)]) ++ [some (Row.mk ([]) true)]) ++ [some (Row.mk ([]) true)]) 11 (.c (.p (h ++ [some (Row.mk (c1) true)]).length 0))) fun v4=>bnd (A15 [a0,v3,v4,.c (.b false)] ((((h ++ [some (Row.mk (c1) true)]) ++ [some (Row.mk (c2) true)]) ++ [some (Row.mk ([]) true)]) ++ [some (Row.mk ([]) true)])) fun p5=>bnd (C5 p5.1 0) fun v6=>bnd (C5 p5.1 1) fun v7=>bnd (A4A [v7] p5.2) fun p8=>A5x n n (.c (.sl (((h ++ [some (Row.mk (c1) true)]) ++ [some (Row.mk (c2) true)]) ++ [some (Row.mk ([]) true)]).length 0 0 2)) v6 v7 p8.1 (.c (.i .i64 0)) p8.2:=by kernel_rfl
theorem B78 (n m:Nat) (x7 x8 x9 x10 x11:Val) (h:A0):A5x n (m + 1) x7 x8 x9 x10 x11 h=bnd (E3 x10) fun v9=>bnd (A2 .lss x11 v9) fun v10=>cnd v10 (A8u n m n x7 x8 x9 x10 x11 (.c (.i .i64 0)) h) (some (x7,h)):=by kernel_rfl
theorem B2Y (n m m2:Nat) (x7 x8 x9 x10 x11 x12:Val) (h:A0):A8u n m (m2 + 1) x7 x8 x9 x10 x11 x12 h=bnd (E3 x9) fun v11=>bnd (A2 .lss x12 v11) fun v12=>cnd v12 (bnd (B9 1 x9 x12) fun v13=>bnd (A5 h v13) fun v14=>bnd (B9 1 x10 x11) fun v15=>bnd (A5 h v15) fun v16=>bnd (A2 .eql v14 v16) fun v17=>cnd v17 (bnd (B9 1 x9 x12) fun v18=>bnd (A5 (h ++ []) v18) fun v19=>bnd (B9 3 x8 x12) fun v20=>bnd (B7 v20 2) fun v21=>bnd (A5 (h ++ []) v21) fun v22=>bnd (A8 ([.s [],.i .i64 0]) [(0,1,v19),(1,1,v22)]) fun c23=>bnd (A8 (([.s [],.i .i64 0])) [(0,2,(.a c23))]) fun c24=>bnd (E7 (((h ++ []) ++ [none]).set ((h ++ []).length + 0) (some (Row.mk (c24) true))) 2 x7 (.c (.sl ((h ++ []).length + 0) 0 1 2))) fun p25=>B2V n m m2 p25.1 x8 x9 x10 x11 x12 p25.2) (B2V n m m2 x7 x8 x9 x10 x11 x12 (h ++ []))) (bnd (A2 .add x11 (.c (.i .i64 1))) fun v26=>A5x n m x7 x8 x9 x10 v26 h):=by kernel_rfl
theorem B77 (n m m2:Nat) (x7 x8 x9 x10 x11 x12:Val) (h:A0):B2V n m m2 x7 x8 x9 x10 x11 x12 h=bnd (A2 .add x12 (.c (.i .i64 1))) fun v27=>A8u n m m2 x7 x8 x9 x10 x11 v27 h:=by kernel_rfl
theorem K_er24_List:FnK Tryz.prog 24 A_er24_List A0j A6K:=.mk' (A9 B4M (A9 C4U C1)) Tryz.func24 (by kernel_rfl) (fun _ _ _=>C0)
def A4P:Fun:=tidy (Lim A_er24_List A0j)
theorem C5w:SOk Tryz.prog 24 A4P:=K_er24_List.sok
theorem C5x:N9 A6K A4P:=K_er24_List.out
def B79:ACode:=.seq [0,1,5] (.seq [0,1,5,14] (.ops [aO 11 (.mv (.t 5)),aO 12 (.mv (.t 0)),aO 13 (.len (.t 12)),aO 14 (.bin .lss (.t 11) (.t 13))]) (.cond (.t 14) .skip (.exit 0))) (.seq [0,1,5] (.block 1 (.seq [0,1,5,25] (.draw 0 [aO 17 (.mv (.t 0)),aO 18 (.mv (.t 5)),aO 19 (.iAddrL 2 (.t 17) (.t 18)),aO 20 (.loadN 2 (.t 19)),aO 21 (.mv (.t 1)),aO 22 (.mv (.t 5)),aO 23 (.iAddrL 2 (.t 21) (.t 22)),aO 24 (.loadN 2 (.t 23))] [aO 25 (.eqA true ([.s,.i .i64]) (.t 20) (.t 24))]) (.cond (.t 25) (.seq [4] (.ops [aO 4 (.mv (.v (.c (.b false))))]) .ret) .skip))) (.ops [aO 15 (.mv (.t 5)),aO 16 (.bin .add (.t 15) (.v (.c (.i .i64 1)))),aO 5 (.mv (.t 16))]))
def B8a:ACode:=.seq [4] (.ops [aO 4 (.mv (.v (.c (.b true))))]) .ret
def A_er24_SameEntries:AFn:=⟨.seq [0,1] (.ops [aO 4 (.mv (.v (.c (.b false))))]) (.seq [0,1] (.seq [0,1,10] (.ops [aO 6 (.mv (.t 0)),aO 7 (.len (.t 6)),aO 8 (.mv (.t 1)),aO 9 (.len (.t 8)),aO 10 (.bin .neq (.t 7) (.t 9))]) (.cond (.t 10) (.seq [4] (.ops [aO 4 (.mv (.v (.c (.b false))))]) .ret) .skip)) (.seq [] (.seq [0,1,5] (.ops [aO 5 (.mv (.v (.c (.i .i64 0))))]) (.block 0 (.loop [0,1,5] B79))) B8a)),[.tmp 4]⟩
def A31:B3:=B8
def C9O (n:Nat):B4 (Val × A0):=E5 [] (ax A31 n B8a) A_er24_SameEntries.fin
def C9P (n:Nat):B4 (Val × A0):=D6 0 (C9O n)
def A8v (n m:Nat) (x0 x1 x5:Val) (h:A0):A6:=C8 (ax A31 n B79) [0,1,5] (C9P n) m [(0,x0),(1,x1),(5,x5)] h
def B1a (n:Nat) (args:List Val) (h:A0):A6:=ax A31 n A_er24_SameEntries.code A_er24_SameEntries.fin (params 0 args) h
theorem C3a (n:Nat) (a0 a1:Val) (h:A0):B1a n [a0,a1] h=bnd (E3 a0) fun v1=>bnd (E3 a1) fun v2=>bnd (A2 .neq v1 v2) fun v3=>cnd v3 (some ((.c (.b false)),h)) (A8v n n a0 a1 (.c (.i .i64 0)) h):=by kernel_rfl
theorem B8b (n m:Nat) (x0 x1 x5:Val) (h:A0):A8v n (m + 1) x0 x1 x5 h=bnd (E3 x0) fun v4=>bnd (A2 .lss x5 v4) fun v5=>cnd v5 (bnd (B9 2 x0 x5) fun v6=>bnd (A3 h 2 v6) fun v7=>bnd (B9 2 x1 x5) fun v8=>bnd (A3 h 2 v8) fun v9=>bnd (aeq true ([.s,.i .i64]) v7 v9) fun v10=>cnd v10 (some ((.c (.b false)),(h ++ []))) (bnd (A2 .add x5 (.c (.i .i64 1))) fun v11=>A8v n m x0 x1 v11 (h ++ []))) (some ((.c (.b true)),h)):=by kernel_rfl
theorem K_er24_SameEntries:FnK Tryz.prog 27 A_er24_SameEntries A31 B1a:=.mk' (C1) Tryz.func27 (by kernel_rfl) (fun _ _ _=>C0)
def A4Q:Fun:=tidy (Lim A_er24_SameEntries A31)
theorem C5z:SOk Tryz.prog 27 A4Q:=K_er24_SameEntries.sok
theorem C5y:D1 B1a A4Q:=K_er24_SameEntries.flat
end Go.Proofs.YteckncopbicmcaaGreat
end
section
namespace Go.Proofs.YteckncopbicmcaaGreat
open Go Go.Esc
theorem D03 {x:Nat} {b:Int} (h5:b ≤ 5):A0s x b=x % F3 b:=by
  unfold A0s F3 K7
  by_cases c:b < 1
  · rw [if_pos c]
    have:(max 0 (min b 5)).toNat=0:=by omega
    rw [this];simp [Nat.mod_one]
  · rw [if_neg c,if_neg (by omega)]
    have:(max 0 (min b 5)).toNat=b.toNat:=by omega
    rw [this]
theorem D0a {D:Dev} {n k:Int} {d:List Int} {x:Int} {t:List Int} (h:J3 D n k d=x :: t):x ≤ 5:=by
  unfold J3 at h
  cases c:M3 D n k d with
  | false=>rw [c,cond_false] at h;cases h;omega
  | true =>
    rw [c,cond_true] at h
    cases h
    unfold M3 K8 okX at c
    simp only [Bool.and_eq_true,decide_eq_true_eq] at c
    exact c.2.1.2.1
theorem B20 {b nm:List UInt8}:∀ {e k:Nat} {x:Slt},S9 b nm e k=some x → k ≤ x.1 ∧ x.1 < k + e ∧ I3 b x.1=some x.2 ∧ x.2.1=nm
  | 0,k,x,h=>by simp [S9] at h
  | e + 1,k,x,h=>by
    cases hr:I3 b k with
    | none =>
      rw [B22 hr] at h
      have:=B20 h
      exact ⟨by omega,by omega,this.2.2⟩
    | some y =>
      obtain ⟨s,n⟩:=y
      by_cases c:s=nm
      · subst c
        rw [B2Z hr] at h
        cases h
        exact ⟨Nat.le_refl _,by simp,hr,rfl⟩
      · rw [B21 hr c] at h
        have:=B20 h
        exact ⟨by omega,by omega,this.2.2⟩
theorem C9T {b nm:List UInt8} {x:Slt} (h:J2 b nm=some x):x.1 < 7 ∧ I3 b x.1=some x.2 ∧ x.2.1=nm:=by
  have:=B20 h
  exact ⟨by omega,this.2.2⟩
end Go.Proofs.YteckncopbicmcaaGreat
end
section
namespace Go.Proofs.YteckncopbicmcaaGreat
open Go Go.Esc
theorem B1W {t:List Int}:∀ k,(E9 t k).Nodup
  | 0=>by simp [E9]
  | k + 1=>by
    rw [A3e]
    by_cases c:R7 t k=true
    · rw [if_pos c]
      have hc:=c
      unfold R7 at hc
      rw [Bool.and_eq_true] at hc
      have h0:toX t k ≠ 0:=by simpa using hc.1
      have hn:toX t k ∉ E9 t k:=by
        have:=B8D h0
        rw [hc.2] at this
        simpa using this
      rw [List.nodup_append]
      refine ⟨B1W k,by simp,?_⟩
      intro a ha b hb e
      simp at hb
      subst hb;subst e
      exact hn ha
    · rw [if_neg c,List.append_nil];exact B1W k
theorem C7P {D:Dev} {n k:Int} {d:List Int}:(E4 D n k d).Nodup:=by
  unfold E4
  cases M3 D n k d with
  | false=>simp
  | true=>exact (B1W _).filter _
theorem B3s {b:List UInt8}:∀ e k,(J4 b e k).Pairwise fun x y=>x.1 < y.1
  | 0,k=>by simp [J4]
  | e + 1,k=>by
    cases hr:I3 b k with
    | none=>rw [A5J hr];exact B3s e (k + 1)
    | some x =>
      rw [A5K hr]
      refine List.pairwise_cons.2 ⟨fun y hy=>?_,B3s e (k + 1)⟩
      have:=A8W hy
      show k < y.1
      omega
theorem C8S {D:Dev} {n k:Int} {d:List Int}:(E2 D n k d).Pairwise fun x y=>(x.1.1,x.1.2.1) ≠ (y.1.1,y.1.2.1):=by
  unfold E2 R6
  rw [List.pairwise_flatMap]
  refine ⟨fun b _=>?_,(C7P (D:=D) (n:=n) (k:=k) (d:=d)).imp fun {a b} hab=>?_⟩
  · unfold P4
    rw [List.pairwise_map]
    refine (B3s 7 0).imp fun {x y} hxy=>?_
    intro e
    have:=congrArg Prod.snd e
    dsimp only at this
    omega
  · intro x hx y hy e
    unfold P4 at hx hy
    rw [List.mem_map] at hx hy
    obtain ⟨x',_,rfl⟩:=hx
    obtain ⟨y',_,rfl⟩:=hy
    exact hab (congrArg Prod.fst e)
theorem B9W {D:Dev} {n k:Int} {d:List Int}:(G7 D n k d (E2 D n k d)).Nodup:=by
  unfold G7
  rw [List.Nodup,List.pairwise_map]
  refine ((C8S (D:=D) (n:=n) (k:=k) (d:=d)).filter _).imp_of_mem fun {x y} hx hy hxy e=>?_
  have h1:=of_decide_eq_true (List.mem_filter.1 hx).2
  have h2:=of_decide_eq_true (List.mem_filter.1 hy).2
  rw [e,h2] at h1
  have:=Option.some.inj h1
  exact hxy (by rw [this])
theorem D3F (l:F5):(I6 l).Nodup:=(C1J l).imp fun {a b} h e=>by
  subst e;rw [A0S] at h;cases h
theorem D3E {l:F5} (hl:l.Nodup):(I6 l).length=l.length:=by
  have:=(List.perm_ext_iff_of_nodup (D3F l) hl).2 (A9y l)
  exact this.length_eq
theorem D12 {D:Dev} {n k:Int} {d:List Int} (l:List Tld):(G7 D n k d l).length + (N7 D n k d l).length=l.length:=by
  unfold G7 N7
  rw [List.length_map,List.length_map]
  induction l with
  | nil=>rfl
  | cons t l ih =>
    by_cases c:isL D n k d t=true
    · rw [List.filter_cons_of_pos c,List.filter_cons_of_neg (by simp [c])];simp;omega
    · rw [List.filter_cons_of_neg c,List.filter_cons_of_pos (by simp [c])];simp;omega
theorem D0Z {D:Dev} {n k:Int} {d:List Int}:(N5 D n k d).length + (N7 D n k d (E2 D n k d)).length=(E2 D n k d).length:=by
  rw [← D12 (D:=D) (n:=n) (k:=k) (d:=d) (E2 D n k d)]
  unfold N5
  rw [List.length_map,D3E B9W]
def A1q (D:Dev) (L:List Int):List Nat:=L.map fun no=>(H0 (blk D no)).length
theorem D00 {D:Dev} {n k:Int} {d:List Int}:A5L D n k d=(A1q D (E4 D n k d)).map fun (x:Nat)=>(x:Int):=by
  simp [A5L,A1q]
end Go.Proofs.YteckncopbicmcaaGreat
end
section
namespace Go.Proofs.YteckncopbicmcaaGreat
open Go Go.Esc
def D9 (D:Dev) (n k:Int) (d:List Int) (st:Bool) (l:List Tld):List Tld:=l.filter fun t=>isL D n k d t != st
theorem B36 {D:Dev} {n k:Int} {d:List Int} {st:Bool} {l:List Tld} {t:Tld}:D9 D n k d st (l ++ [t])=D9 D n k d st l ++ (if (isL D n k d t != st)=true then [t] else []):=by
  unfold D9
  rw [List.filter_append,List.filter_cons,List.filter_nil]
theorem C1t {D:Dev} {n k:Int} {d:List Int} {st:Bool} {l:List Tld}:(D9 D n k d st l).length ≤ l.length:=List.length_filter_le _ _
theorem D0I {D:Dev} {n k:Int} {d:List Int} {no:Int} {kk:Nat} {s:List UInt8} {i:Int} (hok:M3 D n k d=true) (hdat:K0 D.length n no=true) (hr:I3 (blk D no) kk=some (s,i)) :
    isL D n k d ((no,kk,i),s)=(decide (V4 (J3 D n k d) s=no) && decide ((J2 (blk D no) s).map (·.1)=some kk)):=by
  apply Bool.eq_iff_iff.2
  unfold isL
  rw [decide_eq_true_eq,Bool.and_eq_true,decide_eq_true_eq,decide_eq_true_eq]
  unfold Y3
  constructor
  · intro h
    split at h
    · rw [Option.map_eq_some_iff] at h
      obtain ⟨x,hx,he⟩:=h
      simp only [Prod.mk.injEq] at he
      obtain ⟨e1,e2,e3⟩:=he
      refine ⟨e1,?_⟩
      rw [← e1,hx,← e2];rfl
    · cases h
  · rintro ⟨h1,h2⟩
    rw [h1,if_pos ⟨hok,hdat⟩]
    rw [Option.map_eq_some_iff] at h2 ⊢
    obtain ⟨x,hx,he⟩:=h2
    refine ⟨x,hx,?_⟩
    obtain ⟨_,f2,_⟩:=C9T hx
    rw [he,hr] at f2
    have f3:=Option.some.inj f2
    rw [he,← f3]
section
variable {v:Val} {D:Dev} {n m k l0 s0 p0:Int} {d:List Int} {g:A0} {st:Bool} {sid xid q:Nat} {x0:Int} {t0:List Int}
structure EntP (D:Dev) (n k:Int) (d:List Int) (st:Bool) (X L:List Int) (g:A0) (sid xid id1 id2:Nat) (l:List Tld) (h:A0):Prop where
  low:Low g.length g h
  rs:rd h sid=some ⟨encI L,true⟩
  rx:rd h xid=some ⟨encI X,true⟩
  r1:rd h id1=some ⟨G8 ((D9 D n k d st l).map (·.1)),true⟩
  r2:rd h id2=some ⟨encS ((D9 D n k d st l).map (·.2)),true⟩
  b1:g.length ≤ id1
  b2:g.length ≤ id2
  ne:id1 ≠ id2
  s1:sid ≠ id1
  s2:sid ≠ id2
  x1:xid ≠ id1
  x2:xid ≠ id2
theorem EntP.more {X L:List Int} {h:A0} {id1 id2:Nat} {l:List Tld} (P:EntP D n k d st X L g sid xid id1 id2 l h) (t:A0):EntP D n k d st X L g sid xid id1 id2 l (h ++ t) :=
  { P with low:=P.low.new _,rs:=C3 P.rs,rx:=C3 P.rx,r1:=C3 P.r1,r2:=C3 P.r2 }
theorem EntP.skip {X L:List Int} {h:A0} {id1 id2:Nat} {l:List Tld} {t:Tld} (P:EntP D n k d st X L g sid xid id1 id2 l h) (hn:(isL D n k d t != st)=false):EntP D n k d st X L g sid xid id1 id2 (l ++ [t]) h:=by
  have e:D9 D n k d st (l ++ [t])=D9 D n k d st l:=by rw [B36,if_neg (by rw [hn];simp),List.append_nil]
  exact { P with r1:=by rw [e];exact P.r1,r2:=by rw [e];exact P.r2 }
theorem EntP.push {X L:List Int} {h:A0} {id1 id2:Nat} {l:List Tld} {t:Tld} (P:EntP D n k d st X L g sid xid id1 id2 l h) (hn:(isL D n k d t != st)=true) (hl:l.length ≤ 100000) :
    ∃ h1 h2,E7 (h ++ [some ⟨F1 (some t.1),true⟩]) 3 (.c (.sl id1 0 (D9 D n k d st l).length 3)) (.c (.sl h.length 0 1 3))=some (.c (.sl (h.length + 1) 0 (D9 D n k d st (l ++ [t])).length 3),h1) ∧
      E7 (h1 ++ [some ⟨[.s t.2],true⟩]) 1 (.c (.sl id2 0 (D9 D n k d st l).length 1)) (.c (.sl h1.length 0 1 1))=some (.c (.sl (h1.length + 1) 0 (D9 D n k d st (l ++ [t])).length 1),h2) ∧
      EntP D n k d st X L g sid xid (h.length + 1) (h1.length + 1) (l ++ [t]) h2 ∧ (∀ j r,j ≠ id1 → rd h j=some r → rd h1 j=some r):=by
  have e:D9 D n k d st (l ++ [t])=D9 D n k d st l ++ [t]:=by rw [B36,if_pos hn]
  have hs:=C1t (D:=D) (n:=n) (k:=k) (d:=d) (st:=st) (l:=l)
  have el:(D9 D n k d st (l ++ [t])).length=(D9 D n k d st l).length + 1:=by rw [e];simp
  obtain ⟨h1,a1,a2,a3,a4⟩:=A2L (n:=(D9 D n k d st l).length) (sz:=3) (ys:=F1 (some t.1)) P.r1 (by rw [C0D];simp) rfl (by omega) (by omega)
  have hl1:=D0 P.r1
  have hl2:=D0 P.r2
  have hls:=D0 P.rs
  have hlx:=D0 P.rx
  have r2':=a3 id2 _ (Ne.symm P.ne) P.r2
  have hlt1:=D0 a2
  obtain ⟨h2,c1,c2,c3,c4⟩:=A2L (n:=(D9 D n k d st l).length) (sz:=1) (ys:=[Cell.s t.2]) r2' (by simp [encS]) rfl (by omega) (by omega)
  have glow:=P.low.2.1
  have gl1:=(a4 g.length P.b1 (by omega))
  have gl2:=(c4 g.length P.b2 (by have:=gl1.2.1;omega))
  refine ⟨h1,h2,by rw [el];exact a1,by rw [el];exact c1,⟨(P.low.trans gl1).trans gl2,c3 _ _ P.s2 (a3 _ _ P.s1 P.rs),c3 _ _ P.x2 (a3 _ _ P.x1 P.rx),?_,?_,by omega,by have:=gl1.2.1;omega,by omega,by omega,by omega,by omega,by omega⟩,a3⟩
  · rw [e,List.map_append,List.map_cons,List.map_nil,C0E]
    exact c3 _ _ (by omega) a2
  · rw [e,List.map_append,List.map_cons,List.map_nil]
    have:encS ((D9 D n k d st l).map (·.2) ++ [t.2])=encS ((D9 D n k d st l).map (·.2)) ++ [.s t.2]:=by simp [encS]
    rw [this];exact c2
theorem A77 (hv:Has g v 256 D.length (C6 D)) (hD:okD D) (hok:M3 D n k d=true) (hX:J3 D n k d=x0 :: t0) (ht0:t0.length=32) {L:List Int} (hL:L.length ≤ 32) {i:Nat} (hil:i < L.length) (hdat:K0 D.length n L[i]=true) :
    ∀ (e kk M2 id1 id2:Nat) (M:Nat) (h:A0) (l:List Tld),kk + e=7 → e < M2 → l.length ≤ 90000 + kk → EntP D n k d st (x0 :: t0) L g sid xid id1 id2 l h →
      ∃ h' id1' id2',A8t q M M2 v (.c (.b st)) (.c (.sl id1 0 (D9 D n k d st l).length 3)) (.c (.sl id2 0 (D9 D n k d st l).length 1)) (.c (.p xid 0)) (.c (.sl sid 0 L.length 1)) (.c (.i .i64 (i:Int))) (.c (.i .i64 (kk:Int))) h =
        A3o q M v (.c (.b st)) (.c (.sl id1' 0 (D9 D n k d st (l ++ P4 L[i] (J4 (blk D L[i]) e kk))).length 3)) (.c (.sl id2' 0 (D9 D n k d st (l ++ P4 L[i] (J4 (blk D L[i]) e kk))).length 1)) (.c (.p xid 0)) (.c (.sl sid 0 L.length 1)) (.c (.i .i64 ((i + 1:Nat):Int))) h' ∧
        EntP D n k d st (x0 :: t0) L g sid xid id1' id2' (l ++ P4 L[i] (J4 (blk D L[i]) e kk)) h'
  | e,kk,0,id1,id2,M,h,l,_,hm,_,_=>by omega
  | 0,kk,M2 + 1,id1,id2,M,h,l,hk,hm,hl,P=>by
    have e0:kk=7:=by omega
    subst e0
    have c0:¬ ((7:Nat):Int) < 7:=by omega
    have w1:IntKind.wrap .i64 ((i:Int) + 1)=((i + 1:Nat):Int):=E6 (show i + 1 < 9223372036854775808 by omega)
    have e1:l ++ P4 L[i] (J4 (blk D L[i]) 0 7)=l:=by simp [J4,P4]
    rw [e1]
    refine ⟨h,id1,id2,?_,P⟩
    rw [B2S]
    simp only [F2,I4,c0,decide_false,K6,O0,w1]
  | e + 1,kk,M2 + 1,id1,id2,M,h,l,hk,hm,hl,P=>by
    have c0:(kk:Int) < 7:=by omega
    have w1:=E6 (show kk + 1 < 9223372036854775808 by omega)
    have ad:B9 1 (.c (.sl sid 0 L.length 1)) (.c (.i .i64 (i:Int)))=some (.c (.p sid i)):=by rw [G6 hil];simp
    have l1:∀ h',rd h' sid=some ⟨encI L,true⟩ → A5 h' (.c (.p sid i))=some (.c (.i .i64 L[i])):=fun h' hr=>H4 hr (by rw [Q9,List.getElem?_eq_getElem hil];rfl) rfl
    have hBk:∀ h',Has h' v 256 D.length (C6 D) → ∃ u,X3 [v,.c (.i .i64 L[i])] h'=some (u,h') ∧ Has h' u 1 256 (A1 (blk D L[i])):=by
      intro h' hv'
      obtain ⟨j,hj,hjl⟩:=B2h hdat
      rw [hj,A7J hjl]
      exact B3V hv' hD hjl
    have hbl:=A1a hD (i:=L[i])
    obtain ⟨u,b1,b2⟩:=hBk h (hv.since P.low)
    have hRd:=B3U b2 hbl (show kk < 7 by omega)
    have l10:=l1 h P.rs
    cases hr:I3 (blk D L[i]) kk with
    | none =>
      rw [hr] at hRd
      have s2:B6 (h ++ [some (Row.mk [Cell.s [],.i .i64 0] true)]) 2 (.c (.p h.length 0)) (.a (F0 none))=some (h ++ [some ⟨F0 none,true⟩]):=by rw [T4];rfl
      obtain ⟨h',i1,i2,f1,f2⟩:=A77 hv hD hok hX ht0 hL hil hdat e (kk + 1) M2 id1 id2 M (h ++ [some ⟨F0 none,true⟩]) l (by omega) (by omega) (by omega) (P.more _)
      rw [A5J hr]
      refine ⟨h',i1,i2,?_,f2⟩
      rw [B2S]
      simp only [F2,I4,c0,decide_true,L9,ad,l10,b1,hRd,U8,List.getElem?_cons_zero,List.getElem?_cons_succ,Option.map_some,V7,V6,s2,Option.isSome_none,A09,Bool.not_false,B2P,O0,w1]
      exact f1
    | some en =>
      obtain ⟨s,i'⟩:=en
      rw [hr] at hRd
      have hs24:=A9t hr
      dsimp only at hs24
      obtain ⟨H1,e1⟩:∃ H1,H1=h ++ [some (Row.mk (F0 (some (s,i'))) true)]:=⟨_,rfl⟩
      have n1:H1.length=h.length + 1:=by rw [e1];simp
      have P1:EntP D n k d st (x0 :: t0) L g sid xid id1 id2 l H1:=e1 ▸ P.more _
      have s2:B6 (h ++ [some (Row.mk [Cell.s [],.i .i64 0] true)]) 2 (.c (.p h.length 0)) (.a (F0 (some (s,i'))))=some H1:=by rw [T4,e1];rfl
      have l11:=l1 H1 P1.rs
      have rE:rd H1 h.length=some ⟨F0 (some (s,i')),true⟩:=by rw [e1];simp
      have g1:A5 H1 (.c (.p h.length 1))=some (.c (.i .i64 i')):=H4 rE rfl rfl
      have ef:A8 [Cell.i .i64 0,.i .i64 0,.i .i64 0] [(0,1,.c (.i .i64 L[i])),(1,1,.c (.i .i64 (kk:Int))),(2,1,.c (.i .i64 i'))]=some (F1 (some (L[i],kk,i'))):=rfl
      obtain ⟨H2,e2⟩:∃ H2,H2=H1 ++ [some (Row.mk (F1 (some (L[i],kk,i'))) true)]:=⟨_,rfl⟩
      have n2:H2.length=H1.length + 1:=by rw [e2];simp
      have P2:EntP D n k d st (x0 :: t0) L g sid xid id1 id2 l H2:=e2 ▸ P1.more _
      have s3:B6 (H1 ++ [some (Row.mk [Cell.i .i64 0,.i .i64 0,.i .i64 0] true)]) 3 (.c (.p H1.length 0)) (.a (F1 (some (L[i],kk,i'))))=some H2:=by rw [T4,e2];rfl
      have rE2:rd H2 h.length=some ⟨F0 (some (s,i')),true⟩:=by rw [e2];exact C3 rE
      have g2:A5 H2 (.c (.p h.length 0))=some (.c (.s s)):=H4 rE2 rfl rfl
      have hM:=C0Y (s:=s) (h:=H2) (by omega)
      have hP:=D2j (x:=M5 s) (b:=x0) (h:=H2) A82
      rw [D03 (D0a hX)] at hP
      have eP:M5 s % F3 x0=S0 (x0 :: t0) s:=rfl
      rw [eP] at hP
      have hlt:=B8z (x0 :: t0) s
      have gx0:A5 H2 (.c (.p xid 0))=some (.c (.i .i64 x0)):=H4 P2.rx rfl rfl
      have fa0:∀ q,B7 (.c (.p q 0)) 0=some (.c (.p q 0)):=fun q=>rfl
      have fa1:∀ q,B7 (.c (.p q 0)) 1=some (.c (.p q 1)):=fun q=>rfl
      have adx:D8 32 1 (.c (.p xid 1)) (.c (.i .i64 (S0 (x0 :: t0) s:Nat)))=some (.c (.p xid (1 + S0 (x0 :: t0) s))):=by
        rw [B5a (by omega) (by omega)];simp
      have gxb:A5 H2 (.c (.p xid (1 + S0 (x0 :: t0) s)))=some (.c (.i .i64 (V4 (x0 :: t0) s))):=H4 P2.rx (by
          rw [Q9,Nat.add_comm,List.getElem?_cons_succ,List.getElem?_eq_getElem (by omega)]
          unfold V4
          rw [List.tail_cons,List.getD_eq_getElem?_getD,List.getElem?_eq_getElem (by omega)];rfl) rfl
      have l12:=l1 H2 P2.rs
      obtain ⟨u2,b3,b4⟩:=hBk H2 (hv.since P2.low)
      have hF:=D2q (nm:=s) b4 hbl
      have hiff:=D0I (n:=n) (k:=k) (d:=d) hok hdat hr
      rw [hX] at hiff
      have ePos:decide (A2K ((J2 (blk D L[i]) s).map (·.1))=(kk:Int))=decide ((J2 (blk D L[i]) s).map (·.1)=some kk):=by
        apply Bool.eq_iff_iff.2
        rw [decide_eq_true_eq,decide_eq_true_eq]
        cases (J2 (blk D L[i]) s).map (·.1) with
        | none=>exact ⟨fun h=>by simp only [A2K] at h;omega,fun h=>by cases h⟩
        | some y=>simp only [A2K,Option.some.injEq];omega
      have ast:A0l true (.c (.b (isL D n k d ((L[i],kk,i'),s)))) (.c (.b st))=some (.c (.b (isL D n k d ((L[i],kk,i'),s) != st))):=rfl
      have l3:A3 H2 3 (.c (.p H1.length 0))=some (.a (F1 (some (L[i],kk,i')))):=G5 (by rw [e2];simp) rfl
      have ef2:A8 [Cell.i .i64 0,.i .i64 0,.i .i64 0] [(0,3,.a (F1 (some (L[i],kk,i'))))]=some (F1 (some (L[i],kk,i'))):=rfl
      have ef3:A8 [Cell.s []] [(0,1,.c (.s s))]=some [.s s]:=rfl
      have lst:l ++ P4 L[i] (J4 (blk D L[i]) (e + 1) kk)=(l ++ [((L[i],kk,i'),s)]) ++ P4 L[i] (J4 (blk D L[i]) e (kk + 1)):=by
        rw [A5K hr];simp [P4]
      have rest:∃ h' id1' id2',(bnd (some (.c (.b (isL D n k d ((L[i],kk,i'),s) != st)))) fun v60=>cnd v60 (bnd (A3 H2 3 ((.c (.p H1.length 0)))) fun v61=>bnd (A8 (([.i .i64 0,.i .i64 0,.i .i64 0])) [(0,3,v61)]) fun c62=>bnd (E7 ((H2 ++ [some (Row.mk (c62) true)])) 3 (.c (.sl id1 0 (D9 D n k d st l).length 3)) ((.c (.sl H2.length 0 1 3)))) fun p63=>bnd (B7 ((.c (.p h.length 0))) 0) fun v64=>bnd (A5 p63.2 v64) fun v65=>bnd (A8 ([.s []]) [(0,1,v65)]) fun c66=>bnd (E7 ((p63.2 ++ [some (Row.mk (c66) true)])) 1 (.c (.sl id2 0 (D9 D n k d st l).length 1)) ((.c (.sl p63.2.length 0 1 1)))) fun p67=>A3n q M M2 v (.c (.b st)) p63.1 p67.1 (.c (.p xid 0)) (.c (.sl sid 0 L.length 1)) (.c (.i .i64 (i:Int))) (.c (.i .i64 (kk:Int))) p67.2) (A3n q M M2 v (.c (.b st)) (.c (.sl id1 0 (D9 D n k d st l).length 3)) (.c (.sl id2 0 (D9 D n k d st l).length 1)) (.c (.p xid 0)) (.c (.sl sid 0 L.length 1)) (.c (.i .i64 (i:Int))) (.c (.i .i64 (kk:Int))) H2)) =
          A3o q M v (.c (.b st)) (.c (.sl id1' 0 (D9 D n k d st (l ++ P4 L[i] (J4 (blk D L[i]) (e + 1) kk))).length 3)) (.c (.sl id2' 0 (D9 D n k d st (l ++ P4 L[i] (J4 (blk D L[i]) (e + 1) kk))).length 1)) (.c (.p xid 0)) (.c (.sl sid 0 L.length 1)) (.c (.i .i64 ((i + 1:Nat):Int))) h' ∧
          EntP D n k d st (x0 :: t0) L g sid xid id1' id2' (l ++ P4 L[i] (J4 (blk D L[i]) (e + 1) kk)) h':=by
        rw [lst]
        cases c1:(isL D n k d ((L[i],kk,i'),s) != st) with
        | true =>
          obtain ⟨h3,h4,a1,a2,a3,a4⟩:=P2.push c1 (by omega)
          have hne:h.length ≠ id1:=by have:=D0 P.r1;omega
          have g3:A5 h3 (.c (.p h.length 0))=some (.c (.s s)):=H4 (a4 _ _ hne rE2) rfl rfl
          obtain ⟨h',i1,i2,f1,f2⟩:=A77 hv hD hok hX ht0 hL hil hdat e (kk + 1) M2 _ _ M h4 (l ++ [((L[i],kk,i'),s)]) (by omega) (by omega) (by simp;omega) a3
          refine ⟨h',i1,i2,?_,f2⟩
          simp only [F2,L9,l3,ef2,a1,fa0,g3,ef3,a2,B2P,O0,w1]
          exact f1
        | false =>
          obtain ⟨h',i1,i2,f1,f2⟩:=A77 hv hD hok hX ht0 hL hil hdat e (kk + 1) M2 id1 id2 M H2 (l ++ [((L[i],kk,i'),s)]) (by omega) (by omega) (by simp;omega) (P2.skip c1)
          have es:D9 D n k d st (l ++ [((L[i],kk,i'),s)])=D9 D n k d st l:=by rw [B36,if_neg (by rw [c1];simp),List.append_nil]
          rw [es] at f1
          refine ⟨h',i1,i2,?_,f2⟩
          simp only [F2,K6,B2P,O0,w1]
          exact f1
      obtain ⟨h',i1,i2,f1,f2⟩:=rest
      refine ⟨h',i1,i2,?_,f2⟩
      rw [← f1,B2S]
      by_cases c2:V4 (x0 :: t0) s=L[i]
      · rw [decide_eq_true c2,Bool.true_and,← ePos] at hiff
        rw [← hiff] at ePos
        rw [c2] at gxb
        have el:A2 .eql (.c (.i .i64 (A2K ((J2 (blk D L[i]) s).map (·.1))))) (.c (.i .i64 (kk:Int)))=some (.c (.b (isL D n k d ((L[i],kk,i'),s)))):=by rw [A27,hiff]
        generalize A2K ((J2 (blk D L[i]) s).map (·.1))=pf at *
        generalize S0 (x0 :: t0) s=P0 at *
        simp only [F2,I4,c0,decide_true,L9,ad,l10,b1,hRd,U8,List.getElem?_cons_zero,List.getElem?_cons_succ,Option.map_some,V7,V6,s2,Option.isSome_some,A09,Bool.not_true,K6,l11,fa1,g1,ef,Nat.add_zero,A9v,List.set_cons_zero,s3,fa0,g2,List.append_nil,hM,A9r,gx0,hP,adx,gxb,l12,A27,eq_self,A5z,b3,hF,ast,W5,cond_true]
        rw [hiff] at ast
        simp only [ast,hiff,F2]
      · rw [decide_eq_false c2,Bool.false_and] at hiff
        rw [hiff] at ast
        generalize S0 (x0 :: t0) s=P0 at *
        generalize V4 (x0 :: t0) s=B0 at *
        simp only [F2,I4,c0,decide_true,L9,ad,l10,b1,hRd,U8,List.getElem?_cons_zero,List.getElem?_cons_succ,Option.map_some,V7,V6,s2,Option.isSome_some,A09,Bool.not_true,K6,l11,fa1,g1,ef,Nat.add_zero,A9v,List.set_cons_zero,s3,fa0,g2,List.append_nil,hM,A9r,gx0,hP,adx,gxb,l12,A27,c2,decide_false,B29,A8A,W5,cond_false,ast,hiff]
theorem B62 (hv:Has g v 256 D.length (C6 D)) (hD:okD D) (hX:J3 D n k d=x0 :: t0) (ht0:t0.length=32) {L:List Int} (hL:L.length ≤ 32) (hok:∀ no ∈ L,M3 D n k d=true ∧ K0 D.length n no=true) (hq:8 ≤ q) :
    ∀ (e i M id1 id2:Nat) (h:A0) (l:List Tld),i + e=L.length → e < M → l.length ≤ 7 * i → EntP D n k d st (x0 :: t0) L g sid xid id1 id2 l h →
      ∃ h' id1' id2',A3o q M v (.c (.b st)) (.c (.sl id1 0 (D9 D n k d st l).length 3)) (.c (.sl id2 0 (D9 D n k d st l).length 1)) (.c (.p xid 0)) (.c (.sl sid 0 L.length 1)) (.c (.i .i64 (i:Int))) h =
        some (.t [.c (.sl id1' 0 (D9 D n k d st (l ++ R6 D (L.drop i))).length 3),.c (.sl id2' 0 (D9 D n k d st (l ++ R6 D (L.drop i))).length 1)],h') ∧
        EntP D n k d st (x0 :: t0) L g sid xid id1' id2' (l ++ R6 D (L.drop i)) h'
  | e,i,0,id1,id2,h,l,_,hm,_,_=>by omega
  | 0,i,M + 1,id1,id2,h,l,hi,hm,hl,P=>by
    have e0:i=L.length:=by omega
    subst e0
    have c0:¬ ((L.length:Nat):Int) < (L.length:Nat):=by omega
    have e1:l ++ R6 D (L.drop L.length)=l:=by simp [R6]
    rw [e1]
    refine ⟨h,id1,id2,?_,P⟩
    rw [B73]
    simp only [F2,O2,I4,c0,decide_false,K6]
    rfl
  | e + 1,i,M + 1,id1,id2,h,l,hi,hm,hl,P=>by
    have hil:i < L.length:=by omega
    have c0:(i:Int) < (L.length:Nat):=by omega
    obtain ⟨hk1,hk2⟩:=hok L[i] (List.getElem_mem hil)
    obtain ⟨h1,i1,i2,f1,f2⟩:=A77 hv hD hk1 hX ht0 hL hil hk2 7 0 q id1 id2 M h l (by omega) (by omega) (by omega) P
    have h7:=A8X (blk D L[i])
    have hx:J4 (blk D L[i]) 7 0=H0 (blk D L[i]):=rfl
    rw [hx] at f1 f2
    obtain ⟨h2,j1,j2,f3,f4⟩:=B62 hv hD hX ht0 hL hok hq e (i + 1) M i1 i2 h1 _ (by omega) (by omega) (by simp [P4];omega) f2
    have el:l ++ R6 D (L.drop i)=(l ++ P4 L[i] (H0 (blk D L[i]))) ++ R6 D (L.drop (i + 1)):=by
      rw [List.drop_eq_getElem_cons hil,B1P,List.append_assoc]
    rw [el]
    refine ⟨h2,j1,j2,?_,f4⟩
    rw [B73]
    simp only [F2,O2,I4,c0,decide_true,L9]
    exact f1.trans f3
end
theorem C7Y {h2:A0} {b id1 id2 n1 s1 n2 s2:Nat} {c1 c2:List Cell} (r1:rd h2 id1=some ⟨c1,true⟩) (r2:rd h2 id2=some ⟨c2,true⟩) (f1:F4 c1=true) (f2:F4 c2=true) (hb1:b ≤ id1) (hb2:b ≤ id2) (hne:id1 ≠ id2) :
    L8 h2 b (.t [.c (.sl id1 0 n1 s1),.c (.sl id2 0 n2 s2)])=some (.t [.c (.sl b 0 n1 s1),.c (.sl (b + 1) 0 n2 s2)],[id1,id2]):=by
  have l1:¬ id1 < b:=by omega
  have l2:¬ id2 < b:=by omega
  simp [L8,Q0,J5,Cell.low,Esc.newRow,r1,r2,f1,f2,l1,l2,hb1,hb2,Ne.symm hne]
theorem B35 {D:Dev} {n k:Int} {d:List Int} {l:List Tld}:(D9 D n k d false l).map (·.2)=G7 D n k d l:=by
  unfold D9 G7
  simp
theorem C1u {D:Dev} {n k:Int} {d:List Int} {l:List Tld}:(D9 D n k d true l).map (·.1)=N7 D n k d l:=by
  unfold D9 N7
  congr 1
  apply List.filter_congr
  intro t _
  cases isL D n k d t <;> rfl
theorem B56 {D:Dev} {n k:Int} {d:List Int}:∀ no ∈ E4 D n k d,M3 D n k d=true ∧ K0 D.length n no=true:=by
  intro no h
  unfold E4 at h
  cases c:M3 D n k d with
  | false=>rw [c] at h;cases h
  | true=>rw [c] at h;exact ⟨rfl,(List.mem_filter.1 h).2⟩
theorem C06 {D:Dev} {v:Val} {n m k l s p:Int} {d:List Int} {st:Bool} {h:A0} (hv:Has h v 256 D.length (C6 D)) (hD:okD D) (hd:d.length=7) :
    A15 [v,.a (C2 D.length n m),.a (A4 k l s p d),.c (.b st)] h=some (.t [.c (.sl h.length 0 (D9 D n k d st (E2 D n k d)).length 3),.c (.sl (h.length + 1) 0 (D9 D n k d st (E2 D n k d)).length 1)],h ++ [some ⟨G8 ((D9 D n k d st (E2 D n k d)).map (·.1)),true⟩,some ⟨encS ((D9 D n k d st (E2 D n k d)).map (·.2)),true⟩]):=by
  have key:∀ g,Has g v 256 D.length (C6 D) → ∃ id1 id2 g',A6J 40 [v,.a (C2 D.length n m),.a (A4 k l s p d),.c (.b st)] g=some (.t [.c (.sl id1 0 (D9 D n k d st (E2 D n k d)).length 3),.c (.sl id2 0 (D9 D n k d st (E2 D n k d)).length 1)],g') ∧
      rd g' id1=some ⟨G8 ((D9 D n k d st (E2 D n k d)).map (·.1)),true⟩ ∧ rd g' id2=some ⟨encS ((D9 D n k d st (E2 D n k d)).map (·.2)),true⟩ ∧ g.length ≤ id1 ∧ g.length ≤ id2 ∧ id1 ≠ id2:=by
    intro g hv
    have hIl:(A4 k l s p d).length=11:=by simp [A4,F7,hd]
    have hLl:(C2 D.length n m).length=3:=rfl
    have hz:(encI (0 :: zI 32)).length=33:=J0 (d:=0) M8
    have hX:=A8C D n k d
    obtain ⟨x0,t0,eX,ht0⟩:=B3d D n k d
    have hI:=C05 (n:=n) (m:=m) (k:=k) (l:=l) (s:=s) (p:=p) (d:=d) (h:=g ++ [some (Row.mk (C2 D.length n m) true),some (Row.mk (A4 k l s p d) true),some (Row.mk [] true),some (Row.mk [] true),some (Row.mk [] true),some (Row.mk [] true)]) (hv.more _) hD hd
    have hB:=C04 (n:=n) (m:=m) (k:=k) (l:=l) (s:=s) (p:=p) (d:=d) (h:=g ++ [some (Row.mk (C2 D.length n m) true),some (Row.mk (A4 k l s p d) true),some (Row.mk [] true),some (Row.mk [] true),some (Row.mk [] true),some (Row.mk [] true),some (Row.mk (encI (J3 D n k d)) true)]) (hv.more _) hD hd
    have hbl:=A3f (D:=D) (n:=n) (k:=k) (d:=d)
    obtain ⟨G,hG⟩:∃ G,G=g ++ [some (Row.mk (C2 D.length n m) true),some (Row.mk (A4 k l s p d) true),some (Row.mk [] true),some (Row.mk [] true),some (Row.mk [] true),some (Row.mk [] true),some (Row.mk (encI (J3 D n k d)) true),some (Row.mk (encI (E4 D n k d)) true)]:=⟨_,rfl⟩
    have P0:EntP D n k d st (x0 :: t0) (E4 D n k d) g (g.length + 7) (g.length + 6) (g.length + 4) (g.length + 5) [] G:=by
      refine ⟨by rw [hG];exact (Low.refl (Nat.le_refl _)).new _,by rw [hG];simp,by rw [hG,← eX];simp,by rw [hG];simp [D9,G8],by rw [hG];simp [D9,encS],by omega,by omega,by omega,by omega,by omega,by omega,by omega⟩
    obtain ⟨h',i1,i2,f1,f2⟩:=B62 (q:=40) hv hD eX ht0 hbl B56 (by omega) (E4 D n k d).length 0 40 (g.length + 4) (g.length + 5) G [] (by omega) (by omega) (by simp) P0
    rw [List.drop_zero,List.nil_append] at f1 f2
    have eE:R6 D (E4 D n k d)=E2 D n k d:=rfl
    rw [eE] at f1 f2
    have es:(D9 D n k d st []).length=0:=rfl
    have z0:((0:Nat):Int)=0:=rfl
    rw [es,z0] at f1
    refine ⟨i1,i2,h',?_,f2.r1,f2.r2,f2.b1,f2.b2,f2.ne⟩
    rw [C28,X1]
    rw [hG] at f1
    generalize (D9 D n k d st (E2 D n k d)).length=sl at *
    generalize encI (J3 D n k d)=X at *
    generalize E4 D n k d=Bk at *
    generalize encI (0 :: zI 32)=z at *
    generalize C2 D.length n m=V at *
    generalize A4 k l s p d=I at *
    simp only [esc,Nat.reduceAdd] at hB
    simp only [esc,esh,Nat.reduceAdd,Nat.reduceMul,Nat.reduceLT,hLl,hIl,hI,hz,hX,hB]
    exact f1
  obtain ⟨id1,id2,g',e,r1,r2,b1,b2,ne⟩:=key (ro h) hv.ro
  rw [K4] at b1 b2
  have:=C5v e (C7Y r1 r2 C0C (by simp) b1 b2 ne)
  rw [this]
  simp [r1,r2]
end Go.Proofs.YteckncopbicmcaaGreat
end
section
namespace Go.Proofs.YteckncopbicmcaaGreat
open Go Go.Esc
def M9 (o:F5) (x:List UInt8):Bool:=match o.getLast? with | none=>true | some y=>E8 y x
def M4 (o:F5) (a:Option (List UInt8)) (x:List UInt8):Option (List UInt8) :=
  bif M9 o x then (match a with | none=>some x | some y=>bif E8 x y then some x else some y) else a
def A0r (o:F5) (l:F5) (a:Option (List UInt8)):Option (List UInt8):=l.foldl (M4 o) a
theorem C1K {v:Val} {nv q m id:Nat} {l o:F5} {h:A0} (hv:Has h v 1 nv (encS l)) (hn:l.length=nv) (h62:nv < 1073741824) (hb:∀ x ∈ l,x.length < 9223372036854775807) (hr:rd h id=some ⟨encS o,true⟩) (hol:o.length < 9223372036854775808) (hob:∀ x ∈ o,x.length < 9223372036854775807) :
    ∀ (e i m2:Nat) (a:Option (List UInt8)),i + e=nv → e < m2 →
    A8l q m m2 v (.c (.sl id 0 o.length 1)) (.c (.b a.isSome)) (.c (.s (a.getD []))) (.c (.i .i64 i)) h =
      match A0r o (l.drop i) a with
      | none=>some (.c (.sl id 0 o.length 1),h)
      | some y=>bnd (E7 (h ++ [some (Row.mk [.s y] true)]) 1 (.c (.sl id 0 o.length 1)) (.c (.sl h.length 0 1 1))) fun p=>A5v q m v p.1 p.2
  | e,i,0,a,_,hm=>by omega
  | 0,i,m2 + 1,a,hi,hm=>by
    have e0:i=nv:=by omega
    subst e0
    have c0:¬ (i:Int) < i:=by omega
    rw [B7A,List.drop_of_length_le (by omega)]
    unfold A0r
    rw [List.foldl_nil]
    cases a with
    | none=>simp only [esc,hv.len,c0,Option.isSome_none]
    | some y =>
      have ef:A8 [Cell.s []] [(0,1,.c (.s y))]=some [.s y]:=rfl
      simp only [esc,hv.len,c0,Option.isSome_some,Option.getD_some,ef]
  | e + 1,i,m2 + 1,a,hi,hm=>by
    have ih:=fun a=>C1K (q:=q) (m:=m) hv hn h62 hb hr hol hob e (i + 1) m2 a (by omega) (by omega)
    have c0:(i:Int) < nv:=by omega
    have hlen:=hv.len
    obtain ⟨jd,off,ev,hjd,k1,k2⟩:=hv.sl (by omega)
    have hx:=k1 i (.s l[i]) (by rw [A1h,List.getElem?_eq_getElem (by omega)];rfl)
    have eb:B9 1 v (.c (.i .i64 (i:Int)))=some (.c (.p jd (off + i))):=by rw [ev,G6 (by omega)];simp
    have w1:=E6 (show i + 1 < 9223372036854775808 by omega)
    have hxb:=hb l[i] (List.getElem_mem (by omega))
    have ed:A0r o (l.drop i) a=A0r o (l.drop (i + 1)) (M4 o a l[i]):=by
      unfold A0r
      rw [List.drop_eq_getElem_cons (by omega:i < l.length),List.foldl_cons]
    rw [ed,B7A]
    generalize l[i]=s at *
    rcases Nat.eq_zero_or_pos o.length with h0 | h0
    · have eo:o=[]:=List.eq_nil_of_length_eq_zero h0
      subst eo
      have ea:M9 [] s=true:=rfl
      have c1:¬ (0:Int) < ((0:Nat):Int):=by omega
      cases a with
      | none =>
        have es:M4 [] none s=some s:=rfl
        have ih:=ih (some s)
        rw [es]
        simp only [Option.isSome_some,Option.getD_some,Option.isSome_none,Option.getD_none] at ih ⊢
        simp only [esc,hlen,c0,c1,eb,hx,A2B,w1] at ih ⊢
        exact ih
      | some y =>
        have hL:=fun h=>B3W (s:=s) (t:=y) hxb h
        cases cb:E8 s y with
        | true =>
          have es:M4 [] (some y) s=some s:=by unfold M4;rw [ea,cond_true];simp only;rw [cb,cond_true]
          have ih:=ih (some s)
          rw [cb] at hL
          rw [es]
          simp only [Option.isSome_some,Option.getD_some] at ih ⊢
          simp only [esc,hlen,c0,c1,eb,hx,hL,A2B,w1] at ih ⊢
          exact ih
        | false =>
          have es:M4 [] (some y) s=some y:=by unfold M4;rw [ea,cond_true];simp only;rw [cb,cond_false]
          have ih:=ih (some y)
          rw [cb] at hL
          rw [es]
          simp only [Option.isSome_some,Option.getD_some] at ih ⊢
          simp only [esc,hlen,c0,c1,eb,hx,hL,A2B,w1] at ih ⊢
          exact ih
    · have c1:(0:Int) < (o.length:Nat):=by omega
      have w2:IntKind.wrap .i64 ((o.length:Int) - 1)=((o.length - 1:Nat):Int):=by rw [wrap_i64 (by omega) (by omega)];omega
      have eg:o.getLast? = some o[o.length - 1]:=by rw [List.getLast?_eq_getElem?,List.getElem?_eq_getElem (by omega)]
      have ea2:B9 1 (.c (.sl id 0 o.length 1)) (.c (.i .i64 ((o.length - 1:Nat):Int)))=some (.c (.p id (o.length - 1))):=by rw [G6 (by omega)];simp
      have hy:A5 h (.c (.p id (o.length - 1)))=some (.c (.s o[o.length - 1])):=H4 hr (by rw [A1h,List.getElem?_eq_getElem (by omega)];rfl) rfl
      have hL:=fun h=>B3W (s:=o[o.length - 1]) (t:=s) (hob _ (List.getElem_mem (by omega))) h
      have eab:M9 o s=E8 o[o.length - 1] s:=by unfold M9;rw [eg]
      generalize o[o.length - 1]=z at *
      generalize o.length - 1=k at *
      cases ca:E8 z s with
      | false =>
        rw [ca] at hL eab
        have es:M4 o a s=a:=by unfold M4;rw [eab,cond_false]
        rw [es]
        have ih:=ih a
        simp only [esc,hlen,c0,c1,w2,ea2,hy,eb,hx,hL,A2B,w1] at ih ⊢
        exact ih
      | true =>
        rw [ca] at hL eab
        cases a with
        | none =>
          have es:M4 o none s=some s:=by unfold M4;rw [eab,cond_true]
          have ih:=ih (some s)
          rw [es]
          simp only [Option.isSome_some,Option.getD_some,Option.isSome_none,Option.getD_none] at ih ⊢
          simp only [esc,hlen,c0,c1,w2,ea2,hy,eb,hx,hL,A2B,w1] at ih ⊢
          exact ih
        | some y =>
          have hL2:=fun h=>B3W (s:=s) (t:=y) hxb h
          cases cb:E8 s y with
          | true =>
            have es:M4 o (some y) s=some s:=by unfold M4;rw [eab,cond_true];simp only;rw [cb,cond_true]
            have ih:=ih (some s)
            rw [cb] at hL2
            rw [es]
            simp only [Option.isSome_some,Option.getD_some] at ih ⊢
            simp only [esc,hlen,c0,c1,w2,ea2,hy,eb,hx,hL,hL2,A2B,w1] at ih ⊢
            exact ih
          | false =>
            have es:M4 o (some y) s=some y:=by unfold M4;rw [eab,cond_true];simp only;rw [cb,cond_false]
            have ih:=ih (some y)
            rw [cb] at hL2
            rw [es]
            simp only [Option.isSome_some,Option.getD_some] at ih ⊢
            simp only [esc,hlen,c0,c1,w2,ea2,hy,eb,hx,hL,hL2,A2B,w1] at ih ⊢
            exact ih
theorem A8T (o:F5):∀ (l:F5) (y:List UInt8),∃ z,A0r o l (some y)=some z ∧ (z=y ∨ (z ∈ l ∧ M9 o z=true ∧ E8 z y=true)) ∧ ∀ x ∈ l,M9 o x=true → E8 x z=false
  | [],y=>⟨y,rfl,.inl rfl,by simp⟩
  | x :: l,y=>by
    unfold A0r
    rw [List.foldl_cons]
    cases ca:M9 o x with
    | false =>
      have es:M4 o (some y) x=some y:=by unfold M4;rw [ca,cond_false]
      obtain ⟨z,h1,h2,h3⟩:=A8T o l y
      rw [es]
      refine ⟨z,h1,?_,fun w hw haw=>?_⟩
      · rcases h2 with h2 | ⟨h2,h4⟩
        · exact .inl h2
        · exact .inr ⟨List.mem_cons_of_mem _ h2,h4⟩
      · rcases List.mem_cons.1 hw with e | hw
        · subst e;rw [ca] at haw;cases haw
        · exact h3 w hw haw
    | true =>
      cases cb:E8 x y with
      | true =>
        have es:M4 o (some y) x=some x:=by unfold M4;rw [ca,cond_true];simp only;rw [cb,cond_true]
        obtain ⟨z,h1,h2,h3⟩:=A8T o l x
        rw [es]
        refine ⟨z,h1,.inr ?_,fun w hw haw=>?_⟩
        · rcases h2 with h2 | ⟨h2,h4,h5⟩
          · subst h2;exact ⟨List.mem_cons_self ..,ca,cb⟩
          · exact ⟨List.mem_cons_of_mem _ h2,h4,Z8 h5 cb⟩
        · rcases List.mem_cons.1 hw with e | hw
          · subst e
            rcases h2 with h2 | ⟨_,_,h5⟩
            · subst h2;exact A0S _
            · cases c:E8 w z with
              | false=>rfl
              | true=>have:=Z8 c h5;rw [A0S] at this;cases this
          · exact h3 w hw haw
      | false =>
        have es:M4 o (some y) x=some y:=by unfold M4;rw [ca,cond_true];simp only;rw [cb,cond_false]
        obtain ⟨z,h1,h2,h3⟩:=A8T o l y
        rw [es]
        refine ⟨z,h1,?_,fun w hw haw=>?_⟩
        · rcases h2 with h2 | ⟨h2,h4⟩
          · exact .inl h2
          · exact .inr ⟨List.mem_cons_of_mem _ h2,h4⟩
        · rcases List.mem_cons.1 hw with e | hw
          · subst e
            rcases h2 with h2 | ⟨_,_,h5⟩
            · subst h2;exact cb
            · cases c:E8 w z with
              | false=>rfl
              | true=>have:=Z8 c h5;rw [cb] at this;cases this
          · exact h3 w hw haw
theorem B9q (o:F5):∀ l:F5,(A0r o l none=none ∧ ∀ x ∈ l,M9 o x=false) ∨ ∃ z,A0r o l none=some z ∧ z ∈ l ∧ M9 o z=true ∧ ∀ x ∈ l,M9 o x=true → E8 x z=false
  | []=>.inl ⟨rfl,by simp⟩
  | x :: l=>by
    unfold A0r
    rw [List.foldl_cons]
    cases ca:M9 o x with
    | false =>
      have es:M4 o none x=none:=by unfold M4;rw [ca,cond_false]
      rw [es]
      rcases B9q o l with ⟨h1,h2⟩ | ⟨z,h1,h2,h3,h4⟩
      · exact .inl ⟨h1,fun w hw=>by rcases List.mem_cons.1 hw with e | hw;subst e;exact ca;exact h2 w hw⟩
      · exact .inr ⟨z,h1,List.mem_cons_of_mem _ h2,h3,fun w hw haw=>by
          rcases List.mem_cons.1 hw with e | hw
          · subst e;rw [ca] at haw;cases haw
          · exact h4 w hw haw⟩
    | true =>
      have es:M4 o none x=some x:=by unfold M4;rw [ca,cond_true]
      rw [es]
      obtain ⟨z,h1,h2,h3⟩:=A8T o l x
      refine .inr ⟨z,h1,?_⟩
      rcases h2 with h2 | ⟨h2,h4,h5⟩
      · subst h2
        exact ⟨List.mem_cons_self ..,ca,fun w hw haw=>by
          rcases List.mem_cons.1 hw with e | hw
          · subst e;exact A0S _
          · exact h3 w hw haw⟩
      · exact ⟨List.mem_cons_of_mem _ h2,h4,fun w hw haw=>by
          rcases List.mem_cons.1 hw with e | hw
          · subst e
            cases c:E8 w z with
            | false=>rfl
            | true=>have:=Z8 c h5;rw [A0S] at this;cases this
          · exact h3 w hw haw⟩
def Part (l o:F5):Prop:=Up o ∧ (∀ x ∈ o,x ∈ l) ∧ ∀ x ∈ l,M9 o x=false → x ∈ o
theorem B1G {o:F5} {z x:List UInt8}:M9 (o ++ [z]) x=E8 z x:=by unfold M9;simp
theorem D38 {o:F5} {z x:List UInt8} (ho:Up o) (ha:M9 o z=true) (hx:x ∈ o):E8 x z=true:=by
  unfold M9 at ha
  cases hg:o.getLast? with
  | none=>rw [List.getLast?_eq_none_iff] at hg;subst hg;cases hx
  | some y =>
    rw [hg] at ha
    obtain ⟨ini,rfl⟩:=List.getLast?_eq_some_iff.1 hg
    rcases List.mem_append.1 hx with h | h
    · have:=(List.pairwise_append.1 ho).2.2 x h y (by simp)
      exact Z8 this ha
    · simp at h;subst h;exact ha
theorem D11 {l o:F5} {z:List UInt8} (hp:Part l o) (hz:z ∈ l) (ha:M9 o z=true) (hm:∀ x ∈ l,M9 o x=true → E8 x z=false):Part l (o ++ [z]):=by
  obtain ⟨h1,h2,h3⟩:=hp
  refine ⟨?_,?_,?_⟩
  · show List.Pairwise _ _;rw [List.pairwise_append]
    exact ⟨h1,by simp,fun x hx y hy=>by simp at hy;subst hy;exact D38 h1 ha hx⟩
  · intro x hx
    rcases List.mem_append.1 hx with h | h
    · exact h2 x h
    · simp at h;subst h;exact hz
  · intro x hx hab
    rw [B1G] at hab
    cases c:M9 o x with
    | false=>exact List.mem_append_left _ (h3 x hx c)
    | true =>
      have k:=hm x hx c
      rcases B1V x z with h | h | h
      · rw [h] at k;cases k
      · subst h;simp
      · rw [h] at hab;cases hab
def A3v (l o:F5):Nat:=(l.filter (M9 o)).length
theorem filter_lt {α:Type} {p r:α → Bool}:∀ {l:List α} {z:α},(∀ x ∈ l,p x=true → r x=true) → z ∈ l → p z=false → r z=true → (l.filter p).length < (l.filter r).length
  | [],z,_,hz,_,_=>by cases hz
  | x :: l,z,h,hz,hp,hr=>by
    have hle:∀ {l:List α},(∀ x ∈ l,p x=true → r x=true) → (l.filter p).length ≤ (l.filter r).length:=by
      intro l
      induction l with
      | nil=>intro _;simp
      | cons y l ih =>
        intro h
        have h1:=ih fun x hx=>h x (List.mem_cons_of_mem _ hx)
        have h2:=h y (List.mem_cons_self ..)
        simp only [List.filter_cons]
        cases hy:p y with
        | true=>rw [h2 hy];simpa using h1
        | false=>cases r y <;> simp <;> omega
    have h1:=h x (List.mem_cons_self ..)
    have h':∀ y ∈ l,p y=true → r y=true:=fun y hy=>h y (List.mem_cons_of_mem _ hy)
    rcases List.mem_cons.1 hz with e | hz
    · subst e
      have:=hle h'
      simp only [List.filter_cons,hp,hr,if_true,List.length_cons]
      simp;omega
    · have ih:=filter_lt h' hz hp hr
      simp only [List.filter_cons]
      cases hx:p x with
      | true=>rw [h1 hx];simpa using ih
      | false=>cases r x <;> simp <;> omega
theorem D0T {l o:F5} {z:List UInt8} (hz:z ∈ l) (ha:M9 o z=true):A3v l (o ++ [z]) < A3v l o:=by
  refine filter_lt (z:=z) (fun x hx h=>?_) hz (by rw [B1G,A0S]) ha
  rw [B1G] at h
  unfold M9 at ha ⊢
  cases hg:o.getLast? with
  | none=>rfl
  | some y=>rw [hg] at ha;exact Z8 ha h
theorem C1L {v:Val} {nv q:Nat} {l:F5} {g:A0} (hq:nv < q) (hv:Has g v 1 nv (encS l)) (hn:l.length=nv) (h62:nv < 1073741824) (hb:∀ x ∈ l,x.length < 9223372036854775807) :
    ∀ (f m:Nat) (o:F5) (h:A0) (id:Nat),A3v l o ≤ f → f < m → o.length + A3v l o ≤ nv → Part l o → Low g.length g h → g.length ≤ id → rd h id=some ⟨encS o,true⟩ →
    ∃ v2 h2,A5v q m v (.c (.sl id 0 o.length 1)) h=some (v2,h2) ∧ Out g.length h2 v2 1 (I6 l).length (encS (I6 l))
  | f,0,o,h,id,_,hm,_,_,_,_,_=>by omega
  | f,m + 1,o,h,id,hf,hm,hol,hp,hlow,hid,hr=>by
    have e1:=C1K (q:=q) (m:=m) (hv.since hlow) hn h62 hb hr (by omega) (fun x hx=>hb x (hp.2.1 x hx)) nv 0 q none (by omega) hq
    rw [List.drop_zero] at e1
    rw [C9n]
    simp only [Option.isSome_none,Option.getD_none] at e1
    rw [show (((0:Nat):Int))=0 from rfl] at e1
    rcases B9q o l with ⟨k1,k2⟩ | ⟨z,k1,k2,k3,k4⟩
    · rw [k1] at e1
      have eo:o=I6 l:=D37 hp.1 (C1J l) fun x=>by
        rw [A9y]
        exact ⟨hp.2.1 x,fun hx=>hp.2.2 x hx (k2 x hx)⟩
      rw [← eo]
      exact ⟨_,_,e1,by rw [X9];omega,_,rfl,hid,hr⟩
    · rw [k1] at e1
      have hlt:=D0T k2 k3 (o:=o)
      obtain ⟨h1,a1,a2,a3,a4,a5⟩:=push (ys:=[.s z]) (sz:=1) (n:=o.length) hlow hr (by rw [X9];omega) hid rfl (by omega) (by omega)
      have he:encS o ++ [.s z]=encS (o ++ [z]):=by simp [encS]
      rw [he] at a2
      have el:(o ++ [z]).length=o.length + 1:=by simp
      obtain ⟨v2,h2,f1,f2⟩:=C1L hq hv hn h62 hb (f - 1) m (o ++ [z]) h1 (h.length + 1) (by omega) (by omega) (by omega) (D11 hp k2 k3 k4) a3 a4 a2
      rw [el] at f1
      refine ⟨v2,h2,?_,f2⟩
      rw [e1]
      simp only [a1,F2]
      exact f1
theorem D2k {v:Val} {nv:Nat} {l:F5} {h:A0} (hv:Has h v 1 nv (encS l)) (h62:nv < 1073741824) (hb:∀ x ∈ l,x.length < 9223372036854775807) :
    A4A [v] h=some (.c (.sl h.length 0 (I6 l).length 1),h ++ [some ⟨encS (I6 l),true⟩]):=by
  have hn:l.length=nv:=by simpa [X9] using hv.length
  have key:∀ N,nv < N → ∀ g,Has g v 1 nv (encS l) → ∃ v2 g',A6s N [v] g=some (v2,g') ∧ Out g.length g' v2 1 (I6 l).length (encS (I6 l)):=by
    intro N hN g hv
    have hf:A3v l []=nv:=by
      unfold A3v
      have e:l.filter (M9 [])=l:=List.filter_eq_self.2 fun x _=>rfl
      rw [e,hn]
    obtain ⟨v2,g',f1,f2⟩:=C1L (q:=N) hN hv hn h62 hb nv N [] ((g ++ [some (Row.mk [] true)]) ++ [some (Row.mk [] true)]) (g.length + 1) (by omega) hN (by simp;omega)
      ⟨List.Pairwise.nil,by simp,fun x _ h=>by cases h⟩ (((Low.refl (Nat.le_refl _)).new _).new _) (by omega) (by simp [encS])
    rw [C2M]
    refine ⟨v2,g',?_,f2⟩
    simpa using f1
  obtain ⟨v2,g',e,ho⟩:=key (nv + 1) (by omega) (ro h) hv.ro
  exact C4V e (by simpa [K4] using ho) (by simp)
end Go.Proofs.YteckncopbicmcaaGreat
end
section
namespace Go.Proofs.YteckncopbicmcaaGreat
open Go Go.Esc
def U6 (t:Tld):Ent:=(t.2,t.1.2.2)
section
variable {g:A0} {q pid nid sid:Nat} {T:List Tld} {S:F5}
theorem B3Z (hp:T.length ≤ 1000) {i:Nat} (hil:i < S.length) (hS:S.length ≤ 1000):∀ (e kk M2 id M:Nat) (h:A0) (o:List Ent),kk + e=T.length → e < M2 → o.length ≤ 2000000 + kk → Low g.length g h → g.length ≤ id → id ≠ pid → id ≠ nid → id ≠ sid →
    rd h pid=some ⟨G8 (T.map (·.1)),true⟩ → rd h nid=some ⟨encS (T.map (·.2)),true⟩ → rd h sid=some ⟨encS S,true⟩ → rd h id=some ⟨D5 o,true⟩ →
    ∃ h' id',A8u q M M2 (.c (.sl id 0 o.length 2)) (.c (.sl pid 0 T.length 3)) (.c (.sl nid 0 T.length 1)) (.c (.sl sid 0 S.length 1)) (.c (.i .i64 (i:Int))) (.c (.i .i64 (kk:Int))) h =
      A5x q M (.c (.sl id' 0 (o ++ ((T.drop kk).filter fun t=>decide (t.2=S[i])).map U6).length 2)) (.c (.sl pid 0 T.length 3)) (.c (.sl nid 0 T.length 1)) (.c (.sl sid 0 S.length 1)) (.c (.i .i64 ((i + 1:Nat):Int))) h' ∧
      Low g.length g h' ∧ g.length ≤ id' ∧ id' ≠ pid ∧ id' ≠ nid ∧ id' ≠ sid ∧ rd h' pid=some ⟨G8 (T.map (·.1)),true⟩ ∧ rd h' nid=some ⟨encS (T.map (·.2)),true⟩ ∧ rd h' sid=some ⟨encS S,true⟩ ∧ rd h' id'=some ⟨D5 (o ++ ((T.drop kk).filter fun t=>decide (t.2=S[i])).map U6),true⟩
  | e,kk,0,id,M,h,o,_,hm,_,_,_,_,_,_,_,_,_,_=>by omega
  | 0,kk,M2 + 1,id,M,h,o,hk,hm,ho,hlow,hid,n1,n2,n3,r1,r2,r3,r4=>by
    have e0:kk=T.length:=by omega
    subst e0
    have c0:¬ ((T.length:Nat):Int) < (T.length:Nat):=by omega
    have w1:=E6 (show i + 1 < 9223372036854775808 by omega)
    rw [List.drop_length,List.filter_nil,List.map_nil,List.append_nil]
    refine ⟨h,id,?_,hlow,hid,n1,n2,n3,r1,r2,r3,r4⟩
    rw [B2Y]
    simp only [F2,O2,I4,c0,decide_false,K6,O0,w1]
  | e + 1,kk,M2 + 1,id,M,h,o,hk,hm,ho,hlow,hid,n1,n2,n3,r1,r2,r3,r4=>by
    have hkl:kk < T.length:=by omega
    have c0:(kk:Int) < (T.length:Nat):=by omega
    have w1:=E6 (show kk + 1 < 9223372036854775808 by omega)
    have ad1:B9 1 (.c (.sl nid 0 T.length 1)) (.c (.i .i64 (kk:Int)))=some (.c (.p nid kk)):=by rw [G6 hkl];simp
    have ad2:B9 1 (.c (.sl sid 0 S.length 1)) (.c (.i .i64 (i:Int)))=some (.c (.p sid i)):=by rw [G6 hil];simp
    have ad3:B9 3 (.c (.sl pid 0 T.length 3)) (.c (.i .i64 (kk:Int)))=some (.c (.p pid (kk * 3))):=by rw [G6 hkl];simp
    have g1:A5 h (.c (.p nid kk))=some (.c (.s T[kk].2)):=H4 r2 (by rw [A1h,List.getElem?_map,List.getElem?_eq_getElem hkl];rfl) rfl
    have g2:A5 h (.c (.p sid i))=some (.c (.s S[i])):=H4 r3 (by rw [A1h,List.getElem?_eq_getElem hil];rfl) rfl
    have fa2:∀ o,B7 (.c (.p pid o)) 2=some (.c (.p pid (o + 2))):=fun o=>rfl
    have plc_at:∀ (l:List Plc) (j:Nat) (hj:j < l.length),(G8 l)[j * 3 + 2]? = some (.i .i64 l[j].2.2):=by
      intro l
      induction l with
      | nil=>intro j hj;simp at hj
      | cons x l ih =>
        intro j hj
        have e:G8 (x :: l)=Cell.i .i64 x.1 :: Cell.i .i64 (x.2.1:Int) :: Cell.i .i64 x.2.2 :: G8 l:=rfl
        cases j with
        | zero=>rfl
        | succ j =>
          have:=ih j (by simpa using hj)
          rw [e,show (j + 1) * 3 + 2=j * 3 + 2 + 1 + 1 + 1 by omega,List.getElem?_cons_succ,List.getElem?_cons_succ,List.getElem?_cons_succ]
          simpa using this
    have g3:A5 h (.c (.p pid (kk * 3 + 2)))=some (.c (.i .i64 T[kk].1.2.2)):=H4 r1 (by rw [plc_at _ _ (by simpa using hkl)];simp) rfl
    rw [List.drop_eq_getElem_cons hkl]
    by_cases c1:T[kk].2=S[i]
    · have ef1:A8 [Cell.s [],.i .i64 0] [(0,1,.c (.s T[kk].2)),(1,1,.c (.i .i64 T[kk].1.2.2))]=some (F0 (some (U6 T[kk]))):=rfl
      have ef2:A8 [Cell.s [],.i .i64 0] [(0,2,.a (F0 (some (U6 T[kk]))))]=some (F0 (some (U6 T[kk]))):=rfl
      obtain ⟨h2,a1,a2,a3,a4⟩:=A2L (n:=o.length) (sz:=2) (ys:=F0 (some (U6 T[kk]))) r4 (by rw [A5t]) rfl (by omega) (by omega)
      rw [← C8U] at a2
      have hl1:=D0 r1
      have hl2:=D0 r2
      have hl3:=D0 r3
      have hgl:=hlow.2.1
      have el:(o ++ [U6 T[kk]]).length=o.length + 1:=by simp
      obtain ⟨h',id',f1,f2⟩:=B3Z hp hil hS e (kk + 1) M2 (h.length + 1) M h2 (o ++ [U6 T[kk]]) (by omega) (by omega) (by rw [el];omega) (hlow.trans (a4 _ hid (by omega))) (by omega) (by omega) (by omega) (by omega)
        (a3 _ _ (Ne.symm n1) r1) (a3 _ _ (Ne.symm n2) r2) (a3 _ _ (Ne.symm n3) r3) a2
      rw [List.filter_cons_of_pos (by simpa using c1),List.map_cons]
      have ea:∀ r:List Ent,o ++ U6 T[kk] :: r=(o ++ [U6 T[kk]]) ++ r:=fun r=>by simp
      rw [ea]
      refine ⟨h',id',?_,f2⟩
      rw [B2Y]
      rw [el] at f1
      simp only [F2,O2,I4,c0,decide_true,L9,ad1,g1,ad2,g2,B1D,c1,List.append_nil,ad3,fa2,g3]
      rw [c1] at ef1
      simp only [ef1,ef2,F2,Nat.add_zero,A9v,List.set_cons_zero,a1,B77,O0,w1]
      exact f1
    · obtain ⟨h',id',f1,f2⟩:=B3Z hp hil hS e (kk + 1) M2 id M h o (by omega) (by omega) (by omega) hlow hid n1 n2 n3 r1 r2 r3 r4
      rw [List.filter_cons_of_neg (by simpa using c1)]
      refine ⟨h',id',?_,f2⟩
      rw [B2Y]
      simp only [F2,O2,I4,c0,decide_true,L9,ad1,g1,ad2,g2,B1D,c1,decide_false,K6,List.append_nil,B77,O0,w1]
      exact f1
theorem C1e (hp:T.length ≤ 1000) (hS:S.length ≤ 1000) (hq:T.length < q) (one:∀ s ∈ S,(T.filter fun t=>decide (t.2=s)).length ≤ 1):∀ (e i M id:Nat) (h:A0) (o:List Ent),i + e=S.length → e < M → o.length ≤ i → Low g.length g h → g.length ≤ id → id ≠ pid → id ≠ nid → id ≠ sid →
    rd h pid=some ⟨G8 (T.map (·.1)),true⟩ → rd h nid=some ⟨encS (T.map (·.2)),true⟩ → rd h sid=some ⟨encS S,true⟩ → rd h id=some ⟨D5 o,true⟩ →
    ∃ v' h',A5x q M (.c (.sl id 0 o.length 2)) (.c (.sl pid 0 T.length 3)) (.c (.sl nid 0 T.length 1)) (.c (.sl sid 0 S.length 1)) (.c (.i .i64 (i:Int))) h=some (v',h') ∧
      Out g.length h' v' 2 (o ++ (S.drop i).flatMap fun s=>(T.filter fun t=>decide (t.2=s)).map U6).length (D5 (o ++ (S.drop i).flatMap fun s=>(T.filter fun t=>decide (t.2=s)).map U6))
  | e,i,0,id,h,o,_,hm,_,_,_,_,_,_,_,_,_,_=>by omega
  | 0,i,M + 1,id,h,o,hi,hm,ho,hlow,hid,n1,n2,n3,r1,r2,r3,r4=>by
    have e0:i=S.length:=by omega
    subst e0
    have c0:¬ ((S.length:Nat):Int) < (S.length:Nat):=by omega
    rw [List.drop_length,List.flatMap_nil,List.append_nil,B78]
    exact ⟨_,h,by simp only [F2,O2,I4,c0,decide_false,K6],by rw [A5t],id,rfl,hid,r4⟩
  | e + 1,i,M + 1,id,h,o,hi,hm,ho,hlow,hid,n1,n2,n3,r1,r2,r3,r4=>by
    have hil:i < S.length:=by omega
    have c0:(i:Int) < (S.length:Nat):=by omega
    obtain ⟨h1,id1,f1,f2,f3,f4,f5,f6,f7,f8,f9,f10⟩:=B3Z (g:=g) (q:=q) (pid:=pid) (nid:=nid) (sid:=sid) (T:=T) (S:=S) hp hil hS T.length 0 q id M h o (by omega) hq (by omega) hlow hid n1 n2 n3 r1 r2 r3 r4
    rw [List.drop_zero] at f1 f10
    have h1l:=one S[i] (List.getElem_mem hil)
    obtain ⟨v',h',g1,g2⟩:=C1e hp hS hq one e (i + 1) M id1 h1 _ (by omega) (by omega) (by rw [List.length_append,List.length_map];omega) f2 f3 f4 f5 f6 f7 f8 f9 f10
    rw [List.drop_eq_getElem_cons hil,List.flatMap_cons,← List.append_assoc]
    refine ⟨v',h',?_,g2⟩
    rw [B78]
    simp only [F2,O2,I4,c0,decide_true,L9]
    exact f1.trans g1
end
theorem filter_one {l:List Tld} (hn:(l.map (·.2)).Nodup) {t:Tld} (ht:t ∈ l):(l.filter fun x=>decide (x.2=t.2))=[t]:=by
  induction l with
  | nil=>cases ht
  | cons x l ih =>
    rw [List.map_cons,List.nodup_cons] at hn
    rcases List.mem_cons.1 ht with rfl | ht
    · rw [List.filter_cons_of_pos (by simp)]
      congr 1
      rw [List.filter_eq_nil_iff]
      intro y hy
      have:y.2 ≠ t.2:=fun e=>hn.1 (List.mem_map.2 ⟨y,hy,e⟩)
      simpa using this
    · have:x.2 ≠ t.2:=fun e=>hn.1 (List.mem_map.2 ⟨t,ht,e.symm⟩)
      rw [List.filter_cons_of_neg (by simpa using this)]
      exact ih hn.2 ht
theorem D2D {D:Dev} {n k:Int} {d:List Int}:((I6 (G7 D n k d (E2 D n k d))).flatMap fun s=>((D9 D n k d false (E2 D n k d)).filter fun t=>decide (t.2=s)).map U6)=N5 D n k d ∧ ∀ s ∈ I6 (G7 D n k d (E2 D n k d)),((D9 D n k d false (E2 D n k d)).filter fun t=>decide (t.2=s)).length ≤ 1:=by
  have hn:((D9 D n k d false (E2 D n k d)).map (·.2)).Nodup:=by rw [B35];exact B9W
  have one:∀ s ∈ I6 (G7 D n k d (E2 D n k d)),((D9 D n k d false (E2 D n k d)).filter fun t=>decide (t.2=s)).map U6=[(s,A1n D n k d s)] ∧ ((D9 D n k d false (E2 D n k d)).filter fun t=>decide (t.2=s)).length ≤ 1:=by
    intro s hs
    rw [A9y,← B35] at hs
    obtain ⟨t,ht,rfl⟩:=List.mem_map.1 hs
    rw [filter_one hn ht]
    refine ⟨?_,by simp⟩
    have hl:isL D n k d t=true:=by
      have:=(List.mem_filter.1 ht).2
      simpa using this
    unfold isL at hl
    have:=of_decide_eq_true hl
    simp only [List.map_cons,List.map_nil,U6,A1n,this,Option.getD_some]
  refine ⟨?_,fun s hs=>(one s hs).2⟩
  unfold N5
  generalize I6 (G7 D n k d (E2 D n k d))=S at *
  clear hn
  induction S with
  | nil=>rfl
  | cons s S ih =>
    rw [List.flatMap_cons,List.map_cons,(one s (List.mem_cons_self ..)).1,ih fun x hx=>one x (List.mem_cons_of_mem _ hx)]
    rfl
theorem B6Z {D:Dev} {n k:Int} {d:List Int}:(E2 D n k d).length ≤ 224:=by
  have hbl:=A3f (D:=D) (n:=n) (k:=k) (d:=d)
  have:∀ L:List Int,(R6 D L).length ≤ 7 * L.length:=by
    intro L
    induction L with
    | nil=>simp [R6]
    | cons b L ih =>
      rw [B1P,List.length_append]
      have:=A8X (blk D b)
      simp [P4];omega
  have:=this (E4 D n k d)
  unfold E2
  omega
theorem D2w {D:Dev} {v:Val} {n m k l s p:Int} {d:List Int} {h:A0} (hv:Has h v 256 D.length (C6 D)) (hD:okD D) (hd:d.length=7) :
    A4P [v,.a (C2 D.length n m),.a (A4 k l s p d)] h=some (.c (.sl h.length 0 (N5 D n k d).length 2),h ++ [some ⟨D5 (N5 D n k d),true⟩]):=by
  have key:∀ g,Has g v 256 D.length (C6 D) → ∃ v' g',A6K 1000 [v,.a (C2 D.length n m),.a (A4 k l s p d)] g=some (v',g') ∧ Out g.length g' v' 2 (N5 D n k d).length (D5 (N5 D n k d)):=by
    intro g hv
    have hIl:(A4 k l s p d).length=11:=by simp [A4,F7,hd]
    have hLl:(C2 D.length n m).length=3:=rfl
    have hE:=C06 (n:=n) (m:=m) (k:=k) (l:=l) (s:=s) (p:=p) (d:=d) (st:=false) (h:=g ++ [some (Row.mk (C2 D.length n m) true),some (Row.mk (A4 k l s p d) true),some (Row.mk [] true),some (Row.mk [] true)]) (hv.more _) hD hd
    have h224:=B6Z (D:=D) (n:=n) (k:=k) (d:=d)
    have hsl:=C1t (D:=D) (n:=n) (k:=k) (d:=d) (st:=false) (l:=E2 D n k d)
    obtain ⟨G,hG⟩:∃ G,G=g ++ [some (Row.mk (C2 D.length n m) true),some (Row.mk (A4 k l s p d) true),some (Row.mk [] true),some (Row.mk [] true),some (Row.mk (G8 ((D9 D n k d false (E2 D n k d)).map (·.1))) true),some (Row.mk (encS ((D9 D n k d false (E2 D n k d)).map (·.2))) true)]:=⟨_,rfl⟩
    have lG:G.length=g.length + 6:=by rw [hG];simp
    have hb24:∀ x ∈ (D9 D n k d false (E2 D n k d)).map (·.2),x.length < 9223372036854775807:=by
      intro x hx
      obtain ⟨t,ht,rfl⟩:=List.mem_map.1 hx
      have hm:=(List.mem_filter.1 ht).1
      unfold E2 R6 at hm
      obtain ⟨b,_,hb⟩:=List.mem_flatMap.1 hm
      obtain ⟨y,hy,rfl⟩:=List.mem_map.1 hb
      have:=A9t (B3t hy).1
      dsimp only
      omega
    have hSo:=D2k (v:=.c (.sl (g.length + 5) 0 (D9 D n k d false (E2 D n k d)).length 1)) (nv:=(D9 D n k d false (E2 D n k d)).length) (l:=(D9 D n k d false (E2 D n k d)).map (·.2)) (h:=G) (Has.tr (by rw [hG];simp) (by rw [X9];simp) (B3C _)) (by omega) hb24
    rw [B35,lG] at hSo
    obtain ⟨e1,e2⟩:=D2D (D:=D) (n:=n) (k:=k) (d:=d)
    have hss:=C1I (G7 D n k d (E2 D n k d))
    have hnl:=B3B (D:=D) (n:=n) (k:=k) (d:=d) (s:=E2 D n k d)
    obtain ⟨v',h',f1,f2⟩:=C1e (g:=g) (q:=1000) (pid:=g.length + 4) (nid:=g.length + 5) (sid:=g.length + 6) (T:=D9 D n k d false (E2 D n k d)) (S:=I6 (G7 D n k d (E2 D n k d))) (by omega) (by omega) (by omega) e2 (I6 (G7 D n k d (E2 D n k d))).length 0 1000 (g.length + 3) (G ++ [some (Row.mk (encS (I6 (G7 D n k d (E2 D n k d)))) true)]) [] (by omega) (by omega) (by simp)
      (by rw [hG];exact ((Low.refl (Nat.le_refl _)).new _).new _) (by omega) (by omega) (by omega) (by omega) (C3 (by rw [hG];simp)) (C3 (by rw [hG];simp)) (by rw [← lG];exact N6) (C3 (by rw [hG];simp [D5]))
    rw [List.drop_zero,List.nil_append,e1] at f2
    have z0:((0:Nat):Int)=0:=rfl
    have zl:([]:List Ent).length=0:=rfl
    rw [z0,zl] at f1
    refine ⟨v',h',?_,f2⟩
    rw [C29]
    rw [hG] at hSo f1
    generalize (D9 D n k d false (E2 D n k d)).length=sl at *
    generalize G8 ((D9 D n k d false (E2 D n k d)).map (·.1))=c1 at *
    generalize encS ((D9 D n k d false (E2 D n k d)).map (·.2))=c2 at *
    generalize I6 (G7 D n k d (E2 D n k d))=So at *
    generalize C2 D.length n m=V at *
    generalize A4 k l s p d=I at *
    simp only [esc,Nat.reduceAdd] at hE hSo f1
    simp only [esc,esh,Nat.reduceAdd,Nat.reduceMul,Nat.reduceLT,hLl,hIl,hE,hSo]
    exact f1
  obtain ⟨v',g',e,ho⟩:=key (ro h) hv.ro
  exact C5x e (by simpa [K4] using ho) B60
theorem C1r {q n:Nat} {i1 i2:Nat} {L:List Ent} {h:A0} {b1 b2:Bool} (hn:L.length=n) (h62:n < 100000) (r1:rd h i1=some ⟨D5 L,b1⟩) (r2:rd h i2=some ⟨D5 L,b2⟩):∀ e i M:Nat,i + e=n → e < M →
    A8v q M (.c (.sl i1 0 n 2)) (.c (.sl i2 0 n 2)) (.c (.i .i64 (i:Int))) h=some (.c (.b true),h)
  | e,i,0,_,hm=>by omega
  | 0,i,M + 1,hi,hm=>by
    have e0:i=n:=by omega
    subst e0
    have c0:¬ ((i:Nat):Int) < (i:Nat):=by omega
    rw [B8b]
    simp only [F2,O2,I4,c0,decide_false,K6]
  | e + 1,i,M + 1,hi,hm=>by
    have hil:i < n:=by omega
    have c0:(i:Int) < (n:Nat):=by omega
    have hlen:=A5t (l:=L)
    have ad:∀ id,B9 2 (.c (.sl id 0 n 2)) (.c (.i .i64 (i:Int)))=some (.c (.p id (i * 2))):=fun id=>by rw [G6 hil];simp
    have l1:A3 h 2 (.c (.p i1 (i * 2)))=some (.a (F0 (some L[i]))):=by rw [A1r r1 (by rw [hlen];omega) (by rw [A2z L i (by omega)];cases b1 <;> rfl),A2z L i (by omega)]
    have l2:A3 h 2 (.c (.p i2 (i * 2)))=some (.a (F0 (some L[i]))):=by rw [A1r r2 (by rw [hlen];omega) (by rw [A2z L i (by omega)];cases b2 <;> rfl),A2z L i (by omega)]
    have ea:aeq true [.s,.i .i64] (.a (F0 (some L[i]))) (.a (F0 (some L[i])))=some (.c (.b false)):=by
      simp only [aeq]
      rw [if_pos ⟨rfl,rfl⟩];simp
    have w1:=E6 (show i + 1 < 9223372036854775808 by omega)
    have ih:=C1r (q:=q) hn h62 r1 r2 e (i + 1) M (by omega) (by omega)
    rw [B8b]
    simp only [F2,O2,I4,c0,decide_true,L9,ad,l1,l2,ea,K6,O0,w1,List.append_nil]
    exact ih
theorem D2x {n:Nat} {i1 i2:Nat} {L:List Ent} {h:A0} (hn:L.length=n) (h62:n < 100000) (r1:rd h i1=some ⟨D5 L,true⟩) (r2:rd h i2=some ⟨D5 L,true⟩):A4Q [.c (.sl i1 0 n 2),.c (.sl i2 0 n 2)] h=some (.c (.b true),h):=by
  have e:=C1r (q:=n + 1) hn h62 (h:=ro h) (A3G r1 B61) (A3G r2 B61) n 0 (n + 1) (by omega) (by omega)
  refine C5y (n:=n + 1) (h2:=ro h) ?_ rfl
  rw [C3a]
  have c0:¬ ¬ ((n:Nat):Int)=(n:Nat):=fun h=>h rfl
  simp only [F2,O2,A7x,ne_eq,eq_self,not_true_eq_false,decide_false,K6]
  exact e
end Go.Proofs.YteckncopbicmcaaGreat
end
noncomputable section
namespace Go.Proofs.YteckncopbicmcaaGreat
open Go Go.Esc
set_option maxRecDepth 100000
def B6I:ACode:=.seq [0,5,7,9,11,13,14] (.seq [0,5,7,9,11,13,14,92] (.ops [aO 89 (.mv (.t 14)),aO 90 (.mv (.t 13)),aO 91 (.len (.t 90)),aO 92 (.bin .lss (.t 89) (.t 91))]) (.cond (.t 92) .skip (.exit 0))) (.seq [0,5,7,9,11,13,14] (.block 1 (.seq [0,5,7,9,11,13,14,103] (.draw 0 [aO 95 (.mv (.t 13)),aO 96 (.mv (.t 14)),aO 97 (.iAddrL 3 (.t 95) (.t 96)),aO 98 (.loadN 3 (.t 97)),aO 99 (.mv (.t 11)),aO 100 (.mv (.t 14)),aO 101 (.iAddrL 3 (.t 99) (.t 100)),aO 102 (.loadN 3 (.t 101))] [aO 103 (.eqA true ([.i .i64,.i .i64,.i .i64]) (.t 98) (.t 102))]) (.cond (.t 103) (.seq [4] (.ops [aO 4 (.mv (.v (.c (.b false))))]) .ret) .skip))) (.ops [aO 93 (.mv (.t 14)),aO 94 (.bin .add (.t 93) (.v (.c (.i .i64 1)))),aO 14 (.mv (.t 94))]))
def B6N:ACode:=.ops [aO 119 (.mv (.t 19)),aO 120 (.bin .add (.t 119) (.v (.c (.i .i64 1)))),aO 19 (.mv (.t 120))]
def B2s:ACode:=.seq [0,15,16,17,18,19] (.seq [0,15,16,17,18,19,118] (.ops [aO 117 (.mv (.t 19)),aO 118 (.bin .lss (.t 117) (.v (.c (.i .i64 7))))]) (.cond (.t 118) .skip (.exit 4))) (.seq [0,15,16,17,18,19] (.block 5 (.seq [0,15,16,17,18,19,21] (.ops [aO 122 (.mv (.t 0)),aO 123 (.mv (.t 16)),aO 124 (.mv (.t 17)),aO 125 (.iAddrL 1 (.t 123) (.t 124)),aO 126 (.load1 (.t 125)),aO 127 (.call 33 [(.t 122),(.t 126)]),aO 128 (.mv (.t 19)),aO 129 (.call 32 [(.t 127),(.t 128)]),aO 121 (.mv (.t 129)),aO 130 (.ext (.t 121) 0),aO 131 (.ext (.t 121) 1),aO 20 (.alloc ([.s [],.i .i64 0])),aN (.storeN 2 (.t 20) (.t 130)),aO 21 (.mv (.t 131))]) (.seq [0,15,16,17,18,19,132] (.ops [aO 132 (.mv (.t 21))]) (.cond (.t 132) (.ops [aO 133 (.mv (.t 18)),aO 134 (.bin .add (.t 133) (.v (.c (.i .i64 1)))),aO 18 (.mv (.t 134))]) .skip)))) B6N)
def B6L:ACode:=.seq [0,15,16,17,147] (.ops [aO 135 (.mv (.t 15)),aO 136 (.len (.t 135)),aO 137 (.mv (.t 16)),aO 138 (.len (.t 137)),aO 139 (.bin .neq (.t 136) (.t 138)),aO 140 (.mv (.t 139)),aG 141 140 false (.mv (.t 15)),aG 142 140 false (.mv (.t 17)),aG 143 140 false (.iAddrL 1 (.t 141) (.t 142)),aG 144 140 false (.load1 (.t 143)),aG 145 140 false (.mv (.t 18)),aG 146 140 false (.bin .neq (.t 144) (.t 145)),aO 147 (.pick (.t 140) (.v (.c (.b true))) (.t 146))]) (.cond (.t 147) (.seq [4] (.ops [aO 4 (.mv (.v (.c (.b false))))]) .ret) .skip)
def B6M:ACode:=.ops [aO 115 (.mv (.t 17)),aO 116 (.bin .add (.t 115) (.v (.c (.i .i64 1)))),aO 17 (.mv (.t 116))]
def B2r:ACode:=.seq [0,15,16,17] (.seq [0,15,16,17,114] (.ops [aO 111 (.mv (.t 17)),aO 112 (.mv (.t 16)),aO 113 (.len (.t 112)),aO 114 (.bin .lss (.t 111) (.t 113))]) (.cond (.t 114) .skip (.exit 2))) (.seq [0,15,16,17] (.block 3 (.seq [0,15,16,17,18] (.ops [aO 18 (.mv (.v (.c (.i .i64 0))))]) (.seq [0,15,16,17,18] (.seq [0,15,16,17,18,19] (.ops [aO 19 (.mv (.v (.c (.i .i64 0))))]) (.block 4 (.loop [0,15,16,17,18,19] B2s))) B6L))) B6M)
def B6K:ACode:=.seq [4] (.ops [aO 148 (.mv (.t 15)),aO 149 (.len (.t 148)),aO 150 (.mv (.t 16)),aO 151 (.len (.t 150)),aO 152 (.bin .eql (.t 149) (.t 151)),aO 153 (.mv (.t 152)),aG 154 153 true (.call 15 []),aO 155 (.pick (.t 153) (.t 154) (.v (.c (.b false)))),aO 4 (.mv (.t 155))]) .ret
def B6J:ACode:=.seq [0,7,9,15] (.ops [aO 104 (.loadN 4 (.t 5)),aO 105 (.loadN 11 (.t 9)),aO 106 (.call 30 [(.t 104),(.t 105)]),aO 15 (.mv (.t 106))]) (.seq [0,15,16] (.ops [aO 107 (.mv (.t 0)),aO 108 (.loadN 3 (.t 7)),aO 109 (.loadN 11 (.t 9)),aO 110 (.call 31 [(.t 107),(.t 108),(.t 109)]),aO 16 (.mv (.t 110))]) (.seq [15,16] (.seq [0,15,16,17] (.ops [aO 17 (.mv (.v (.c (.i .i64 0))))]) (.block 2 (.loop [0,15,16,17] B2r))) B6K))
def A_el24_DreadLists:AFn:=⟨.seq [0,1] (.ops [aO 4 (.mv (.v (.c (.b false))))]) (.seq [0,1] (.seq [0,1,24] (.ops [aO 22 (.mv (.t 0)),aO 23 (.len (.t 22)),aO 24 (.bin .gtr (.t 23) (.v (.c (.i .i64 60))))]) (.cond (.t 24) (.seq [4] (.ops [aO 25 (.call 15 []),aO 4 (.mv (.t 25))]) .ret) .skip)) (.seq [0,1,5,6] (.ops [aO 27 (.mv (.t 0)),aO 28 (.call 17 [(.t 27)]),aO 29 (.call 16 [(.t 28)]),aO 26 (.mv (.t 29)),aO 30 (.ext (.t 26) 0),aO 31 (.ext (.t 26) 1),aO 5 (.alloc ([.i .i64 0,.i .i64 0,.i .u64 0,.nf])),aN (.storeN 4 (.t 5) (.t 30)),aO 6 (.mv (.t 31))]) (.seq [0,1,5,6,7,8] (.ops [aO 33 (.mv (.t 0)),aO 34 (.call 18 [(.t 33)]),aO 32 (.mv (.t 34)),aO 35 (.ext (.t 32) 0),aO 36 (.ext (.t 32) 1),aO 7 (.alloc ([.i .i64 0,.i .i64 0,.i .u64 0])),aN (.storeN 3 (.t 7) (.t 35)),aO 8 (.mv (.t 36))]) (.seq [0,1,5,7] (.seq [0,1,5,6,7,8,42] (.ops [aO 37 (.mv (.t 8)),aO 38 (.un .not (.t 37)),aO 39 (.mv (.t 38)),aG 40 39 false (.mv (.t 6)),aG 41 39 false (.bin .neq (.t 40) (.v (.c (.i .i64 0)))),aO 42 (.pick (.t 39) (.v (.c (.b true))) (.t 41))]) (.cond (.t 42) (.seq [4] (.ops [aO 43 (.mv (.t 8)),aO 44 (.mv (.t 6)),aO 45 (.bin .eql (.t 44) (.v (.c (.i .i64 0)))),aO 46 (.eqB false (.t 43) (.t 45)),aO 47 (.mv (.t 46)),aG 48 47 true (.call 15 []),aO 49 (.pick (.t 47) (.t 48) (.v (.c (.b false)))),aO 4 (.mv (.t 49))]) .ret) .skip)) (.seq [0,5,7,9] (.ops [aO 50 (.loadN 4 (.t 5)),aO 51 (.mv (.t 1)),aO 52 (.call 19 [(.t 50),(.t 51)]),aO 9 (.alloc ([.i .i64 0,.i .i64 0,.i .i64 0,.i .i64 0,.i .i64 0,.i .i64 0,.i .i64 0,.i .i64 0,.i .i64 0,.i .i64 0,.i .i64 0])),aN (.storeN 11 (.t 9) (.t 52))]) (.seq [0,5,7,9,10] (.ops [aO 53 (.mv (.t 0)),aO 54 (.loadN 3 (.t 7)),aO 55 (.loadN 11 (.t 9)),aO 56 (.call 24 [(.t 53),(.t 54),(.t 55)]),aO 10 (.mv (.t 56))]) (.seq [0,5,7,9,10,11] (.ops [aO 58 (.mv (.t 0)),aO 59 (.loadN 3 (.t 7)),aO 60 (.loadN 11 (.t 9)),aO 61 (.call 25 [(.t 58),(.t 59),(.t 60),(.v (.c (.b true)))]),aO 57 (.mv (.t 61)),aO 62 (.ext (.t 57) 0),aO 63 (.ext (.t 57) 1),aO 11 (.mv (.t 62)),aO 12 (.mv (.t 63))]) (.seq [0,5,7,9,10,11,13] (.ops [aO 64 (.loadN 4 (.t 5)),aO 65 (.loadN 11 (.t 9)),aO 66 (.call 26 [(.t 64),(.t 65)]),aO 13 (.mv (.t 66))]) (.seq [0,5,7,9,11,13] (.seq [0,5,7,9,11,13,88] (.ops [aO 67 (.mv (.t 13)),aO 68 (.len (.t 67)),aO 69 (.mv (.t 11)),aO 70 (.len (.t 69)),aO 71 (.bin .neq (.t 68) (.t 70)),aO 72 (.mv (.t 71)),aG 73 72 false (.loadN 4 (.t 5)),aG 74 72 false (.loadN 11 (.t 9)),aG 75 72 false (.call 28 [(.t 73),(.t 74)]),aG 76 72 false (.mv (.t 10)),aG 77 72 false (.call 27 [(.t 75),(.t 76)]),aG 78 72 false (.un .not (.t 77)),aO 79 (.pick (.t 72) (.v (.c (.b true))) (.t 78)),aO 80 (.mv (.t 79)),aG 81 80 false (.loadN 4 (.t 5)),aG 82 80 false (.loadN 11 (.t 9)),aG 83 80 false (.call 29 [(.t 81),(.t 82)]),aG 84 80 false (.mv (.t 10)),aG 85 80 false (.len (.t 84)),aG 86 80 false (.bin .eql (.t 85) (.v (.c (.i .i64 0)))),aG 87 80 false (.eqB true (.t 83) (.t 86)),aO 88 (.pick (.t 80) (.v (.c (.b true))) (.t 87))]) (.cond (.t 88) (.seq [4] (.ops [aO 4 (.mv (.v (.c (.b false))))]) .ret) .skip)) (.seq [0,5,7,9] (.seq [0,5,7,9,11,13,14] (.ops [aO 14 (.mv (.v (.c (.i .i64 0))))]) (.block 0 (.loop [0,5,7,9,11,13,14] B6I))) B6J)))))))))),[.tmp 4]⟩
def W1:B3:=A7 15 A1V (A7 17 A4w (A7 16 A0k (A7 18 A4O (A7 19 A06 (A7 24 A4P (A7 25 A15 (A7 26 A0G (A7 28 A0E (A7 27 A4Q (A7 29 A1U (A7 30 A4r (A7 31 A13 (A7 33 X3 (A7 32 A0H B8))))))))))))))
def C8G (n:Nat):B4 (Val × A0):=E5 [0,5,7,9] (ax W1 n B6J) A_el24_DreadLists.fin
def C8H (n:Nat):B4 (Val × A0):=D6 0 (C8G n)
def A5r (n m:Nat) (x0 x5 x7 x9 x11 x13 x14:Val) (h:A0):A6:=C8 (ax W1 n B6I) [0,5,7,9,11,13,14] (C8H n) m [(0,x0),(5,x5),(7,x7),(9,x9),(11,x11),(13,x13),(14,x14)] h
def A6o (n:Nat) (args:List Val) (h:A0):A6:=ax W1 n A_el24_DreadLists.code A_el24_DreadLists.fin (params 0 args) h
def C8I (n:Nat):B4 (Val × A0):=E5 [15,16] (ax W1 n B6K) A_el24_DreadLists.fin
def B2u (n:Nat):B4 (Val × A0):=D6 2 (C8I n)
def A5s (n m:Nat) (x0 x15 x16 x17:Val) (h:A0):A6:=C8 (ax W1 n B2r) [0,15,16,17] (B2u n) m [(0,x0),(15,x15),(16,x16),(17,x17)] h
def C8J (n m:Nat):B4 (Val × A0):=R1 [0,15,16,17] (C8 (ax W1 n B2r) [0,15,16,17] (B2u n) m) (B2u n)
def C8K (n m:Nat):B4 (Val × A0):=E5 [0,15,16,17] (ax W1 n B6M) (C8J n m)
def C8L (n m:Nat):B4 (Val × A0):=D6 3 (C8K n m)
def C8M (n m:Nat):B4 (Val × A0):=E5 [0,15,16,17,18] (ax W1 n B6L) (C8L n m)
def B2v (n m:Nat):B4 (Val × A0):=D6 4 (C8M n m)
def A72 (n m m2:Nat) (x0 x15 x16 x17 x18 x19:Val) (h:A0):A6:=C8 (ax W1 n B2s) [0,15,16,17,18,19] (B2v n m) m2 [(0,x0),(15,x15),(16,x16),(17,x17),(18,x18),(19,x19)] h
def C8N (n m m2:Nat):B4 (Val × A0):=R1 [0,15,16,17,18,19] (C8 (ax W1 n B2s) [0,15,16,17,18,19] (B2v n m) m2) (B2v n m)
def B2t (n m m2:Nat) (x0 x15 x16 x17 x18 x19:Val) (h:A0):A6:=hold ((ax W1 n B6N) (C8N n m m2) [(0,x0),(15,x15),(16,x16),(17,x17),(18,x18),(19,x19)] h)
theorem C2y (n:Nat) (a0 a1:Val) (h:A0):A6o n [a0,a1] h=bnd (E3 a0) fun v1=>bnd (A2 .gtr v1 (.c (.i .i64 60))) fun v2=>cnd v2 (bnd (A1V [] h) fun p3=>some (p3.1,p3.2)) (bnd (A4w [a0] h) fun p4=>bnd (A0k [p4.1] p4.2) fun p5=>bnd (C5 p5.1 0) fun v6=>bnd (C5 p5.1 1) fun v7=>bnd (B6 (p5.2 ++ [some (Row.mk ([.i .i64 0,.i .i64 0,.i .u64 0,.nf]) true)]) 4 (.c (.p p5.2.length 0)) v6) fun h8=>bnd (A4O [a0] h8) fun p9=>bnd (C5 p9.1 0) fun v10=>bnd (C5 p9.1 1) fun v11=>bnd (B6 (p9.2 ++ [some (Row.mk ([.i .i64 0,.i .i64 0,.i .u64 0]) true)]) 3 (.c (.p p9.2.length 0)) v10) fun h12=>bnd (aun .not v11) fun v13=>bnd (gd v13 false (some (v7,h12)) (some (.no,h12))) fun p14=>bnd (gd v13 false (bnd (A2 .neq p14.1 (.c (.i .i64 0))) fun v15=>some (v15,p14.2)) (some (.no,p14.2))) fun p16=>bnd (C4 v13 (.c (.b true)) p16.1) fun v17=>cnd v17 (bnd (A2 .eql v7 (.c (.i .i64 0))) fun v18=>bnd (A0l false v11 v18) fun v19=>bnd (gd v19 true (bnd (A1V [] p16.2) fun p20=>some (p20.1,p20.2)) (some (.no,p16.2))) fun p21=>bnd (C4 v19 p21.1 (.c (.b false))) fun v22=>some (v22,p21.2)) (bnd (A3 p16.2 4 (.c (.p p5.2.length 0))) fun v23=>bnd (A06 [v23,a1] p16.2) fun p24=>bnd (B6 (p24.2 ++ [some (Row.mk ([.i .i64 0,.i .i64 0,.i .i64 0,.i .i64 0,.i .i64 0,.i .i64 0,.i .i64 0,.i .i64 0,.i .i64 0,.i .i64 0,.i .i64 0]) true)]) 11 (.c (.p p24.2.length 0)) p24.1) fun h25=>bnd (A3 h25 3 (.c (.p p9.2.length 0))) fun v26=>bnd (A3 h25 11 (.c (.p p24.2.length 0))) fun v27=>bnd (A4P [a0,v26,v27] h25) fun p28=>bnd (A3 p28.2 3 (.c (.p p9.2.length 0))) fun v29=>bnd (A3 p28.2 11 (.c (.p p24.2.length 0))) fun v30=>bnd (A15 [a0,v29,v30,.c (.b true)] p28.2) fun p31=>bnd (C5 p31.1 0) fun v32=>bnd (C5 p31.1 1) fun v33=>bnd (A3 p31.2 4 (.c (.p p5.2.length 0))) fun v34=>bnd (A3 p31.2 11 (.c (.p p24.2.length 0))) fun v35=>bnd (A0G [v34,v35] p31.2) fun p36=>bnd (E3 p36.1) fun v37=>bnd (E3 v32) fun v38=>bnd (A2 .neq v37 v38) fun v39=>bnd (gd v39 false (bnd (A3 p36.2 4 (.c (.p p5.2.length 0))) fun v40=>some (v40,p36.2)) (some (.no,p36.2))) fun p41=>bnd (gd v39 false (bnd (A3 p41.2 11 (.c (.p p24.2.length 0))) fun v42=>some (v42,p41.2)) (some (.no,p41.2))) fun p43=>bnd (gd v39 false (bnd (A0E [p41.1,p43.1] p43.2) fun p44=>some (p44.1,p44.2)) (some (.no,p43.2))) fun p45=>bnd (gd v39 false (some (p28.1,p45.2)) (some (.no,p45.2))) fun p46=>bnd (gd v39 false (bnd (A4Q [p45.1,p46.1] p46.2) fun p47=>some (p47.1,p47.2)) (some (.no,p46.2))) fun p48=>bnd (gd v39 false (bnd (aun .not p48.1) fun v49=>some (v49,p48.2)) (some (.no,p48.2))) fun p50=>bnd (C4 v39 (.c (.b true)) p50.1) fun v51=>bnd (gd v51 false (bnd (A3 p50.2 4 (.c (.p p5.2.length 0))) fun v52=>some (v52,p50.2)) (some (.no,p50.2))) fun p53=>bnd (gd v51 false (bnd (A3 p53.2 11 (.c (.p p24.2.length 0))) fun v54=>some (v54,p53.2)) (some (.no,p53.2))) fun p55=>bnd (gd v51 false (bnd (A1U [p53.1,p55.1] p55.2) fun p56=>some (p56.1,p56.2)) (some (.no,p55.2))) fun p57=>bnd (gd v51 false (some (p28.1,p57.2)) (some (.no,p57.2))) fun p58=>bnd (gd v51 false (bnd (E3 p58.1) fun v59=>some (v59,p58.2)) (some (.no,p58.2))) fun p60=>bnd (gd v51 false (bnd (A2 .eql p60.1 (.c (.i .i64 0))) fun v61=>some (v61,p60.2)) (some (.no,p60.2))) fun p62=>bnd (gd v51 false (bnd (A0l true p57.1 p62.1) fun v63=>some (v63,p62.2)) (some (.no,p62.2))) fun p64=>bnd (C4 v51 (.c (.b true)) p64.1) fun v65=>cnd v65 (some ((.c (.b false)),p64.2)) (A5r n n a0 (.c (.p p5.2.length 0)) (.c (.p p9.2.length 0)) (.c (.p p24.2.length 0)) v32 p36.1 (.c (.i .i64 0)) p64.2))):=by kernel_rfl
theorem B6P (n m:Nat) (x0 x5 x7 x9 x11 x13 x14:Val) (h:A0):A5r n (m + 1) x0 x5 x7 x9 x11 x13 x14 h=bnd (E3 x13) fun v66=>bnd (A2 .lss x14 v66) fun v67=>cnd v67 (bnd (B9 3 x13 x14) fun v68=>bnd (A3 h 3 v68) fun v69=>bnd (B9 3 x11 x14) fun v70=>bnd (A3 h 3 v70) fun v71=>bnd (aeq true ([.i .i64,.i .i64,.i .i64]) v69 v71) fun v72=>cnd v72 (some ((.c (.b false)),(h ++ []))) (bnd (A2 .add x14 (.c (.i .i64 1))) fun v73=>A5r n m x0 x5 x7 x9 x11 x13 v73 (h ++ []))) (bnd (A3 h 4 x5) fun v74=>bnd (A3 h 11 x9) fun v75=>bnd (A4r [v74,v75] h) fun p76=>bnd (A3 p76.2 3 x7) fun v77=>bnd (A3 p76.2 11 x9) fun v78=>bnd (A13 [x0,v77,v78] p76.2) fun p79=>A5s n n x0 p76.1 p79.1 (.c (.i .i64 0)) p79.2):=by kernel_rfl
theorem B6Q (n m:Nat) (x0 x15 x16 x17:Val) (h:A0):A5s n (m + 1) x0 x15 x16 x17 h=bnd (E3 x16) fun v80=>bnd (A2 .lss x17 v80) fun v81=>cnd v81 (A72 n m n x0 x15 x16 x17 (.c (.i .i64 0)) (.c (.i .i64 0)) h) (bnd (E3 x15) fun v82=>bnd (E3 x16) fun v83=>bnd (A2 .eql v82 v83) fun v84=>bnd (gd v84 true (bnd (A1V [] h) fun p85=>some (p85.1,p85.2)) (some (.no,h))) fun p86=>bnd (C4 v84 p86.1 (.c (.b false))) fun v87=>some (v87,p86.2)):=by kernel_rfl
theorem B2w (n m m2:Nat) (x0 x15 x16 x17 x18 x19:Val) (h:A0):A72 n m (m2 + 1) x0 x15 x16 x17 x18 x19 h=bnd (A2 .lss x19 (.c (.i .i64 7))) fun v88=>cnd v88 (bnd (B9 1 x16 x17) fun v89=>bnd (A5 h v89) fun v90=>bnd (X3 [x0,v90] h) fun p91=>bnd (A0H [p91.1,x19] p91.2) fun p92=>bnd (C5 p92.1 0) fun v93=>bnd (C5 p92.1 1) fun v94=>bnd (B6 (p92.2 ++ [some (Row.mk ([.s [],.i .i64 0]) true)]) 2 (.c (.p p92.2.length 0)) v93) fun h95=>cnd v94 (bnd (A2 .add x18 (.c (.i .i64 1))) fun v96=>B2t n m m2 x0 x15 x16 x17 v96 x19 h95) (B2t n m m2 x0 x15 x16 x17 x18 x19 h95)) (bnd (E3 x15) fun v97=>bnd (E3 x16) fun v98=>bnd (A2 .neq v97 v98) fun v99=>bnd (gd v99 false (some (x15,h)) (some (.no,h))) fun p100=>bnd (gd v99 false (some (x17,p100.2)) (some (.no,p100.2))) fun p101=>bnd (gd v99 false (bnd (B9 1 p100.1 p101.1) fun v102=>some (v102,p101.2)) (some (.no,p101.2))) fun p103=>bnd (gd v99 false (bnd (A5 p103.2 p103.1) fun v104=>some (v104,p103.2)) (some (.no,p103.2))) fun p105=>bnd (gd v99 false (some (x18,p105.2)) (some (.no,p105.2))) fun p106=>bnd (gd v99 false (bnd (A2 .neq p105.1 p106.1) fun v107=>some (v107,p106.2)) (some (.no,p106.2))) fun p108=>bnd (C4 v99 (.c (.b true)) p108.1) fun v109=>cnd v109 (some ((.c (.b false)),p108.2)) (bnd (A2 .add x17 (.c (.i .i64 1))) fun v110=>A5s n m x0 x15 x16 v110 p108.2)):=by kernel_rfl
theorem B6O (n m m2:Nat) (x0 x15 x16 x17 x18 x19:Val) (h:A0):B2t n m m2 x0 x15 x16 x17 x18 x19 h=bnd (A2 .add x19 (.c (.i .i64 1))) fun v111=>A72 n m m2 x0 x15 x16 x17 x18 v111 h:=by kernel_rfl
theorem K_el24_DreadLists:FnK Tryz.prog 4 A_el24_DreadLists W1 A6o:=.mk' (A9 C4E (A9 C4x (A9 B4Y (A9 C5r (A9 B40 (A9 C5w (A9 B4M (A9 B4A (A9 B1o (A9 C5z (A9 B4y (A9 C4l (A9 B4K (A9 B1u (A9 B1t C1))))))))))))))) Tryz.func4 (by kernel_rfl) (fun _ _ _=>C0)
def B1q:Fun:=tidy (Lim A_el24_DreadLists W1)
theorem C4A:SOk Tryz.prog 4 B1q:=K_el24_DreadLists.sok
theorem C4z:D1 A6o B1q:=K_el24_DreadLists.flat
end Go.Proofs.YteckncopbicmcaaGreat
end
section
namespace Go.Proofs.YteckncopbicmcaaGreat
open Go Go.Esc
theorem C0F {l:List Plc} {i:Nat} (h:i < l.length):((G8 l).drop (i * 3)).take 3=F1 (some l[i]):=by
  induction l generalizing i with
  | nil=>simp at h
  | cons x l ih =>
    have e:G8 (x :: l)=F1 (some x) ++ G8 l:=rfl
    cases i with
    | zero=>rfl
    | succ i =>
      rw [e,show (i + 1) * 3=3 + i * 3 by omega,← List.drop_drop,List.drop_left' (by rfl)]
      simpa using ih (by simpa using h)
section
variable {v:Val} {D:Dev} {n m:Int} {g:A0} {q lid bid:Nat} {L:List Int}
theorem B2g (hv:Has g v 256 D.length (C6 D)) (hD:okD D) (hL:L.length ≤ 32) (hdat:∀ no ∈ L,K0 D.length n no=true) {i:Nat} (hil:i < L.length) (hlid:lid < g.length) (hbid:bid < g.length) (r1:rd g lid=some ⟨encI ((A1q D L).map fun (x:Nat)=>(x:Int)),true⟩) (r2:rd g bid=some ⟨encI L,true⟩) :
    ∀ (e kk M2 c M:Nat) (h:A0),kk + e=7 → e < M2 → Low g.length g h → c + (J4 (blk D L[i]) e kk).length=(H0 (blk D L[i])).length →
      ∃ h',A72 q M M2 v (.c (.sl lid 0 L.length 1)) (.c (.sl bid 0 L.length 1)) (.c (.i .i64 (i:Int))) (.c (.i .i64 (c:Int))) (.c (.i .i64 (kk:Int))) h =
        A5s q M v (.c (.sl lid 0 L.length 1)) (.c (.sl bid 0 L.length 1)) (.c (.i .i64 ((i + 1:Nat):Int))) h' ∧ Low g.length g h'
  | e,kk,0,c,M,h,_,hm,_,_=>by omega
  | 0,kk,M2 + 1,c,M,h,hk,hm,hlow,hc=>by
    have e0:kk=7:=by omega
    subst e0
    have c0:¬ ((7:Nat):Int) < 7:=by omega
    have w1:=E6 (show i + 1 < 9223372036854775808 by omega)
    have ad:B9 1 (.c (.sl lid 0 L.length 1)) (.c (.i .i64 (i:Int)))=some (.c (.p lid i)):=by rw [G6 hil];simp
    have ec:c=(H0 (blk D L[i])).length:=by simpa [J4] using hc
    have l1:A5 h (.c (.p lid i))=some (.c (.i .i64 (c:Int))):=H4 (hlow.rd r1) (by
      rw [Q9,List.getElem?_map]
      unfold A1q
      rw [List.getElem?_map,List.getElem?_eq_getElem hil,ec];rfl) rfl
    refine ⟨h,?_,hlow⟩
    rw [B2w]
    simp only [F2,I4,c0,decide_false,K6,O2,A7x,ne_eq,eq_self,not_true_eq_false,A3r,ad,l1,W5,cond_false,O0,w1]
  | e + 1,kk,M2 + 1,c,M,h,hk,hm,hlow,hc=>by
    have c0:(kk:Int) < 7:=by omega
    have w1:=E6 (show kk + 1 < 9223372036854775808 by omega)
    have ad:B9 1 (.c (.sl bid 0 L.length 1)) (.c (.i .i64 (i:Int)))=some (.c (.p bid i)):=by rw [G6 hil];simp
    have l1:A5 h (.c (.p bid i))=some (.c (.i .i64 L[i])):=H4 (hlow.rd r2) (by rw [Q9,List.getElem?_eq_getElem hil];rfl) rfl
    obtain ⟨u,b1,b2⟩:∃ u,X3 [v,.c (.i .i64 L[i])] h=some (u,h) ∧ Has h u 1 256 (A1 (blk D L[i])):=by
      obtain ⟨j,hj,hjl⟩:=B2h (hdat L[i] (List.getElem_mem hil))
      rw [hj,A7J hjl]
      exact B3V (hv.since hlow) hD hjl
    have hRd:=B3U b2 (A1a hD) (show kk < 7 by omega)
    have s2:∀ o,B6 (h ++ [some (Row.mk [Cell.s [],.i .i64 0] true)]) 2 (.c (.p h.length 0)) (.a (F0 o))=some (h ++ [some ⟨F0 o,true⟩]):=fun o=>by rw [T4];cases o <;> rfl
    have h7:=A8X (blk D L[i])
    cases hr:I3 (blk D L[i]) kk with
    | none =>
      rw [hr] at hRd
      rw [A5J hr] at hc
      obtain ⟨h',f1,f2⟩:=B2g hv hD hL hdat hil hlid hbid r1 r2 e (kk + 1) M2 c M (h ++ [some ⟨F0 none,true⟩]) (by omega) (by omega) (hlow.new _) hc
      refine ⟨h',?_,f2⟩
      rw [B2w]
      simp only [F2,I4,c0,decide_true,L9,ad,l1,b1,hRd,U8,List.getElem?_cons_zero,List.getElem?_cons_succ,Option.map_some,V7,V6,s2,Option.isSome_none,K6,B6O,O0,w1]
      exact f1
    | some en =>
      rw [hr] at hRd
      rw [A5K hr,List.length_cons] at hc
      have w2:=E6 (show c + 1 < 9223372036854775808 by omega)
      obtain ⟨h',f1,f2⟩:=B2g hv hD hL hdat hil hlid hbid r1 r2 e (kk + 1) M2 (c + 1) M (h ++ [some ⟨F0 (some en),true⟩]) (by omega) (by omega) (hlow.new _) (by omega)
      refine ⟨h',?_,f2⟩
      rw [B2w]
      simp only [F2,I4,c0,decide_true,L9,ad,l1,b1,hRd,U8,List.getElem?_cons_zero,List.getElem?_cons_succ,Option.map_some,V7,V6,s2,Option.isSome_some,B6O,O0,w1,w2]
      exact f1
theorem B5I (hv:Has g v 256 D.length (C6 D)) (hD:okD D) (hL:L.length ≤ 32) (hdat:∀ no ∈ L,K0 D.length n no=true) (hq:8 ≤ q) (hlid:lid < g.length) (hbid:bid < g.length) (r1:rd g lid=some ⟨encI ((A1q D L).map fun (x:Nat)=>(x:Int)),true⟩) (r2:rd g bid=some ⟨encI L,true⟩) :
    ∀ (e i M:Nat) (h:A0),i + e=L.length → e < M → Low g.length g h →
      ∃ h',A5s q M v (.c (.sl lid 0 L.length 1)) (.c (.sl bid 0 L.length 1)) (.c (.i .i64 (i:Int))) h=some (.c (.b true),h')
  | e,i,0,h,_,hm,_=>by omega
  | 0,i,M + 1,h,hi,hm,hlow=>by
    have e0:i=L.length:=by omega
    subst e0
    have c0:¬ ((L.length:Nat):Int) < (L.length:Nat):=by omega
    rw [B6Q]
    exact ⟨h,by simp only [F2,O2,I4,c0,decide_false,K6,A27,eq_self,decide_true,A5z,B4k,W5,cond_true]⟩
  | e + 1,i,M + 1,h,hi,hm,hlow=>by
    have hil:i < L.length:=by omega
    have c0:(i:Int) < (L.length:Nat):=by omega
    obtain ⟨h1,f1,f2⟩:=B2g hv hD hL hdat hil hlid hbid r1 r2 7 0 q 0 M h (by omega) (by omega) hlow (by rw [Nat.zero_add];rfl)
    obtain ⟨h',f3⟩:=B5I hv hD hL hdat hq hlid hbid r1 r2 e (i + 1) M h1 (by omega) (by omega) f2
    rw [B6Q]
    refine ⟨h',?_⟩
    simp only [F2,O2,I4,c0,decide_true,L9]
    exact f1.trans f3
end
theorem C1Q {q M0 pid nid:Nat} {x0 x5 x7 x9 u:Val} {P:List Plc} {h:A0} (h62:P.length < 100000) (r1:rd h pid=some ⟨G8 P,true⟩) (hu:Has h u 3 P.length (G8 P)):∀ e i M:Nat,i + e=P.length → e < M →
    ∃ M',A5r q M x0 x5 x7 x9 (.c (.sl pid 0 P.length 3)) u (.c (.i .i64 (i:Int))) h=A5r q (M' + 1) x0 x5 x7 x9 (.c (.sl pid 0 P.length 3)) u (.c (.i .i64 (P.length:Int))) h
  | e,i,0,_,hm=>by omega
  | 0,i,M + 1,hi,hm=>by
    have e0:i=P.length:=by omega
    subst e0
    exact ⟨M,rfl⟩
  | e + 1,i,M + 1,hi,hm=>by
    have hil:i < P.length:=by omega
    have c0:(i:Int) < (P.length:Nat):=by omega
    have hlen:=hu.len
    have hpl:=C0D (l:=P)
    obtain ⟨id,off,r,rfl,hr,h1,h2,h3,h4⟩:∃ id off r,u=.c (.sl id off P.length 3) ∧ rd h id=some r ∧ (G8 P).length=P.length * 3 ∧ off + P.length * 3 ≤ r.cells.length ∧ (r.cells.drop off).take (P.length * 3)=G8 P ∧ noX (G8 P)=true:=by
      rcases hu with ⟨_,h0,_⟩ | hu
      · omega
      · exact hu
    have ad1:B9 3 (.c (.sl id off P.length 3)) (.c (.i .i64 (i:Int)))=some (.c (.p id (off + i * 3))):=by rw [G6 hil]
    have ad2:B9 3 (.c (.sl pid 0 P.length 3)) (.c (.i .i64 (i:Int)))=some (.c (.p pid (i * 3))):=by rw [G6 hil];simp
    have hsl:(r.cells.drop (off + i * 3)).take 3=F1 (some P[i]):=by
      rw [← C0F hil,← h3,List.drop_take,List.take_take,List.drop_drop]
      congr 1;omega
    have l1:A3 h 3 (.c (.p id (off + i * 3)))=some (.a (F1 (some P[i]))):=by
      simp only [A3,hr,Option.bind_some,hsl]
      rw [if_pos ⟨by omega,by simp [noX,F1,Cell.isX]⟩]
    have l2:A3 h 3 (.c (.p pid (i * 3)))=some (.a (F1 (some P[i]))):=by rw [A1r r1 (by rw [hpl];omega) rfl,C0F hil]
    have ea:=A5R (neg:=true) P[i] P[i]
    rw [decide_eq_true rfl] at ea
    have w1:=E6 (show i + 1 < 9223372036854775808 by omega)
    obtain ⟨M',f1⟩:=C1Q (q:=q) (M0:=M0) (nid:=nid) (x0:=x0) (x5:=x5) (x7:=x7) (x9:=x9) h62 r1 (.inr ⟨id,off,r,rfl,hr,h1,h2,h3,h4⟩) e (i + 1) M (by omega) (by omega)
    refine ⟨M',?_⟩
    rw [B6P]
    simp only [F2,O2,I4,c0,decide_true,L9,ad1,l1,ad2,l2,ea,cond_true,Bool.not_true,K6,O0,w1,List.append_nil]
    exact f1
theorem C8k {v:Val} {D:Dev} {ino:Int} {h:A0} (hv:Has h v 256 D.length (C6 D)) (hD:okD D):B1q [v,.c (.i .i64 ino)] h=some (.c (.b true),h):=by
  have key:∀ g,Has g v 256 D.length (C6 D) → ∃ g',A6o 300 [v,.c (.i .i64 ino)] g=some (.c (.b true),g'):=by
    intro g hv
    have hl:=hv.len
    have n13:¬ (13:Int)=0:=by decide
    rw [C2y]
    by_cases c0:(60:Int) < (D.length:Nat)
    · exact ⟨_,by simp only [esc,hl,c0,B4k] <;> rfl⟩
    · have hT:=D33 hv hD (by omega)
      have hH:Has (g ++ [some ⟨C6 D,true⟩]) (.c (.sl g.length 0 D.length 256)) 256 D.length (C6 D):=Has.tr (by simp) (X7 hD) (A5O D)
      have z3:[Cell.i .i64 0,.i .i64 0,.i .u64 0].length=3:=rfl
      cases cd:T5 D with
      | false =>
        obtain ⟨t,hO⟩:=D4b hH hD cd
        obtain ⟨H,hHe⟩:∃ H,H=g ++ [some (Row.mk (C6 D) true)] ++ t:=⟨_,rfl⟩
        have hvH:Has H v 256 D.length (C6 D):=by rw [hHe];exact (hv.more _).more _
        rw [← hHe] at hO
        have hS5:B6 (H ++ [some (Row.mk [.i .i64 0,.i .i64 0,.i .u64 0,.nf] true)]) 4 (.c (.p H.length 0)) (.a (vwC 0 0 0 .nf))=some (H ++ [some (Row.mk (vwC 0 0 0 .nf) true)]):=by rw [T4];rfl
        have hLy:=C03 (h:=H ++ [some (Row.mk (vwC 0 0 0 .nf) true)]) (hvH.more _) hD
        rw [cd,cond_false] at hLy
        have hLl:(C2 0 0 0).length=3:=rfl
        generalize vwC 0 0 0 .nf=V at *
        generalize hL0:C2 0 0 0=L at *
        exact ⟨_,by simp only [esc,esh,Nat.reduceAdd,Nat.reduceMul,Nat.reduceLT,eq_self,hl,c0,hT,hO,hS5,hLy,hLl,z3,n13,beq_self_eq_true,B4k] <;> rfl⟩
      | true =>
        obtain ⟨f,t,hO,hV⟩:=C16 hH hD cd (by omega)
        obtain ⟨H,hHe⟩:∃ H,H=g ++ [some (Row.mk (C6 D) true)] ++ t:=⟨_,rfl⟩
        have hvH:Has H v 256 D.length (C6 D):=by rw [hHe];exact (hv.more _).more _
        rw [← hHe] at hO hV
        have hLy:=C03 (h:=H ++ [some (Row.mk (vwC D.length (A1g D) (A1f D) f) true)]) (hvH.more _) hD
        rw [cd,cond_true] at hLy
        generalize A1g D=n at *
        generalize A1f D=m at *
        have hS5:B6 (H ++ [some (Row.mk [.i .i64 0,.i .i64 0,.i .u64 0,.nf] true)]) 4 (.c (.p H.length 0)) (.a (vwC D.length n m f))=some (H ++ [some (Row.mk (vwC D.length n m f) true)]):=by rw [T4];rfl
        have hLl:(C2 D.length n m).length=3:=rfl
        have hVl:(vwC D.length n m f).length=4:=rfl
        have hI:=C15 (n:=n) (m:=m) (i:=ino) (h:=H ++ [some (Row.mk (vwC D.length n m f) true),some (Row.mk (C2 D.length n m) true)]) hD (hV.more _)
        obtain ⟨l,s,p,d,ei,hd⟩:=B8Y D n ino
        rw [ei] at hI
        generalize kdV D n ino=k at *
        have hIl:(A4 k l s p d).length=11:=by simp [A4,F7,hd]
        obtain ⟨V,eV⟩:∃ V,V=vwC D.length n m f:=⟨_,rfl⟩
        obtain ⟨Ly,eLy⟩:∃ Ly,Ly=C2 D.length n m:=⟨_,rfl⟩
        obtain ⟨I,eI⟩:∃ I,I=A4 k l s p d:=⟨_,rfl⟩
        obtain ⟨E,eE⟩:∃ E,E=N5 D n k d:=⟨_,rfl⟩
        obtain ⟨P,eP⟩:∃ P,P=N7 D n k d (E2 D n k d):=⟨_,rfl⟩
        have h224:=B6Z (D:=D) (n:=n) (k:=k) (d:=d)
        have hPl:P.length ≤ 224:=by rw [eP];exact Nat.le_trans C1O h224
        have hEl:=D0Z (D:=D) (n:=n) (k:=k) (d:=d)
        rw [← eE,← eP] at hEl
        have hbl:=A3f (D:=D) (n:=n) (k:=k) (d:=d)
        obtain ⟨H1,e1⟩:∃ H1,H1=H ++ [some (Row.mk V true),some (Row.mk Ly true),some (Row.mk I true)]:=⟨_,rfl⟩
        have lH1:H1.length=H.length + 3:=by rw [e1];simp
        have hV1:IsView H1 f D:=by rw [e1];exact hV.more _
        have hv1:Has H1 v 256 D.length (C6 D):=by rw [e1];exact hvH.more _
        have y1:∀ t,A3 (H1 ++ t) 4 (.c (.p H.length 0))=some (.a V):=fun t=>G5 (C3 (by rw [e1];simp)) (by rw [eV];rfl)
        have y2:∀ t,A3 (H1 ++ t) 3 (.c (.p (H.length + 1) 0))=some (.a Ly):=fun t=>G5 (C3 (by rw [e1];simp)) (by rw [eLy];rfl)
        have y3:∀ t,A3 (H1 ++ t) 11 (.c (.p (H.length + 2) 0))=some (.a I):=fun t=>G5 (C3 (by rw [e1];simp)) (by rw [eI];exact hIl)
        have y20:=y2 []
        have y30:=y3 []
        rw [List.append_nil] at y20 y30
        have x1:=D2w (n:=n) (m:=m) (k:=k) (l:=l) (s:=s) (p:=p) (d:=d) hv1 hD hd
        rw [← eLy,← eI,← eE,lH1] at x1
        have x2:=C06 (n:=n) (m:=m) (k:=k) (l:=l) (s:=s) (p:=p) (d:=d) (st:=true) (h:=H1 ++ [some ⟨D5 E,true⟩]) (hv1.more _) hD hd
        have eSl:(D9 D n k d true (E2 D n k d)).length=P.length:=by rw [eP,← C1u,List.length_map]
        rw [C1u,← eP,eSl,← eLy,← eI] at x2
        obtain ⟨N2,eN2⟩:∃ N2,N2=encS ((D9 D n k d true (E2 D n k d)).map (·.2)):=⟨_,rfl⟩
        rw [← eN2] at x2
        obtain ⟨H2,e2⟩:∃ H2,H2=H1 ++ [some (Row.mk (D5 E) true),some (Row.mk (G8 P) true),some (Row.mk N2 true)]:=⟨_,rfl⟩
        have lH2:H2.length=H.length + 6:=by rw [e2];simp [lH1]
        obtain ⟨u,t3,b1,b2,_⟩:=B6A (n:=n) (m:=m) (k:=k) (l:=l) (s:=s) (p:=p) (h:=H2) hD hd (by rw [e2];exact hV1.more _)
        rw [← eP] at b2
        rw [← eV,← eI] at b1
        have b3:=b2.len
        obtain ⟨H3,e3⟩:∃ H3,H3=H2 ++ t3:=⟨_,rfl⟩
        rw [← e3] at b1 b2
        have lH3:H2.length ≤ H3.length:=by rw [e3];simp
        have hV3:IsView H3 f D:=by rw [e3,e2];exact (hV1.more _).more _
        have x3:=B2j (n:=n) (m:=m) (k:=k) (l:=l) (s:=s) (p:=p) (h:=H3) hD hd hV3
        rw [← eE,← eV,← eI] at x3
        have rE1:rd H3 (H.length + 3)=some ⟨D5 E,true⟩:=by rw [e3];exact C3 (by rw [e2,← lH1];simp)
        have x4:=D2x (L:=E) (n:=E.length) (i1:=H3.length) (i2:=H.length + 3) (h:=H3 ++ [some ⟨D5 E,true⟩]) rfl (by omega) N6 (C3 rE1)
        have x5:=B6t (n:=n) (m:=m) (k:=k) (l:=l) (s:=s) (p:=p) (h:=H3 ++ [some ⟨D5 E,true⟩]) hD hd (hV3.more _)
        rw [← eE,← eV,← eI] at x5
        have cE:decide (((E.length:Nat):Int)=0)=decide (E.length=0):=by
          apply Bool.eq_iff_iff.2;simp
        have rP:rd (H3 ++ [some (Row.mk (D5 E) true)]) (H.length + 4)=some ⟨G8 P,true⟩:=C3 (by rw [e3];exact C3 (by rw [e2,show H.length + 4=H1.length + 1 by omega];simp))
        obtain ⟨M',f1⟩:=C1Q (q:=300) (M0:=0) (nid:=0) (x0:=v) (x5:=.c (.p H.length 0)) (x7:=.c (.p (H.length + 1) 0)) (x9:=.c (.p (H.length + 2) 0)) (by omega) rP (b2.more [some (Row.mk (D5 E) true)]) P.length 0 300 (by omega) (by omega)
        have z0:((0:Nat):Int)=0:=rfl
        rw [z0] at f1
        have x6:=C8n (n:=n) (m:=m) (k:=k) (l:=l) (s:=s) (p:=p) (h:=H3 ++ [some ⟨D5 E,true⟩]) hD hd (hV3.more _)
        rw [D00,← eV,← eI] at x6
        have hv3:Has H3 v 256 D.length (C6 D):=by rw [e3,e2];exact (hv1.more _).more _
        have x7:=C04 (n:=n) (m:=m) (k:=k) (l:=l) (s:=s) (p:=p) (d:=d) (h:=H3 ++ [some ⟨D5 E,true⟩] ++ [some ⟨encI ((A1q D (E4 D n k d)).map fun (x:Nat)=>(x:Int)),true⟩]) ((hv3.more _).more _) hD hd
        rw [← eLy,← eI] at x7
        obtain ⟨G4,e4⟩:∃ G4,G4=H3 ++ [some (Row.mk (D5 E) true)] ++ [some (Row.mk (encI ((A1q D (E4 D n k d)).map fun (x:Nat)=>(x:Int))) true)] ++ [some (Row.mk (encI (E4 D n k d)) true)]:=⟨_,rfl⟩
        have lG4:G4.length=H3.length + 3:=by rw [e4];simp
        obtain ⟨h',f2⟩:=B5I (q:=300) (v:=v) (D:=D) (n:=n) (g:=G4) (lid:=H3.length + 1) (bid:=H3.length + 2) (L:=E4 D n k d) (by rw [e4];exact ((hv3.more _).more _).more _) hD hbl (fun no hno=>(B56 no hno).2) (by omega) (by omega) (by omega) (by rw [e4];simp) (by rw [e4];simp) (E4 D n k d).length 0 300 G4 (by omega) (by omega) (Low.refl (Nat.le_refl _))
        rw [z0] at f2
        refine ⟨h',?_⟩
        have cP:¬ ((P.length:Nat):Int) < (P.length:Nat):=by omega
        have cPn:¬ ¬ ((P.length:Nat):Int)=(P.length:Nat):=fun h=>h rfl
        have beq:∀ b:Bool,(b == b)=true:=by decide
        have hl0:(A4 0 0 0 0 (zI 7)).length=11:=rfl
        have l3:Ly.length=3:=by rw [eLy];rfl
        have lI:I.length=11:=by rw [eI];exact hIl
        have lV:V.length=4:=by rw [eV];rfl
        rw [← eLy,← eV] at hLy hI
        rw [← eV] at hO hS5
        rw [← eI] at hI
        have y1':∀ t,A3 (H3 ++ t) 4 (.c (.p H.length 0))=some (.a V):=fun t=>by rw [e3,e2];simp only [List.append_assoc];exact y1 _
        have y2':∀ t,A3 (H3 ++ t) 3 (.c (.p (H.length + 1) 0))=some (.a Ly):=fun t=>by rw [e3,e2];simp only [List.append_assoc];exact y2 _
        have y3':∀ t,A3 (H3 ++ t) 11 (.c (.p (H.length + 2) 0))=some (.a I):=fun t=>by rw [e3,e2];simp only [List.append_assoc];exact y3 _
        have y10':=y1' []
        have y30':=y3' []
        rw [List.append_nil] at y10' y30'
        have y1'':A3 H2 4 (.c (.p H.length 0))=some (.a V):=by rw [e2];exact y1 _
        have y3'':A3 H2 11 (.c (.p (H.length + 2) 0))=some (.a I):=by rw [e2];exact y3 _
        have lx2:(H1 ++ [some (Row.mk (D5 E) true)]).length=H.length + 4:=by simp [lH1]
        rw [lx2] at x2
        have eH2:(H1 ++ [some (Row.mk (D5 E) true)]) ++ [some (Row.mk (G8 P) true),some (Row.mk N2 true)]=H2:=by rw [e2];simp
        rw [eH2] at x2
        have lx6:(H3 ++ [some (Row.mk (D5 E) true)]).length=H3.length + 1:=by simp
        rw [lx6] at x6
        have lx7:((H3 ++ [some (Row.mk (D5 E) true)]) ++ [some (Row.mk (encI ((A1q D (E4 D n k d)).map fun (x:Nat)=>(x:Int))) true)]).length=H3.length + 2:=by simp
        rw [lx7,← e4] at x7
        have hI1:H ++ [some (Row.mk V true),some (Row.mk Ly true)] ++ [some (Row.mk I true)]=H1:=by rw [e1];simp
        have hst:B6 (H ++ [some (Row.mk V true),some (Row.mk Ly true)] ++ [some (Row.mk (A4 0 0 0 0 (zI 7)) true)]) 11 (.c (.p (H.length + 2) 0)) (.a I)=some H1:=by
          rw [← hI1]
          simp only [List.append_assoc,List.cons_append,List.nil_append]
          rw [A0R]
          change mp (stN (some (Row.mk (A4 0 0 0 0 (zI 7)) true)) 0 11 I) _=_
          rw [A3K (by rfl) lI];rfl
        have hs3:B6 (H ++ [some (Row.mk V true)] ++ [some (Row.mk [Cell.i .i64 0,.i .i64 0,.i .u64 0] true)]) 3 (.c (.p (H.length + 1) 0)) (.a Ly)=some (H ++ [some (Row.mk V true),some (Row.mk Ly true)]):=by
          simp only [List.append_assoc,List.cons_append,List.nil_append]
          rw [A0R]
          change mp (stN (some (Row.mk [Cell.i .i64 0,.i .i64 0,.i .u64 0] true)) 0 3 Ly) _=_
          rw [A3K (by rfl) l3];rfl
        have y0:A3 (H ++ [some (Row.mk V true),some (Row.mk Ly true)]) 4 (.c (.p H.length 0))=some (.a V):=by rw [T1];exact Q3 lV
        have lHV:(H ++ [some (Row.mk V true)]).length=H.length + 1:=by simp
        have lHVL:(H ++ [some (Row.mk V true),some (Row.mk Ly true)]).length=H.length + 2:=by simp
        rw [A8H]
        generalize A4 0 0 0 0 (zI 7)=z0' at *
        simp only [F2,O2,hl,B44,c0,decide_false,K6,hT,hO,U8,List.getElem?_cons_zero,List.getElem?_cons_succ,Option.map_some,V7,V6,hS5,hLy,hs3,lHV,A09,Bool.not_true,A3r,A7x,ne_eq,eq_self,not_true_eq_false,W5,cond_false,y0,hI,hst,lHVL,y20,y30,x1,y2,y3,x2,y1'',y3'',b1,b3,y10',y30',x3,x4,Bool.not_false,y1',y3',x5,A27,cE,B5c,beq]
        rw [f1,B6P]
        simp only [F2,b3,I4,cP,decide_false,K6,y1',y3',x6]
        simp only [List.append_assoc] at x7 ⊢
        simp only [y2',y3',F2,x7]
        exact f2
  obtain ⟨g',e⟩:=key (ro h) hv.ro
  exact C4z e rfl
end Go.Proofs.YteckncopbicmcaaGreat
end
section
namespace Go.Proofs.YteckncopbicmcaaGreat
open Go
def A9z:List Char:=(([104,97,114,110,101,115,115,32,53,57,51,50,51,57,101,98,53,97,49,50,101,51,52,102,99,48,55,48,99,54,56,49,101,49,48,49,54,57,100,49,54,53,48,49,57,101,48,50,54,101,49,101,51,53,49,102,102,48,99,53,53,51,55,99,101,100,52,54,97,52,54,52,32,99,117,116,32,97,116,32,101,115,99,104,101,97,116,47,101,115,99,104,101,97,116,108,97,119,50,52,46,68,114,101,97,100,76,111,111,107,115,32,101,115,99,104,101,97,116,47,101,115,99,104,101,97,116,108,97,119,50,52,46,68,114,101,97,100,76,105,115,116,115,32,101,115,99,104,101,97,116,47,101,115,99,104,101,97,116,108,97,119,50,53,46,84,114,101,101,84,101,108,108,115,32,101,115,99,104,101,97,116,47,101,115,99,104,101,97,116,108,97,119,52,49,46,67,108,97,105,109,79,102,32,101,115,99,104,101,97,116,47,101,115,99,104,101,97,116,108,97,119,52,49,46,67,108,97,105,109,73,109,97,103,101,32,101,115,99,104,101,97,116,47,101,115,99,104,101,97,116,108,97,119,52,50,46,77,101,110,100,80,108,97,110,115,32,101,115,99,104,101,97,116,47,101,115,99,104,101,97,116,108,97,119,52,50,46,77,101,110,100,67,111,117,110,116,115,32,101,115,99,104,101,97,116,47,101,115,99,104,101,97,116,108,97,119,52,50,46,77,101,110,100,65,112,112,108,105,101,115,32,101,115,99,104,101,97,116,47,101,115,99,104,101,97,116,108,97,119,52,50,46,77,101,110,100,67,117,116,115,32,101,115,99,104,101,97,116,47,101,115,99,104,101,97,116,108,97,119,52,49,46,67,108,97,105,109,82,105,103,104,116,32,101,115,99,104,101,97,116,47,101,115,99,104,101,97,116,108,97,119,52,49,46,67,108,97,105,109,75,101,101,112,115,32,101,115,99,104,101,97,116,47,101,115,99,104,101,97,116,108,97,119,52,50,46,77,101,110,100,87,104,111,108,101]:List Nat).map Char.ofNat)
set_option maxRecDepth 100000
theorem D1U:ownKnob Tryz.prog.godebug=none:=by kernel_rfl
theorem D0M:laidOutB Tryz.prog=true:=by kernel_rfl
theorem start_eq:Tryz.prog.initOrder=String.ofList A9z:=by kernel_rfl
theorem D3K:Tryz.prog.initOrder.toList=A9z:=by rw [start_eq,String.toList_ofList]
def startRest:List (List Char):=(([[99,117,116],[97,116],[101,115,99,104,101,97,116,47,101,115,99,104,101,97,116,108,97,119,50,52,46,68,114,101,97,100,76,111,111,107,115],[101,115,99,104,101,97,116,47,101,115,99,104,101,97,116,108,97,119,50,52,46,68,114,101,97,100,76,105,115,116,115],[101,115,99,104,101,97,116,47,101,115,99,104,101,97,116,108,97,119,50,53,46,84,114,101,101,84,101,108,108,115],[101,115,99,104,101,97,116,47,101,115,99,104,101,97,116,108,97,119,52,49,46,67,108,97,105,109,79,102],[101,115,99,104,101,97,116,47,101,115,99,104,101,97,116,108,97,119,52,49,46,67,108,97,105,109,73,109,97,103,101],[101,115,99,104,101,97,116,47,101,115,99,104,101,97,116,108,97,119,52,50,46,77,101,110,100,80,108,97,110,115],[101,115,99,104,101,97,116,47,101,115,99,104,101,97,116,108,97,119,52,50,46,77,101,110,100,67,111,117,110,116,115],[101,115,99,104,101,97,116,47,101,115,99,104,101,97,116,108,97,119,52,50,46,77,101,110,100,65,112,112,108,105,101,115],[101,115,99,104,101,97,116,47,101,115,99,104,101,97,116,108,97,119,52,50,46,77,101,110,100,67,117,116,115],[101,115,99,104,101,97,116,47,101,115,99,104,101,97,116,108,97,119,52,49,46,67,108,97,105,109,82,105,103,104,116],[101,115,99,104,101,97,116,47,101,115,99,104,101,97,116,108,97,119,52,49,46,67,108,97,105,109,75,101,101,112,115],[101,115,99,104,101,97,116,47,101,115,99,104,101,97,116,108,97,119,52,50,46,77,101,110,100,87,104,111,108,101]]:List (List Nat)).map (fun l=>l.map Char.ofNat))
theorem D3G:wordsSigns A9z=(([104,97,114,110,101,115,115]:List Nat).map Char.ofNat) :: (([53,57,51,50,51,57,101,98,53,97,49,50,101,51,52,102,99,48,55,48,99,54,56,49,101,49,48,49,54,57,100,49,54,53,48,49,57,101,48,50,54,101,49,101,51,53,49,102,102,48,99,53,53,51,55,99,101,100,52,54,97,52,54,52]:List Nat).map Char.ofNat) :: startRest:=by kernel_rfl
theorem D3O:isSumSigns ((([53,57,51,50,51,57,101,98,53,97,49,50,101,51,52,102,99,48,55,48,99,54,56,49,101,49,48,49,54,57,100,49,54,53,48,49,57,101,48,50,54,101,49,101,51,53,49,102,102,48,99,53,53,51,55,99,101,100,52,54,97,52,54,52]:List Nat).map Char.ofNat))=true:=by decide +kernel
theorem C96 : ((([104, 97, 114, 110, 101, 115, 115] : List Nat).map Char.ofNat) == "harness".toList) = true := by decide +kernel
theorem C7D (h s : List Char) (r : List (List Char)) (h1 : (h == "harness".toList) = true) (h2 : isSumSigns s = true) : behindMainWord (h :: s :: r) = r := by
  unfold behindMainWord
  simp only [h1,h2,Bool.true_or,Bool.true_and,if_true]
theorem C7C:behindMainWord (wordsSigns A9z)=startRest:=by rw [D3G];exact C7D _ _ _ C96 D3O
theorem start_words:behindMainWord (wordsSigns Tryz.prog.initOrder.toList)=startRest:=by rw [D3K];exact C7C
def D3J:List (List Char):=startRest.drop 1
theorem B3X : startRest = "cut".toList :: D3J := by decide +kernel
theorem D04 {P : Program} {rest : List (List Char)} (h : behindMainWord (wordsSigns P.initOrder.toList) = "cut".toList :: rest) : P.make = some .cut := by
  have e1 : ("cut".toList == "gc".toList) = false := by decide +kernel
  have e2 : ("cut".toList == "spec".toList) = false := by decide +kernel
  have e3 : ("cut".toList == "cut".toList) = true := by decide +kernel
  unfold Program.make
  rw [h]
  simp only [e1,e2,e3,Bool.or_self,Bool.true_or,Bool.false_eq_true,if_false,if_true]
theorem D05:Tryz.prog.make=some .cut:=D04 (start_words.trans B3X)
theorem C1S {w:List Char} {ws:List (List Char)}:∀ os:List String,(os.all fun o=>!(w == o.toList))=true → stripLifts os (w :: ws)=([],w :: ws)
  | [],_=>rfl
  | o :: os,h=>by
    simp only [List.all_cons,Bool.and_eq_true,Bool.not_eq_true'] at h
    unfold stripLifts
    rw [h.1,if_neg (by simp)]
    exact C1S os h.2
theorem C1R (rest : List (List Char)) : stripLifts liftWords ("cut".toList :: rest) = ([], "cut".toList :: rest) := C1S _ (by decide +kernel)
theorem D0N:Tryz.prog.laysLater=false:=by kernel_rfl
theorem D2z:Tryz.prog.bearsReflect=false:=by kernel_rfl
theorem C8h:Tryz.prog.doorFits []=true:=by kernel_rfl
theorem C8T {P : Program} {rest : List (List Char)} (h : behindMainWord (wordsSigns P.initOrder.toList) = "cut".toList :: rest) (h1 : P.laysLater = false) (h2 : P.bearsReflect = false) (h3 : P.doorFits [] = true) : P.mayEnter = true := by
  unfold Program.mayEnter
  rw [h]
  simp only [C1R,h1,h2,h3]
  simp
theorem D08:Tryz.prog.mayEnter=true:=C8T (start_words.trans B3X) D0N D2z C8h
theorem D0U {P : Program} {rest : List (List Char)} (h : behindMainWord (wordsSigns P.initOrder.toList) = "cut".toList :: rest) : P.liftsFinal = false := by
  unfold Program.liftsFinal Program.headLifts
  rw [h]
  simp only [C1R]
  simp
theorem D0V:Tryz.prog.liftsFinal=false:=D0U (start_words.trans B3X)
end Go.Proofs.YteckncopbicmcaaGreat
end
