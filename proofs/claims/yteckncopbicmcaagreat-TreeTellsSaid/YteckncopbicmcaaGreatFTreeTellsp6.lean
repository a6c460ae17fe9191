/- What the proof of this claim leans on, part 6. -/
import Derived.Test.YteckncopbicmcaaGreatFTreeTellsp5
set_option linter.all false
section
namespace Go.Proofs.YteckncopbicmcaaGreat
open Go Go.Esc
def A8T (x:Nd):Bool:=decide ((300:Int) < (x.data.length:Int)) || (decide ((12:Int) < (x.names.length:Int)) || A1z x.names)
def A3F (t:List Nd):Bool:=decide ((20:Int) < (t.length:Int)) || t.any A8T
theorem B8F {v:Val} {t:List Nd} {h:A0} {q:Nat} (hv:IsTree h v t) (h62:t.length ≤ 20):∀ e i M:Nat,i + e=t.length → e < M →
    A8h q M v (.c (.i .i64 (i:Int))) h=some (.c (.b ((t.drop i).any A8T)),h)
  | e,i,0,_,hm=>by omega
  | 0,i,M + 1,hi,hm=>by
    have hl:=hv.len
    have c0:¬ ((i:Int) < (t.length:Nat)):=by omega
    rw [B6N,List.drop_of_length_le (by omega)]
    simp only [B9,hl,D7,c0,decide_false,F1,List.any_nil]
  | e + 1,i,M + 1,hi,hm=>by
    have hl:=hv.len
    have hil:i < t.length:=by omega
    have c0:(i:Int) < (t.length:Nat):=by omega
    have w1:=E2 (show i + 1 < 9223372036854775808 by omega)
    obtain ⟨id,o,cs,a1,_,a3,a4⟩:=W8 hv hil
    obtain ⟨x,y,rfl,hx,hy⟩:=a4
    have g5:=a3 5 x rfl
    have g6:=a3 6 y rfl
    have hxl:=hx.len
    have hM:=D1p (M:=12) hy (by omega)
    have ih:=B8F (q:=q) hv h62 e (i + 1) M (by omega) (by omega)
    rw [B6N,List.drop_eq_getElem_cons hil,List.any_cons]
    unfold A8T at ih ⊢
    by_cases c1:(300:Int) < ((t[i]).data.length:Int)
    · simp only [esc,hl,c0,a1,g5,g6,hxl,c1,Bool.true_or]
    · cases c2:(decide ((12:Int) < ((t[i]).names.length:Int)) || A1z (t[i]).names) with
      | true =>
        rw [c2] at hM
        simp only [esc,hl,c0,a1,g5,g6,hxl,c1,hM,Bool.or_true,Bool.true_or]
      | false =>
        rw [c2] at hM
        simp only [esc,hl,c0,a1,g5,g6,hxl,c1,hM,Bool.or_false,Bool.false_or,w1]
        exact ih
theorem B9Y {v:Val} {t:List Nd} {h:A0} (hv:IsTree h v t):A3e [v] h=some (.c (.b (A3F t)),h):=by
  refine C4o (n:=t.length + 1) (h2:=ro h) ?_ rfl
  have hl:=hv.ro.len
  rw [C2r]
  unfold A3F
  by_cases c:(20:Int) < (t.length:Int)
  · simp only [B9,hl,B1e,c,decide_true,F6,Bool.true_or]
  · have k:=B8F (q:=t.length + 1) hv.ro (by omega) t.length 0 (t.length + 1) (by omega) (by omega)
    rw [List.drop_zero] at k
    simp only [B9,hl,B1e,c,decide_false,F1,Bool.false_or]
    exact k
def Y3 (t:List Nd) (a:Int) (i:Nat):Int:=match t.findIdx? fun x=>decide (x.ino=a) with
  | some j=>((i + j:Nat):Int)
  | none=>-1
theorem D07 {x:Nd} {t:List Nd} {a:Int} {i:Nat} (h:x.ino=a):Y3 (x :: t) a i=(i:Int):=by
  unfold Y3
  rw [List.findIdx?_cons,decide_eq_true h]
  simp
theorem D08 {x:Nd} {t:List Nd} {a:Int} {i:Nat} (h:¬ x.ino=a):Y3 (x :: t) a i=Y3 t a (i + 1):=by
  unfold Y3
  rw [List.findIdx?_cons,decide_eq_false h]
  cases t.findIdx? fun x=>decide (x.ino=a) with
  | none=>rfl
  | some j=>simp;omega
theorem B90 {v:Val} {t:List Nd} {a:Int} {h:A0} {q:Nat} (hv:IsTree h v t) (h62:t.length ≤ 1000000):∀ e i M:Nat,i + e=t.length → e < M →
    A8g q M v (.c (.i .i64 a)) (.c (.i .i64 (i:Int))) h=some (.c (.i .i64 (Y3 (t.drop i) a i)),h)
  | e,i,0,_,hm=>by omega
  | 0,i,M + 1,hi,hm=>by
    have hl:=hv.len
    have c0:¬ ((i:Int) < (t.length:Nat)):=by omega
    rw [B6K,List.drop_of_length_le (by omega)]
    simp only [B9,hl,D7,c0,decide_false,F1,Y3,List.findIdx?_nil]
  | e + 1,i,M + 1,hi,hm=>by
    have hl:=hv.len
    have hil:i < t.length:=by omega
    have c0:(i:Int) < (t.length:Nat):=by omega
    have w1:=E2 (show i + 1 < 9223372036854775808 by omega)
    obtain ⟨id,o,cs,a1,_,a3,a4⟩:=W8 hv hil
    obtain ⟨x,y,rfl,_,_⟩:=a4
    have g0:=a3 0 _ rfl
    have ih:=B90 (q:=q) (a:=a) hv h62 e (i + 1) M (by omega) (by omega)
    rw [B6K,List.drop_eq_getElem_cons hil]
    by_cases c:(t[i]).ino=a
    · rw [D07 c]
      simp only [B9,hl,D7,c0,decide_true,F6,a1,I9,g0,A0l,c]
    · rw [D08 c]
      simp only [B9,hl,D7,c0,decide_true,F6,a1,I9,g0,A0l,c,decide_false,F1,I0,w1]
      exact ih
theorem D1r {v:Val} {t:List Nd} {a:Int} {h:A0} (hv:IsTree h v t) (h62:t.length ≤ 1000000):A4K [v,.c (.i .i64 a)] h=some (.c (.i .i64 (Y3 t a 0)),h):=by
  refine C4m (n:=t.length + 1) (h2:=ro h) ?_ rfl
  rw [C2q]
  have k:=B90 (q:=t.length + 1) (a:=a) hv.ro h62 t.length 0 (t.length + 1) (by omega) (by omega)
  rw [List.drop_zero] at k
  exact k
theorem D09 {t:List Nd} {a:Int} (h:K1 t a=none):Y3 t a 0 = -1:=by
  unfold K1 at h
  unfold Y3
  have:t.findIdx? (fun x=>decide (x.ino=a))=none:=by
    rw [List.findIdx?_eq_none_iff]
    intro x hx
    have:=List.find?_eq_none.1 h x hx
    simpa using this
  rw [this]
theorem D1a {t:List Nd} {a:Int} {x:Nd} (h:K1 t a=some x):∃ j:Nat,Y3 t a 0=(j:Int) ∧ t[j]? = some x:=by
  unfold K1 at h
  unfold Y3
  cases hf:t.findIdx? fun x=>decide (x.ino=a) with
  | none =>
    rw [List.findIdx?_eq_none_iff] at hf
    have h1:=List.mem_of_find?_eq_some h
    have h2:=List.find?_some h
    rw [hf x h1] at h2
    cases h2
  | some j =>
    refine ⟨j,by simp,?_⟩
    have h2:=List.find?_eq_some_iff_getElem.1 h
    rw [List.findIdx?_eq_some_iff_getElem] at hf
    obtain ⟨hj,h3,h4⟩:=hf
    obtain ⟨h5,i,hi,h6,h7⟩:=h2
    have:i=j:=by
      rcases Nat.lt_trichotomy i j with h | h | h
      · have:=h4 i h
        rw [h6] at this
        exact absurd h5 (by simpa using this)
      · exact h
      · have:=h7 j h
        rw [h3] at this
        cases this
    subst this
    rw [List.getElem?_eq_getElem hi,h6]
end Go.Proofs.YteckncopbicmcaaGreat
end
section
namespace Go.Proofs.YteckncopbicmcaaGreat
open Go Go.Esc
theorem B6l {h:A0} {y:Cell} {l:List Ent} (hy:Has h (.c y) 2 l.length (D0 l)) {i:Nat} (hi:i < l.length):∃ id o,B7 2 (.c y) (.c (.i .i64 (i:Int)))=some (.c (.p id o)) ∧ A3 h (.c (.p id o))=some (.c (.s (l[i]).1)) ∧ A3 h (.c (.p id (o + 1)))=some (.c (.i .i64 (l[i]).2)):=by
  obtain ⟨id,off,e,hid,hA,_⟩:=hy.sl (by omega)
  cases e
  refine ⟨id,off + i * 2,G8 hi,?_,?_⟩
  · have h2:=A2D l i hi
    have h4:(((D0 l).drop (i * 2)).take 2)[0]? = some (.s (l[i]).1):=by rw [h2];rfl
    rw [List.getElem?_take_of_lt (by omega),List.getElem?_drop] at h4
    exact hA _ _ h4
  · have h2:=A2D l i hi
    have h4:(((D0 l).drop (i * 2)).take 2)[1]? = some (.i .i64 (l[i]).2):=by rw [h2];rfl
    rw [List.getElem?_take_of_lt (by omega),List.getElem?_drop] at h4
    have:=hA _ _ h4
    rwa [← Nat.add_assoc] at this
structure PR (g:A0) (rid pid oid:Nat) (s:I8) (h:A0):Prop where
  low:Low g.length g h
  gr:g.length ≤ rid
  gp:g.length ≤ pid
  go:g.length ≤ oid
  rp:rid ≠ pid
  ro:rid ≠ oid
  po:pid ≠ oid
  row:rd h rid=some ⟨encI (s.1.map (·.1)),true⟩
  path:rd h pid=some ⟨encS (s.1.map (·.2)),true⟩
  out:rd h oid=some ⟨encS s.2,true⟩
theorem B3k {v:Val} {t:List Nd} {g:A0} {q M c i j:Nat} {x:Nd} {s0:I8} {a:Int} {p:List UInt8} (hv:IsTree g v t) (hj:t[j]? = some x) (hc:c ≤ 100) (hL:∀ e ∈ x.names,e.1.length ≤ c) (h62:x.names.length ≤ 1000000) (hi:i < s0.1.length) (hap:s0.1[i]? = some (a,p)) (hp:p.length ≤ i * (c + 1)) (h0:s0.2.length ≤ 1000000) (hi6:i ≤ 1000000) :
    ∀ (e k M2 rid pid oid:Nat) (s:I8) (h:A0),k + e=x.names.length → e < M2 → WayJ c i p s0 k s → PR g rid pid oid s h →
      ∃ rid' pid' oid' h',A8l q M M2 v (.c (.sl rid 0 s.1.length 1)) (.c (.sl pid 0 s.1.length 1)) (.c (.sl oid 0 s.2.length 1)) (.c (.i .i64 (i:Int))) (.c (.i .i64 (j:Int))) (.c (.i .i64 (k:Int))) h =
        A8i q M v (.c (.sl rid' 0 (V9 p s (x.names.drop k)).1.length 1)) (.c (.sl pid' 0 (V9 p s (x.names.drop k)).1.length 1)) (.c (.sl oid' 0 (V9 p s (x.names.drop k)).2.length 1)) (.c (.i .i64 (i:Int))) h' ∧ PR g rid' pid' oid' (V9 p s (x.names.drop k)) h'
  | e,k,0,rid,pid,oid,s,h,_,hm,_,_=>by omega
  | 0,k,M2 + 1,rid,pid,oid,s,h,hk,hm,J,P=>by
    have hjl:=(List.getElem?_eq_some_iff.1 hj).1
    obtain ⟨id,o,cs,a1,_,a3,a4⟩:=W8 (hv.since P.low) hjl
    rw [(List.getElem?_eq_some_iff.1 hj).2] at a4
    obtain ⟨xc,y,rfl,_,hy⟩:=a4
    have g6:=a3 6 y rfl
    have hyl:=hy.len
    have c0:¬ ((k:Int) < (x.names.length:Nat)):=by omega
    rw [B6S,List.drop_of_length_le (by omega)]
    exact ⟨rid,pid,oid,h,by simp only [B9,a1,I9,g6,hyl,D7,c0,decide_false,F1];rfl,P⟩
  | e + 1,k,M2 + 1,rid,pid,oid,s,h,hk,hm,J,P=>by
    have hjl:=(List.getElem?_eq_some_iff.1 hj).1
    have hje:=(List.getElem?_eq_some_iff.1 hj).2
    obtain ⟨id,o,cs,a1,_,a3,a4⟩:=W8 (hv.since P.low) hjl
    rw [hje] at a4
    obtain ⟨xc,y,rfl,_,hy⟩:=a4
    have g6:=a3 6 y rfl
    have hyl:=hy.len
    have hkl:k < x.names.length:=by omega
    have c0:(k:Int) < (x.names.length:Nat):=by omega
    have w1:=E2 (show k + 1 < 9223372036854775808 by omega)
    have hx:=hL x.names[k] (List.getElem_mem hkl)
    obtain ⟨id2,o2,b1,b2,b3⟩:=B6l hy hkl
    rw [List.drop_eq_getElem_cons hkl,A9L]
    obtain ⟨z,hze⟩:∃ z,z=x.names[k]:=⟨_,rfl⟩
    rw [← hze] at b2 b3 hx ⊢
    have J':=J.step hi hp hx
    have hout:=J.out
    have hpl:=J.pre.length_le
    have hlen:=J.len
    have hsi:s.1[i]? = some (a,p):=by
      have:=List.prefix_iff_getElem?.1 J.pre i hi
      rw [this,← hap,List.getElem?_eq_getElem hi]
    have adp:B7 1 (.c (.sl pid 0 s.1.length 1)) (.c (.i .i64 (i:Int)))=some (.c (.p pid i)):=by rw [G8 (by omega)];simp
    have lp:A3 h (.c (.p pid i))=some (.c (.s p)):=D8 P.path (by rw [A0s,List.getElem?_map,hsi];rfl) rfl
    have hmul:i * (c + 1) ≤ 1000000 * 101:=Nat.mul_le_mul hi6 (by omega)
    have sa:=A7B (a:=p) (b:=[47]) (by simp;omega)
    have sb:=A7B (a:=p ++ [47]) (b:=z.1) (by simp;omega)
    rw [List.append_assoc,List.singleton_append] at sb
    have ef:∀ z,A8 [Cell.s []] [(0,1,.c (.s z))]=some (encS [z]):=fun _=>rfl
    obtain ⟨H2,d1,d2,d3,d4⟩:=A1G (h:=h) (n:=s.2.length) (sz:=1) (ys:=encS [p ++ 47 :: z.1]) P.out (by rw [K0,Nat.mul_one]) rfl (by omega) (by omega)
    have eS:encS s.2 ++ encS [p ++ 47 :: z.1]=encS (s.2 ++ [p ++ 47 :: z.1]):=by simp [encS]
    rw [eS] at d2
    have rl:=B8 P.row
    have pl:=B8 P.path
    have ol:=B8 P.out
    have gl:=P.low.2.1
    have r2:=d3 rid _ P.ro P.row
    have p2:=d3 pid _ P.po P.path
    have l2:=B8 d2
    have low2:Low g.length g H2:=P.low.trans (d4 _ P.go (by omega))
    obtain ⟨id',o',cs',a1',_,a3',a4'⟩:=W8 (hv.since low2) hjl
    rw [hje] at a4'
    rw [a1] at a1'
    injection a1' with e1;injection e1 with e1;injection e1 with e1 e2
    subst e1;subst e2
    obtain ⟨xc',y',rfl,_,hy'⟩:=a4'
    have g6':=a3' 6 y' rfl
    obtain ⟨id3,o3,b1',b2',b3'⟩:=B6l hy' hkl
    rw [← hze] at b2' b3'
    have hIn:=D1o (h:=H2) (x:=z.2) (Has.row r2 (by rw [G6,List.length_map,Nat.mul_one]) (D0l _)) (show s.1.length < 9223372036854775808 by omega)
    rw [B6S]
    by_cases cm:z.2 ∈ s.1.map (·.1)
    · have ew:Q7 p s z=(s.1,s.2 ++ [p ++ 47 :: z.1]):=by unfold Q7;rw [if_pos cm]
      rw [ew] at J' ⊢
      rw [decide_eq_true cm] at hIn
      obtain ⟨rid',pid',oid',h',f1,f2⟩:=B3k (q:=q) (M:=M) hv hj hc hL h62 hi hap hp h0 hi6 e (k + 1) M2 rid pid (h.length + 1) (s.1,s.2 ++ [p ++ 47 :: z.1]) H2 (by omega) (by omega) J' ⟨low2,P.gr,P.gp,by omega,P.rp,by omega,by omega,r2,p2,d2⟩
      refine ⟨rid',pid',oid',h',?_,f2⟩
      have el:(s.2 ++ [p ++ 47 :: z.1]).length=s.2.length + 1:=by simp
      rw [el] at f1
      simp only [B9,a1,I9,g6,hyl,D7,c0,decide_true,F6,adp,lp,sa,b1,Nat.add_zero,b2,sb,ef,List.append_nil,d1,g6',b1',b3',hIn,S9,Bool.not_true,F1,B6Q,I0,w1]
      exact f1
    · have ew:Q7 p s z=(s.1 ++ [(z.2,p ++ 47 :: z.1)],s.2 ++ [p ++ 47 :: z.1]):=by unfold Q7;rw [if_neg cm]
      rw [ew] at J' ⊢
      rw [decide_eq_false cm] at hIn
      have ef2:A8 [Cell.i .i64 0] [(0,1,.c (.i .i64 z.2))]=some (encI [z.2]):=rfl
      obtain ⟨H4,k1,k2,k3,k4⟩:=A1G (h:=H2) (n:=s.1.length) (sz:=1) (ys:=encI [z.2]) r2 (by rw [G6,List.length_map,Nat.mul_one]) rfl (by omega) (by omega)
      have eR:encI (s.1.map (·.1)) ++ encI [z.2]=encI ((s.1 ++ [(z.2,p ++ 47 :: z.1)]).map (·.1)):=by rw [← A5A];simp
      rw [eR] at k2
      have l4:=B8 k2
      have o4:=k3 _ _ (by omega) d2
      have p4:=k3 _ _ (Ne.symm P.rp) p2
      obtain ⟨H5,m1,m2,m3,m4⟩:=A1G (h:=H4) (n:=s.1.length) (sz:=1) (ys:=encS [p ++ 47 :: z.1]) p4 (by rw [K0,List.length_map,Nat.mul_one]) rfl (by omega) (by omega)
      have eP:encS (s.1.map (·.2)) ++ encS [p ++ 47 :: z.1]=encS ((s.1 ++ [(z.2,p ++ 47 :: z.1)]).map (·.2)):=by simp [encS]
      rw [eP] at m2
      have l5:=B8 m2
      have o5:=m3 _ _ (by omega) o4
      have r5:=m3 _ _ (by omega) k2
      have low4:Low g.length g H4:=low2.trans (k4 _ P.gr (by have:=low2.2.1;omega))
      have low5:Low g.length g H5:=low4.trans (m4 _ P.gp (by have:=low4.2.1;omega))
      obtain ⟨rid',pid',oid',h',f1,f2⟩:=B3k (q:=q) (M:=M) hv hj hc hL h62 hi hap hp h0 hi6 e (k + 1) M2 (H2.length + 1) (H4.length + 1) (h.length + 1) (s.1 ++ [(z.2,p ++ 47 :: z.1)],s.2 ++ [p ++ 47 :: z.1]) H5 (by omega) (by omega) J' ⟨low5,by omega,by omega,by omega,by omega,by omega,by omega,r5,m2,o5⟩
      refine ⟨rid',pid',oid',h',?_,f2⟩
      have el:(s.2 ++ [p ++ 47 :: z.1]).length=s.2.length + 1:=by simp
      have el2:(s.1 ++ [(z.2,p ++ 47 :: z.1)]).length=s.1.length + 1:=by simp
      rw [el,el2] at f1
      simp only [B9,a1,I9,g6,hyl,D7,c0,decide_true,F6,adp,lp,sa,b1,Nat.add_zero,b2,sb,ef,List.append_nil,d1,g6',b1',b3',hIn,S9,Bool.not_false,ef2,k1,m1,B6Q,I0,w1]
      exact f1
theorem A9j {v:Val} {t:List Nd} {g:A0} {q c:Nat} (hv:IsTree g v t) (hs:small t) (hc:c ≤ 100) (hN:∀ a,∀ e ∈ F3 t a,e.1.length ≤ c) (hT:G4 t ≤ 900000) (hq:1000001 < q) :
    ∀ (e i M rid pid oid:Nat) (s:I8) (h:A0),e < M → G4 t + 2 ≤ e + i → WayI c (F3 t) i s → PR g rid pid oid s h →
      ∃ rid' pid' oid' h',A8j q M v (.c (.sl rid 0 s.1.length 1)) (.c (.sl pid 0 s.1.length 1)) (.c (.sl oid 0 s.2.length 1)) (.c (.i .i64 (i:Int))) h =
        bnd (A12 [.c (.sl oid' 0 (ways (F3 t) e i s).2.length 1)] h') (fun p20=>some (p20.1,p20.2)) ∧ PR g rid' pid' oid' (ways (F3 t) e i s) h'
  | e,i,0,rid,pid,oid,s,h,hm,_,_,_=>by omega
  | e,i,M + 1,rid,pid,oid,s,h,hm,hT2,hI,P=>by
    have htot:=hI.tot
    have hhi:=hI.hi
    have w1:=E2 (show i + 1 < 9223372036854775808 by omega)
    by_cases c1:i < s.1.length
    · have c0:(i:Int) < (s.1.length:Nat):=by omega
      obtain ⟨e,rfl⟩:∃ e',e=e' + 1:=⟨e - 1,by omega⟩
      have adr:B7 1 (.c (.sl rid 0 s.1.length 1)) (.c (.i .i64 (i:Int)))=some (.c (.p rid i)):=by rw [G8 c1];simp
      have lr:A3 h (.c (.p rid i))=some (.c (.i .i64 (s.1[i]).1)):=D8 P.row (by rw [R5,List.getElem?_map,List.getElem?_eq_getElem c1];rfl) rfl
      have hst:=hI.step hN c1
      have hB:=hI.begin (s.1[i]).2
      have htx:=hI.txt i _ (List.getElem?_eq_getElem c1)
      have hap:s.1[i]? = some ((s.1[i]).1,(s.1[i]).2):=List.getElem?_eq_getElem c1
      rw [ways,dif_pos c1]
      obtain ⟨a,ha⟩:∃ a,a=(s.1[i]).1:=⟨_,rfl⟩
      obtain ⟨p,hp⟩:∃ p,p=(s.1[i]).2:=⟨_,rfl⟩
      rw [← ha] at lr hst hap ⊢
      rw [← hp] at hst hB htx hap ⊢
      have hF:=D1r (a:=a) (hv.since P.low) hs.1
      cases hf:K1 t a with
      | none =>
        have hte:F3 t a=[]:=by unfold F3;rw [hf]
        rw [D09 hf] at hF
        rw [hte] at hst ⊢
        obtain ⟨rid',pid',oid',h',f1,f2⟩:=A9j (q:=q) hv hs hc hN hT hq e (i + 1) M rid pid oid s h (by omega) (by omega) hst P
        refine ⟨rid',pid',oid',h',?_,f2⟩
        rw [A8k]
        simp only [esc,c0,adr,lr,hF,show (-1:Int) < 0 by omega,B19,w1]
        exact f1
      | some x =>
        obtain ⟨j,hj,hjx⟩:=D1a hf
        rw [hj] at hF
        have hjl:=(List.getElem?_eq_some_iff.1 hjx).1
        have hje:=(List.getElem?_eq_some_iff.1 hjx).2
        obtain ⟨id,o,cs,a1,_,a3,a4⟩:=W8 (hv.since P.low) hjl
        rw [hje] at a4
        obtain ⟨xc,y,rfl,_,_⟩:=a4
        have g1:=a3 1 _ rfl
        have hsx:=(hs.2 x (List.mem_of_find?_eq_some hf)).2
        have nj:¬ (j:Int) < 0:=by omega
        by_cases ck:x.kind=2
        · have hte:F3 t a=x.names:=by unfold F3;rw [hf];dsimp only;rw [if_pos ck]
          have hNx:=hN a
          rw [hte] at hst hNx ⊢
          obtain ⟨rid1,pid1,oid1,h1,f0,f2⟩:=B3k (q:=q) (M:=M) (a:=a) hv hjx hc hNx hsx c1 hap htx (by omega) (by omega) x.names.length 0 q rid pid oid s h (by omega) (by omega) hB P
          rw [List.drop_zero] at f0 f2
          obtain ⟨rid',pid',oid',h',k1,k2⟩:=A9j (q:=q) hv hs hc hN hT hq e (i + 1) M rid1 pid1 oid1 _ h1 (by omega) (by omega) hst f2
          refine ⟨rid',pid',oid',h',?_,k2⟩
          rw [ck] at g1
          rw [B19,I0,B9,w1] at f0
          rw [A8k]
          simp only [esc,c0,adr,lr,hF,nj,a1,g1,eq_self]
          exact f0.trans k1
        · have hte:F3 t a=[]:=by unfold F3;rw [hf];dsimp only;rw [if_neg ck]
          rw [hte] at hst ⊢
          obtain ⟨rid',pid',oid',h',f1,f2⟩:=A9j (q:=q) hv hs hc hN hT hq e (i + 1) M rid pid oid s h (by omega) (by omega) hst P
          refine ⟨rid',pid',oid',h',?_,f2⟩
          rw [A8k]
          simp only [esc,c0,adr,lr,hF,nj,a1,g1,ck,B19,w1]
          exact f1
    · have c0:¬ ((i:Int) < (s.1.length:Nat)):=by omega
      have ew:ways (F3 t) e i s=s:=by
        cases e with
        | zero=>rfl
        | succ e=>rw [ways,dif_neg c1]
      rw [ew]
      refine ⟨rid,pid,oid,h,?_,P⟩
      rw [A8k]
      simp only [B9,A0m,D7,c0,decide_false,F1]
theorem D1s {v:Val} {t:List Nd} {c:Nat} {h:A0} (hv:IsTree h v t) (hs:small t) (hc:c ≤ 100) (hN:∀ a,∀ e ∈ F3 t a,e.1.length ≤ c) (hT:G4 t ≤ 900000) (hb:∀ p ∈ outW t,p.length < 9223372036854775807) :
    A4L [v] h=some (.c (.sl h.length 0 (Q3 t).length 1),h ++ [some ⟨encS (Q3 t),true⟩]):=by
  have key:∀ g,IsTree g v t → ∃ v' g',A6B (1000002 + G4 t) [v] g=some (v',g') ∧ Out g.length g' v' 1 (Q3 t).length (encS (Q3 t)):=by
    intro g hv
    have P0:PR g (g.length + 1) (g.length + 2) (g.length + 3) ([(1,[])],[]) ((((g ++ [some (Row.mk [] true)]) ++ [some (Row.mk [.i .i64 1] true)]) ++ [some (Row.mk [.s []] true)]) ++ [some (Row.mk [] true)]) :=
      ⟨(((((Low.refl (Nat.le_refl _)).new _).new _).new _).new _),by omega,by omega,by omega,by omega,by omega,by omega,by simp [encI],by simp [encS],by simp [encS]⟩
    obtain ⟨rid,pid,oid,h',f1,P⟩:=A9j (q:=1000002 + G4 t) hv hs hc hN hT (by omega) (G4 t + 2) 0 (1000002 + G4 t) (g.length + 1) (g.length + 2) (g.length + 3) ([(1,[])],[]) _ (by omega) (by omega) WayI.one P0
    have ho:=B2Z hN
    have hso:=D1n (h:=h') (v:=.c (.sl oid 0 (outW t).length 1)) (nv:=(outW t).length) (l:=outW t) (Has.row P.out (by rw [K0,Nat.mul_one]) (A3H _)) (by omega) hb
    have ef:A8 [Cell.i .i64 0] [(0,1,.c (.i .i64 1))]=some [.i .i64 1]:=rfl
    have ef2:A8 [Cell.s []] [(0,1,.c (.s []))]=some [.s []]:=rfl
    have hl:=P.low.2.1
    refine ⟨_,_,?_,by rw [K0,Nat.mul_one],h'.length,rfl,hl,E8⟩
    rw [C2s]
    have e1:(g ++ [some (Row.mk [] true)]).length=g.length + 1:=by simp
    have e2:((g ++ [some (Row.mk [] true)]) ++ [some (Row.mk [Cell.i .i64 1] true)]).length=g.length + 2:=by simp
    have e3:(((g ++ [some (Row.mk [] true)]) ++ [some (Row.mk [Cell.i .i64 1] true)]) ++ [some (Row.mk [Cell.s []] true)]).length=g.length + 3:=by simp
    rw [ef,B9,ef2,B9,e1,e2,e3]
    refine f1.trans ?_
    change bnd (A12 [.c (.sl oid 0 (outW t).length 1)] h') _=_
    rw [hso,B9]
    rfl
  obtain ⟨v',g',e,ho⟩:=key (ro h) hv.ro
  exact C4r e (by simpa [M9] using ho) (by simp)
end Go.Proofs.YteckncopbicmcaaGreat
end
section
namespace Go.Proofs.YteckncopbicmcaaGreat
open Go Go.Esc
theorem D0P {t:List Nd} {c:Nat} (hN:∀ a,∀ e ∈ F3 t a,e.1.length ≤ c):∀ p ∈ outW t,p.length ≤ (G4 t + 1) * (c + 1):=by
  have s1:∀ (q:List UInt8) (B:Nat),q.length + (c + 1) ≤ B → ∀ (es:List Ent) (s:I8),(∀ e ∈ es,e.1.length ≤ c) → (∀ p ∈ s.2,p.length ≤ B) → ∀ p ∈ (V9 q s es).2,p.length ≤ B:=by
    intro q B hB es
    induction es with
    | nil=>intro s _ h;exact h
    | cons e es ih =>
      intro s he h
      rw [A9L]
      refine ih _ (fun x hx=>he x (by simp [hx])) fun p hp=>?_
      unfold Q7 at hp
      dsimp only at hp
      rw [List.mem_append] at hp
      rcases hp with hp | hp
      · exact h p hp
      · simp at hp;subst hp
        have:=he e (by simp)
        simp;omega
  have s2:∀ (e i:Nat) (s:I8),WayI c (F3 t) i s → (∀ p ∈ s.2,p.length ≤ (G4 t + 1) * (c + 1)) → ∀ p ∈ (ways (F3 t) e i s).2,p.length ≤ (G4 t + 1) * (c + 1):=by
    intro e
    induction e with
    | zero=>intro i s _ h;exact h
    | succ e ih =>
      intro i s hI h
      unfold ways
      by_cases hl:i < s.1.length
      · rw [dif_pos hl]
        refine ih (i + 1) _ (hI.step hN hl) (s1 _ _ ?_ _ _ (hN _) h)
        have h1:=hI.txt i _ (List.getElem?_eq_getElem hl)
        have h2:=hI.tot.2
        have h3:i * (c + 1) ≤ G4 t * (c + 1):=Nat.mul_le_mul_right _ (by omega)
        have h4:(G4 t + 1) * (c + 1)=G4 t * (c + 1) + (c + 1):=by rw [Nat.add_mul,Nat.one_mul]
        omega
      · rw [dif_neg hl];exact h
  exact s2 _ _ _ WayI.one fun p hp=>by cases hp
end Go.Proofs.YteckncopbicmcaaGreat
end
section
namespace Go.Proofs.YteckncopbicmcaaGreat
open Go Go.Esc
theorem B9w:∀ (n:Nat) (cells:List Cell),All2 okCell (List.replicate n [Sh.s,.i .i64]).flatten cells → ∃ l:List Ent,cells=D0 l
  | 0,[],_=>⟨[],rfl⟩
  | 0,_ :: _,h=>h.elim
  | n + 1,cells,h=>by
    rw [List.replicate_succ,List.flatten_cons] at h
    match cells,h with
    | .s s :: .i _ x :: r,⟨_,⟨rfl,_⟩,h3⟩ =>
      obtain ⟨l,rfl⟩:=B9w n r h3
      exact ⟨(s,x) :: l,rfl⟩
end Go.Proofs.YteckncopbicmcaaGreat
end
section
namespace Go.Esc
open Go Go.ChangeShapes Go.WideShapes Go.ChangeAt Go.RowKit
section
variable {H:Type} {enc:TypeId × Value → H} {P:Program} {W:World} {base:Nat} {held:Bool} {t:TypeId}
theorem D0L {μ:Mu} {h:A0} (ho:Opened W μ h) {n:Nat} {e:TypeId} {v:Value} {fuel:Nat} {x0:DataW H × List MemPlace} {sh:List Sh} (ht:P.underlying t=some (.slice e)) (hs:A1c P n e=some sh) (hsl:sh.length=P.cellsOf e) (hpos:0 < sh.length)
    (hf:DataW.trod enc P W base (fun _=>true) held fuel t [v]=some x0) :
    ∃ x μ' l len cells,μ.le μ' ∧ Opened W μ' (h ++ l) ∧ RC μ' x v ∧ Has (h ++ l) (.c x) sh.length len cells ∧ All2 okCell (List.replicate len sh).flatten cells ∧ len ≤ maxLen:=by
  rcases Deep.open_slice ht hf with ⟨hc,_⟩ | ⟨a,len,cap,m,k,D,Pl,hc,hb,hl,hm,hmm,hx,hel⟩
  · simp only [List.cons.injEq,and_true] at hc
    subst hc
    exact ⟨.ns,μ,[],0,[],Mu.le_refl _,by simpa using ho,rfl,.inl ⟨rfl,rfl,rfl⟩,by simp,Nat.zero_le _⟩
  · simp only [List.cons.injEq,and_true] at hc
    subst hc
    simp only [if_true] at hmm
    subst hmm
    rw [← hsl] at hel
    by_cases hm0:m=0
    · subst hm0
      have:len=0:=by omega
      subst this
      obtain ⟨g1,g2⟩:=Inv.addRow ho.1 ho.2 (y:=Option.none) (cs:=[]) rfl (by unfold RowOk;simp [Mu.set])
      exact ⟨(.sl h.length 0 0 sh.length),_,[some ⟨[],false⟩],0,[],Mu.le_set (ho.1.dom _ (Nat.le_refl _)),⟨g1,g2⟩,.inr ⟨rfl,_,rfl⟩,.inr ⟨h.length,0,⟨[],false⟩,rfl,E8,by simp,by simp,by simp,rfl⟩,by simp,Nat.zero_le _⟩
    · obtain ⟨cs0,hc0,hr0⟩:=hel 0 (by omega)
      obtain ⟨_,hlen,hcell0⟩:=World.cells?_some hc0
      have hget:∃ C elem fz,W.heap[a.block]? = some (.cells C elem fz) ∧ a.spot=none:=by
        have:=hcell0 0 hpos
        rw [List.getElem?_eq_getElem (by omega)] at this
        unfold World.cell? at this
        have hb0:((a.add (0 * sh.length)).add 0)=a:=by simp [Addr.add]
        rw [hb0] at this
        split at this
        · rename_i C elem fz hh
          refine ⟨C,elem,fz,hh,?_⟩
          split at this
          · cases this
          · rename_i hs2;cases hsp:a.spot with
            | none=>rfl
            | some s=>simp [hsp] at hs2
        · cases this
      obtain ⟨C,elem,fz,hC,hsp⟩:=hget
      have ha:a=⟨a.block,a.off,none⟩:=by cases a;simp_all
      have hcellC:∀ i j,i < m → j < sh.length → W.cell? ((a.add (i * sh.length)).add j)=C[a.off + (i * sh.length + j)]? := by
        intro i j _ _
        rw [Deep.add_add]
        exact B5T hC hsp
      have hsize:a.off + m * sh.length ≤ C.size:=by
        obtain ⟨cs1,hc1,_⟩:=hel (m - 1) (by omega)
        obtain ⟨_,hlen1,hcell1⟩:=World.cells?_some hc1
        have h1:=hcell1 (sh.length - 1) (by omega)
        rw [hcellC _ _ (by omega) (by omega),List.getElem?_eq_getElem (by omega)] at h1
        have h2:=(Array.getElem?_eq_some_iff.1 h1).1
        have e:(m - 1) * sh.length + (sh.length - 1) + 1=m * sh.length:=by
          obtain ⟨q,rfl⟩:∃ q,m=q + 1:=⟨m - 1,by omega⟩
          rw [Nat.add_sub_cancel,Nat.add_mul];omega
        omega
      have key:∀ d j,j + d=len → ∃ cells,All2 (RC μ) cells ((C.toList.drop (a.off + j * sh.length)).take (d * sh.length)) ∧ All2 okCell (List.replicate d sh).flatten cells:=by
        intro d
        induction d with
        | zero=>intro j _;exact ⟨[],by simp,trivial⟩
        | succ d ih =>
          intro j hj
          obtain ⟨cs1,hc1,hr1⟩:=hel j (by omega)
          obtain ⟨_,hlen1,hcell1⟩:=World.cells?_some hc1
          obtain ⟨c1,g1,g2⟩:=A9b μ n hr1 hs
          obtain ⟨c2,g3,g4⟩:=ih (j + 1) (by omega)
          refine ⟨c1 ++ c2,?_,by rw [List.replicate_succ,List.flatten_cons];exact g2.append g4⟩
          have e1:(C.toList.drop (a.off + j * sh.length)).take sh.length=cs1:=by
            refine List.ext_getElem? fun i=>?_
            by_cases hi:i < sh.length
            · rw [List.getElem?_take_of_lt hi,List.getElem?_drop,← hcell1 i hi,hcellC j i (by omega) hi]
              simp [Nat.add_assoc]
            · rw [List.getElem?_eq_none (by simp;omega),List.getElem?_eq_none (by omega)]
          have e2:(C.toList.drop (a.off + j * sh.length)).take ((d + 1) * sh.length)=cs1 ++ (C.toList.drop (a.off + (j + 1) * sh.length)).take (d * sh.length):=by
            rw [Nat.add_mul d 1,Nat.one_mul,Nat.add_comm (d * sh.length),List.take_add,e1,List.drop_drop,Nat.add_mul,Nat.one_mul,Nat.add_assoc]
          rw [e2]
          exact g1.append g3
      obtain ⟨cells,k1,k2⟩:=key len 0 (by omega)
      rw [Nat.zero_mul,Nat.add_zero] at k1
      have hcl:cells.length=len * sh.length:=by
        have h1:=k1.length
        simp at h1
        have:len * sh.length ≤ m * sh.length:=Nat.mul_le_mul_right _ hl
        omega
      have hmul:len * sh.length ≤ m * sh.length:=Nat.mul_le_mul_right _ hl
      have hm':μ h.length=none:=ho.1.dom _ (Nat.le_refl _)
      obtain ⟨g1,g2⟩:=Inv.addRow ho.1 ho.2 (y:=some (a.block,C.size)) (cs:=List.replicate a.off .dark ++ cells) (B9C k1) (by
        unfold RowOk
        simp only [Mu.set,if_true]
        refine .inl ⟨C,elem,fz,hC,rfl,?_,fun hf=>by cases hf⟩
        have e3:C.toList.take (List.replicate a.off Cell.dark ++ cells).length=C.toList.take a.off ++ (C.toList.drop a.off).take (len * sh.length):=by
          rw [List.length_append,List.length_replicate,List.take_add,hcl]
        rw [e3]
        refine All2.append ?_ (k1.mono fun c V hc=>.inl (hc.mono (Mu.le_set hm')))
        refine All2.of_get (by simp;omega) fun i c V hc hV=>.inr ⟨rfl,?_⟩
        have:=List.mem_of_getElem? hc
        rw [List.mem_replicate] at this
        rw [this.2];rfl)
      refine ⟨(.sl h.length a.off len sh.length),_,[some ⟨List.replicate a.off .dark ++ cells,false⟩],len,cells,Mu.le_set hm',⟨g1,g2⟩,.inl ⟨a.block,C.size,m,by simp [Mu.set],hl,hsize,by rw [← ha]⟩,.inr ⟨h.length,a.off,_,rfl,E8,hcl,?_,?_,(B9s k2).2⟩,k2,by omega⟩
      · simp [hcl]
      · rw [List.drop_left' (by simp),List.take_of_length_le (by omega)]
end
end Go.Esc
end
section
namespace Go.Esc
open Go Go.ChangeShapes Go.WideShapes Go.ChangeAt Go.RowKit
inductive RSh where
  | leaf (s:Sh)
  | sl (l:List Sh)
def A2G (P:Program) (n:Nat):List Field → Nat → Option (List RSh)
  | [],_=>some []
  | f :: r,off=>if f.offset=off then
      (match P.underlying f.type with
        | some (.slice e)=>(A1c P n e).bind fun l=>if l.length=P.cellsOf e ∧ 0 < l.length ∧ P.cellsOf f.type=1 then (A2G P n r (off + 1)).map (.sl l :: ·) else none
        | _=>(A1c P n f.type).bind fun l=>if l.length=P.cellsOf f.type then (A2G P n r (off + l.length)).map (l.map .leaf ++ ·) else none) else none
def okR (h:A0):RSh → Cell → Prop
  | .leaf s,c=>okCell s c
  | .sl sh,c=>∃ len cells,Has h (.c c) sh.length len cells ∧ All2 okCell (List.replicate len sh).flatten cells ∧ len ≤ maxLen
theorem okR.more {h:A0} {s:RSh} {c:Cell} (hk:okR h s c) (l:A0):okR (h ++ l) s c:=by
  cases s with
  | leaf s=>exact hk
  | sl sh =>
    obtain ⟨len,cells,h1,h2,h3⟩:=hk
    exact ⟨len,cells,h1.more l,h2,h3⟩
theorem B9u {h:A0}:∀ {l:List Sh} {cs:List Cell},All2 okCell l cs → All2 (okR h) (l.map .leaf) cs
  | [],[],_=>trivial
  | s :: l,c :: cs,⟨h1,h2⟩=>⟨h1,B9u h2⟩
  | [],_ :: _,h=>h.elim
  | _ :: _,[],h=>h.elim
section
variable {H:Type} {enc:TypeId × Value → H} {P:Program} {W:World} {base:Nat} {held:Bool}
theorem All2.monoR {α β:Type} {R S:α → β → Prop} (f:∀ a b,R a b → S a b):∀ {l:List α} {m:List β},All2 R l m → All2 S l m
  | [],[],_=>trivial
  | a :: l,b :: m,⟨h1,h2⟩=>⟨f a b h1,All2.monoR f h2⟩
  | [],_ :: _,h=>h.elim
  | _ :: _,[],h=>h.elim
theorem D0K {n fuel:Nat} {t:TypeId} {fs:Array Field} {cs:List Value} {x:DataW H × List MemPlace} {sh:List RSh} (ht:P.underlying t=some (.struct fs)) (hs:A2G P n fs.toList 0=some sh) (hsl:sh.length=P.cellsOf t)
    (h:DataW.trod enc P W base (fun _=>true) held fuel t cs=some x) {μ:Mu} {hp:A0} (ho:Opened W μ hp) :
    ∃ cells μ' l,μ.le μ' ∧ Opened W μ' (hp ++ l) ∧ All2 (RC μ') cells cs ∧ All2 (okR (hp ++ l)) sh cells:=by
  obtain ⟨xs,m,_,_,hcl,hxl,hf⟩:=DataW.trod_struct ht h
  have key:∀ (r:List Field) (off:Nat) (l:List RSh) (μ:Mu) (hp:A0),Opened W μ hp → A2G P n r off=some l → (∀ f ∈ r,∃ y,DataW.trod enc P W base (fun _=>true) held m f.type ((cs.drop f.offset).take (P.cellsOf f.type))=some y) → off + l.length ≤ cs.length →
      ∃ cells μ' t,μ.le μ' ∧ Opened W μ' (hp ++ t) ∧ All2 (RC μ') cells ((cs.drop off).take l.length) ∧ All2 (okR (hp ++ t)) l cells:=by
    intro r
    induction r with
    | nil=>intro off l μ hp ho hl _ _;simp only [A2G,Option.some.injEq] at hl;subst hl;exact ⟨[],μ,[],Mu.le_refl _,by simpa using ho,by simp,trivial⟩
    | cons f r ih =>
      intro off l μ hp ho hl hall hlen
      simp only [A2G] at hl
      split at hl
      · rename_i hoff
        obtain ⟨y,hy⟩:=hall f (by simp)
        split at hl
        · rename_i e he
          simp only [Option.bind_eq_some_iff] at hl
          obtain ⟨lf,hlf,hl⟩:=hl
          split at hl
          · rename_i hc
            obtain ⟨hc1,hc2,hc3⟩:=hc
            simp only [Option.map_eq_some_iff] at hl
            obtain ⟨lr,hlr,rfl⟩:=hl
            rw [List.length_cons] at hlen
            rw [hoff,hc3] at hy
            have e1:(cs.drop off).take 1=[cs[off]'(by omega)]:=by
              rw [List.drop_eq_getElem_cons (by omega),List.take_succ_cons,List.take_zero]
            rw [e1] at hy
            obtain ⟨c,μ1,t1,len,cells,a1,a2,a3,a4,a5,a6⟩:=D0L ho he hlf hc1 hc2 hy
            obtain ⟨c2,μ2,t2,b1,b2,b3,b4⟩:=ih (off + 1) lr μ1 _ a2 hlr (fun f' hf'=>hall f' (by simp [hf'])) (by omega)
            refine ⟨c :: c2,μ2,t1 ++ t2,fun i y hy=>b1 i y (a1 i y hy),by rw [← List.append_assoc];exact b2,?_,?_⟩
            · rw [List.length_cons,List.drop_eq_getElem_cons (by omega),List.take_succ_cons]
              exact ⟨RC.mono b1 a3,b3⟩
            · rw [← List.append_assoc]
              exact ⟨⟨len,cells,a4.more t2,a5,a6⟩,b4⟩
          · cases hl
        · simp only [Option.bind_eq_some_iff] at hl
          obtain ⟨lf,hlf,hl⟩:=hl
          split at hl
          · rename_i hc
            simp only [Option.map_eq_some_iff] at hl
            obtain ⟨lr,hlr,rfl⟩:=hl
            rw [List.length_append,List.length_map] at hlen
            obtain ⟨c1,g1,g2⟩:=A9b μ n hy hlf
            obtain ⟨c2,μ2,t2,b1,b2,b3,b4⟩:=ih (off + lf.length) lr μ hp ho hlr (fun f' hf'=>hall f' (by simp [hf'])) (by omega)
            refine ⟨c1 ++ c2,μ2,t2,b1,b2,?_,(B9u g2).append b4⟩
            have e:(cs.drop off).take (lf.map RSh.leaf ++ lr).length=(cs.drop off).take lf.length ++ (cs.drop (off + lf.length)).take lr.length:=by
              rw [List.length_append,List.length_map,List.take_add,List.drop_drop]
            rw [e]
            rw [hoff,← hc] at g1
            exact (g1.mono fun c V hc=>RC.mono b1 hc).append b3
          · cases hl
      · cases hl
  obtain ⟨cells,μ',t,h1,h2,h3,h4⟩:=key fs.toList 0 sh μ hp ho hs (fun f hf'=>by
    obtain ⟨i,hi⟩:=List.mem_iff_getElem?.1 hf'
    have hi2:fs[i]? = some f:=by simpa using hi
    rw [hf i f hi2]
    have:i < fs.size:=(Array.getElem?_eq_some_iff.1 hi2).1
    exact ⟨xs[i],List.getElem?_eq_getElem (by omega)⟩) (by omega)
  rw [List.drop_zero,List.take_of_length_le (by omega)] at h3
  exact ⟨cells,μ',t,h1,h2,h3,h4⟩
def OkRs (h:A0) (sh:List RSh):Nat → List Cell → Prop
  | 0,cs=>cs=[]
  | n + 1,cs=>∃ c1 c2,cs=c1 ++ c2 ∧ All2 (okR h) sh c1 ∧ OkRs h sh n c2
theorem OkRs.more {h:A0} {sh:List RSh} (l:A0):∀ {n:Nat} {cs:List Cell},OkRs h sh n cs → OkRs (h ++ l) sh n cs
  | 0,_,hk=>hk
  | n + 1,_,⟨c1,c2,e,h1,h2⟩=>⟨c1,c2,e,All2.monoR (fun _ _ h=>h.more l) h1,OkRs.more l h2⟩
theorem D0H {h:A0} {s:RSh} {c:Cell} (hk:okR h s c):c.isX=false:=by
  cases s with
  | leaf s=>exact hk.flat.2
  | sl sh =>
    obtain ⟨len,cells,h1,_⟩:=hk
    rcases h1 with ⟨e,_⟩ | ⟨id,off,r,e,_⟩ <;> cases e <;> rfl
theorem OkRs.noX {h:A0} {sh:List RSh}:∀ {n:Nat} {cs:List Cell},OkRs h sh n cs → Esc.noX cs=true ∧ cs.length=n * sh.length
  | 0,_,hk=>by
    have hk:_=[]:=hk
    subst hk;exact ⟨rfl,by simp⟩
  | n + 1,_,⟨c1,c2,e,h1,h2⟩=>by
    subst e
    have ih:=OkRs.noX h2
    have h3:∀ {l:List RSh} {cs:List Cell},All2 (okR h) l cs → Esc.noX cs=true:=by
      intro l
      induction l with
      | nil=>intro cs h;cases cs with
        | nil=>rfl
        | cons=>exact h.elim
      | cons s l ih=>intro cs h;cases cs with
        | nil=>exact h.elim
        | cons c cs =>
          have h4:=D0H h.1
          have h5:=ih h.2
          unfold Esc.noX at h5 ⊢
          rw [List.all_cons,h5,h4];rfl
    refine ⟨?_,?_⟩
    · have h4:=h3 h1
      have h5:=ih.1
      unfold Esc.noX at h4 h5 ⊢
      rw [List.all_append,h4,h5];rfl
    · rw [List.length_append,← h1.length,ih.2,Nat.add_mul];omega
theorem B49 {μ:Mu} {h:A0} (ho:Opened W μ h) {r:Reach} {b0 n:Nat} {t e:TypeId} {fs:Array Field} {v:Value} {d:DataW H} {ps:List MemPlace} {sh:List RSh} (ht:P.underlying t=some (.slice e)) (hte:P.underlying e=some (.struct fs)) (hs:A2G P n fs.toList 0=some sh) (hsl:sh.length=P.cellsOf e) (hpos:0 < sh.length)
    (hval:Value.okWide P W r b0 t v) (hd:DataW.Trod enc P W base (fun _=>true) held t v d ps) :
    ∃ v' μ' l len cells,μ.le μ' ∧ Opened W μ' (h ++ l) ∧ RV μ' v' v ∧ Has (h ++ l) v' sh.length len cells ∧ OkRs (h ++ l) sh len cells ∧ len ≤ maxLen:=by
  obtain ⟨fuel,hf⟩:=hd
  have hv:∃ a len cap,v=.slice a len cap:=by
    unfold Value.okWide at hval
    rw [ht] at hval
    unfold Cell.okWide at hval
    rw [ht] at hval
    cases v <;> simp_all [Cell.ok]
  obtain ⟨a0,len0,cap0,rfl⟩:=hv
  have hcells:(Value.slice a0 len0 cap0).cells.toList=[.slice a0 len0 cap0]:=by simp [Value.cells]
  rw [hcells] at hf
  rcases Deep.open_slice ht hf with ⟨hc,_⟩ | ⟨a,len,cap,m,k,D,Pl,hc,hb,hl,hm,hmm,hx,hel⟩
  · simp only [List.cons.injEq,Value.slice.injEq,and_true] at hc
    obtain ⟨rfl,rfl,rfl⟩:=hc
    exact ⟨.c .ns,μ,[],0,[],Mu.le_refl _,by simpa using ho,rfl,.inl ⟨rfl,rfl,rfl⟩,rfl,Nat.zero_le _⟩
  · simp only [List.cons.injEq,Value.slice.injEq,and_true] at hc
    obtain ⟨rfl,rfl,rfl⟩:=hc
    simp only [if_true] at hmm
    subst hmm
    rw [← hsl] at hel
    by_cases hm0:m=0
    · subst hm0
      have:len0=0:=by omega
      subst this
      obtain ⟨g1,g2⟩:=Inv.addRow ho.1 ho.2 (y:=Option.none) (cs:=[]) rfl (by unfold RowOk;simp [Mu.set])
      exact ⟨.c (.sl h.length 0 0 sh.length),_,[some ⟨[],false⟩],0,[],Mu.le_set (ho.1.dom _ (Nat.le_refl _)),⟨g1,g2⟩,.inr ⟨rfl,_,rfl⟩,.inr ⟨h.length,0,⟨[],false⟩,rfl,E8,by simp,by simp,by simp,rfl⟩,rfl,Nat.zero_le _⟩
    · obtain ⟨cs0,hc0,hr0⟩:=hel 0 (by omega)
      obtain ⟨_,hlen0,hcell0⟩:=World.cells?_some hc0
      have hget:∃ C elem fz,W.heap[a.block]? = some (.cells C elem fz) ∧ a.spot=none:=by
        have:=hcell0 0 hpos
        rw [List.getElem?_eq_getElem (by omega)] at this
        unfold World.cell? at this
        have hb0:((a.add (0 * sh.length)).add 0)=a:=by simp [Addr.add]
        rw [hb0] at this
        split at this
        · rename_i C elem fz hh
          refine ⟨C,elem,fz,hh,?_⟩
          split at this
          · cases this
          · rename_i hs2;cases hsp:a.spot with
            | none=>rfl
            | some s=>simp [hsp] at hs2
        · cases this
      obtain ⟨C,elem,fz,hC,hsp⟩:=hget
      have ha:a=⟨a.block,a.off,none⟩:=by cases a;simp_all
      have hcellC:∀ i j,i < m → j < sh.length → W.cell? ((a.add (i * sh.length)).add j)=C[a.off + (i * sh.length + j)]? := by
        intro i j _ _
        rw [Deep.add_add]
        exact B5T hC hsp
      have hsize:a.off + m * sh.length ≤ C.size:=by
        obtain ⟨cs1,hc1,_⟩:=hel (m - 1) (by omega)
        obtain ⟨_,hlen1,hcell1⟩:=World.cells?_some hc1
        have h1:=hcell1 (sh.length - 1) (by omega)
        rw [hcellC _ _ (by omega) (by omega),List.getElem?_eq_getElem (by omega)] at h1
        have h2:=(Array.getElem?_eq_some_iff.1 h1).1
        have e:(m - 1) * sh.length + (sh.length - 1) + 1=m * sh.length:=by
          obtain ⟨q,rfl⟩:∃ q,m=q + 1:=⟨m - 1,by omega⟩
          rw [Nat.add_sub_cancel,Nat.add_mul];omega
        omega
      have key:∀ d j (μ:Mu) (hp:A0),Opened W μ hp → j + d=len0 → ∃ cells μ' t,μ.le μ' ∧ Opened W μ' (hp ++ t) ∧ All2 (RC μ') cells ((C.toList.drop (a.off + j * sh.length)).take (d * sh.length)) ∧ OkRs (hp ++ t) sh d cells:=by
        intro d
        induction d with
        | zero=>intro j μ hp ho _;exact ⟨[],μ,[],Mu.le_refl _,by simpa using ho,by simp,rfl⟩
        | succ d ih =>
          intro j μ hp ho hj
          obtain ⟨cs1,hc1,hr1⟩:=hel j (by omega)
          obtain ⟨_,hlen1,hcell1⟩:=World.cells?_some hc1
          obtain ⟨c1,μ1,t1,a1,a2,a3,a4⟩:=D0K hte hs hsl hr1 ho
          obtain ⟨c2,μ2,t2,b1,b2,b3,b4⟩:=ih (j + 1) μ1 _ a2 (by omega)
          refine ⟨c1 ++ c2,μ2,t1 ++ t2,fun i y hy=>b1 i y (a1 i y hy),by rw [← List.append_assoc];exact b2,?_,c1,c2,rfl,by rw [← List.append_assoc];exact All2.monoR (fun _ _ h=>h.more t2) a4,by rw [← List.append_assoc];exact b4⟩
          have e1:(C.toList.drop (a.off + j * sh.length)).take sh.length=cs1:=by
            refine List.ext_getElem? fun i=>?_
            by_cases hi:i < sh.length
            · rw [List.getElem?_take_of_lt hi,List.getElem?_drop,← hcell1 i hi,hcellC j i (by omega) hi]
              simp [Nat.add_assoc]
            · rw [List.getElem?_eq_none (by simp;omega),List.getElem?_eq_none (by omega)]
          have e2:(C.toList.drop (a.off + j * sh.length)).take ((d + 1) * sh.length)=cs1 ++ (C.toList.drop (a.off + (j + 1) * sh.length)).take (d * sh.length):=by
            rw [Nat.add_mul d 1,Nat.one_mul,Nat.add_comm (d * sh.length),List.take_add,e1,List.drop_drop,Nat.add_mul,Nat.one_mul,Nat.add_assoc]
          rw [e2]
          exact (a3.mono fun c V hc=>RC.mono b1 hc).append b3
      obtain ⟨cells,μ1,t1,a1,a2,k1,k2⟩:=key len0 0 μ h ho (by omega)
      rw [Nat.zero_mul,Nat.add_zero] at k1
      have hcl:=k2.noX
      have hmul:len0 * sh.length ≤ m * sh.length:=Nat.mul_le_mul_right _ hl
      have hm':μ1 (h ++ t1).length=none:=a2.1.dom _ (Nat.le_refl _)
      obtain ⟨g1,g2⟩:=Inv.addRow a2.1 a2.2 (y:=some (a.block,C.size)) (cs:=List.replicate a.off .dark ++ cells) (B9C k1) (by
        unfold RowOk
        simp only [Mu.set,if_true]
        refine .inl ⟨C,elem,fz,hC,rfl,?_,fun hf=>by cases hf⟩
        have e3:C.toList.take (List.replicate a.off Cell.dark ++ cells).length=C.toList.take a.off ++ (C.toList.drop a.off).take (len0 * sh.length):=by
          rw [List.length_append,List.length_replicate,List.take_add,hcl.2]
        rw [e3]
        refine All2.append ?_ (k1.mono fun c V hc=>.inl (hc.mono (Mu.le_set hm')))
        refine All2.of_get (by simp;omega) fun i c V hc hV=>.inr ⟨rfl,?_⟩
        have:=List.mem_of_getElem? hc
        rw [List.mem_replicate] at this
        rw [this.2];rfl)
      rw [List.append_assoc] at g1 g2
      refine ⟨.c (.sl (h ++ t1).length a.off len0 sh.length),_,t1 ++ [some ⟨List.replicate a.off .dark ++ cells,false⟩],len0,cells,fun i y hy=>Mu.le_set hm' i y (a1 i y hy),⟨g1,g2⟩,.inl ⟨a.block,C.size,m,by simp [Mu.set],hl,hsize,by rw [← ha]⟩,.inr ⟨(h ++ t1).length,a.off,⟨List.replicate a.off .dark ++ cells,false⟩,rfl,by rw [← List.append_assoc];exact E8,hcl.2,?_,?_,hcl.1⟩,by rw [← List.append_assoc];exact k2.more _,by omega⟩
      · simp [hcl.2]
      · rw [List.drop_left' (by simp),List.take_of_length_le (by omega)]
end
end Go.Esc
end
noncomputable section
namespace Go.Proofs.YteckncopbicmcaaGreat
open Go Go.Esc
set_option maxRecDepth 100000
def B6f:ACode:=.seq [0,1,5,6,7] (.seq [0,1,5,6,7,37] (.ops [aO 28 (.mv (.t 7)),aO 29 (.mv (.t 0)),aO 30 (.len (.t 29)),aO 31 (.bin .lss (.t 28) (.t 30)),aO 32 (.mv (.t 31)),aG 33 32 true (.mv (.t 7)),aG 34 32 true (.mv (.t 1)),aG 35 32 true (.len (.t 34)),aG 36 32 true (.bin .lss (.t 33) (.t 35)),aO 37 (.pick (.t 32) (.t 36) (.v (.c (.b false))))]) (.cond (.t 37) .skip (.exit 0))) (.seq [0,1,5,6,7] (.block 1 (.seq [0,1,5,6,7] (.draw 0 [aO 40 (.mv (.t 5)),aO 41 (.mv (.t 40)),aG 42 41 true (.mv (.t 0)),aG 43 41 true (.mv (.t 7)),aG 44 41 true (.iAddrL 7 (.t 42) (.t 43)),aG 45 41 true (.loadN 7 (.t 44)),aG 46 41 true (.mv (.t 1)),aG 47 41 true (.mv (.t 7)),aG 48 41 true (.iAddrL 7 (.t 46) (.t 47)),aG 49 41 true (.loadN 7 (.t 48))] [aG 50 41 true (.call 36 [(.t 45),(.t 49)]),aO 51 (.pick (.t 41) (.t 50) (.v (.c (.b false)))),aO 5 (.mv (.t 51))]) (.seq [0,1,5,6,7,8] (.ops [aO 52 (.mv (.t 0)),aO 53 (.mv (.t 7)),aO 54 (.iAddrL 7 (.t 52) (.t 53)),aO 55 (.loadN 7 (.t 54)),aO 8 (.alloc ([.i .i64 0,.i .i64 0,.i .i64 0,.i .i64 0,.i .i64 0,.ns,.ns])),aN (.storeN 7 (.t 8) (.t 55))]) (.seq [0,1,5,6,7,8] (.drawS 0 [aO 56 (.mv (.t 1)),aO 57 (.mv (.t 7)),aO 58 (.iAddrL 7 (.t 56) (.t 57)),aO 59 (.fAddr (.t 58) 2),aO 60 (.load1 (.t 59)),aO 61 (.mv (.t 1)),aO 62 (.mv (.t 7)),aO 63 (.iAddrL 7 (.t 61) (.t 62)),aO 64 (.fAddr (.t 63) 3),aO 65 (.load1 (.t 64)),aO 66 (.fAddr (.t 8) 2)] (aN (.store1 (.t 66) (.t 60))) [(65,.load1 (.t 64))] [aO 67 (.fAddr (.t 8) 3),aN (.store1 (.t 67) (.t 65))]) (.draw 0 [aO 68 (.mv (.t 6)),aO 69 (.mv (.t 68)),aG 70 69 true (.loadN 7 (.t 8)),aG 71 69 true (.mv (.t 1)),aG 72 69 true (.mv (.t 7)),aG 73 69 true (.iAddrL 7 (.t 71) (.t 72)),aG 74 69 true (.loadN 7 (.t 73))] [aG 75 69 true (.call 36 [(.t 70),(.t 74)]),aO 76 (.pick (.t 69) (.t 75) (.v (.c (.b false)))),aO 6 (.mv (.t 76))]))))) (.ops [aO 38 (.mv (.t 7)),aO 39 (.bin .add (.t 38) (.v (.c (.i .i64 1)))),aO 7 (.mv (.t 39))]))
def B6g:ACode:=.seq [0,5,6,9,10] (.ops [aO 77 (.mv (.t 0)),aO 78 (.call 37 [(.t 77)]),aO 79 (.mv (.t 1)),aO 80 (.call 37 [(.t 79)]),aO 9 (.mv (.t 78)),aO 10 (.mv (.t 80))]) (.seq [4] (.ops [aO 81 (.mv (.t 9)),aO 82 (.mv (.t 10)),aO 83 (.call 38 [(.t 81),(.t 82)]),aO 84 (.mv (.t 5)),aO 85 (.eqB false (.t 83) (.t 84)),aO 86 (.mv (.t 85)),aG 87 86 true (.mv (.t 9)),aG 88 86 true (.mv (.t 10)),aG 89 86 true (.call 39 [(.t 87),(.t 88)]),aG 90 86 true (.mv (.t 6)),aG 91 86 true (.eqB false (.t 89) (.t 90)),aO 92 (.pick (.t 86) (.t 91) (.v (.c (.b false)))),aO 93 (.mv (.t 92)),aG 94 93 true (.mv (.t 9)),aG 95 93 true (.mv (.t 9)),aG 96 93 true (.call 38 [(.t 94),(.t 95)]),aO 97 (.pick (.t 93) (.t 96) (.v (.c (.b false)))),aO 98 (.mv (.t 97)),aG 99 98 true (.mv (.t 9)),aG 100 98 true (.call 41 [(.t 99)]),aG 101 98 true (.mv (.t 0)),aG 102 98 true (.call 42 [(.t 101)]),aG 103 98 true (.call 40 [(.t 100),(.t 102)]),aO 104 (.pick (.t 98) (.t 103) (.v (.c (.b false)))),aO 105 (.mv (.t 104)),aG 106 105 true (.call 35 []),aO 107 (.pick (.t 105) (.t 106) (.v (.c (.b false)))),aO 4 (.mv (.t 107))]) .ret)
def A_el25_TreeTells:AFn:=⟨.seq [0,1] (.ops [aO 4 (.mv (.v (.c (.b false))))]) (.seq [0,1] (.seq [0,1,16] (.ops [aO 11 (.mv (.t 0)),aO 12 (.call 34 [(.t 11)]),aO 13 (.mv (.t 12)),aG 14 13 false (.mv (.t 1)),aG 15 13 false (.call 34 [(.t 14)]),aO 16 (.pick (.t 13) (.v (.c (.b true))) (.t 15))]) (.cond (.t 16) (.seq [4] (.ops [aO 17 (.call 35 []),aO 4 (.mv (.t 17))]) .ret) .skip)) (.seq [0,1,5,6] (.ops [aO 18 (.mv (.t 0)),aO 19 (.len (.t 18)),aO 20 (.mv (.t 1)),aO 21 (.len (.t 20)),aO 22 (.bin .eql (.t 19) (.t 21)),aO 23 (.mv (.t 0)),aO 24 (.len (.t 23)),aO 25 (.mv (.t 1)),aO 26 (.len (.t 25)),aO 27 (.bin .eql (.t 24) (.t 26)),aO 5 (.mv (.t 22)),aO 6 (.mv (.t 27))]) (.seq [0,1,5,6] (.seq [0,1,5,6,7] (.ops [aO 7 (.mv (.v (.c (.i .i64 0))))]) (.block 0 (.loop [0,1,5,6,7] B6f))) B6g))),[.tmp 4]⟩
def A3W:B0:=B1 34 A3e (B1 35 A3c (B1 36 A3f (B1 37 A3b (B1 38 A3h (B1 39 A2f (B1 41 A2h (B1 42 A4L (B1 40 A11 C0))))))))
def C7X (n:Nat):A9 (Val × A0):=E4 [0,1,5,6] (ax A3W n B6g) A_el25_TreeTells.fin
def C7Y (n:Nat):A9 (Val × A0):=D6 0 (C7X n)
def A3t (n m:Nat) (x0 x1 x5 x6 x7:Val) (h:A0):A6:=C6 (ax A3W n B6f) [0,1,5,6,7] (C7Y n) m [(0,x0),(1,x1),(5,x5),(6,x6),(7,x7)] h
def A6w (n:Nat) (args:List Val) (h:A0):A6:=ax A3W n A_el25_TreeTells.code A_el25_TreeTells.fin (params 0 args) h
theorem C2h (n:Nat) (a0 a1:Val) (h:A0):A6w n [a0,a1] h=bnd (A3e [a0] h) fun p1=>bnd (gd p1.1 false (some (a1,p1.2)) (some (.no,p1.2))) fun p2=>bnd (gd p1.1 false (bnd (A3e [p2.1] p2.2) fun p3=>some (p3.1,p3.2)) (some (.no,p2.2))) fun p4=>bnd (C4 p1.1 (.c (.b true)) p4.1) fun v5=>cnd v5 (bnd (A3c [] p4.2) fun p6=>some (p6.1,p6.2)) (bnd (D5 a0) fun v7=>bnd (D5 a1) fun v8=>bnd (A2 .eql v7 v8) fun v9=>bnd (D5 a0) fun v10=>bnd (D5 a1) fun v11=>bnd (A2 .eql v10 v11) fun v12=>A3t n n a0 a1 v9 v12 (.c (.i .i64 0)) p4.2):=by kernel_rfl
theorem A73 (n m:Nat) (x0 x1 x5 x6 x7:Val) (h:A0):A3t n (m + 1) x0 x1 x5 x6 x7 h=bnd (D5 x0) fun v13=>bnd (A2 .lss x7 v13) fun v14=>bnd (gd v14 true (some (x7,h)) (some (.no,h))) fun p15=>bnd (gd v14 true (some (x1,p15.2)) (some (.no,p15.2))) fun p16=>bnd (gd v14 true (bnd (D5 p16.1) fun v17=>some (v17,p16.2)) (some (.no,p16.2))) fun p18=>bnd (gd v14 true (bnd (A2 .lss p15.1 p18.1) fun v19=>some (v19,p18.2)) (some (.no,p18.2))) fun p20=>bnd (C4 v14 p20.1 (.c (.b false))) fun v21=>cnd v21 (bnd (gd x5 true (some (x0,(p20.2 ++ []))) (some (.no,(p20.2 ++ [])))) fun p22=>bnd (gd x5 true (some (x7,p22.2)) (some (.no,p22.2))) fun p23=>bnd (gd x5 true (bnd (B7 7 p22.1 p23.1) fun v24=>some (v24,p23.2)) (some (.no,p23.2))) fun p25=>bnd (gd x5 true (bnd (A4 p20.2 7 p25.1) fun v26=>some (v26,p25.2)) (some (.no,p25.2))) fun p27=>bnd (gd x5 true (some (x1,p27.2)) (some (.no,p27.2))) fun p28=>bnd (gd x5 true (some (x7,p28.2)) (some (.no,p28.2))) fun p29=>bnd (gd x5 true (bnd (B7 7 p28.1 p29.1) fun v30=>some (v30,p29.2)) (some (.no,p29.2))) fun p31=>bnd (gd x5 true (bnd (A4 p20.2 7 p31.1) fun v32=>some (v32,p31.2)) (some (.no,p31.2))) fun p33=>bnd (gd x5 true (bnd (A3f [p27.1,p33.1] p33.2) fun p34=>some (p34.1,p34.2)) (some (.no,p33.2))) fun p35=>bnd (C4 x5 p35.1 (.c (.b false))) fun v36=>bnd (B7 7 x0 x7) fun v37=>bnd (A4 p35.2 7 v37) fun v38=>bnd (B4 (p35.2 ++ [some (Row.mk ([.i .i64 0,.i .i64 0,.i .i64 0,.i .i64 0,.i .i64 0,.ns,.ns]) true)]) 7 (.c (.p p35.2.length 0)) v38) fun h39=>bnd (B7 7 x1 x7) fun v40=>bnd (A7 v40 2) fun v41=>bnd (A3 h39 v41) fun v42=>bnd (B7 7 x1 x7) fun v43=>bnd (A7 v43 3) fun v44=>bnd (A3 h39 v44) fun v45=>bnd (A7 (.c (.p p35.2.length 0)) 2) fun v46=>bnd (E7 (h39 ++ []) v46 v42) fun h47=>agn (A3 h47 v44) v45 <| bnd (A7 (.c (.p p35.2.length 0)) 3) fun v48=>bnd (E7 h47 v48 v45) fun h49=>bnd (gd x6 true (bnd (A4 h49 7 (.c (.p p35.2.length 0))) fun v50=>some (v50,(h49 ++ []))) (some (.no,(h49 ++ [])))) fun p51=>bnd (gd x6 true (some (x1,p51.2)) (some (.no,p51.2))) fun p52=>bnd (gd x6 true (some (x7,p52.2)) (some (.no,p52.2))) fun p53=>bnd (gd x6 true (bnd (B7 7 p52.1 p53.1) fun v54=>some (v54,p53.2)) (some (.no,p53.2))) fun p55=>bnd (gd x6 true (bnd (A4 h49 7 p55.1) fun v56=>some (v56,p55.2)) (some (.no,p55.2))) fun p57=>bnd (gd x6 true (bnd (A3f [p51.1,p57.1] p57.2) fun p58=>some (p58.1,p58.2)) (some (.no,p57.2))) fun p59=>bnd (C4 x6 p59.1 (.c (.b false))) fun v60=>bnd (A2 .add x7 (.c (.i .i64 1))) fun v61=>A3t n m x0 x1 v36 v60 v61 p59.2) (bnd (A3b [x0] p20.2) fun p62=>bnd (A3b [x1] p62.2) fun p63=>bnd (A3h [p62.1,p63.1] p63.2) fun p64=>bnd (A1j false p64.1 x5) fun v65=>bnd (gd v65 true (some (p62.1,p64.2)) (some (.no,p64.2))) fun p66=>bnd (gd v65 true (some (p63.1,p66.2)) (some (.no,p66.2))) fun p67=>bnd (gd v65 true (bnd (A2f [p66.1,p67.1] p67.2) fun p68=>some (p68.1,p68.2)) (some (.no,p67.2))) fun p69=>bnd (gd v65 true (some (x6,p69.2)) (some (.no,p69.2))) fun p70=>bnd (gd v65 true (bnd (A1j false p69.1 p70.1) fun v71=>some (v71,p70.2)) (some (.no,p70.2))) fun p72=>bnd (C4 v65 p72.1 (.c (.b false))) fun v73=>bnd (gd v73 true (some (p62.1,p72.2)) (some (.no,p72.2))) fun p74=>bnd (gd v73 true (some (p62.1,p74.2)) (some (.no,p74.2))) fun p75=>bnd (gd v73 true (bnd (A3h [p74.1,p75.1] p75.2) fun p76=>some (p76.1,p76.2)) (some (.no,p75.2))) fun p77=>bnd (C4 v73 p77.1 (.c (.b false))) fun v78=>bnd (gd v78 true (some (p62.1,p77.2)) (some (.no,p77.2))) fun p79=>bnd (gd v78 true (bnd (A2h [p79.1] p79.2) fun p80=>some (p80.1,p80.2)) (some (.no,p79.2))) fun p81=>bnd (gd v78 true (some (x0,p81.2)) (some (.no,p81.2))) fun p82=>bnd (gd v78 true (bnd (A4L [p82.1] p82.2) fun p83=>some (p83.1,p83.2)) (some (.no,p82.2))) fun p84=>bnd (gd v78 true (bnd (A11 [p81.1,p84.1] p84.2) fun p85=>some (p85.1,p85.2)) (some (.no,p84.2))) fun p86=>bnd (C4 v78 p86.1 (.c (.b false))) fun v87=>bnd (gd v87 true (bnd (A3c [] p86.2) fun p88=>some (p88.1,p88.2)) (some (.no,p86.2))) fun p89=>bnd (C4 v87 p89.1 (.c (.b false))) fun v90=>some (v90,p89.2)):=by kernel_rfl
theorem K_el25_TreeTells:FnK Tryz.prog 5 A_el25_TreeTells A3W A6w:=.mk' (B3 C4p (B3 C38 (B3 C4t (B3 C32 (B3 C57 (B3 B4A (B3 B4D (B3 C4q (B3 B4l C2))))))))) Tryz.func5 (by kernel_rfl) (fun _ _ _=>C1)
def B09:Fun:=tidy (Lim A_el25_TreeTells A3W)
theorem C34:SOk Tryz.prog 5 B09:=K_el25_TreeTells.sok
theorem C33:C9 A6w B09:=K_el25_TreeTells.flat
end Go.Proofs.YteckncopbicmcaaGreat
end
section
namespace Go.Proofs.YteckncopbicmcaaGreat
open Go Go.Esc
def ndSh:List RSh:=[.leaf (.i .i64),.leaf (.i .i64),.leaf (.i .i64),.leaf (.i .i64),.leaf (.i .i64),.sl [.i .u8],.sl [.s,.i .i64]]
theorem okI {h:A0} {c:Cell} (hk:okR h (.leaf (.i .i64)) c):∃ n,c=.i .i64 n:=by
  cases c with
  | i k n =>
    obtain ⟨rfl,_⟩:=hk
    exact ⟨n,rfl⟩
  | _=>exact hk.elim
theorem B91 {s:Sh}:∀ n:Nat,(List.replicate n [s]).flatten=List.replicate n s
  | 0=>rfl
  | n + 1=>by rw [List.replicate_succ,List.flatten_cons,B91 n,List.replicate_succ];rfl
theorem D0I {h:A0} {cs:List Cell} (hk:All2 (okR h) ndSh cs):∃ x,IsNd h cs x:=by
  match cs,hk with
  | [c0,c1,c2,c3,c4,c5,c6],⟨h0,h1,h2,h3,h4,h5,h6,_⟩ =>
    obtain ⟨n0,rfl⟩:=okI h0
    obtain ⟨n1,rfl⟩:=okI h1
    obtain ⟨n2,rfl⟩:=okI h2
    obtain ⟨n3,rfl⟩:=okI h3
    obtain ⟨n4,rfl⟩:=okI h4
    obtain ⟨l5,cells5,a5,b5,_⟩:=h5
    obtain ⟨l6,cells6,a6,b6,_⟩:=h6
    rw [B91] at b5
    obtain ⟨d,rfl,hd⟩:=B9v b5
    obtain ⟨es,rfl⟩:=B9w _ _ b6
    have he:es.length=l6:=by
      have:=a6.length
      rw [A0t] at this
      change es.length * 2=l6 * 2 at this
      omega
    subst hd;subst he
    exact ⟨⟨n0,n1,n2,n3,n4,d,es⟩,c5,c6,rfl,a5,a6⟩
theorem B9x {h:A0}:∀ {n:Nat} {cs:List Cell},OkRs h ndSh n cs → ∃ t,IsNds h cs t ∧ t.length=n
  | 0,cs,hk=>⟨[],hk,rfl⟩
  | n + 1,cs,⟨c1,c2,e,h1,h2⟩=>by
    obtain ⟨x,hx⟩:=D0I h1
    obtain ⟨t,ht,hl⟩:=B9x h2
    exact ⟨x :: t,⟨c1,c2,e,hx,ht⟩,by simp [hl]⟩
theorem B9y {h:A0} {v:Val} {n:Nat} {cs:List Cell} (hv:Has h v ndSh.length n cs) (hk:OkRs h ndSh n cs):∃ t,IsTree h v t:=by
  obtain ⟨t,ht,hl⟩:=B9x hk
  exact ⟨t,cs,by rw [hl];exact hv,ht⟩
def sameAt (t u:List Nd) (i:Nat):Bool:=match t[i]?,u[i]? with
  | some x,some y=>decide (x=y)
  | _,_=>false
theorem D2h {t u:List Nd} {i:Nat}:sameAt t u i=(W4 t u i && A2T t u i):=by
  unfold sameAt W4 A2T
  cases t[i]? with
  | none=>rfl
  | some x=>cases u[i]? with
    | none=>rfl
    | some y =>
      apply Bool.eq_iff_iff.2
      rw [Bool.and_eq_true,decide_eq_true_iff,decide_eq_true_iff,decide_eq_true_iff,B2V]
      unfold T4
      constructor
      · rintro ⟨a,b,c,d,e,f,g⟩;exact ⟨⟨a,b,e,f,g⟩,c,d⟩
      · rintro ⟨⟨a,b,e,f,g⟩,c,d⟩;exact ⟨a,b,c,d,e,f,g⟩
theorem B4U {p r:Nat → Bool}:∀ e i,J3 (fun j=>p j && r j) e i=(J3 p e i && J3 r e i)
  | 0,i=>rfl
  | e + 1,i=>by
    rw [J3,J3,J3,B4U e (i + 1)]
    cases p i <;> cases r i <;> cases J3 p e (i + 1) <;> rfl
theorem B4V {p:Nat → Bool}:∀ e i,(∀ j,i ≤ j → j < i + e → p j=true) → J3 p e i=true
  | 0,i,_=>rfl
  | e + 1,i,h=>by
    rw [J3,h i (Nat.le_refl _) (by omega),B4V e (i + 1) fun j h1 h2=>h j (by omega) (by omega)];rfl
theorem C0h {t u:List Nd} (h:t.length=u.length):A1J t u=J3 (sameAt t u) t.length 0:=by
  have e:sameAt t u=fun j=>W4 t u j && A2T t u j:=funext fun j=>D2h
  unfold A1J A0y
  rw [e,B4U,decide_eq_true h,Bool.true_and]
theorem D2g (t:List Nd):A1J t t=true:=by
  rw [C0h rfl]
  refine B4V _ _ fun j _ hj=>?_
  unfold sameAt
  rw [List.getElem?_eq_getElem (by omega)]
  simp
def aN2 (x y:Nd):Nd:=⟨x.ino,x.kind,y.links,y.parent,x.size,x.data,x.names⟩
theorem C6k {x y:Nd}:(aN2 x y=y)=T4 x y:=by
  rw [B2V]
  unfold T4 aN2
  apply propext
  constructor
  · rintro ⟨a,b,_,_,e,f,g⟩;exact ⟨a,b,e,f,g⟩
  · rintro ⟨a,b,e,f,g⟩;exact ⟨a,b,rfl,rfl,e,f,g⟩
theorem C0Z {v w:Val} {t u:List Nd} {g:A0} {q N:Nat} (hv:IsTree g v t) (hw:IsTree g w u) (hs:small t) (hN:N=min t.length u.length):∀ (e i M:Nat) (s l:Bool) (h:A0),i + e=N → e < M → Low g.length g h →
    ∃ h',A3t q M v w (.c (.b s)) (.c (.b l)) (.c (.i .i64 (i:Int))) h=A3t q 1 v w (.c (.b (s && J3 (sameAt t u) e i))) (.c (.b (l && J3 (W4 t u) e i))) (.c (.i .i64 (N:Int))) h' ∧ Low g.length g h'
  | e,i,0,s,l,h,_,hm,_=>by omega
  | 0,i,M + 1,s,l,h,hi,hm,hlow=>by
    have e0:i=N:=by omega
    subst e0
    refine ⟨h,?_,hlow⟩
    have hl1:=hv.len
    have hl2:=hw.len
    rw [J3,J3,Bool.and_true,Bool.and_true,A73,A73 q 0]
    by_cases c:(i:Int) < (t.length:Nat)
    · have c2:¬ (i:Int) < (u.length:Nat):=by omega
      simp only [B9,hl1,hl2,D7,c,c2,decide_true,decide_false,A2I,W2,cond_true,F1]
    · simp only [B9,hl1,D7,c,decide_false,A5G,W2,cond_false,F1]
  | e + 1,i,M + 1,s,l,h,hi,hm,hlow=>by
    have h6:=hs.1
    have hil:i < t.length:=by omega
    have hil2:i < u.length:=by omega
    have hl1:=hv.len
    have hl2:=hw.len
    have c:(i:Int) < (t.length:Nat):=by omega
    have c2:(i:Int) < (u.length:Nat):=by omega
    have w1:=E2 (show i + 1 < 9223372036854775808 by omega)
    have hsm:=hs.2 _ (List.getElem_mem hil)
    obtain ⟨id,o,cs,a1,a2,a3,a4⟩:=W8 (hv.since hlow) hil
    obtain ⟨id',o',ds,b1,b2,b3,b4⟩:=W8 (hw.since hlow) hil2
    have hS:=B9Z a4 b4 hsm.1 hsm.2
    have s0:=Y4 (h:=h) a4.length
    obtain ⟨xc,yc,rfl,hx,hy⟩:=a4
    have hb4:=b4
    obtain ⟨xd,yd,rfl,_,_⟩:=b4
    obtain ⟨x,hxe⟩:∃ x,x=t[i]:=⟨_,rfl⟩
    obtain ⟨y,hye⟩:∃ y,y=u[i]:=⟨_,rfl⟩
    have el1:sameAt t u i=decide (x=y):=by unfold sameAt;rw [List.getElem?_eq_getElem hil,List.getElem?_eq_getElem hil2,hxe,hye]
    have el2:W4 t u i=decide (T4 x y):=by unfold W4;rw [List.getElem?_eq_getElem hil,List.getElem?_eq_getElem hil2,hxe,hye]
    rw [← hxe] at a2 a3 hx hy hsm s0 hS
    rw [← hye] at b2 b3 hS hb4
    rw [← el1] at hS
    obtain ⟨H,hH⟩:∃ H,H=h ++ [some (Row.mk (ndC x.ino x.kind x.links x.parent x.size xc yc) true)]:=⟨_,rfl⟩
    rw [← hH] at s0
    have lowH:Low h.length h H:=by rw [hH];exact (Low.refl (Nat.le_refl _)).new _
    have rH:rd H h.length=some ⟨ndC x.ino x.kind x.links x.parent x.size xc yc,true⟩:=by rw [hH];exact E8
    obtain ⟨id2,o2,ds2,b1',b2',b3',b4'⟩:=W8 (hw.since (hlow.trans ⟨hlow.2.1,lowH.2.1,fun j hj=>lowH.2.2 j (by have:=hlow.2.1;omega)⟩)) hil2
    rw [b1] at b1'
    injection b1' with e1;injection e1 with e1;injection e1 with e1 e2
    subst e1;subst e2
    rw [← hye] at b4'
    obtain ⟨xd',yd',rfl,_,_⟩:=b4'
    have k2:=b3' 2 _ rfl
    have k3:=b3' 3 _ rfl
    have t1:=N5 (x:=.i .i64 y.links) (off:=2) rH (by simp [ndC])
    have et1:(ndC x.ino x.kind x.links x.parent x.size xc yc).set 2 (.i .i64 y.links)=ndC x.ino x.kind y.links x.parent x.size xc yc:=rfl
    rw [et1] at t1
    obtain ⟨H2,hH2⟩:∃ H2,H2=H.set h.length (some (Row.mk (ndC x.ino x.kind y.links x.parent x.size xc yc) true)):=⟨_,rfl⟩
    rw [← hH2] at t1
    have rH2:rd H2 h.length=some ⟨ndC x.ino x.kind y.links x.parent x.size xc yc,true⟩:=by rw [hH2];exact G3 (B8 rH)
    have low2:Low h.length h H2:=by rw [hH2];exact lowH.set (Nat.le_refl _) _
    have lg2:Low g.length g H2:=hlow.trans ⟨hlow.2.1,low2.2.1,fun j hj=>low2.2.2 j (by have:=hlow.2.1;omega)⟩
    obtain ⟨id3,o3,ds3,c1,_,c3,c4⟩:=W8 (hw.since lg2) hil2
    rw [b1] at c1
    injection c1 with e1;injection e1 with e1;injection e1 with e1 e2
    subst e1;subst e2
    rw [← hye] at c4
    obtain ⟨xd2,yd2,rfl,_,_⟩:=c4
    have k3':=c3 3 _ rfl
    have t2:=N5 (x:=.i .i64 y.parent) (off:=3) rH2 (by simp [ndC])
    have et2:(ndC x.ino x.kind y.links x.parent x.size xc yc).set 3 (.i .i64 y.parent)=ndC x.ino x.kind y.links y.parent x.size xc yc:=rfl
    rw [et2] at t2
    obtain ⟨H3,hH3⟩:∃ H3,H3=H2.set h.length (some (Row.mk (ndC x.ino x.kind y.links y.parent x.size xc yc) true)):=⟨_,rfl⟩
    rw [← hH3] at t2
    have rH3:rd H3 h.length=some ⟨ndC x.ino x.kind y.links y.parent x.size xc yc,true⟩:=by rw [hH3];exact G3 (B8 rH2)
    have low3:Low h.length h H3:=by rw [hH3];exact low2.set (Nat.le_refl _) _
    have lg3:Low g.length g H3:=hlow.trans ⟨hlow.2.1,low3.2.1,fun j hj=>low3.2.2 j (by have:=hlow.2.1;omega)⟩
    have l7:=G0 (n:=7) rH3 rfl
    obtain ⟨id4,o4,ds4,d1,d2,d3,d4⟩:=W8 (hw.since lg3) hil2
    rw [b1] at d1
    injection d1 with e1;injection e1 with e1;injection e1 with e1 e2
    subst e1;subst e2
    rw [← hye] at d4
    have hn:IsNd H3 (ndC x.ino x.kind y.links y.parent x.size xc yc) (aN2 x y):=⟨xc,yc,rfl,hx.since low3,hy.since low3⟩
    have hS2:=B9Z hn d4 hsm.1 hsm.2
    have ed:decide (aN2 x y=y)=decide (T4 x y):=by
      apply Bool.eq_iff_iff.2
      rw [decide_eq_true_iff,decide_eq_true_iff,C6k]
    rw [ed,← el2] at hS2
    obtain ⟨h',f1,f2⟩:=C0Z (q:=q) hv hw hs hN e (i + 1) M (s && sameAt t u i) (l && W4 t u i) H3 (by omega) (by omega) lg3
    refine ⟨h',?_,f2⟩
    rw [J3,J3,← Bool.and_assoc,← Bool.and_assoc,← f1,A73]
    cases s with
    | false =>
      cases l with
      | false=>simp only [esc,hl1,hl2,c,c2,a1,a2,b1,s0,k2,k3,t1,k3',t2,w1,Bool.false_and]
      | true=>simp only [esc,hl1,hl2,c,c2,a1,a2,b1,s0,k2,k3,t1,k3',t2,l7,d2,hS2,w1,Bool.false_and,Bool.true_and]
    | true =>
      cases l with
      | false=>simp only [esc,hl1,hl2,c,c2,a1,a2,b1,b2,hS,s0,k2,k3,t1,k3',t2,w1,Bool.false_and,Bool.true_and]
      | true=>simp only [esc,hl1,hl2,c,c2,a1,a2,b1,b2,hS,s0,k2,k3,t1,k3',t2,l7,d2,hS2,w1,Bool.true_and]
theorem D2W {v w:Val} {t u:List Nd} {h:A0} {q N c:Nat} (hv:IsTree h v t) (hw:IsTree h w u) (hs:small t) (hs2:small u) (hN:N=min t.length u.length) (hc:c ≤ 100) (hNn:∀ a,∀ e ∈ F3 t a,e.1.length ≤ c) (hT:G4 t ≤ 900000) :
    ∃ h',A3t q 1 v w (.c (.b (A1J t u))) (.c (.b (A0y t u))) (.c (.i .i64 (N:Int))) h=some (.c (.b true),h'):=by
  have hl1:=hv.len
  have hl2:=hw.len
  have hpw:∀ p ∈ outW t,p.length < 9223372036854775807:=fun p hp=>by
    have h1:=D0P hNn p hp
    have h2:(G4 t + 1) * (c + 1) ≤ 900001 * 101:=Nat.mul_le_mul (by omega) (by omega)
    omega
  obtain ⟨x,h1,t1,t2,t3⟩:=C03 hv hs
  obtain ⟨y,h2,u1,u2,u3⟩:=C03 (hw.since t3) hs2
  have xt:IsTree h2 x t:=t2.since u3
  have hSa:=C1E xt u2 hs
  have hLi:=C1m xt u2 hs
  have hSs:=C1E xt xt hs
  rw [D2g] at hSs
  have hP:=C1y xt hs hc hNn hT
  have vt:IsTree h2 v t:=(hv.since t3).since u3
  have hR:=D1s (vt.more [some (Row.mk (encS (Q3 t)) true)]) hs hc hNn hT hpw
  obtain ⟨H,hH⟩:∃ H,H=(h2 ++ [some (Row.mk (encS (Q3 t)) true)]) ++ [some (Row.mk (encS (Q3 t)) true)]:=⟨_,rfl⟩
  have e1:(h2 ++ [some (Row.mk (encS (Q3 t)) true)]).length=h2.length + 1:=by simp
  rw [← hH,e1] at hR
  have hlen:(Q3 t).length ≤ G4 t:=Nat.le_trans (C0A _) (B2Z hNn)
  have hX:=B9W (v:=.c (.sl h2.length 0 (Q3 t).length 1)) (u:=.c (.sl (h2.length + 1) 0 (Q3 t).length 1)) (l:=Q3 t) (r:=Q3 t) (h:=H) (Has.row (by rw [hH];exact B6 E8) (by rw [K0,Nat.mul_one]) (A3H _)) (Has.row (by rw [hH,← e1];exact E8) (by rw [K0,Nat.mul_one]) (A3H _)) (by omega)
  rw [decide_eq_true rfl] at hX
  have hex:bnd (A2 .lss (.c (.i .i64 (N:Int))) (.c (.i .i64 (t.length:Int)))) (fun v14=>bnd (gd v14 true (bnd (A2 .lss (.c (.i .i64 (N:Int))) (.c (.i .i64 (u.length:Int)))) fun v19=>some (v19,h)) (some (.no,h))) fun p20=>bnd (C4 v14 p20.1 (.c (.b false))) fun v21=>some v21)=some (.c (.b false)):=by
    by_cases c1:(N:Int) < (t.length:Nat)
    · have c2:¬ (N:Int) < (u.length:Nat):=by omega
      simp only [B9,D7,c1,c2,decide_true,decide_false,A2I,W2,cond_true]
    · simp only [B9,D7,c1,decide_false,A5G,W2,cond_false]
  refine ⟨H,?_⟩
  rw [A73]
  by_cases c1:(N:Int) < (t.length:Nat)
  · have c2:¬ (N:Int) < (u.length:Nat):=by omega
    simp only [B9,hl1,hl2,D7,c1,c2,decide_true,decide_false,A2I,W2,cond_true,F1,t1,u1,hSa,B1l,beq_self_eq_true,hLi,hSs,hP,hR,hX,A9O]
  · simp only [B9,hl1,hl2,D7,c1,decide_false,A2I,A5G,W2,cond_true,cond_false,F1,t1,u1,hSa,B1l,beq_self_eq_true,hLi,hSs,hP,hR,hX,A9O]
theorem B8G {t:List Nd} (h:A3F t=false):small t ∧ G4 t ≤ 240 ∧ ∀ a,∀ e ∈ F3 t a,e.1.length ≤ 60:=by
  unfold A3F at h
  rw [Bool.or_eq_false_iff,decide_eq_false_iff_not] at h
  have hx:∀ x ∈ t,x.data.length ≤ 300 ∧ x.names.length ≤ 12 ∧ ∀ e ∈ x.names,e.1.length ≤ 60:=by
    intro x hx
    have h2:=List.any_eq_false.1 h.2 x hx
    unfold A8T A1z at h2
    rw [Bool.not_eq_true,Bool.or_eq_false_iff,Bool.or_eq_false_iff,decide_eq_false_iff_not,decide_eq_false_iff_not] at h2
    refine ⟨by omega,by omega,fun e he=>?_⟩
    have h3:=List.any_eq_false.1 h2.2.2 e he
    simp at h3
    omega
  refine ⟨⟨by omega,fun x hm=>by have:=hx x hm;omega⟩,?_,C0Y fun x hm e he=>(hx x hm).2.2 e he⟩
  have key:∀ t:List Nd,(∀ x ∈ t,x.names.length ≤ 12) → G4 t ≤ 12 * t.length:=by
    intro t
    induction t with
    | nil=>intro _;simp [G4]
    | cons x t ih =>
      intro h
      have h1:=h x (by simp)
      have h2:=ih fun y hy=>h y (by simp [hy])
      have h3:G4 (x :: t)=x.names.length + G4 t:=by simp [G4]
      rw [h3,List.length_cons];omega
  have:=key t fun x hm=>(hx x hm).2.1
  omega
theorem D27 {v w:Val} {t u:List Nd} {h:A0} (hv:IsTree h v t) (hw:IsTree h w u):B09 [v,w] h=some (.c (.b true),h):=by
  have key:∀ g,IsTree g v t → IsTree g w u → ∃ g',A6w (t.length + 2) [v,w] g=some (.c (.b true),g'):=by
    intro g hv hw
    have m1:=B9Y hv
    have m2:=B9Y hw
    have hl1:=hv.len
    have hl2:=hw.len
    rw [C2h]
    cases c1:A3F t with
    | true =>
      rw [c1] at m1
      exact ⟨g,by simp only [esc,m1,A9O]⟩
    | false =>
      rw [c1] at m1
      cases c2:A3F u with
      | true =>
        rw [c2] at m2
        exact ⟨g,by simp only [esc,m1,m2,A9O]⟩
      | false =>
        rw [c2] at m2
        obtain ⟨s1,s2,s3⟩:=B8G c1
        obtain ⟨r1,_,_⟩:=B8G c2
        obtain ⟨h',f1,f2⟩:=C0Z (q:=t.length + 2) hv hw s1 rfl (min t.length u.length) 0 (t.length + 2) (decide (((t.length:Nat):Int)=(u.length:Nat))) (decide (((t.length:Nat):Int)=(u.length:Nat))) g (by omega) (by omega) (Low.refl (Nat.le_refl _))
        obtain ⟨h'',k1⟩:=D2W (q:=t.length + 2) (hv.since f2) (hw.since f2) s1 r1 rfl (by omega) s3 (by omega)
        have es:(decide (((t.length:Nat):Int)=(u.length:Nat)) && J3 (sameAt t u) (min t.length u.length) 0)=A1J t u:=by
          by_cases c:t.length=u.length
          · rw [C0h c,← c,Nat.min_self];simp
          · have c':¬ ((t.length:Nat):Int)=(u.length:Nat):=by omega
            unfold A1J A0y
            rw [decide_eq_false c,decide_eq_false c'];rfl
        have el:(decide (((t.length:Nat):Int)=(u.length:Nat)) && J3 (W4 t u) (min t.length u.length) 0)=A0y t u:=by
          unfold A0y
          by_cases c:t.length=u.length
          · rw [← c,Nat.min_self];simp
          · have c':¬ ((t.length:Nat):Int)=(u.length:Nat):=by omega
            rw [decide_eq_false c,decide_eq_false c'];rfl
        rw [es,el] at f1
        refine ⟨h'',?_⟩
        simp only [esc,m1,m2,hl1,hl2]
        exact f1.trans k1
  obtain ⟨g',e⟩:=key (ro h) hv.ro hw.ro
  exact C33 e rfl
end Go.Proofs.YteckncopbicmcaaGreat
end
section
namespace Go.Proofs.YteckncopbicmcaaGreat
open Go
def A9s:List Char:=(([104,97,114,110,101,115,115,32,53,57,51,50,51,57,101,98,53,97,49,50,101,51,52,102,99,48,55,48,99,54,56,49,101,49,48,49,54,57,100,49,54,53,48,49,57,101,48,50,54,101,49,101,51,53,49,102,102,48,99,53,53,51,55,99,101,100,52,54,97,52,54,52,32,99,117,116,32,97,116,32,101,115,99,104,101,97,116,47,101,115,99,104,101,97,116,108,97,119,50,52,46,68,114,101,97,100,76,111,111,107,115,32,101,115,99,104,101,97,116,47,101,115,99,104,101,97,116,108,97,119,50,52,46,68,114,101,97,100,76,105,115,116,115,32,101,115,99,104,101,97,116,47,101,115,99,104,101,97,116,108,97,119,50,53,46,84,114,101,101,84,101,108,108,115,32,101,115,99,104,101,97,116,47,101,115,99,104,101,97,116,108,97,119,52,49,46,67,108,97,105,109,79,102,32,101,115,99,104,101,97,116,47,101,115,99,104,101,97,116,108,97,119,52,49,46,67,108,97,105,109,73,109,97,103,101,32,101,115,99,104,101,97,116,47,101,115,99,104,101,97,116,108,97,119,52,50,46,77,101,110,100,80,108,97,110,115,32,101,115,99,104,101,97,116,47,101,115,99,104,101,97,116,108,97,119,52,50,46,77,101,110,100,67,111,117,110,116,115,32,101,115,99,104,101,97,116,47,101,115,99,104,101,97,116,108,97,119,52,50,46,77,101,110,100,65,112,112,108,105,101,115,32,101,115,99,104,101,97,116,47,101,115,99,104,101,97,116,108,97,119,52,50,46,77,101,110,100,67,117,116,115,32,101,115,99,104,101,97,116,47,101,115,99,104,101,97,116,108,97,119,52,49,46,67,108,97,105,109,82,105,103,104,116,32,101,115,99,104,101,97,116,47,101,115,99,104,101,97,116,108,97,119,52,49,46,67,108,97,105,109,75,101,101,112,115,32,101,115,99,104,101,97,116,47,101,115,99,104,101,97,116,108,97,119,52,50,46,77,101,110,100,87,104,111,108,101]:List Nat).map Char.ofNat)
set_option maxRecDepth 100000
theorem D0Q:ownKnob Tryz.prog.godebug=none:=by kernel_rfl
theorem C9H:laidOutB Tryz.prog=true:=by kernel_rfl
theorem start_eq:Tryz.prog.initOrder=String.ofList A9s:=by kernel_rfl
theorem D2L:Tryz.prog.initOrder.toList=A9s:=by rw [start_eq,String.toList_ofList]
def startRest:List (List Char):=(([[99,117,116],[97,116],[101,115,99,104,101,97,116,47,101,115,99,104,101,97,116,108,97,119,50,52,46,68,114,101,97,100,76,111,111,107,115],[101,115,99,104,101,97,116,47,101,115,99,104,101,97,116,108,97,119,50,52,46,68,114,101,97,100,76,105,115,116,115],[101,115,99,104,101,97,116,47,101,115,99,104,101,97,116,108,97,119,50,53,46,84,114,101,101,84,101,108,108,115],[101,115,99,104,101,97,116,47,101,115,99,104,101,97,116,108,97,119,52,49,46,67,108,97,105,109,79,102],[101,115,99,104,101,97,116,47,101,115,99,104,101,97,116,108,97,119,52,49,46,67,108,97,105,109,73,109,97,103,101],[101,115,99,104,101,97,116,47,101,115,99,104,101,97,116,108,97,119,52,50,46,77,101,110,100,80,108,97,110,115],[101,115,99,104,101,97,116,47,101,115,99,104,101,97,116,108,97,119,52,50,46,77,101,110,100,67,111,117,110,116,115],[101,115,99,104,101,97,116,47,101,115,99,104,101,97,116,108,97,119,52,50,46,77,101,110,100,65,112,112,108,105,101,115],[101,115,99,104,101,97,116,47,101,115,99,104,101,97,116,108,97,119,52,50,46,77,101,110,100,67,117,116,115],[101,115,99,104,101,97,116,47,101,115,99,104,101,97,116,108,97,119,52,49,46,67,108,97,105,109,82,105,103,104,116],[101,115,99,104,101,97,116,47,101,115,99,104,101,97,116,108,97,119,52,49,46,67,108,97,105,109,75,101,101,112,115],[101,115,99,104,101,97,116,47,101,115,99,104,101,97,116,108,97,119,52,50,46,77,101,110,100,87,104,111,108,101]]:List (List Nat)).map (fun l=>l.map Char.ofNat))
theorem D2H:wordsSigns A9s=(([104,97,114,110,101,115,115]:List Nat).map Char.ofNat) :: (([53,57,51,50,51,57,101,98,53,97,49,50,101,51,52,102,99,48,55,48,99,54,56,49,101,49,48,49,54,57,100,49,54,53,48,49,57,101,48,50,54,101,49,101,51,53,49,102,102,48,99,53,53,51,55,99,101,100,52,54,97,52,54,52]:List Nat).map Char.ofNat) :: startRest:=by kernel_rfl
theorem D2N:isSumSigns ((([53,57,51,50,51,57,101,98,53,97,49,50,101,51,52,102,99,48,55,48,99,54,56,49,101,49,48,49,54,57,100,49,54,53,48,49,57,101,48,50,54,101,49,101,51,53,49,102,102,48,99,53,53,51,55,99,101,100,52,54,97,52,54,52]:List Nat).map Char.ofNat))=true:=by decide +kernel
theorem C81 : ((([104, 97, 114, 110, 101, 115, 115] : List Nat).map Char.ofNat) == "harness".toList) = true := by decide +kernel
theorem C63 (h s : List Char) (r : List (List Char)) (h1 : (h == "harness".toList) = true) (h2 : isSumSigns s = true) : behindMainWord (h :: s :: r) = r := by
  unfold behindMainWord
  simp only [h1,h2,Bool.true_or,Bool.true_and,if_true]
theorem C62:behindMainWord (wordsSigns A9s)=startRest:=by rw [D2H];exact C63 _ _ _ C81 D2N
theorem start_words:behindMainWord (wordsSigns Tryz.prog.initOrder.toList)=startRest:=by rw [D2L];exact C62
def D2K:List (List Char):=startRest.drop 1
theorem B3e : startRest = "cut".toList :: D2K := by decide +kernel
theorem C9W {P : Program} {rest : List (List Char)} (h : behindMainWord (wordsSigns P.initOrder.toList) = "cut".toList :: rest) : P.make = some .cut := by
  have e1 : ("cut".toList == "gc".toList) = false := by decide +kernel
  have e2 : ("cut".toList == "spec".toList) = false := by decide +kernel
  have e3 : ("cut".toList == "cut".toList) = true := by decide +kernel
  unfold Program.make
  rw [h]
  simp only [e1,e2,e3,Bool.or_self,Bool.true_or,Bool.false_eq_true,if_false,if_true]
theorem C9X:Tryz.prog.make=some .cut:=C9W (start_words.trans B3e)
theorem C0M {w:List Char} {ws:List (List Char)}:∀ os:List String,(os.all fun o=>!(w == o.toList))=true → stripLifts os (w :: ws)=([],w :: ws)
  | [],_=>rfl
  | o :: os,h=>by
    simp only [List.all_cons,Bool.and_eq_true,Bool.not_eq_true'] at h
    unfold stripLifts
    rw [h.1,if_neg (by simp)]
    exact C0M os h.2
theorem C0L (rest : List (List Char)) : stripLifts liftWords ("cut".toList :: rest) = ([], "cut".toList :: rest) := C0M _ (by decide +kernel)
theorem C9I:Tryz.prog.laysLater=false:=by kernel_rfl
theorem D1t:Tryz.prog.bearsReflect=false:=by kernel_rfl
theorem C7G:Tryz.prog.doorFits []=true:=by kernel_rfl
theorem C77 {P : Program} {rest : List (List Char)} (h : behindMainWord (wordsSigns P.initOrder.toList) = "cut".toList :: rest) (h1 : P.laysLater = false) (h2 : P.bearsReflect = false) (h3 : P.doorFits [] = true) : P.mayEnter = true := by
  unfold Program.mayEnter
  rw [h]
  simp only [C0L,h1,h2,h3]
  simp
theorem C9Z:Tryz.prog.mayEnter=true:=C77 (start_words.trans B3e) C9I D1t C7G
theorem C9P {P : Program} {rest : List (List Char)} (h : behindMainWord (wordsSigns P.initOrder.toList) = "cut".toList :: rest) : P.liftsFinal = false := by
  unfold Program.liftsFinal Program.headLifts
  rw [h]
  simp only [C0L]
  simp
theorem C9Q:Tryz.prog.liftsFinal=false:=C9P (start_words.trans B3e)
end Go.Proofs.YteckncopbicmcaaGreat
end
