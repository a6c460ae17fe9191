/- What the proof of this claim leans on, part 4. -/
import Derived.Test.YteckncopbicmcaaGreatFDreadListsp3
set_option linter.all false
section
namespace Go.Proofs.YteckncopbicmcaaGreat
open Go Go.Esc
abbrev A4 (k l s p:Int) (d:List Int):List Cell:=.i .i64 k :: .i .i64 l :: .i .i64 s :: .i .i64 p :: encI d
def A0f (n:Int):Bool:=decide (0 ≤ n) && decide (n ≤ 65535)
theorem A1o {n:Int} {h:A0}:A2c [.c (.i .i64 n)] h=some (.c (.b (A0f n)),h):=by
  refine C58 (n:=0) (h2:=ro h) ?_ rfl
  rw [C3x]
  unfold A0f
  by_cases c:0 ≤ n
  · simp only [esc,c,Bool.true_and]
  · simp only [esc,c,Bool.false_and]
theorem C0p {g:A0} {k l s p:Int} {d:List Int} {z:List Cell} {q:Nat} (hd:d.length=7) (hz:z.length=7):∀ e i m:Nat,i + e=6 → e < m →
    A8L q m (.c (.p g.length 0)) (.c (.p (g.length + 1) 0)) (.c (.p (g.length + 2) 0)) (.a (encI (d.take 6))) (.c (.i .i64 i)) (g ++ [some ⟨A4 k l s p d,true⟩,some ⟨z,true⟩,some ⟨encI (d.take i ++ zI (7 - i)),true⟩]) =
      some (.a (encI d),g ++ [some ⟨A4 k l s p d,true⟩,some ⟨encI d,true⟩,some ⟨encI d,true⟩])
  | e,i,0,_,hm=>by omega
  | 0,i,m + 1,hi,hm=>by
    have e0:i=6:=by omega
    subst e0
    have h1':¬ ((6:Nat):Int) < 6:=by omega
    have l1:(A4 k l s p d)[10]? = some (.i .i64 d[6]):=by
      have:(encI d)[6]? = some (.i .i64 d[6]):=by rw [Q9,List.getElem?_eq_getElem (by omega)];rfl
      exact this
    have a1:D8 7 1 (.c (.p (g.length + 2) 0)) (.c (.i .i64 6))=some (.c (.p (g.length + 2) 6)):=rfl
    have ho:6 < (encI (d.take 6 ++ zI (7 - 6))).length:=by rw [F7,List.length_append,M8,List.length_take];omega
    have es:(encI (d.take 6 ++ zI (7 - 6))).set 6 (.i .i64 d[6])=encI d:=by
      rw [A74]
      congr 1
      have h6:(d.take 6).length=6:=by simp;omega
      rw [List.set_append_right _ _ (by omega),h6]
      have:d=d.take 6 ++ [d[6]]:=by
        rw [← List.take_succ_eq_append_getElem (by omega),List.take_of_length_le (by omega)]
      conv=>rhs;rw [this]
      rfl
    have hl:(encI d).length=7:=by rw [F7,hd]
    rw [B88]
    simp only [esc,esh,Nat.reduceAdd,Nat.reduceMul,Nat.reduceLT,h1',l1,a1,ho,es,hl,hz]
  | e + 1,i,m + 1,hi,hm=>by
    have ih:=C0p (g:=g) (k:=k) (l:=l) (s:=s) (p:=p) (q:=q) hd hz e (i + 1) m (by omega) (by omega)
    have h1':(i:Int) < 6:=by omega
    have hx:W4 6 (.a (encI (d.take 6))) (.c (.i .i64 (i:Int)))=some (.c (.i .i64 d[i])):=by
      rw [A8B (by omega),Q9,List.getElem?_take_of_lt (by omega),List.getElem?_eq_getElem (by omega)];rfl
    have a1:D8 7 1 (.c (.p (g.length + 2) 0)) (.c (.i .i64 (i:Int)))=some (.c (.p (g.length + 2) i)):=by rw [T9 (by omega)];simp
    have ho:i < (encI (d.take i ++ zI (7 - i))).length:=by rw [F7,List.length_append,M8,List.length_take];omega
    have es:(encI (d.take i ++ zI (7 - i))).set i (.i .i64 d[i])=encI (d.take (i + 1) ++ zI (7 - (i + 1))):=by
      rw [A74]
      refine congrArg encI ?_
      have h6:(d.take i).length=i:=by simp;omega
      rw [List.set_append_right _ _ (by omega),h6,Nat.sub_self,List.take_succ_eq_append_getElem (by omega),List.append_assoc]
      refine congrArg (d.take i ++ ·) ?_
      rw [show 7 - i=7 - (i + 1) + 1 by omega]
      unfold zI
      rw [List.replicate_succ,List.set_cons_zero];rfl
    rw [B88]
    simp only [esc,esh,Nat.reduceAdd,Nat.reduceMul,Nat.reduceLT,h1',hx,a1,ho,es,E6 (show i + 1 < 9223372036854775808 by omega)]
    exact ih
theorem D0u {k l s p:Int} {d:List Int} (hd:d.length=7):ldN (some ⟨A4 k l s p d,true⟩) 4 6=some (.a (encI (d.take 6))):=by
  have h1:(A4 k l s p d).length=11:=by simp [F7,hd]
  simp only [ldN,Option.bind_some]
  rw [if_pos ⟨by omega,by simp⟩]
  simp only [List.drop_succ_cons,List.drop_zero]
  unfold encI
  rw [List.map_take]
theorem B3l {k l s p:Int} {d:List Int} {h:A0} (hd:d.length=7):A2a [.a (A4 k l s p d)] h=some (.a (encI d),h):=by
  have key:∀ N,7 < N → ∀ g,∃ g',A63 N [.a (A4 k l s p d)] g=some (.a (encI d),g'):=by
    intro N hN g
    have:=C0p (g:=g) (k:=k) (l:=l) (s:=s) (p:=p) (z:=encI (zI 7)) (q:=N) hd (by rw [F7,M8]) 6 0 N (by omega) (by omega)
    have e0:encI (d.take 0 ++ zI (7 - 0))=[Cell.i .i64 0,.i .i64 0,.i .i64 0,.i .i64 0,.i .i64 0,.i .i64 0,.i .i64 0]:=rfl
    have e1:encI (zI 7)=[Cell.i .i64 0,.i .i64 0,.i .i64 0,.i .i64 0,.i .i64 0,.i .i64 0,.i .i64 0]:=rfl
    rw [e0,e1] at this
    rw [C3v]
    exact ⟨_,by simp only [esc,esh,Nat.reduceAdd,Nat.reduceMul,Nat.reduceLT,D0u hd];exact this⟩
  obtain ⟨g',e⟩:=key (h.length + 8) (by omega) (ro h)
  exact C56 e (by simp)
def A9H (l s p:Int) (d:List Int):Bool:=decide (l=0 ∧ s=0 ∧ p=0 ∧ d=zI 7)
def C09 (k l s p:Int) (d:List Int):Bool:=decide (0 ≤ k ∧ k ≤ 2) && (A0f l && (A0f p && (decide (0 ≤ s ∧ s ≤ 34304) && d.all A0f)))
def Y5 (k l s p:Int) (d:List Int):Bool:=if k=0 then A9H l s p d else C09 k l s p d
theorem B6g {h:A0} {d:List Int} {q:Nat} (hd:d.length=7):∀ e i m:Nat,i + e=7 → e < m →
    A8J q m (.a (encI d)) (.c (.i .i64 i)) h=some (.c (.i .i64 (bif (d.drop i).all A0f then 0 else 1)),h)
  | e,i,0,_,hm=>by omega
  | 0,i,m + 1,hi,hm=>by
    have c0:¬ (i:Int) < 7:=by omega
    rw [B82,List.drop_of_length_le (by omega)]
    simp only [esc,c0,List.all_nil]
  | e + 1,i,m + 1,hi,hm=>by
    have ih:=B6g (h:=h) (q:=q) hd e (i + 1) m (by omega) (by omega)
    have c0:(i:Int) < 7:=by omega
    have hx:W4 7 (.a (encI d)) (.c (.i .i64 (i:Int)))=some (.c (.i .i64 d[i])):=by
      rw [A8B (by omega),Q9,List.getElem?_eq_getElem (by omega)];rfl
    rw [B82,List.drop_eq_getElem_cons (by omega),List.all_cons]
    cases c1:A0f d[i] with
    | true =>
      simp only [esc,c0,hx,A1o,c1,Bool.true_and,E6 (show i + 1 < 9223372036854775808 by omega)]
      exact ih
    | false=>simp only [esc,c0,hx,A1o,c1,Bool.false_and]
theorem C7a {k l s p k' l' s' p':Int} {d d':List Int} {neg:Bool} (hd:d.length=7) (hd':d'.length=7) :
    aeq neg [Sh.i .i64,.i .i64,.i .i64,.i .i64,.i .i64,.i .i64,.i .i64,.i .i64,.i .i64,.i .i64,.i .i64] (.a (A4 k l s p d)) (.a (A4 k' l' s' p' d'))=some (.c (.b (bif neg then !decide (k :: l :: s :: p :: d=k' :: l' :: s' :: p' :: d') else decide (k :: l :: s :: p :: d=k' :: l' :: s' :: p' :: d')))):=by
  have h1:=C65 (l:=k :: l :: s :: p :: d) (m:=k' :: l' :: s' :: p' :: d') (n:=11) (by simp [hd]) (by simp [hd'])
  have h2:=C64 (l:=k :: l :: s :: p :: d) (m:=k' :: l' :: s' :: p' :: d') (n:=11) (by simp [hd]) (by simp [hd'])
  cases neg
  · exact h2
  · exact h1
theorem D4k {l s p:Int} {d:List Int}:decide ((0:Int) :: l :: s :: p :: d=0 :: 0 :: 0 :: 0 :: zI 7)=A9H l s p d:=by
  unfold A9H
  simp
theorem B1K:A8 [Cell.i .i64 0,.i .i64 0,.i .i64 0,.i .i64 0,.i .i64 0,.i .i64 0,.i .i64 0,.i .i64 0,.i .i64 0,.i .i64 0,.i .i64 0] []=some (A4 0 0 0 0 (zI 7)):=rfl
theorem B81 {k l s p:Int} {d:List Int} {h:A0} (hd:d.length=7):A40 [.a (A4 k l s p d)] h=some (.c (.i .i64 (bif Y5 k l s p d then 0 else 1)),h):=by
  have hlen:(A4 k l s p d).length=11:=by simp [F7,hd]
  have key:∀ N,8 < N → ∀ g,∃ g',A60 N [.a (A4 k l s p d)] g=some (.c (.i .i64 (bif Y5 k l s p d then 0 else 1)),g'):=by
    intro N hN g
    have lp:=fun g=>B6g (h:=g) (q:=N) hd 7 0 N (by omega) (by omega)
    simp only [List.drop_zero,Int.cast_ofNat_Int] at lp
    rw [C3s]
    unfold Y5
    by_cases k0:k=0
    · subst k0
      rw [if_pos rfl]
      have c1:¬ (0:Int) < 0:=by omega
      have c2:¬ (2:Int) < 0:=by omega
      have hq:=C7a (k:=0) (l:=l) (s:=s) (p:=p) (k':=0) (l':=0) (s':=0) (p':=0) (neg:=true) hd (M8 (n:=7))
      simp only [cond_true,D4k] at hq
      cases hz:A9H l s p d with
      | false =>
        rw [hz] at hq
        exact ⟨_,by simp only [esc,esh,Nat.reduceAdd,Nat.reduceMul,Nat.reduceLT,c1,c2,hlen,B1K,hq] <;> rfl⟩
      | true =>
        rw [hz] at hq
        have hz':=of_decide_eq_true hz
        obtain ⟨rfl,rfl,rfl,rfl⟩:=hz'
        have sm:A0f 0=true:=by decide
        have al:(zI 7).all A0f=true:=by decide
        have c3:¬ (34304:Int) < 0:=by omega
        rw [al] at lp
        exact ⟨_,by simp only [esc,esh,Nat.reduceAdd,Nat.reduceMul,Nat.reduceLT,c1,c2,c3,hlen,B1K,hq,A1o,sm,B3l hd,lp] <;> rfl⟩
    · rw [if_neg k0]
      unfold C09
      by_cases c1:k < 0
      · rw [decide_eq_false (show ¬ (0 ≤ k ∧ k ≤ 2) by omega)]
        exact ⟨_,by simp only [esc,esh,Nat.reduceAdd,Nat.reduceMul,Nat.reduceLT,c1,Bool.false_and] <;> rfl⟩
      · by_cases c2:2 < k
        · rw [decide_eq_false (show ¬ (0 ≤ k ∧ k ≤ 2) by omega)]
          exact ⟨_,by simp only [esc,esh,Nat.reduceAdd,Nat.reduceMul,Nat.reduceLT,c1,c2,Bool.false_and] <;> rfl⟩
        · rw [decide_eq_true (show 0 ≤ k ∧ k ≤ 2 by omega),Bool.true_and]
          cases sl:A0f l with
          | false=>exact ⟨_,by simp only [esc,esh,Nat.reduceAdd,Nat.reduceMul,Nat.reduceLT,c1,c2,k0,A1o,sl,Bool.false_and] <;> rfl⟩
          | true =>
            cases sp:A0f p with
            | false=>exact ⟨_,by simp only [esc,esh,Nat.reduceAdd,Nat.reduceMul,Nat.reduceLT,c1,c2,k0,A1o,sl,sp,Bool.true_and,Bool.false_and] <;> rfl⟩
            | true =>
              by_cases c3:s < 0
              · rw [decide_eq_false (show ¬ (0 ≤ s ∧ s ≤ 34304) by omega)]
                exact ⟨_,by simp only [esc,esh,Nat.reduceAdd,Nat.reduceMul,Nat.reduceLT,c1,c2,k0,A1o,sl,sp,c3,Bool.true_and,Bool.false_and] <;> rfl⟩
              · by_cases c4:34304 < s
                · rw [decide_eq_false (show ¬ (0 ≤ s ∧ s ≤ 34304) by omega)]
                  exact ⟨_,by simp only [esc,esh,Nat.reduceAdd,Nat.reduceMul,Nat.reduceLT,c1,c2,k0,A1o,sl,sp,c3,c4,Bool.true_and,Bool.false_and] <;> rfl⟩
                · rw [decide_eq_true (show 0 ≤ s ∧ s ≤ 34304 by omega)]
                  exact ⟨_,by simp only [esc,esh,Nat.reduceAdd,Nat.reduceMul,Nat.reduceLT,c1,c2,k0,A1o,sl,sp,c3,c4,Bool.true_and,hlen,B3l hd,lp] <;> rfl⟩
  obtain ⟨g',e⟩:=key (h.length + 9) (by omega) (ro h)
  exact C50 e rfl
def S2 (k l s p:Int):List UInt8:=B5 1 k ++ zeros 1 ++ B5 2 l ++ B5 4 s ++ B5 2 p
def Q2 (d:List Int):List UInt8:=(d.map (B5 2)).flatten
def K9 (k l s p:Int) (d:List Int):List UInt8:=S2 k l s p ++ Q2 d ++ zeros 8
theorem A5F {k l s p:Int}:(S2 k l s p).length=10:=by simp [S2]
theorem A8I {d:List Int}:(Q2 d).length=2 * d.length:=by
  unfold Q2
  induction d with
  | nil=>rfl
  | cons x d ih=>simp only [List.map_cons,List.flatten_cons,List.length_append,A0T,List.length_cons,ih];omega
theorem A5E {k l s p:Int} {d:List Int} (hd:d.length=7):(K9 k l s p d).length=32:=by
  unfold K9;rw [List.length_append,List.length_append,A5F,A8I,zeros_length,hd]
theorem D0s {d:List Int} {x:Int}:Q2 (d ++ [x])=Q2 d ++ B5 2 x:=by simp [Q2]
theorem D0t {k l s p:Int}:N3 (N3 (N3 (N3 (zeros 256) 0 1 k) 2 2 l) 4 4 s) 8 2 p=D7 256 (S2 k l s p):=by
  rw [← B3I]
  have h1:=A0z (l:=[]) (a:=0) (w:=1) (v:=k) (by simp) (by omega) (by omega) (by omega)
  have h2:=A0z (l:=[] ++ zeros (0 - 0) ++ B5 1 k) (a:=2) (w:=2) (v:=l) (by simp) (by omega) (by omega) (by omega)
  have h3:=A0z (l:=[] ++ zeros (0 - 0) ++ B5 1 k ++ zeros 1 ++ B5 2 l) (a:=4) (w:=4) (v:=s) (by simp) (by omega) (by omega) (by omega)
  have h4:=A0z (l:=[] ++ zeros (0 - 0) ++ B5 1 k ++ zeros 1 ++ B5 2 l ++ zeros 0 ++ B5 4 s) (a:=8) (w:=2) (v:=p) (by simp) (by omega) (by omega) (by omega)
  simp only [List.length_append,List.length_nil,zeros_length,A0T,Nat.sub_self,Nat.zero_sub,Nat.reduceAdd,Nat.reduceSub] at h1 h2 h3 h4
  simp only [Int.cast_ofNat_Int] at h1 h2 h3 h4
  rw [h1,h2,h3,h4]
  congr 1
theorem C0I {g:A0} {c0:List Cell} {B:List UInt8} {z:List Cell} {q:Nat} (hB:B.length=256) (hz:z.length=32):∀ e i m:Nat,i + e=32 → e < m →
    A8N q m (.c (.p (g.length + 1) 0)) (.c (.p (g.length + 2) 0)) (.c (.p (g.length + 3) 0)) (.c (.i .i64 i)) (g ++ [some ⟨c0,true⟩,some ⟨z,true⟩,some ⟨A1 (B.take i ++ zeros (32 - i)),true⟩,some ⟨A1 B,true⟩]) =
      some (.t [.a (A1 (B.take 32)),.c (.i .i64 0)],g ++ [some ⟨c0,true⟩,some ⟨A1 (B.take 32),true⟩,some ⟨A1 (B.take 32),true⟩,some ⟨A1 B,true⟩])
  | e,i,0,_,hm=>by omega
  | 0,i,m + 1,hi,hm=>by
    have e0:i=32:=by omega
    subst e0
    have h1':¬ ((32:Nat):Int) < 32:=by omega
    have hl:(A1 (B.take 32)).length=32:=by rw [B1,List.length_take];omega
    have e1:A1 (B.take 32 ++ zeros (32 - 32))=A1 (B.take 32):=by simp [zeros]
    rw [B9f,e1]
    simp only [esc,esh,Nat.reduceAdd,Nat.reduceMul,Nat.reduceLT,h1',hl,hz]
  | e + 1,i,m + 1,hi,hm=>by
    have ih:=C0I (g:=g) (c0:=c0) (q:=q) hB hz e (i + 1) m (by omega) (by omega)
    have h1':(i:Int) < 32:=by omega
    have a1:D8 256 1 (.c (.p (g.length + 3) 0)) (.c (.i .i64 (i:Int)))=some (.c (.p (g.length + 3) i)):=by rw [T9 (by omega)];simp
    have a2:D8 32 1 (.c (.p (g.length + 2) 0)) (.c (.i .i64 (i:Int)))=some (.c (.p (g.length + 2) i)):=by rw [T9 (by omega)];simp
    have l1:(A1 B)[i]? = some (.i .u8 B[i].toNat):=by rw [W8,List.getElem?_eq_getElem (by omega)];rfl
    have ho:i < (A1 (B.take i ++ zeros (32 - i))).length:=by rw [B1,List.length_append,zeros_length,List.length_take];omega
    have es:(A1 (B.take i ++ zeros (32 - i))).set i (.i .u8 B[i].toNat)=A1 (B.take (i + 1) ++ zeros (32 - (i + 1))):=by
      rw [A0q]
      refine congrArg A1 ?_
      have h6:(B.take i).length=i:=by simp;omega
      rw [List.set_append_right _ _ (by omega),h6,Nat.sub_self,List.take_succ_eq_append_getElem (by omega),List.append_assoc]
      refine congrArg (B.take i ++ ·) ?_
      rw [show 32 - i=32 - (i + 1) + 1 by omega]
      unfold zeros
      rw [List.replicate_succ,List.set_cons_zero];rfl
    rw [B9f]
    simp only [esc,esh,Nat.reduceAdd,Nat.reduceMul,Nat.reduceLT,h1',a1,a2,l1,ho,es,E6 (show i + 1 < 9223372036854775808 by omega)]
    exact ih
theorem C0J {g:A0} {k l s p:Int} {d:List Int} {c0 z:List Cell} {q:Nat} (hd:d.length=7) (hz:z.length=32) (hq:33 < q):∀ e i m:Nat,i + e=7 → e < m →
    A8M q m (.c (.p (g.length + 1) 0)) (.c (.p (g.length + 2) 0)) (.c (.p (g.length + 3) 0)) (.a (encI d)) (.c (.i .i64 i)) (g ++ [some ⟨c0,true⟩,some ⟨z,true⟩,some ⟨A1 (zeros 32),true⟩,some ⟨A1 (D7 256 (S2 k l s p ++ Q2 (d.take i))),true⟩]) =
      some (.t [.a (A1 (K9 k l s p d)),.c (.i .i64 0)],g ++ [some ⟨c0,true⟩,some ⟨A1 (K9 k l s p d),true⟩,some ⟨A1 (K9 k l s p d),true⟩,some ⟨A1 (D7 256 (S2 k l s p ++ Q2 d)),true⟩])
  | e,i,0,_,hm=>by omega
  | 0,i,m + 1,hi,hm=>by
    have e0:i=7:=by omega
    subst e0
    have h1':¬ ((7:Nat):Int) < 7:=by omega
    rw [List.take_of_length_le (by omega)]
    have hlen:(S2 k l s p ++ Q2 d).length=24:=by rw [List.length_append,A5F,A8I,hd]
    have:=C0I (g:=g) (c0:=c0) (z:=z) (q:=q) (B:=D7 256 (S2 k l s p ++ Q2 d)) (L5 (by omega)) hz 32 0 q (by omega) (by omega)
    have e1:(D7 256 (S2 k l s p ++ Q2 d)).take 32=K9 k l s p d:=by
      unfold D7 K9
      rw [List.take_append,List.take_of_length_le (by omega),hlen]
      refine congrArg (S2 k l s p ++ Q2 d ++ ·) ?_
      unfold zeros
      rw [List.take_replicate];rfl
    rw [e1] at this
    simp only [List.take_zero,List.nil_append,Nat.sub_zero] at this
    rw [B9e]
    simp only [esc,h1']
    exact this
  | e + 1,i,m + 1,hi,hm=>by
    have ih:=C0J (g:=g) (k:=k) (l:=l) (s:=s) (p:=p) (c0:=c0) hd hz hq e (i + 1) m (by omega) (by omega)
    have h1':(i:Int) < 7:=by omega
    have hx:W4 7 (.a (encI d)) (.c (.i .i64 (i:Int)))=some (.c (.i .i64 d[i])):=by
      rw [A8B (by omega),Q9,List.getElem?_eq_getElem (by omega)];rfl
    have hlen:(S2 k l s p ++ Q2 (d.take i)).length=10 + 2 * i:=by rw [List.length_append,A5F,A8I,List.length_take];omega
    have hL:(A1 (D7 256 (S2 k l s p ++ Q2 (d.take i)))).length=256:=by rw [B1,L5 (by omega)]
    have e2:IntKind.wrap .i64 (2 * (i:Int))=((2 * i:Nat):Int):=by rw [wrap_i64 (by omega) (by omega)];omega
    have e3:IntKind.wrap .i64 (10 + ((2 * i:Nat):Int))=((10 + 2 * i:Nat):Int):=by rw [wrap_i64 (by omega) (by omega)];omega
    have hw:=A0v (l:=D7 256 (S2 k l s p ++ Q2 (d.take i))) (h:=g ++ [some ⟨c0,true⟩,some ⟨z,true⟩,some ⟨A1 (zeros 32),true⟩,some ⟨A1 (D7 256 (S2 k l s p ++ Q2 (d.take i))),true⟩]) (L5 (by omega)) (a:=((10 + 2 * i:Nat):Int)) (w:=2) (v:=d[i])
    have e4:=A0z (l:=S2 k l s p ++ Q2 (d.take i)) (a:=10 + 2 * i) (w:=2) (v:=d[i]) (by omega) (by omega) (by omega) (by omega)
    rw [show ((2:Nat):Int)=2 from rfl,hlen,Nat.sub_self,show zeros 0=[] from rfl,List.append_nil,List.append_assoc,← D0s,← List.take_succ_eq_append_getElem (by omega)] at e4
    rw [e4] at hw
    have hL':(A1 (D7 256 (S2 k l s p ++ Q2 (d.take (i + 1))))).length=256:=by
      rw [B1,L5 (by rw [List.length_append,A5F,A8I,List.length_take];omega)]
    rw [B9e]
    simp only [esc,esh,Nat.reduceAdd,Nat.reduceMul,Nat.reduceLT,h1',hx,hL,e2,e3,hw,hL',E6 (show i + 1 < 9223372036854775808 by omega)]
    exact ih
theorem B9d {k l s p:Int} {d:List Int} {h:A0} (hd:d.length=7) :
    A2b [.a (A4 k l s p d)] h=some (.t [.a (A1 (bif Y5 k l s p d then K9 k l s p d else zeros 32)),.c (.i .i64 (bif Y5 k l s p d then 0 else 1))],h):=by
  have hlen:(A4 k l s p d).length=11:=by simp [F7,hd]
  have key:∀ N,33 < N → ∀ g,∃ g',A64 N [.a (A4 k l s p d)] g=some (.t [.a (A1 (bif Y5 k l s p d then K9 k l s p d else zeros 32)),.c (.i .i64 (bif Y5 k l s p d then 0 else 1))],g'):=by
    intro N hN g
    have hz:(A1 (zeros 32)).length=32:=by rw [B1];exact zeros_length
    have hz2:(A1 (zeros 256)).length=256:=by rw [B1];exact zeros_length
    rw [C3w,N8,N8]
    cases c:Y5 k l s p d with
    | false =>
      generalize zeros 32=z at *
      generalize zeros 256=y at *
      exact ⟨_,by simp only [esc,esh,Nat.reduceAdd,Nat.reduceMul,Nat.reduceLT,hlen,B81 hd,c,hz,Int.reduceEq] <;> rfl⟩
    | true =>
      have:=C0J (g:=g) (k:=k) (l:=l) (s:=s) (p:=p) (c0:=A4 k l s p d) (z:=A1 (zeros 32)) (q:=N) hd hz hN 7 0 N (by omega) (by omega)
      simp only [List.take_zero,show Q2 []=[] from rfl,List.append_nil] at this
      have w1:=fun h=>A0v (h:=h) (l:=zeros 256) zeros_length (a:=0) (w:=1) (v:=k)
      have w2:=fun h=>A0v (h:=h) (l:=N3 (zeros 256) 0 1 k) (Z1 zeros_length) (a:=2) (w:=2) (v:=l)
      have w3:=fun h=>A0v (h:=h) (l:=N3 (N3 (zeros 256) 0 1 k) 2 2 l) (Z1 (Z1 zeros_length)) (a:=4) (w:=4) (v:=s)
      have w4:=fun h=>A0v (h:=h) (l:=N3 (N3 (N3 (zeros 256) 0 1 k) 2 2 l) 4 4 s) (Z1 (Z1 (Z1 zeros_length))) (a:=8) (w:=2) (v:=p)
      have l1:(A1 (N3 (zeros 256) 0 1 k)).length=256:=by rw [B1,Z1 zeros_length]
      have l2:(A1 (N3 (N3 (zeros 256) 0 1 k) 2 2 l)).length=256:=by rw [B1,Z1 (Z1 zeros_length)]
      have l3:(A1 (N3 (N3 (N3 (zeros 256) 0 1 k) 2 2 l) 4 4 s)).length=256:=by rw [B1,Z1 (Z1 (Z1 zeros_length))]
      have l4:(A1 (D7 256 (S2 k l s p))).length=256:=by rw [B1,L5 (by rw [A5F];omega)]
      simp only [D0t] at w4
      generalize zeros 32=z at *
      generalize zeros 256=y at *
      exact ⟨_,by simp only [esc,esh,Nat.reduceAdd,Nat.reduceMul,Nat.reduceLT,hlen,B81 hd,c,hz,hz2,w1,w2,w3,w4,l1,l2,l3,l4,B3l hd];exact this⟩
  obtain ⟨g',e⟩:=key (h.length + 34) (by omega) (ro h)
  exact C57 e (by simp)
def T8 (b:List UInt8):Int:=fieldN b 0 1
def V1 (b:List UInt8):Int:=fieldN b 2 2
def V3 (b:List UInt8):Int:=fieldN b 4 4
def V2 (b:List UInt8):Int:=fieldN b 8 2
def I9 (b:List UInt8):List Int:=(List.range 7).map fun j=>fieldN b (10 + 2 * j) 2
theorem R0 {b:List UInt8}:(I9 b).length=7:=by simp [I9]
theorem B8t {b:List UInt8} {i:Nat} (hi:i < 7):(I9 b)[i]? = some (fieldN b (10 + 2 * i) 2):=by simp [I9,hi]
theorem B8X {k l s p x:Int} {d:List Int} {i:Nat}:(A4 k l s p d).set (4 + i) (.i .i64 x)=A4 k l s p (d.set i x):=by
  rw [show 4 + i=i + 1 + 1 + 1 + 1 by omega]
  simp only [A4,List.set_cons_succ,A74]
theorem C12 {D:List Int} (hD:D.length=7) {i:Nat} (hi:i < 7):(D.take i ++ zI (7 - i)).set i D[i]=D.take (i + 1) ++ zI (7 - (i + 1)):=by
  have h6:(D.take i).length=i:=by simp;omega
  rw [List.set_append_right _ _ (by omega),h6,Nat.sub_self,List.take_succ_eq_append_getElem (by omega),List.append_assoc]
  refine congrArg (D.take i ++ ·) ?_
  rw [show 7 - i=7 - (i + 1) + 1 by omega]
  unfold zI
  rw [List.replicate_succ,List.set_cons_zero];rfl
theorem B8B {g:A0} {b:List UInt8} {k l s p:Int} {c0 z:List Cell} {q:Nat} (hb:b.length=32) (hz:z.length=11):∀ e i m:Nat,i + e=6 → e < m →
    A8K q m (.c (.p (g.length + 1) 0)) (.c (.p (g.length + 2) 0)) (.c (.p (g.length + 3) 0)) (.c (.i .i64 i)) (g ++ [some ⟨c0,true⟩,some ⟨z,true⟩,some ⟨A1 (D7 256 b),true⟩,some ⟨A4 k l s p ((I9 b).take i ++ zI (7 - i)),true⟩]) =
      some (.a (A4 k l s p (I9 b)),g ++ [some ⟨c0,true⟩,some ⟨A4 k l s p (I9 b),true⟩,some ⟨A1 (D7 256 b),true⟩,some ⟨A4 k l s p (I9 b),true⟩])
  | e,i,0,_,hm=>by omega
  | 0,i,m + 1,hi,hm=>by
    have e0:i=6:=by omega
    subst e0
    have h1':¬ ((6:Nat):Int) < 6:=by omega
    have hX:(A1 (D7 256 b)).length=256:=by rw [B1,L5 (by omega)]
    have ha:=fun h=>A1w (h:=h) (l:=D7 256 b) (L5 (by omega)) (a:=22) (w:=2)
    have e1:=B1U (b:=b) (a:=22) (w:=2) (by omega) (by omega) (by omega) (by omega)
    simp only [Int.cast_ofNat_Int] at e1
    simp only [e1] at ha
    have hl0:(A4 k l s p ((I9 b).take 6 ++ zI (7 - 6))).length=11:=by simp [F7,R0,M8]
    have ho:(encI ((I9 b).take 6 ++ zI (7 - 6))).length=7:=by simp [F7,R0,M8]
    have hg6:(I9 b)[6]'(by rw [R0];omega)=fieldN b 22 2:=by
      have:=B8t (b:=b) (i:=6) (by omega)
      rw [List.getElem?_eq_getElem (by rw [R0];omega)] at this
      exact Option.some.inj this
    have es:(A4 k l s p ((I9 b).take 6 ++ zI (7 - 6))).set 10 (.i .i64 (fieldN b 22 2))=A4 k l s p (I9 b):=by
      have h1:=B8X (k:=k) (l:=l) (s:=s) (p:=p) (x:=fieldN b 22 2) (d:=(I9 b).take 6 ++ zI (7 - 6)) (i:=6)
      rw [show 4 + 6=10 from rfl] at h1
      rw [h1,← hg6,C12 R0 (by omega)]
      have:(I9 b).take (6 + 1) ++ zI (7 - (6 + 1))=I9 b:=by rw [List.take_of_length_le (by rw [R0];omega)];simp [zI]
      rw [this]
    have hl1:(A4 k l s p (I9 b)).length=11:=by simp [F7,R0]
    rw [B85]
    simp only [esc,esh,Nat.reduceAdd,Nat.reduceMul,Nat.reduceLT,h1',hX,ha,ho,es,hl1,hz,F7,R0]
  | e + 1,i,m + 1,hi,hm=>by
    have ih:=B8B (g:=g) (k:=k) (l:=l) (s:=s) (p:=p) (c0:=c0) (q:=q) hb hz e (i + 1) m (by omega) (by omega)
    have h1':(i:Int) < 6:=by omega
    have hX:(A1 (D7 256 b)).length=256:=by rw [B1,L5 (by omega)]
    have e2:IntKind.wrap .i64 (2 * (i:Int))=((2 * i:Nat):Int):=by rw [wrap_i64 (by omega) (by omega)];omega
    have e3:IntKind.wrap .i64 (10 + ((2 * i:Nat):Int))=((10 + 2 * i:Nat):Int):=by rw [wrap_i64 (by omega) (by omega)];omega
    have ha:=fun h=>A1w (h:=h) (l:=D7 256 b) (L5 (by omega)) (a:=((10 + 2 * i:Nat):Int)) (w:=2)
    have e1:=B1U (b:=b) (a:=10 + 2 * i) (w:=2) (by omega) (by omega) (by omega) (by omega)
    rw [show ((2:Nat):Int)=2 from rfl] at e1
    simp only [e1] at ha
    have a1:D8 6 1 (.c (.p (g.length + 3) 4)) (.c (.i .i64 (i:Int)))=some (.c (.p (g.length + 3) (4 + i))):=by rw [T9 (by omega)];simp
    have ho:(encI ((I9 b).take i ++ zI (7 - i))).length=7:=by simp [F7,R0,M8];omega
    have ho2:4 + i < 11:=by omega
    have hgi:(I9 b)[i]'(by rw [R0];omega)=fieldN b (10 + 2 * i) 2:=by
      have:=B8t (b:=b) (i:=i) (by omega)
      rw [List.getElem?_eq_getElem (by rw [R0];omega)] at this
      exact Option.some.inj this
    have es:(A4 k l s p ((I9 b).take i ++ zI (7 - i))).set (4 + i) (.i .i64 (fieldN b (10 + 2 * i) 2))=A4 k l s p ((I9 b).take (i + 1) ++ zI (7 - (i + 1))):=by
      rw [B8X,← hgi,C12 R0 (by omega)]
    rw [B85]
    simp only [esc,esh,Nat.reduceAdd,Nat.reduceMul,Nat.reduceLT,h1',hX,e2,e3,ha,a1,ho,ho2,es,E6 (show i + 1 < 9223372036854775808 by omega)]
    exact ih
theorem B3k {b:List UInt8} {h:A0} (hb:b.length=32):A42 [.a (A1 b)] h=some (.a (A4 (T8 b) (V1 b) (V3 b) (V2 b) (I9 b)),h):=by
  have key:∀ N,7 < N → ∀ g,∃ g',A62 N [.a (A1 b)] g=some (.a (A4 (T8 b) (V1 b) (V3 b) (V2 b) (I9 b)),g'):=by
    intro N hN g
    have hl:(A1 b).length=32:=by rw [B1,hb]
    have hX:(A1 (D7 256 b)).length=256:=by rw [B1,L5 (by omega)]
    have hz:(List.replicate 256 (Cell.i .u8 0)).length=256:=List.length_replicate
    have z11:[Cell.i .i64 0,.i .i64 0,.i .i64 0,.i .i64 0,.i .i64 0,.i .i64 0,.i .i64 0,.i .i64 0,.i .i64 0,.i .i64 0,.i .i64 0]=A4 0 0 0 0 (zI 7):=rfl
    have l11:(A4 0 0 0 0 (zI 7)).length=11:=rfl
    have ho:=A9f (h:=g ++ [some ⟨A1 b,true⟩,some ⟨A4 0 0 0 0 (zI 7),true⟩]) (v:=.c (.sl g.length 0 32 1)) (nv:=32) (data:=b) (Has.tr (by simp) (by omega) (K1 _)) (by omega)
    rw [A9j (by omega)] at ho
    have at_:∀ (a w:Nat),a + w ≤ 32 → 1 ≤ w → w ≤ 4 → ∀ h,P6 [.a (A1 (D7 256 b)),.c (.i .i64 a),.c (.i .i64 w)] h=some (.c (.i .i64 (fieldN b a w)),h):=fun a w h1 h2 h3 h=>by
      rw [A1w (L5 (by omega)),B1U (by omega) (by omega) h2 h3]
    have a1:=at_ 0 1 (by omega) (by omega) (by omega)
    have a2:=at_ 2 2 (by omega) (by omega) (by omega)
    have a3:=at_ 4 4 (by omega) (by omega) (by omega)
    have a4:=at_ 8 2 (by omega) (by omega) (by omega)
    simp only [Int.cast_ofNat_Int] at a1 a2 a3 a4
    have ef:A8 (A4 0 0 0 0 (zI 7)) [(0,1,.c (.i .i64 (fieldN b 0 1))),(1,1,.c (.i .i64 (fieldN b 2 2))),(2,1,.c (.i .i64 (fieldN b 4 4))),(3,1,.c (.i .i64 (fieldN b 8 2)))]=some (A4 (T8 b) (V1 b) (V3 b) (V2 b) (zI 7)):=rfl
    have lf:(A4 (T8 b) (V1 b) (V3 b) (V2 b) (zI 7)).length=11:=rfl
    have:=B8B (g:=g) (b:=b) (k:=T8 b) (l:=V1 b) (s:=V3 b) (p:=V2 b) (c0:=A1 b) (z:=A4 0 0 0 0 (zI 7)) (q:=N) hb l11 6 0 N (by omega) (by omega)
    simp only [List.take_zero,List.nil_append,Nat.sub_zero] at this
    rw [C3u,z11]
    generalize List.replicate 256 (Cell.i .u8 0)=z at *
    generalize A4 0 0 0 0 (zI 7)=y at *
    exact ⟨_,by simp only [esc,esh,Nat.reduceAdd,Nat.reduceMul,Nat.reduceLT,hl,ho,hz,hX,a1,a2,a3,a4,ef,l11,lf];exact this⟩
  obtain ⟨g',e⟩:=key (h.length + 8) (by omega) (ro h)
  exact C54 e (by simp)
def A0p (b:List UInt8):Bool:=Y5 (T8 b) (V1 b) (V3 b) (V2 b) (I9 b) && decide (K9 (T8 b) (V1 b) (V3 b) (V2 b) (I9 b)=b)
def W6 (b:List UInt8):List Cell:=bif A0p b then A4 (T8 b) (V1 b) (V3 b) (V2 b) (I9 b) else A4 0 0 0 0 (zI 7)
theorem B6o {b:List UInt8}:(W6 b).length=11:=by
  unfold W6
  cases A0p b <;> simp [F7,R0,M8]
theorem B8e {b:List UInt8}:F4 (W6 b)=true:=by
  unfold W6
  cases A0p b <;> simp
theorem D0x {b:List UInt8} {h:A0} (hb:b.length=32):A41 [.a (A1 b)] h=some (.t [.a (W6 b),.c (.b (A0p b))],h):=by
  have key:∀ g,∃ g',A61 0 [.a (A1 b)] g=some (.t [.a (W6 b),.c (.b (A0p b))],g'):=by
    intro g
    have hl:(A1 b).length=32:=by rw [B1,hb]
    have hI:(A4 (T8 b) (V1 b) (V3 b) (V2 b) (I9 b)).length=11:=by simp [F7,R0]
    have z11:[Cell.i .i64 0,.i .i64 0,.i .i64 0,.i .i64 0,.i .i64 0,.i .i64 0,.i .i64 0,.i .i64 0,.i .i64 0,.i .i64 0,.i .i64 0]=A4 0 0 0 0 (zI 7):=rfl
    have l11:(A4 0 0 0 0 (zI 7)).length=11:=rfl
    have af:=B1K
    rw [z11] at af
    have hz:(List.replicate 32 (Cell.i .u8 0)).length=32:=List.length_replicate
    have hp:=fun h=>B9d (h:=h) (k:=T8 b) (l:=V1 b) (s:=V3 b) (p:=V2 b) (d:=I9 b) R0
    have hB:(A1 (K9 (T8 b) (V1 b) (V3 b) (V2 b) (I9 b))).length=32:=by rw [B1,A5E R0]
    have hZ:(A1 (zeros 32)).length=32:=by rw [B1];exact zeros_length
    have hq:=A7y (l:=K9 (T8 b) (V1 b) (V3 b) (V2 b) (I9 b)) (m:=b) (n:=32) (A5E R0) hb
    rw [C3t,z11]
    unfold W6 A0p
    generalize List.replicate 32 (Cell.i .u8 0)=z at *
    generalize A4 0 0 0 0 (zI 7)=y at *
    cases c:Y5 (T8 b) (V1 b) (V3 b) (V2 b) (I9 b) with
    | false =>
      simp only [c,cond_false] at hp
      exact ⟨_,by simp only [esc,esh,Nat.reduceAdd,Nat.reduceMul,Nat.reduceLT,hl,B3k hb,hI,l11,hp,hz,hZ,Int.reduceEq,af,Bool.false_and] <;> rfl⟩
    | true =>
      simp only [c,cond_true] at hp
      cases c2:decide (K9 (T8 b) (V1 b) (V3 b) (V2 b) (I9 b)=b) with
      | false =>
        rw [c2] at hq
        exact ⟨_,by simp only [esc,esh,Nat.reduceAdd,Nat.reduceMul,Nat.reduceLT,hl,B3k hb,hI,l11,hp,hz,hB,hq,af,Bool.and_false] <;> rfl⟩
      | true =>
        rw [c2] at hq
        exact ⟨_,by simp only [esc,esh,Nat.reduceAdd,Nat.reduceMul,Nat.reduceLT,hl,B3k hb,hI,l11,hp,hz,hB,hq,Bool.and_true] <;> rfl⟩
  obtain ⟨g',e⟩:=key (ro h)
  exact C52 e (by simp [B8e])
end Go.Proofs.YteckncopbicmcaaGreat
end
noncomputable section
namespace Go.Proofs.YteckncopbicmcaaGreat
open Go Go.Esc
set_option maxRecDepth 100000
def A_index_depth:AFn:=⟨.seq [1] (.ops [aO 1 (.box (.t 0)),aO 2 (.mv (.v (.c (.i .i64 0))))]) (.seq [2] (.ops [aO 3 (.fAddr (.t 1) 0),aO 4 (.load1 (.t 3)),aO 5 (.min (.t 4) (.v (.c (.i .i64 5)))),aO 6 (.max (.v (.c (.i .i64 0))) (.t 5)),aO 2 (.mv (.t 6))]) .ret),[.tmp 2]⟩
def B0m:B3:=B8
def A6X (n:Nat) (args:List Val) (h:A0):A6:=ax B0m n A_index_depth.code A_index_depth.fin (params 0 args) h
theorem C3o (n:Nat) (a0:Val) (h:A0):A6X n [a0] h=bnd (cells? a0) fun c1=>bnd (B7 (.c (.p h.length 0)) 0) fun v2=>bnd (A5 (h ++ [some (Row.mk (c1) true)]) v2) fun v3=>bnd (A0Q v3 (.c (.i .i64 5))) fun v4=>bnd (A3b (.c (.i .i64 0)) v4) fun v5=>some (v5,(h ++ [some (Row.mk (c1) true)])):=by kernel_rfl
theorem K_index_depth:FnK Tryz.prog 156 A_index_depth B0m A6X:=.mk' (C1) Tryz.func156 (by kernel_rfl) (fun _ _ _=>C0)
def A0L:Fun:=tidy (Lim A_index_depth B0m)
theorem B1y:SOk Tryz.prog 156 A0L:=K_index_depth.sok
theorem C5U:D1 A6X A0L:=K_index_depth.flat
def A_index_fine:AFn:=⟨.seq [0] (.ops [aO 2 (.mv (.v (.c (.b false))))]) (.seq [2] (.ops [aO 3 (.mv (.t 0)),aO 4 (.bin .geq (.t 3) (.v (.c (.i .i64 0)))),aO 5 (.mv (.t 4)),aG 6 5 true (.mv (.t 0)),aG 7 5 true (.bin .leq (.t 6) (.v (.c (.i .i64 65535)))),aO 8 (.pick (.t 5) (.t 7) (.v (.c (.b false)))),aO 2 (.mv (.t 8))]) .ret),[.tmp 2]⟩
def B0n:B3:=B8
def B1c (n:Nat) (args:List Val) (h:A0):A6:=ax B0n n A_index_fine.code A_index_fine.fin (params 0 args) h
theorem C3p (n:Nat) (a0:Val) (h:A0):B1c n [a0] h=bnd (A2 .geq a0 (.c (.i .i64 0))) fun v1=>bnd (gd v1 true (some (a0,h)) (some (.no,h))) fun p2=>bnd (gd v1 true (bnd (A2 .leq p2.1 (.c (.i .i64 65535))) fun v3=>some (v3,p2.2)) (some (.no,p2.2))) fun p4=>bnd (C4 v1 p4.1 (.c (.b false))) fun v5=>some (v5,p4.2):=by kernel_rfl
theorem K_index_fine:FnK Tryz.prog 216 A_index_fine B0n B1c:=.mk' (C1) Tryz.func216 (by kernel_rfl) (fun _ _ _=>C0)
def A4Y:Fun:=tidy (Lim A_index_fine B0n)
theorem C5W:SOk Tryz.prog 216 A4Y:=K_index_fine.sok
theorem C5V:D1 B1c A4Y:=K_index_fine.flat
def B8O:ACode:=.seq [2,4,20,21,22] (.ops [aO 22 (.bin .lss (.t 21) (.v (.c (.i .i64 32))))]) (.seq [2,4,20,21] (.cond (.t 22) .skip (.exit 0)) (.seq [2,4,20,21] (.block 1 (.seq [2,4,5,6,20,21] (.ops [aO 23 (.mv (.t 21)),aO 24 (.idxA1 32 (.t 20) (.t 21)),aO 5 (.mv (.t 23)),aO 6 (.mv (.t 24))]) (.seq [2,4,5,6,20,21] (.seq [2,4,5,6,20,21,27] (.ops [aO 25 (.mv (.t 6)),aO 26 (.call 216 [(.t 25)]),aO 27 (.un .not (.t 26))]) (.cond (.t 27) (.seq [2,3] (.ops [aO 28 (.build (List.replicate 256 (.i .u8 0)) []),aN (.storeN 256 (.t 2) (.t 28)),aO 3 (.mv (.v (.c (.i .i64 1))))]) .ret) .skip)) (.ops [aO 29 (.loadN 256 (.t 4)),aO 30 (.mv (.t 5)),aO 31 (.bin .mul (.v (.c (.i .i64 2))) (.t 30)),aO 32 (.bin .add (.v (.c (.i .i64 32))) (.t 31)),aO 33 (.mv (.t 6)),aO 34 (.call 213 [(.t 29),(.t 32),(.v (.c (.i .i64 2))),(.t 33)]),aN (.storeN 256 (.t 4) (.t 34))])))) (.ops [aO 35 (.bin .add (.t 21) (.v (.c (.i .i64 1)))),aO 21 (.mv (.t 35))])))
def B8P:ACode:=.seq [2,3] (.ops [aO 36 (.loadN 256 (.t 4)),aN (.storeN 256 (.t 2) (.t 36)),aO 3 (.mv (.v (.c (.i .i64 0))))]) .ret
def A_index_Put:AFn:=⟨.seq [1,2] (.ops [aO 1 (.box (.t 0)),aO 2 (.alloc (List.replicate 256 (.i .u8 0))),aO 3 (.mv (.v (.c (.i .i64 0))))]) (.seq [1,2] (.seq [1,2,11] (.draw 0 [aO 7 (.fAddr (.t 1) 0),aO 8 (.load1 (.t 7)),aO 9 (.loadN 33 (.t 1)),aO 10 (.call 156 [(.t 9)])] [aO 11 (.bin .neq (.t 8) (.t 10))]) (.cond (.t 11) (.seq [2,3] (.ops [aO 12 (.build (List.replicate 256 (.i .u8 0)) []),aN (.storeN 256 (.t 2) (.t 12)),aO 3 (.mv (.v (.c (.i .i64 1))))]) .ret) .skip)) (.seq [1,2,4] (.draw 2 [aS 13 0 (.buildSl 1 4 ([.i .u8 0,.i .u8 0,.i .u8 0,.i .u8 0]) [(0,1,(.v (.c (.i .u8 105)))),(1,1,(.v (.c (.i .u8 100)))),(2,1,(.v (.c (.i .u8 120)))),(3,1,(.v (.c (.i .u8 33))))]),aO 14 (.mark (.t 13)),aO 15 (.call 212 [(.t 14)]),aO 16 (.fAddr (.t 1) 0),aO 17 (.load1 (.t 16)),aO 18 (.call 213 [(.t 15),(.v (.c (.i .i64 4))),(.v (.c (.i .i64 1))),(.t 17)]),aS 4 1 (.alloc (List.replicate 256 (.i .u8 0)))] [aN (.storeN 256 (.t 4) (.t 18))]) (.seq [2,4] (.seq [2,4,20,21] (.ops [aO 19 (.fAddr (.t 1) 1),aO 20 (.loadN 32 (.t 19)),aO 21 (.mv (.v (.c (.i .i64 0))))]) (.block 0 (.loop [2,4,20,21] B8O))) B8P))),[.cellN 2 256,.tmp 3]⟩
def A32:B3:=A7 156 A0L (A7 212 Z4 (A7 213 R5 (A7 216 A4Y B8)))
def D0l (n:Nat):B4 (Val × A0):=E5 [2,4] (ax A32 n B8P) A_index_Put.fin
def D0m (n:Nat):B4 (Val × A0):=D6 0 (D0l n)
def A8F (n m:Nat) (x2 x4 x20 x21:Val) (h:A0):A6:=C8 (ax A32 n B8O) [2,4,20,21] (D0m n) m [(2,x2),(4,x4),(20,x20),(21,x21)] h
def A6W (n:Nat) (args:List Val) (h:A0):A6:=ax A32 n A_index_Put.code A_index_Put.fin (params 0 args) h
theorem C3n (n:Nat) (a0:Val) (h:A0):A6W n [a0] h=bnd (cells? a0) fun c1=>bnd (B7 (.c (.p h.length 0)) 0) fun v2=>bnd (A5 ((h ++ [some (Row.mk (c1) true)]) ++ [some (Row.mk (List.replicate 256 (.i .u8 0)) true)]) v2) fun v3=>bnd (A3 ((h ++ [some (Row.mk (c1) true)]) ++ [some (Row.mk (List.replicate 256 (.i .u8 0)) true)]) 33 (.c (.p h.length 0))) fun v4=>bnd (quiet (((h ++ [some (Row.mk (c1) true)]) ++ [some (Row.mk (List.replicate 256 (.i .u8 0)) true)]) ++ []) (A0L [v4] (((h ++ [some (Row.mk (c1) true)]) ++ [some (Row.mk (List.replicate 256 (.i .u8 0)) true)]) ++ []))) fun p5=>bnd (A2 .neq v3 p5.1) fun v6=>cnd v6 (bnd (A8 (List.replicate 256 (.i .u8 0)) []) fun c7=>bnd (B6 p5.2 256 (.c (.p (h ++ [some (Row.mk (c1) true)]).length 0)) (.a c7)) fun h8=>C7 [A3 h8 256 (.c (.p (h ++ [some (Row.mk (c1) true)]).length 0)),some (.c (.i .i64 1))] h8) (bnd (A8 ([.i .u8 0,.i .u8 0,.i .u8 0,.i .u8 0]) [(0,1,.c (.i .u8 105)),(1,1,.c (.i .u8 100)),(2,1,.c (.i .u8 120)),(3,1,.c (.i .u8 33))]) fun c9=>bnd (Q6 ((p5.2 ++ [none,none]).set (p5.2.length + 0) (some (Row.mk (c9) true))) (.c (.sl (p5.2.length + 0) 0 4 1))) fun v10=>bnd (quiet ((p5.2 ++ [none,none]).set (p5.2.length + 0) (some (Row.mk (c9) true))) (Z4 [v10] ((p5.2 ++ [none,none]).set (p5.2.length + 0) (some (Row.mk (c9) true))))) fun p11=>bnd (B7 (.c (.p h.length 0)) 0) fun v12=>bnd (A5 p5.2 v12) fun v13=>bnd (quiet p11.2 (R5 [p11.1,.c (.i .i64 4),.c (.i .i64 1),v13] p11.2)) fun p14=>bnd (B6 (p14.2.set (p5.2.length + 1) (some (Row.mk (List.replicate 256 (.i .u8 0)) true))) 256 (.c (.p (p5.2.length + 1) 0)) p14.1) fun h15=>bnd (B7 (.c (.p h.length 0)) 1) fun v16=>bnd (A3 h15 32 v16) fun v17=>A8F n n (.c (.p (h ++ [some (Row.mk (c1) true)]).length 0)) (.c (.p (p5.2.length + 1) 0)) v17 (.c (.i .i64 0)) h15):=by kernel_rfl
theorem B8R (n m:Nat) (x2 x4 x20 x21:Val) (h:A0):A8F n (m + 1) x2 x4 x20 x21 h=bnd (A2 .lss x21 (.c (.i .i64 32))) fun v18=>cnd v18 (bnd (W4 32 x20 x21) fun v19=>bnd (A4Y [v19] h) fun p20=>bnd (aun .not p20.1) fun v21=>cnd v21 (bnd (A8 (List.replicate 256 (.i .u8 0)) []) fun c22=>bnd (B6 p20.2 256 x2 (.a c22)) fun h23=>C7 [A3 h23 256 x2,some (.c (.i .i64 1))] h23) (bnd (A3 p20.2 256 x4) fun v24=>bnd (A2 .mul (.c (.i .i64 2)) x21) fun v25=>bnd (A2 .add (.c (.i .i64 32)) v25) fun v26=>bnd (R5 [v24,v26,.c (.i .i64 2),v19] p20.2) fun p27=>bnd (B6 p27.2 256 x4 p27.1) fun h28=>bnd (A2 .add x21 (.c (.i .i64 1))) fun v29=>A8F n m x2 x4 x20 v29 h28)) (bnd (A3 h 256 x4) fun v30=>bnd (B6 h 256 x2 v30) fun h31=>C7 [A3 h31 256 x2,some (.c (.i .i64 0))] h31):=by kernel_rfl
theorem K_index_Put:FnK Tryz.prog 138 A_index_Put A32 A6W:=.mk' (A9 B1y (A9 A7u (A9 B1B (A9 C5W C1)))) Tryz.func138 (by kernel_rfl) (fun _ _ _=>C0)
def A18:Fun:=tidy (Lim A_index_Put A32)
theorem B4P:SOk Tryz.prog 138 A18:=K_index_Put.sok
theorem C5T:D1 A6W A18:=K_index_Put.flat
def A_index_many:AFn:=⟨.seq [1] (.ops [aO 1 (.box (.t 0)),aO 2 (.mv (.v (.c (.i .i64 0))))]) (.seq [2] (.ops [aO 3 (.loadN 33 (.t 1)),aO 4 (.call 156 [(.t 3)]),aO 5 (.conv .u64 (.t 4)),aO 6 (.bin .shl (.v (.c (.i .i64 1))) (.t 5)),aO 2 (.mv (.t 6))]) .ret),[.tmp 2]⟩
def B0o:B3:=A7 156 A0L B8
def A6Z (n:Nat) (args:List Val) (h:A0):A6:=ax B0o n A_index_many.code A_index_many.fin (params 0 args) h
theorem C3r (n:Nat) (a0:Val) (h:A0):A6Z n [a0] h=bnd (cells? a0) fun c1=>bnd (A3 (h ++ [some (Row.mk (c1) true)]) 33 (.c (.p h.length 0))) fun v2=>bnd (A0L [v2] (h ++ [some (Row.mk (c1) true)])) fun p3=>bnd (I1 .u64 p3.1) fun v4=>bnd (A2 .shl (.c (.i .i64 1)) v4) fun v5=>some (v5,p3.2):=by kernel_rfl
theorem K_index_many:FnK Tryz.prog 225 A_index_many B0o A6Z:=.mk' (A9 B1y C1) Tryz.func225 (by kernel_rfl) (fun _ _ _=>C0)
def A19:Fun:=tidy (Lim A_index_many B0o)
theorem B4Q:SOk Tryz.prog 225 A19:=K_index_many.sok
theorem C5Z:D1 A6Z A19:=K_index_many.flat
def B8I:ACode:=.seq [1,2,4,12,13] (.ops [aO 13 (.bin .lss (.t 12) (.v (.c (.i .i64 32))))]) (.seq [1,2,4,12] (.cond (.t 13) .skip (.exit 0)) (.seq [1,2,4,12] (.block 1 (.seq [1,2,4,5,12] (.ops [aO 14 (.mv (.t 12)),aO 5 (.mv (.t 14))]) (.ops [aO 15 (.mv (.t 5)),aO 16 (.loadN 256 (.t 1)),aO 17 (.mv (.t 5)),aO 18 (.bin .mul (.v (.c (.i .i64 2))) (.t 17)),aO 19 (.bin .add (.v (.c (.i .i64 32))) (.t 18)),aO 20 (.call 142 [(.t 16),(.t 19),(.v (.c (.i .i64 2)))]),aO 21 (.fAddr (.t 4) 1),aO 22 (.iAddrA 32 1 (.t 21) (.t 15)),aN (.store1 (.t 22) (.t 20))]))) (.ops [aO 23 (.bin .add (.t 12) (.v (.c (.i .i64 1)))),aO 12 (.mv (.t 23))])))
def B8K:ACode:=.seq [2,4,8] (.seq [2,4,8,40] (.ops [aO 39 (.mv (.t 8)),aO 40 (.bin .lss (.t 39) (.v (.c (.i .i64 32))))]) (.cond (.t 40) .skip (.exit 2))) (.seq [2,4,8] (.block 3 (.seq [2,4,8,47] (.ops [aO 43 (.mv (.t 8)),aO 44 (.fAddr (.t 4) 1),aO 45 (.iAddrA 32 1 (.t 44) (.t 43)),aO 46 (.load1 (.t 45)),aO 47 (.bin .neq (.t 46) (.v (.c (.i .i64 0))))]) (.cond (.t 47) (.seq [2,3] (.ops [aO 48 (.build ([.i .i64 0] ++ List.replicate 32 (.i .i64 0)) []),aN (.storeN 33 (.t 2) (.t 48)),aO 3 (.mv (.v (.c (.i .i64 14))))]) .ret) .skip))) (.ops [aO 41 (.mv (.t 8)),aO 42 (.bin .add (.t 41) (.v (.c (.i .i64 1)))),aO 8 (.mv (.t 42))]))
def B8L:ACode:=.seq [2,3] (.ops [aO 49 (.loadN 33 (.t 4)),aN (.storeN 33 (.t 2) (.t 49)),aO 3 (.mv (.v (.c (.i .i64 0))))]) .ret
def B8J:ACode:=.seq [1,2,4,6,7] (.ops [aO 25 (.loadN 33 (.t 4)),aO 26 (.call 138 [(.t 25)]),aO 24 (.mv (.t 26)),aO 27 (.ext (.t 24) 0),aO 28 (.ext (.t 24) 1),aO 6 (.alloc (List.replicate 256 (.i .u8 0))),aN (.storeN 256 (.t 6) (.t 27)),aO 7 (.mv (.t 28))]) (.seq [2,4] (.seq [2,4,35] (.ops [aO 29 (.mv (.t 7)),aO 30 (.bin .neq (.t 29) (.v (.c (.i .i64 0)))),aO 31 (.mv (.t 30)),aG 32 31 false (.loadN 256 (.t 6)),aG 33 31 false (.loadN 256 (.t 1)),aG 34 31 false (.eqA true (List.replicate 256 (.i .u8)) (.t 32) (.t 33)),aO 35 (.pick (.t 31) (.v (.c (.b true))) (.t 34))]) (.cond (.t 35) (.seq [2,3] (.ops [aO 36 (.build ([.i .i64 0] ++ List.replicate 32 (.i .i64 0)) []),aN (.storeN 33 (.t 2) (.t 36)),aO 3 (.mv (.v (.c (.i .i64 14))))]) .ret) .skip)) (.seq [2,4] (.seq [2,4,8] (.ops [aO 37 (.loadN 33 (.t 4)),aO 38 (.call 225 [(.t 37)]),aO 8 (.mv (.t 38))]) (.block 2 (.loop [2,4,8] B8K))) B8L))
def A_index_Get:AFn:=⟨.seq [1,2] (.ops [aO 1 (.box (.t 0)),aO 2 (.alloc ([.i .i64 0] ++ List.replicate 32 (.i .i64 0))),aO 3 (.mv (.v (.c (.i .i64 0))))]) (.seq [1,2,4] (.ops [aO 9 (.loadN 256 (.t 1)),aO 10 (.call 142 [(.t 9),(.v (.c (.i .i64 4))),(.v (.c (.i .i64 1)))]),aO 11 (.build ([.i .i64 0] ++ List.replicate 32 (.i .i64 0)) [(0,1,(.t 10))]),aO 4 (.alloc ([.i .i64 0] ++ List.replicate 32 (.i .i64 0))),aN (.storeN 33 (.t 4) (.t 11))]) (.seq [1,2,4] (.seq [1,2,4,12] (.ops [aO 12 (.mv (.v (.c (.i .i64 0))))]) (.block 0 (.loop [1,2,4,12] B8I))) B8J)),[.cellN 2 33,.tmp 3]⟩
def A1N:B3:=A7 142 P6 (A7 138 A18 (A7 225 A19 B8))
def D0g (n:Nat):B4 (Val × A0):=E5 [1,2,4] (ax A1N n B8J) A_index_Get.fin
def D0h (n:Nat):B4 (Val × A0):=D6 0 (D0g n)
def A8D (n m:Nat) (x1 x2 x4 x12:Val) (h:A0):A6:=C8 (ax A1N n B8I) [1,2,4,12] (D0h n) m [(1,x1),(2,x2),(4,x4),(12,x12)] h
def A6U (n:Nat) (args:List Val) (h:A0):A6:=ax A1N n A_index_Get.code A_index_Get.fin (params 0 args) h
def D0i (n:Nat):B4 (Val × A0):=E5 [2,4] (ax A1N n B8L) A_index_Get.fin
def D0j (n:Nat):B4 (Val × A0):=D6 2 (D0i n)
def A8E (n m:Nat) (x2 x4 x8:Val) (h:A0):A6:=C8 (ax A1N n B8K) [2,4,8] (D0j n) m [(2,x2),(4,x4),(8,x8)] h
theorem C3l (n:Nat) (a0:Val) (h:A0):A6U n [a0] h=bnd (cells? a0) fun c1=>bnd (A3 ((h ++ [some (Row.mk (c1) true)]) ++ [some (Row.mk ([.i .i64 0] ++ List.replicate 32 (.i .i64 0)) true)]) 256 (.c (.p h.length 0))) fun v2=>bnd (P6 [v2,.c (.i .i64 4),.c (.i .i64 1)] ((h ++ [some (Row.mk (c1) true)]) ++ [some (Row.mk ([.i .i64 0] ++ List.replicate 32 (.i .i64 0)) true)])) fun p3=>bnd (A8 ([.i .i64 0] ++ List.replicate 32 (.i .i64 0)) [(0,1,p3.1)]) fun c4=>bnd (B6 (p3.2 ++ [some (Row.mk ([.i .i64 0] ++ List.replicate 32 (.i .i64 0)) true)]) 33 (.c (.p p3.2.length 0)) (.a c4)) fun h5=>A8D n n (.c (.p h.length 0)) (.c (.p (h ++ [some (Row.mk (c1) true)]).length 0)) (.c (.p p3.2.length 0)) (.c (.i .i64 0)) h5:=by kernel_rfl
theorem B8M (n m:Nat) (x1 x2 x4 x12:Val) (h:A0):A8D n (m + 1) x1 x2 x4 x12 h=bnd (A2 .lss x12 (.c (.i .i64 32))) fun v6=>cnd v6 (bnd (A3 h 256 x1) fun v7=>bnd (A2 .mul (.c (.i .i64 2)) x12) fun v8=>bnd (A2 .add (.c (.i .i64 32)) v8) fun v9=>bnd (P6 [v7,v9,.c (.i .i64 2)] h) fun p10=>bnd (B7 x4 1) fun v11=>bnd (D8 32 1 v11 x12) fun v12=>bnd (F9 p10.2 v12 p10.1) fun h13=>bnd (A2 .add x12 (.c (.i .i64 1))) fun v14=>A8D n m x1 x2 x4 v14 h13) (bnd (A3 h 33 x4) fun v15=>bnd (A18 [v15] h) fun p16=>bnd (C5 p16.1 0) fun v17=>bnd (C5 p16.1 1) fun v18=>bnd (B6 (p16.2 ++ [some (Row.mk (List.replicate 256 (.i .u8 0)) true)]) 256 (.c (.p p16.2.length 0)) v17) fun h19=>bnd (A2 .neq v18 (.c (.i .i64 0))) fun v20=>bnd (gd v20 false (bnd (A3 h19 256 (.c (.p p16.2.length 0))) fun v21=>some (v21,h19)) (some (.no,h19))) fun p22=>bnd (gd v20 false (bnd (A3 p22.2 256 x1) fun v23=>some (v23,p22.2)) (some (.no,p22.2))) fun p24=>bnd (gd v20 false (bnd (aeq true (List.replicate 256 (.i .u8)) p22.1 p24.1) fun v25=>some (v25,p24.2)) (some (.no,p24.2))) fun p26=>bnd (C4 v20 (.c (.b true)) p26.1) fun v27=>cnd v27 (bnd (A8 ([.i .i64 0] ++ List.replicate 32 (.i .i64 0)) []) fun c28=>bnd (B6 p26.2 33 x2 (.a c28)) fun h29=>C7 [A3 h29 33 x2,some (.c (.i .i64 14))] h29) (bnd (A3 p26.2 33 x4) fun v30=>bnd (A19 [v30] p26.2) fun p31=>A8E n n x2 x4 p31.1 p31.2)):=by kernel_rfl
theorem B8N (n m:Nat) (x2 x4 x8:Val) (h:A0):A8E n (m + 1) x2 x4 x8 h=bnd (A2 .lss x8 (.c (.i .i64 32))) fun v32=>cnd v32 (bnd (B7 x4 1) fun v33=>bnd (D8 32 1 v33 x8) fun v34=>bnd (A5 h v34) fun v35=>bnd (A2 .neq v35 (.c (.i .i64 0))) fun v36=>cnd v36 (bnd (A8 ([.i .i64 0] ++ List.replicate 32 (.i .i64 0)) []) fun c37=>bnd (B6 h 33 x2 (.a c37)) fun h38=>C7 [A3 h38 33 x2,some (.c (.i .i64 14))] h38) (bnd (A2 .add x8 (.c (.i .i64 1))) fun v39=>A8E n m x2 x4 v39 h)) (bnd (A3 h 33 x4) fun v40=>bnd (B6 h 33 x2 v40) fun h41=>C7 [A3 h41 33 x2,some (.c (.i .i64 0))] h41):=by kernel_rfl
theorem K_index_Get:FnK Tryz.prog 154 A_index_Get A1N A6U:=.mk' (A9 A7t (A9 B4P (A9 B4Q C1))) Tryz.func154 (by kernel_rfl) (fun _ _ _=>C0)
def A4W:Fun:=tidy (Lim A_index_Get A1N)
theorem C5Q:SOk Tryz.prog 154 A4W:=K_index_Get.sok
theorem C5P:D1 A6U A4W:=K_index_Get.flat
def A_index_Place:AFn:=⟨.seq [1,2] (.ops [aO 2 (.box (.t 0)),aO 4 (.mv (.v (.c (.i .i64 0))))]) (.seq [4] (.ops [aO 5 (.mv (.t 1)),aO 6 (.loadN 33 (.t 2)),aO 7 (.call 156 [(.t 6)]),aO 8 (.call 155 [(.t 5),(.t 7)]),aO 4 (.mv (.t 8))]) .ret),[.tmp 4]⟩
def B0l:B3:=A7 156 A0L (A7 155 A43 B8)
def A6V (n:Nat) (args:List Val) (h:A0):A6:=ax B0l n A_index_Place.code A_index_Place.fin (params 0 args) h
theorem C3m (n:Nat) (a0 a1:Val) (h:A0):A6V n [a0,a1] h=bnd (cells? a0) fun c1=>bnd (A3 (h ++ [some (Row.mk (c1) true)]) 33 (.c (.p h.length 0))) fun v2=>bnd (A0L [v2] (h ++ [some (Row.mk (c1) true)])) fun p3=>bnd (A43 [a1,p3.1] p3.2) fun p4=>some (p4.1,p4.2):=by kernel_rfl
theorem K_index_Place:FnK Tryz.prog 77 A_index_Place B0l A6V:=.mk' (A9 B1y (A9 C6b C1)) Tryz.func77 (by kernel_rfl) (fun _ _ _=>C0)
def A4X:Fun:=tidy (Lim A_index_Place B0l)
theorem C5S:SOk Tryz.prog 77 A4X:=K_index_Place.sok
theorem C5R:D1 A6V A4X:=K_index_Place.flat
def B8S:ACode:=.seq [1,2,6,7,8] (.ops [aO 8 (.bin .lss (.t 7) (.t 6))]) (.seq [1,2,6,7] (.cond (.t 8) .skip (.exit 0)) (.seq [1,2,6,7] (.block 1 (.seq [1,2,5,6,7] (.ops [aO 9 (.mv (.t 7)),aO 5 (.mv (.t 9))]) (.seq [1,2,6,7,18] (.draw 0 [aO 10 (.mv (.t 5)),aO 11 (.fAddr (.t 2) 1),aO 12 (.iAddrA 32 1 (.t 11) (.t 10)),aO 13 (.load1 (.t 12)),aO 14 (.mv (.t 1)),aO 15 (.fAddr (.t 2) 1),aO 16 (.iAddrA 32 1 (.t 15) (.t 14)),aO 17 (.load1 (.t 16))] [aO 18 (.bin .eql (.t 13) (.t 17))]) (.cond (.t 18) (.seq [4] (.ops [aO 4 (.mv (.v (.c (.b false))))]) .ret) .skip)))) (.ops [aO 19 (.bin .add (.t 7) (.v (.c (.i .i64 1)))),aO 7 (.mv (.t 19))])))
def B8T:ACode:=.seq [4] (.ops [aO 4 (.mv (.v (.c (.b true))))]) .ret
def A_index_first:AFn:=⟨.seq [1,2] (.ops [aO 2 (.box (.t 0)),aO 4 (.mv (.v (.c (.b false))))]) (.seq [] (.seq [1,2,6,7] (.ops [aO 6 (.mv (.t 1)),aO 7 (.mv (.v (.c (.i .i64 0))))]) (.block 0 (.loop [1,2,6,7] B8S))) B8T),[.tmp 4]⟩
def A33:B3:=B8
def D0p (n:Nat):B4 (Val × A0):=E5 [] (ax A33 n B8T) A_index_first.fin
def D0q (n:Nat):B4 (Val × A0):=D6 0 (D0p n)
def A8G (n m:Nat) (x1 x2 x6 x7:Val) (h:A0):A6:=C8 (ax A33 n B8S) [1,2,6,7] (D0q n) m [(1,x1),(2,x2),(6,x6),(7,x7)] h
def A6Y (n:Nat) (args:List Val) (h:A0):A6:=ax A33 n A_index_first.code A_index_first.fin (params 0 args) h
theorem C3q (n:Nat) (a0 a1:Val) (h:A0):A6Y n [a0,a1] h=bnd (cells? a0) fun c1=>A8G n n a1 (.c (.p h.length 0)) a1 (.c (.i .i64 0)) (h ++ [some (Row.mk (c1) true)]):=by kernel_rfl
theorem B8U (n m:Nat) (x1 x2 x6 x7:Val) (h:A0):A8G n (m + 1) x1 x2 x6 x7 h=bnd (A2 .lss x7 x6) fun v2=>cnd v2 (bnd (B7 x2 1) fun v3=>bnd (D8 32 1 v3 x7) fun v4=>bnd (A5 h v4) fun v5=>bnd (B7 x2 1) fun v6=>bnd (D8 32 1 v6 x1) fun v7=>bnd (A5 h v7) fun v8=>bnd (A2 .eql v5 v8) fun v9=>cnd v9 (some ((.c (.b false)),(h ++ []))) (bnd (A2 .add x7 (.c (.i .i64 1))) fun v10=>A8G n m x1 x2 x6 v10 (h ++ []))) (some ((.c (.b true)),h)):=by kernel_rfl
theorem K_index_first:FnK Tryz.prog 228 A_index_first A33 A6Y:=.mk' (C1) Tryz.func228 (by kernel_rfl) (fun _ _ _=>C0)
def A4Z:Fun:=tidy (Lim A_index_first A33)
theorem C5Y:SOk Tryz.prog 228 A4Z:=K_index_first.sok
theorem C5X:D1 A6Y A4Z:=K_index_first.flat
def B8G:ACode:=.ops [aO 27 (.bin .add (.t 7) (.v (.c (.i .i64 1)))),aO 7 (.mv (.t 27))]
def B3e:ACode:=.seq [1,3,6,7,8] (.ops [aO 8 (.bin .lss (.t 7) (.t 6))]) (.seq [1,3,6,7] (.cond (.t 8) .skip (.exit 0)) (.seq [1,3,6,7] (.block 1 (.seq [1,3,4,6,7] (.ops [aO 9 (.mv (.t 7)),aO 4 (.mv (.t 9))]) (.seq [1,3,4,6,7,19] (.ops [aO 10 (.mv (.t 4)),aO 11 (.fAddr (.t 1) 1),aO 12 (.iAddrA 32 1 (.t 11) (.t 10)),aO 13 (.load1 (.t 12)),aO 14 (.bin .neq (.t 13) (.v (.c (.i .i64 0)))),aO 15 (.mv (.t 14)),aG 16 15 true (.loadN 33 (.t 1)),aG 17 15 true (.mv (.t 4)),aG 18 15 true (.call 228 [(.t 16),(.t 17)]),aO 19 (.pick (.t 15) (.t 18) (.v (.c (.b false))))]) (.cond (.t 19) (.ops [aO 20 (.mv (.t 3)),aO 21 (.mv (.t 4)),aO 22 (.fAddr (.t 1) 1),aO 23 (.iAddrA 32 1 (.t 22) (.t 21)),aO 24 (.load1 (.t 23)),aO 25 (.buildSl 1 1 ([.i .i64 0]) [(0,1,(.t 24))]),aO 26 (.app 1 (.t 20) (.t 25)),aO 3 (.mv (.t 26))]) .skip)))) B8G))
def B8F:ACode:=.seq [2] (.ops [aO 28 (.mv (.t 3)),aO 2 (.mv (.t 28))]) .ret
def A_index_Buckets:AFn:=⟨.seq [1] (.ops [aO 1 (.box (.t 0)),aO 2 (.nilrow 1)]) (.seq [1,3] (.ops [aO 3 (.nilrow 1)]) (.seq [3] (.seq [1,3,6,7] (.ops [aO 5 (.loadN 33 (.t 1)),aO 6 (.call 225 [(.t 5)]),aO 7 (.mv (.v (.c (.i .i64 0))))]) (.block 0 (.loop [1,3,6,7] B3e))) B8F)),[.tmp 2]⟩
def A1M:B3:=A7 225 A19 (A7 228 A4Z B8)
def D0d (n:Nat):B4 (Val × A0):=E5 [3] (ax A1M n B8F) A_index_Buckets.fin
def B3h (n:Nat):B4 (Val × A0):=D6 0 (D0d n)
def A5D (n m:Nat) (x1 x3 x6 x7:Val) (h:A0):A6:=C8 (ax A1M n B3e) [1,3,6,7] (B3h n) m [(1,x1),(3,x3),(6,x6),(7,x7)] h
def A6T (n:Nat) (args:List Val) (h:A0):A6:=ax A1M n A_index_Buckets.code A_index_Buckets.fin (params 0 args) h
def D0e (n m:Nat):B4 (Val × A0):=R1 [1,3,6,7] (C8 (ax A1M n B3e) [1,3,6,7] (B3h n) m) (B3h n)
def B3f (n m:Nat) (x1 x3 x6 x7:Val) (h:A0):A6:=hold ((ax A1M n B8G) (D0e n m) [(1,x1),(3,x3),(6,x6),(7,x7)] h)
theorem C3k (n:Nat) (a0:Val) (h:A0):A6T n [a0] h=bnd (cells? a0) fun c1=>bnd (A3 (((h ++ [some (Row.mk (c1) true)]) ++ [some (Row.mk ([]) true)]) ++ [some (Row.mk ([]) true)]) 33 (.c (.p h.length 0))) fun v2=>bnd (A19 [v2] (((h ++ [some (Row.mk (c1) true)]) ++ [some (Row.mk ([]) true)]) ++ [some (Row.mk ([]) true)])) fun p3=>A5D n n (.c (.p h.length 0)) (.c (.sl ((h ++ [some (Row.mk (c1) true)]) ++ [some (Row.mk ([]) true)]).length 0 0 1)) p3.1 (.c (.i .i64 0)) p3.2:=by kernel_rfl
theorem B8H (n m:Nat) (x1 x3 x6 x7:Val) (h:A0):A5D n (m + 1) x1 x3 x6 x7 h=bnd (A2 .lss x7 x6) fun v4=>cnd v4 (bnd (B7 x1 1) fun v5=>bnd (D8 32 1 v5 x7) fun v6=>bnd (A5 h v6) fun v7=>bnd (A2 .neq v7 (.c (.i .i64 0))) fun v8=>bnd (gd v8 true (bnd (A3 h 33 x1) fun v9=>some (v9,h)) (some (.no,h))) fun p10=>bnd (gd v8 true (some (x7,p10.2)) (some (.no,p10.2))) fun p11=>bnd (gd v8 true (bnd (A4Z [p10.1,p11.1] p11.2) fun p12=>some (p12.1,p12.2)) (some (.no,p11.2))) fun p13=>bnd (C4 v8 p13.1 (.c (.b false))) fun v14=>cnd v14 (bnd (B7 x1 1) fun v15=>bnd (D8 32 1 v15 x7) fun v16=>bnd (A5 p13.2 v16) fun v17=>bnd (A8 ([.i .i64 0]) [(0,1,v17)]) fun c18=>bnd (E7 (p13.2 ++ [some (Row.mk (c18) true)]) 1 x3 (.c (.sl p13.2.length 0 1 1))) fun p19=>B3f n m x1 p19.1 x6 x7 p19.2) (B3f n m x1 x3 x6 x7 p13.2)) (some (x3,h)):=by kernel_rfl
theorem B3g (n m:Nat) (x1 x3 x6 x7:Val) (h:A0):B3f n m x1 x3 x6 x7 h=bnd (A2 .add x7 (.c (.i .i64 1))) fun v20=>A5D n m x1 x3 x6 v20 h:=by kernel_rfl
theorem K_index_Buckets:FnK Tryz.prog 162 A_index_Buckets A1M A6T:=.mk' (A9 B4Q (A9 C5Y C1)) Tryz.func162 (by kernel_rfl) (fun _ _ _=>C0)
def A4V:Fun:=tidy (Lim A_index_Buckets A1M)
theorem C5N:SOk Tryz.prog 162 A4V:=K_index_Buckets.sok
theorem C5O:N9 A6T A4V:=K_index_Buckets.out
end Go.Proofs.YteckncopbicmcaaGreat
end
noncomputable section
namespace Go.Proofs.YteckncopbicmcaaGreat
open Go Go.Esc
set_option maxRecDepth 100000
def A_fmap_Index:AFn:=⟨.seq [2,3,4] (.ops [aO 2 (.box (.t 0)),aO 3 (.box (.t 1)),aO 4 (.alloc ([.i .i64 0] ++ List.replicate 32 (.i .i64 0))),aO 5 (.mv (.v (.c (.b false))))]) (.seq [2,3,4] (.seq [2,3,4,19] (.ops [aO 8 (.fAddr (.t 3) 0),aO 9 (.load1 (.t 8)),aO 10 (.bin .neq (.t 9) (.v (.c (.i .i64 2)))),aO 11 (.mv (.t 10)),aG 12 11 false (.fAddr (.t 2) 0),aG 13 11 false (.loadN 3 (.t 12)),aG 14 11 false (.fAddr (.t 3) 4),aG 15 11 false (.iAddrA 6 1 (.t 14) (.v (.c (.i .i64 0)))),aG 16 11 false (.load1 (.t 15)),aG 17 11 false (.call 72 [(.t 13),(.t 16)]),aG 18 11 false (.un .not (.t 17)),aO 19 (.pick (.t 11) (.v (.c (.b true))) (.t 18))]) (.cond (.t 19) (.seq [4,5] (.ops [aO 20 (.build ([.i .i64 0] ++ List.replicate 32 (.i .i64 0)) []),aN (.storeN 33 (.t 4) (.t 20)),aO 5 (.mv (.v (.c (.b false))))]) .ret) .skip)) (.seq [4,6,7] (.ops [aO 22 (.loadN 4 (.t 2)),aO 23 (.fAddr (.t 3) 4),aO 24 (.iAddrA 6 1 (.t 23) (.v (.c (.i .i64 0)))),aO 25 (.load1 (.t 24)),aO 26 (.call 71 [(.t 22),(.t 25)]),aO 27 (.call 154 [(.t 26)]),aO 21 (.mv (.t 27)),aO 28 (.ext (.t 21) 0),aO 29 (.ext (.t 21) 1),aO 6 (.alloc ([.i .i64 0] ++ List.replicate 32 (.i .i64 0))),aN (.storeN 33 (.t 6) (.t 28)),aO 7 (.mv (.t 29))]) (.seq [4,5] (.ops [aO 30 (.loadN 33 (.t 6)),aO 31 (.mv (.t 7)),aO 32 (.bin .eql (.t 31) (.v (.c (.i .i64 0)))),aN (.storeN 33 (.t 4) (.t 30)),aO 5 (.mv (.t 32))]) .ret))),[.cellN 4 33,.tmp 5]⟩
def B0d:B3:=A7 72 A0J (A7 71 S7 (A7 154 A4W B8))
def A6M (n:Nat) (args:List Val) (h:A0):A6:=ax B0d n A_fmap_Index.code A_fmap_Index.fin (params 0 args) h
theorem C3c (n:Nat) (a0 a1:Val) (h:A0):A6M n [a0,a1] h=bnd (cells? a0) fun c1=>bnd (cells? a1) fun c2=>bnd (B7 (.c (.p (h ++ [some (Row.mk (c1) true)]).length 0)) 0) fun v3=>bnd (A5 (((h ++ [some (Row.mk (c1) true)]) ++ [some (Row.mk (c2) true)]) ++ [some (Row.mk ([.i .i64 0] ++ List.replicate 32 (.i .i64 0)) true)]) v3) fun v4=>bnd (A2 .neq v4 (.c (.i .i64 2))) fun v5=>bnd (gd v5 false (bnd (B7 (.c (.p h.length 0)) 0) fun v6=>some (v6,(((h ++ [some (Row.mk (c1) true)]) ++ [some (Row.mk (c2) true)]) ++ [some (Row.mk ([.i .i64 0] ++ List.replicate 32 (.i .i64 0)) true)]))) (some (.no,(((h ++ [some (Row.mk (c1) true)]) ++ [some (Row.mk (c2) true)]) ++ [some (Row.mk ([.i .i64 0] ++ List.replicate 32 (.i .i64 0)) true)])))) fun p7=>bnd (gd v5 false (bnd (A3 p7.2 3 p7.1) fun v8=>some (v8,p7.2)) (some (.no,p7.2))) fun p9=>bnd (gd v5 false (bnd (B7 (.c (.p (h ++ [some (Row.mk (c1) true)]).length 0)) 4) fun v10=>some (v10,p9.2)) (some (.no,p9.2))) fun p11=>bnd (gd v5 false (bnd (D8 6 1 p11.1 (.c (.i .i64 0))) fun v12=>some (v12,p11.2)) (some (.no,p11.2))) fun p13=>bnd (gd v5 false (bnd (A5 p13.2 p13.1) fun v14=>some (v14,p13.2)) (some (.no,p13.2))) fun p15=>bnd (gd v5 false (bnd (A0J [p9.1,p15.1] p15.2) fun p16=>some (p16.1,p16.2)) (some (.no,p15.2))) fun p17=>bnd (gd v5 false (bnd (aun .not p17.1) fun v18=>some (v18,p17.2)) (some (.no,p17.2))) fun p19=>bnd (C4 v5 (.c (.b true)) p19.1) fun v20=>cnd v20 (bnd (A8 ([.i .i64 0] ++ List.replicate 32 (.i .i64 0)) []) fun c21=>bnd (B6 p19.2 33 (.c (.p ((h ++ [some (Row.mk (c1) true)]) ++ [some (Row.mk (c2) true)]).length 0)) (.a c21)) fun h22=>C7 [A3 h22 33 (.c (.p ((h ++ [some (Row.mk (c1) true)]) ++ [some (Row.mk (c2) true)]).length 0)),some (.c (.b false))] h22) (bnd (A3 p19.2 4 (.c (.p h.length 0))) fun v23=>bnd (B7 (.c (.p (h ++ [some (Row.mk (c1) true)]).length 0)) 4) fun v24=>bnd (D8 6 1 v24 (.c (.i .i64 0))) fun v25=>bnd (A5 p19.2 v25) fun v26=>bnd (S7 [v23,v26] p19.2) fun p27=>bnd (A4W [p27.1] p27.2) fun p28=>bnd (C5 p28.1 0) fun v29=>bnd (C5 p28.1 1) fun v30=>bnd (B6 (p28.2 ++ [some (Row.mk ([.i .i64 0] ++ List.replicate 32 (.i .i64 0)) true)]) 33 (.c (.p p28.2.length 0)) v29) fun h31=>bnd (A3 h31 33 (.c (.p p28.2.length 0))) fun v32=>bnd (A2 .eql v30 (.c (.i .i64 0))) fun v33=>bnd (B6 h31 33 (.c (.p ((h ++ [some (Row.mk (c1) true)]) ++ [some (Row.mk (c2) true)]).length 0)) v32) fun h34=>C7 [A3 h34 33 (.c (.p ((h ++ [some (Row.mk (c1) true)]) ++ [some (Row.mk (c2) true)]).length 0)),some v33] h34):=by kernel_rfl
theorem K_fmap_Index:FnK Tryz.prog 76 A_fmap_Index B0d A6M:=.mk' (A9 B1w (A9 A26 (A9 C5Q C1))) Tryz.func76 (by kernel_rfl) (fun _ _ _=>C0)
def A16:Fun:=tidy (Lim A_fmap_Index B0d)
theorem B4N:SOk Tryz.prog 76 A16:=K_fmap_Index.sok
theorem C5B:D1 A6M A16:=K_fmap_Index.flat
def B8i:ACode:=.ops [aO 33 (.bin .add (.t 21) (.v (.c (.i .i64 1)))),aO 21 (.mv (.t 33))]
def B25:ACode:=.seq [2,7,19,20,21,22] (.ops [aO 22 (.bin .lss (.t 21) (.t 20))]) (.seq [2,7,19,20,21] (.cond (.t 22) .skip (.exit 0)) (.seq [2,7,19,20,21] (.block 1 (.seq [2,7,9,19,20,21] (.ops [aO 23 (.iAddrL 1 (.t 19) (.t 21)),aO 24 (.load1 (.t 23)),aO 9 (.mv (.t 24))]) (.seq [2,7,9,19,20,21,28] (.ops [aO 25 (.fAddr (.t 2) 0),aO 26 (.loadN 3 (.t 25)),aO 27 (.mv (.t 9)),aO 28 (.call 72 [(.t 26),(.t 27)])]) (.cond (.t 28) (.ops [aO 29 (.mv (.t 7)),aO 30 (.mv (.t 9)),aO 31 (.buildSl 1 1 ([.i .i64 0]) [(0,1,(.t 30))]),aO 32 (.app 1 (.t 29) (.t 31)),aO 7 (.mv (.t 32))]) .skip)))) B8i))
def B8h:ACode:=.seq [4] (.ops [aO 34 (.mv (.t 7)),aO 4 (.mv (.t 34))]) .ret
def A_fmap_Buckets:AFn:=⟨.seq [2,3] (.ops [aO 2 (.box (.t 0)),aO 3 (.box (.t 1)),aO 4 (.nilrow 1)]) (.seq [2,5,6] (.ops [aO 11 (.loadN 4 (.t 2)),aO 12 (.loadN 11 (.t 3)),aO 13 (.call 76 [(.t 11),(.t 12)]),aO 10 (.mv (.t 13)),aO 14 (.ext (.t 10) 0),aO 15 (.ext (.t 10) 1),aO 5 (.alloc ([.i .i64 0] ++ List.replicate 32 (.i .i64 0))),aN (.storeN 33 (.t 5) (.t 14)),aO 6 (.mv (.t 15))]) (.seq [2,5] (.seq [2,5,17] (.ops [aO 16 (.mv (.t 6)),aO 17 (.un .not (.t 16))]) (.cond (.t 17) (.seq [4] (.ops [aO 4 (.nilrow 1)]) .ret) .skip)) (.seq [2,5,7] (.ops [aO 7 (.nilrow 1)]) (.seq [7] (.seq [2,7,19,20,21] (.ops [aO 18 (.loadN 33 (.t 5)),aO 19 (.call 162 [(.t 18)]),aO 20 (.len (.t 19)),aO 21 (.mv (.v (.c (.i .i64 0))))]) (.block 0 (.loop [2,7,19,20,21] B25))) B8h)))),[.tmp 4]⟩
def A1L:B3:=A7 76 A16 (A7 162 A4V (A7 72 A0J B8))
def C90 (n:Nat):B4 (Val × A0):=E5 [7] (ax A1L n B8h) A_fmap_Buckets.fin
def B28 (n:Nat):B4 (Val × A0):=D6 0 (C90 n)
def A8z (n m:Nat) (x2 x7 x19 x20 x21:Val) (h:A0):A6:=C8 (ax A1L n B25) [2,7,19,20,21] (B28 n) m [(2,x2),(7,x7),(19,x19),(20,x20),(21,x21)] h
def A6L (n:Nat) (args:List Val) (h:A0):A6:=ax A1L n A_fmap_Buckets.code A_fmap_Buckets.fin (params 0 args) h
def C91 (n m:Nat):B4 (Val × A0):=R1 [2,7,19,20,21] (C8 (ax A1L n B25) [2,7,19,20,21] (B28 n) m) (B28 n)
def B27 (n m:Nat) (x2 x7 x19 x20 x21:Val) (h:A0):A6:=hold ((ax A1L n B8i) (C91 n m) [(2,x2),(7,x7),(19,x19),(20,x20),(21,x21)] h)
theorem C3b (n:Nat) (a0 a1:Val) (h:A0):A6L n [a0,a1] h=bnd (cells? a0) fun c1=>bnd (cells? a1) fun c2=>bnd (A3 (((h ++ [some (Row.mk (c1) true)]) ++ [some (Row.mk (c2) true)]) ++ [some (Row.mk ([]) true)]) 4 (.c (.p h.length 0))) fun v3=>bnd (A3 (((h ++ [some (Row.mk (c1) true)]) ++ [some (Row.mk (c2) true)]) ++ [some (Row.mk ([]) true)]) 11 (.c (.p (h ++ [some (Row.mk (c1) true)]).length 0))) fun v4=>bnd (A16 [v3,v4] (((h ++ [some (Row.mk (c1) true)]) ++ [some (Row.mk (c2) true)]) ++ [some (Row.mk ([]) true)])) fun p5=>bnd (C5 p5.1 0) fun v6=>bnd (C5 p5.1 1) fun v7=>bnd (B6 (p5.2 ++ [some (Row.mk ([.i .i64 0] ++ List.replicate 32 (.i .i64 0)) true)]) 33 (.c (.p p5.2.length 0)) v6) fun h8=>bnd (aun .not v7) fun v9=>cnd v9 (some ((.c (.sl h8.length 0 0 1)),(h8 ++ [some (Row.mk ([]) true)]))) (bnd (A3 (h8 ++ [some (Row.mk ([]) true)]) 33 (.c (.p p5.2.length 0))) fun v10=>bnd (A4V [v10] (h8 ++ [some (Row.mk ([]) true)])) fun p11=>bnd (E3 p11.1) fun v12=>A8z n n (.c (.p h.length 0)) (.c (.sl h8.length 0 0 1)) p11.1 v12 (.c (.i .i64 0)) p11.2):=by kernel_rfl
theorem B8k (n m:Nat) (x2 x7 x19 x20 x21:Val) (h:A0):A8z n (m + 1) x2 x7 x19 x20 x21 h=bnd (A2 .lss x21 x20) fun v13=>cnd v13 (bnd (B9 1 x19 x21) fun v14=>bnd (A5 h v14) fun v15=>bnd (B7 x2 0) fun v16=>bnd (A3 h 3 v16) fun v17=>bnd (A0J [v17,v15] h) fun p18=>cnd p18.1 (bnd (A8 ([.i .i64 0]) [(0,1,v15)]) fun c19=>bnd (E7 (p18.2 ++ [some (Row.mk (c19) true)]) 1 x7 (.c (.sl p18.2.length 0 1 1))) fun p20=>B27 n m x2 p20.1 x19 x20 x21 p20.2) (B27 n m x2 x7 x19 x20 x21 p18.2)) (some (x7,h)):=by kernel_rfl
theorem B8j (n m:Nat) (x2 x7 x19 x20 x21:Val) (h:A0):B27 n m x2 x7 x19 x20 x21 h=bnd (A2 .add x21 (.c (.i .i64 1))) fun v21=>A8z n m x2 x7 x19 x20 v21 h:=by kernel_rfl
theorem K_fmap_Buckets:FnK Tryz.prog 87 A_fmap_Buckets A1L A6L:=.mk' (A9 B4N (A9 C5N (A9 B1w C1))) Tryz.func87 (by kernel_rfl) (fun _ _ _=>C0)
def A0I:Fun:=tidy (Lim A_fmap_Buckets A1L)
theorem B1v:SOk Tryz.prog 87 A0I:=K_fmap_Buckets.sok
theorem C5A:N9 A6L A0I:=K_fmap_Buckets.out
end Go.Proofs.YteckncopbicmcaaGreat
end
section
namespace Go.Proofs.YteckncopbicmcaaGreat
open Go Go.Esc
theorem A2L {h:A0} {id n sz:Nat} {cs ys:List Cell} (hr:rd h id=some ⟨cs,true⟩) (hl:cs.length=n * sz) (hy:ys.length=sz) (hsz:0 < sz) (hn:n + 1 ≤ 1073741824) :
    ∃ h',E7 (h ++ [some ⟨ys,true⟩]) sz (.c (.sl id 0 n sz)) (.c (.sl h.length 0 1 sz))=some (.c (.sl (h.length + 1) 0 (n + 1) sz),h') ∧ rd h' (h.length + 1)=some ⟨cs ++ ys,true⟩ ∧ (∀ i r,i ≠ id → rd h i=some r → rd h' i=some r) ∧ (∀ b,b ≤ id → b ≤ h.length → Low b h h'):=by
  have hlt:=D0 hr
  refine ⟨(h ++ [some (Row.mk ys true)]).set id none ++ [some (Row.mk (cs ++ ys) true)],?_,?_,fun i r hi hir=>?_,fun b hb hb2=>(((Low.refl hb2).new _).set hb none).new _⟩
  · rw [T2 (h:=h ++ [some ⟨ys,true⟩]) (m:=1) (C3 hr) hl N6 (by omega) rfl hsz hn]
    simp
  · have:=N6 (h:=(h ++ [some (Row.mk ys true)]).set id none) (r:=Row.mk (cs ++ ys) true)
    rw [List.length_set] at this
    simpa using this
  · refine C3 ?_
    rw [H8 (Ne.symm hi)]
    exact C3 hir
def C2a (h:A0) (x:Cell) (l:List Int) (b:Nat) (rs:List Nat):Prop:=(l=[] ∧ x=.ns) ∨ ∃ id,x=.sl id 0 l.length 1 ∧ rd h id=some ⟨encI l,true⟩ ∧ b ≤ id ∧ id ∉ rs
def VarI (h:A0) (r:Nat) (l:List Int) (b:Nat) (rs:List Nat):Prop:=∃ x,rd h r=some ⟨[x],true⟩ ∧ C2a h x l b rs
theorem VarI.nil {h:A0} {r b:Nat} {rs:List Nat} (hr:rd h r=some ⟨[.ns],true⟩):VarI h r [] b rs:=⟨.ns,hr,.inl ⟨rfl,rfl⟩⟩
theorem VarI.keep {h h':A0} {r b:Nat} {l:List Int} {rs:List Nat} (hv:VarI h r l b rs) (h1:rd h' r=rd h r) (h2:∀ id,id ∉ rs → ∀ x,rd h id=some x → rd h' id=some x):VarI h' r l b rs:=by
  obtain ⟨x,hx,hd⟩:=hv
  refine ⟨x,by rw [h1];exact hx,?_⟩
  rcases hd with hd | ⟨id,e,hr,hb,hn⟩
  · exact .inl hd
  · exact .inr ⟨id,e,h2 id hn _ hr,hb,hn⟩
theorem VarI.more {h:A0} {r b:Nat} {l:List Int} {rs:List Nat} (hv:VarI h r l b rs) (t:A0):VarI (h ++ t) r l b rs:=by
  obtain ⟨x,hx,hd⟩:=hv
  refine ⟨x,C3 hx,?_⟩
  rcases hd with hd | ⟨id,e,hr,hb,hn⟩
  · exact .inl hd
  · exact .inr ⟨id,e,C3 hr,hb,hn⟩
theorem B5w {h:A0} {jd m sz:Nat} {ys:List Cell} (hy:rd h jd=some ⟨ys,true⟩) (hyl:ys.length=m * sz) (hsz:0 < sz) (hn:m ≤ 1073741824) :
    E7 h sz (.c .ns) (.c (.sl jd 0 m sz))=some (.c (.sl h.length 0 m sz),h ++ [some ⟨ys,true⟩]):=by
  have h2:O1 h sz (.c (.sl jd 0 m sz))=some ys:=by
    simp only [O1,if_true,X0,hy,Option.bind_some,List.drop_zero,Nat.zero_add]
    rw [← hyl,List.take_length,if_pos ⟨Nat.le_refl _,rfl⟩]
  have e1:ys.length / sz=m:=by rw [hyl];exact Nat.mul_div_cancel _ hsz
  simp only [E7,h2,Option.bind_some]
  rw [e1,if_pos hn]
theorem VarI.push {h:A0} {r b:Nat} {l:List Int} {rs:List Nat} (hv:VarI h r l b rs) (hr:r ∈ rs) (hbr:b ≤ r) (hbh:b ≤ h.length) (hlt:∀ j ∈ rs,j < h.length) (hl:l.length ≤ 100000) (n:Int) :
    ∃ x v h2 h3,A5 h (.c (.p r 0))=some (.c x) ∧ E7 (h ++ [some ⟨[.i .i64 n],true⟩]) 1 (.c x) (.c (.sl h.length 0 1 1))=some (.c v,h2) ∧ F9 h2 (.c (.p r 0)) (.c v)=some h3 ∧
      VarI h3 r (l ++ [n]) b rs ∧ Low b h h3 ∧ (∀ j ∈ rs,j ≠ r → rd h3 j=rd h j) ∧ h.length ≤ h3.length:=by
  obtain ⟨x,hx,hd⟩:=hv
  have hrl:=D0 hx
  have l1:A5 h (.c (.p r 0))=some (.c x):=H4 hx rfl (by simp)
  rcases hd with ⟨rfl,rfl⟩ | ⟨id,rfl,hi,hb,hn⟩
  · have hA:=B5w (h:=h ++ [some ⟨[.i .i64 n],true⟩]) (jd:=h.length) (m:=1) (sz:=1) (ys:=[.i .i64 n]) (by simp) rfl (by omega) (by omega)
    have e1:(h ++ [some (Row.mk [.i .i64 n] true)]).length=h.length + 1:=by simp
    rw [e1] at hA
    have hr2:rd (h ++ [some (Row.mk [.i .i64 n] true)] ++ [some (Row.mk [.i .i64 n] true)]) r=some ⟨[.ns],true⟩:=C3 (C3 hx)
    have s1:=Z0 (x:=.sl (h.length + 1) 0 1 1) (off:=0) hr2 (by simp)
    refine ⟨.ns,_,_,_,l1,hA,s1,⟨.sl (h.length + 1) 0 1 1,K3 (D0 hr2),.inr ⟨h.length + 1,rfl,?_,by omega,fun h1=>by have:=hlt _ h1;omega⟩⟩,(((Low.refl hbh).new _).new _).set hbr _,fun j hj hjr=>?_,by simp⟩
    · rw [H8 (by omega)]
      have:=N6 (h:=h ++ [some (Row.mk [.i .i64 n] true)]) (r:=⟨[.i .i64 n],true⟩)
      rw [e1] at this
      exact this
    · rw [H8 (Ne.symm hjr)]
      have:=hlt j hj
      rw [N1 (by simp;omega),N1 this]
  · have hil:=D0 hi
    have hne:id ≠ r:=fun e=>hn (e ▸ hr)
    have hA:=T2 (h:=h ++ [some ⟨[.i .i64 n],true⟩]) (id:=id) (jd:=h.length) (n:=l.length) (m:=1) (sz:=1) (cs:=encI l) (ys:=[.i .i64 n]) (rw:=true) (C3 hi) (by rw [F7,Nat.mul_one]) (by simp) rfl rfl (by omega) (by omega)
    have e1:(h ++ [some (Row.mk [.i .i64 n] true)]).length=h.length + 1:=by simp
    rw [e1] at hA
    have ee:encI l ++ [Cell.i .i64 n]=encI (l ++ [n]):=by rw [A73];rfl
    rw [ee] at hA
    have hr2:rd ((h ++ [some (Row.mk [.i .i64 n] true)]).set id none ++ [some (Row.mk (encI (l ++ [n])) true)]) r=some ⟨[.sl id 0 l.length 1],true⟩:=by
      refine C3 ?_
      rw [H8 hne];exact C3 hx
    have s1:=Z0 (x:=.sl (h.length + 1) 0 (l.length + 1) 1) (off:=0) hr2 (by simp)
    refine ⟨_,_,_,_,l1,hA,s1,⟨.sl (h.length + 1) 0 (l.length + 1) 1,K3 (D0 hr2),.inr ⟨h.length + 1,by simp,?_,by omega,fun h1=>by have:=hlt _ h1;omega⟩⟩,((((Low.refl hbh).new _).set hb _).new _).set hbr _,fun j hj hjr=>?_,by simp;omega⟩
    · rw [H8 (by omega)]
      have:=N6 (h:=(h ++ [some (Row.mk [.i .i64 n] true)]).set id none) (r:=⟨encI (l ++ [n]),true⟩)
      rw [List.length_set,e1] at this
      exact this
    · have hji:j ≠ id:=fun e=>hn (e ▸ hj)
      have:=hlt j hj
      rw [H8 (Ne.symm hjr),N1 (by simp;omega),H8 (Ne.symm hji),N1 this]
end Go.Proofs.YteckncopbicmcaaGreat
end
section
namespace Go.Proofs.YteckncopbicmcaaGreat
open Go Go.Esc
def K7 (d:Int):Nat:=(max 0 (min d 5)).toNat
theorem A3l (d:Int):K7 d ≤ 5:=by unfold K7;omega
theorem B2i {d:Int} (h0:0 ≤ d) (h5:d ≤ 5):((K7 d:Nat):Int)=d:=by unfold K7;omega
theorem C8c (d:Int):(max 0 (min d 5))=((K7 d:Nat):Int):=by unfold K7;omega
def F3 (d:Int):Nat:=2 ^ K7 d
theorem C0G {n:Nat} (h:n ≤ 5):2 ^ n ≤ 32:=by
  have:=Nat.pow_le_pow_right (n:=2) (by omega) h
  simpa using this
theorem A0X (d:Int):F3 d ≤ 32:=C0G (A3l d)
theorem X1:[Cell.i .i64 0] ++ List.replicate 32 (Cell.i .i64 0)=encI (0 :: zI 32):=by
  simp [encI,zI]
def toX (t:List Int) (i:Nat):Int:=t.getD i 0
theorem D32 {t:List Int} {i:Nat} (h:i < t.length):t[i]? = some (toX t i):=by
  unfold toX;rw [List.getD_eq_getElem?_getD,List.getElem?_eq_getElem h];rfl
def T6 (n:Int):Bool:=decide (0 ≤ n) && decide (n ≤ 65535)
theorem D0n {n:Int} {h:A0}:A4Y [.c (.i .i64 n)] h=some (.c (.b (T6 n)),h):=by
  refine C5V (n:=0) (h2:=ro h) ?_ rfl
  rw [C3p]
  unfold T6
  by_cases c:0 ≤ n
  · simp only [esc,c,Bool.true_and]
  · simp only [esc,c,Bool.false_and]
theorem J0 {d:Int} {t:List Int} (ht:t.length=32):(encI (d :: t)).length=33:=by rw [F7];simp [ht]
theorem C8Q {d:Int} {t:List Int} {i:Nat} (ht:t.length=32) (hi:i < 32):(encI (d :: t))[1 + i]? = some (.i .i64 (toX t i)):=by
  rw [Q9,Nat.add_comm 1 i,List.getElem?_cons_succ,D32 (by omega)];rfl
theorem B6X {d:Int} {t:List Int} {i:Nat} {v:Int}:(encI (d :: t)).set (1 + i) (.i .i64 v)=encI (d :: t.set i v):=by
  rw [A74,Nat.add_comm 1 i,List.set_cons_succ]
theorem ldX {h:A0} {id:Nat} {d:Int} {t:List Int} {rw:Bool} (hr:rd h id=some ⟨encI (d :: t),rw⟩) (ht:t.length=32) {i:Nat} (hi:i < 32):A5 h (.c (.p id (1 + i)))=some (.c (.i .i64 (toX t i))) :=
  H4 hr (C8Q ht hi) (by simp [Cell.isX])
theorem adX {id i:Nat} (hi:i < 32):D8 32 1 (.c (.p id (0 + 1))) (.c (.i .i64 (i:Int)))=some (.c (.p id (1 + i))):=by rw [T9 hi];simp
theorem B3i {d:Int} {t:List Int} {h:A0}:A0L [.a (encI (d :: t))] h=some (.c (.i .i64 (K7 d:Nat)),h):=by
  have key:∀ g,∃ g',A6X 0 [.a (encI (d :: t))] g=some (.c (.i .i64 (K7 d:Nat)),g'):=by
    intro g
    have e1:A0Q (.c (.i .i64 d)) (.c (.i .i64 5))=some (.c (.i .i64 (min d 5))):=by
      simp only [A0Q]
      by_cases h:(5:Int) < d
      · rw [if_pos h,Int.min_eq_right (by omega)]
      · rw [if_neg h,Int.min_eq_left (by omega)]
    have e2:A3b (.c (.i .i64 0)) (.c (.i .i64 (min d 5)))=some (.c (.i .i64 (K7 d:Nat))):=by
      rw [← C8c]
      simp only [A3b]
      by_cases h:(min d 5:Int) > 0
      · rw [if_pos h,Int.max_eq_right (by omega)]
      · rw [if_neg h,Int.max_eq_left (by omega)]
    have e3:A5 (g ++ [some (Row.mk (encI (d :: t)) true)]) (.c (.p g.length 0))=some (.c (.i .i64 d)):=H4 (N6) rfl rfl
    rw [C3o]
    generalize hz:encI (d :: t)=z at *
    exact ⟨_,by simp only [esc,e3,e1,e2] <;> rfl⟩
  obtain ⟨g',e⟩:=key (ro h)
  exact C5U e rfl
theorem D3p {k:Nat} (hk:k ≤ 5):A2 .shl (.c (.i .i64 1)) (.c (.i .u64 (k:Int)))=some (.c (.i .i64 ((2 ^ k:Nat):Int))):=by
  rw [B1E (by omega)]
  have h1:Nat.min (k:Int).toNat (IntKind.i64).bits=k:=by
    have:(IntKind.i64).bits=64:=rfl
    rw [this,Int.toNat_natCast];exact Nat.min_eq_left (by omega)
  have h2:=C0G hk
  rw [h1,Int.one_mul]
  have e:(2:Int) ^ k=((2 ^ k:Nat):Int):=by simp
  rw [e]
  generalize 2 ^ k=y at h2 ⊢
  rw [wrap_i64 (by omega) (by omega)]
theorem C18 {k:Nat} (hk:k ≤ 64):IntKind.wrap .u64 (k:Int)=(k:Int):=wrap_u64 (by omega) (by omega)
theorem B8V {d:Int} {t:List Int} {h:A0} (ht:t.length=32):A19 [.a (encI (d :: t))] h=some (.c (.i .i64 (F3 d:Nat)),h):=by
  have key:∀ g,∃ g',A6Z 0 [.a (encI (d :: t))] g=some (.c (.i .i64 (F3 d:Nat)),g'):=by
    intro g
    have hl:=J0 (d:=d) ht
    have hd:=fun h=>B3i (d:=d) (t:=t) (h:=h)
    have e1:=D3p (A3l d)
    have e2:=C18 (k:=K7 d) (by have:=A3l d;omega)
    rw [C3r]
    unfold F3
    generalize encI (d :: t)=z at *
    exact ⟨_,by simp only [esc,esh,Nat.reduceAdd,Nat.reduceMul,Nat.reduceLT,hl,hd,e1,e2] <;> rfl⟩
  obtain ⟨g',e⟩:=key (ro h)
  exact C5Z e rfl
def Z9 (t:List Int) (i:Nat):Bool:=(List.range i).all fun k=>!decide (toX t k=toX t i)
theorem B8d {d:Int} {t:List Int} {g:A0} {i q:Nat} (ht:t.length=32) (hi:i < 32):∀ e k m:Nat,k + e=i → e < m →
    A8G q m (.c (.i .i64 (i:Int))) (.c (.p g.length 0)) (.c (.i .i64 (i:Int))) (.c (.i .i64 (k:Int))) (g ++ [some ⟨encI (d :: t),true⟩]) =
      some (.c (.b ((List.range' k e).all fun k=>!decide (toX t k=toX t i))),g ++ [some ⟨encI (d :: t),true⟩])
  | e,k,0,_,hm=>by omega
  | 0,k,m + 1,hk,hm=>by
    have c0:¬ (k:Int) < i:=by omega
    rw [B8U]
    simp only [esc,c0,List.range'_zero]
  | e + 1,k,m + 1,hk,hm=>by
    have ih:=B8d (d:=d) (g:=g) (q:=q) ht hi e (k + 1) m (by omega) (by omega)
    have c0:(k:Int) < i:=by omega
    have a1:=adX (id:=g.length) (i:=k) (by omega)
    have a2:=adX (id:=g.length) (i:=i) (by omega)
    have l1:=ldX (h:=g ++ [some (Row.mk (encI (d :: t)) true)]) (id:=g.length) N6 ht (i:=k) (by omega)
    have l2:=ldX (h:=g ++ [some (Row.mk (encI (d :: t)) true)]) (id:=g.length) N6 ht (i:=i) (by omega)
    rw [B8U,List.range'_succ,List.all_cons]
    by_cases c:toX t k=toX t i
    · rw [decide_eq_true c,Bool.not_true,Bool.false_and]
      rw [c] at l1
      simp only [esc,c0,a1,a2,l1,l2]
    · rw [decide_eq_false c,Bool.not_false,Bool.true_and]
      simp only [esc,c0,a1,a2,l1,l2,c,E6 (show k + 1 < 9223372036854775808 by omega)]
      exact ih
theorem D0o {d:Int} {t:List Int} {i:Nat} {h:A0} (ht:t.length=32) (hi:i < 32):A4Z [.a (encI (d :: t)),.c (.i .i64 (i:Int))] h=some (.c (.b (Z9 t i)),h):=by
  have key:∀ N,i < N → ∀ g,∃ g',A6Y N [.a (encI (d :: t)),.c (.i .i64 (i:Int))] g=some (.c (.b (Z9 t i)),g'):=by
    intro N hN g
    have e:=B8d (d:=d) (g:=g) (q:=N) ht hi i 0 N (by omega) hN
    rw [C3q]
    unfold Z9
    rw [List.range_eq_range']
    exact ⟨_,by simp only [esc];exact e⟩
  obtain ⟨g',e⟩:=key (i + 1) (by omega) (ro h)
  exact C5X e rfl
end Go.Proofs.YteckncopbicmcaaGreat
end
section
namespace Go.Proofs.YteckncopbicmcaaGreat
open Go Go.Esc
def K2 (d:List Int):List UInt8:=(d.map (B5 2)).flatten
theorem A3y {d:List Int}:(K2 d).length=2 * d.length:=by
  induction d with
  | nil=>rfl
  | cons x d ih=>simp only [K2,List.map_cons,List.flatten_cons,List.length_append,A0T,List.length_cons] at ih ⊢;omega
theorem B92 {d:List Int} {x:Int}:K2 (d ++ [x])=K2 d ++ B5 2 x:=by simp [K2]
def magX:List UInt8:=[105,100,120,33]
def M1 (d:Int):List UInt8:=magX ++ B5 1 d ++ zeros 27
theorem A3t {d:Int}:(M1 d).length=32:=by simp [M1,magX]
def J9 (d:Int) (t:List Int):List UInt8:=D7 256 (M1 d ++ K2 t)
theorem A5C {d:Int} {t:List Int} (ht:t.length=32):(J9 d t).length=256:=L5 (by rw [List.length_append,A3t,A3y];omega)
theorem D1Y {n k:Nat} {l:List UInt8} (h:l.length + k ≤ n):D7 n (l ++ zeros k)=D7 n l:=by
  unfold D7 zeros
  rw [List.append_assoc,List.replicate_append_replicate,List.length_append,List.length_replicate]
  congr 2;omega
def okX (d:Int) (t:List Int):Bool:=decide (0 ≤ d) && (decide (d ≤ 5) && t.all T6)
theorem B9h {d:Int} {t:List Int} {g:A0} {y:List Cell} {q:Nat} (ht:t.length=32) (hyl:y.length=33):∀ e i m:Nat,i + e=32 → e < m →
    ∃ h',A8F q m (.c (.p (g.length + 1) 0)) (.c (.p (g.length + 3) 0)) (.a (encI t)) (.c (.i .i64 (i:Int))) (g ++ [some (Row.mk y true),some (Row.mk (A1 (zeros 256)) true),some (Row.mk (A1 magX) true),some (Row.mk (A1 (D7 256 (M1 d ++ K2 (t.take i)))) true)]) =
      some (.t [.a (A1 (bif (t.drop i).all T6 then J9 d t else zeros 256)),.c (.i .i64 (bif (t.drop i).all T6 then 0 else 1))],h')
  | e,i,0,_,hm=>by omega
  | 0,i,m + 1,hi,hm=>by
    have e0:i=32:=by omega
    subst e0
    have c0:¬ ((32:Nat):Int) < 32:=by omega
    have hz:(A1 (zeros 256)).length=256:=by rw [B1];exact zeros_length
    have hB:(A1 (J9 d t)).length=256:=by rw [B1];exact A5C ht
    have eB:D7 256 (M1 d ++ K2 t)=J9 d t:=rfl
    rw [B8R,List.take_of_length_le (by omega),List.drop_of_length_le (by omega),List.all_nil,cond_true,cond_true,eB]
    generalize J9 d t=B at *
    generalize A1 magX=mg at *
    generalize zeros 256=z at *
    exact ⟨_,by simp only [esc,esh,Nat.reduceAdd,Nat.reduceMul,Nat.reduceLT,c0,hz,hB] <;> rfl⟩
  | e + 1,i,m + 1,hi,hm=>by
    obtain ⟨h',ih⟩:=B9h (d:=d) (g:=g) (q:=q) ht hyl e (i + 1) m (by omega) (by omega)
    have c0:(i:Int) < 32:=by omega
    have hz:(A1 (zeros 256)).length=256:=by rw [B1];exact zeros_length
    have haf:A8 (List.replicate 256 (Cell.i .u8 0)) []=some (List.replicate 256 (Cell.i .u8 0)):=rfl
    rw [N8] at haf
    have hx:W4 32 (.a (encI t)) (.c (.i .i64 (i:Int)))=some (.c (.i .i64 t[i])):=by
      rw [A8B (by omega),Q9,List.getElem?_eq_getElem (by omega)];rfl
    have hF:=fun h=>D0n (n:=t[i]) (h:=h)
    have hnl:(M1 d ++ K2 (t.take i)).length=32 + 2 * i:=by rw [List.length_append,A3t,A3y,List.length_take];omega
    have hP0:(D7 256 (M1 d ++ K2 (t.take i))).length=256:=L5 (by omega)
    have hp:(A1 (D7 256 (M1 d ++ K2 (t.take i)))).length=256:=by rw [B1,hP0]
    have hW:=fun h=>A0v (h:=h) (l:=D7 256 (M1 d ++ K2 (t.take i))) hP0 (a:=((32 + 2 * i:Nat):Int)) (w:=2) (v:=t[i])
    have ew:=A0z (l:=M1 d ++ K2 (t.take i)) (a:=32 + 2 * i) (w:=2) (v:=t[i]) (by omega) (by omega) (by omega) (by omega)
    rw [hnl,Nat.sub_self,show zeros 0=[] from rfl,List.append_nil,List.append_assoc,← B92,← List.take_succ_eq_append_getElem (by omega)] at ew
    rw [show ((2:Nat):Int)=2 from rfl] at ew
    rw [ew] at hW
    have hp2:(A1 (D7 256 (M1 d ++ K2 (t.take (i + 1))))).length=256:=by rw [B1,L5 (by rw [List.length_append,A3t,A3y,List.length_take];omega)]
    have w1:IntKind.wrap .i64 (2 * (i:Int))=((2 * i:Nat):Int):=by rw [wrap_i64 (by omega) (by omega)];omega
    have w2:IntKind.wrap .i64 (32 + ((2 * i:Nat):Int))=((32 + 2 * i:Nat):Int):=by rw [wrap_i64 (by omega) (by omega)];omega
    rw [B8R,N8,List.drop_eq_getElem_cons (by omega:i < t.length),List.all_cons]
    generalize D7 256 (M1 d ++ K2 (t.take (i + 1)))=P1 at *
    generalize D7 256 (M1 d ++ K2 (t.take i))=P0 at *
    generalize J9 d t=B at *
    generalize A1 magX=mg at *
    generalize zeros 256=z at *
    cases c:T6 t[i] with
    | false =>
      rw [c] at hF
      rw [Bool.false_and,cond_false,cond_false]
      exact ⟨_,by simp only [esc,esh,Nat.reduceAdd,Nat.reduceMul,Nat.reduceLT,c0,hx,hF,haf,hz] <;> rfl⟩
    | true =>
      rw [c] at hF
      rw [Bool.true_and]
      refine ⟨h',?_⟩
      simp only [esc,esh,Nat.reduceAdd,Nat.reduceMul,Nat.reduceLT,c0,hx,hF,hp,w1,w2,hW,hp2,E6 (show i + 1 < 9223372036854775808 by omega)]
      exact ih
theorem B8Q {d:Int} {t:List Int} {h:A0} (ht:t.length=32):A18 [.a (encI (d :: t))] h=some (.t [.a (A1 (bif okX d t then J9 d t else zeros 256)),.c (.i .i64 (bif okX d t then 0 else 1))],h):=by
  have key:∀ N,32 < N → ∀ g,∃ g',A6W N [.a (encI (d :: t))] g=some (.t [.a (A1 (bif okX d t then J9 d t else zeros 256)),.c (.i .i64 (bif okX d t then 0 else 1))],g'):=by
    intro N hN g
    have hB:=J0 (d:=d) ht
    have hz:(A1 (zeros 256)).length=256:=by rw [B1];exact zeros_length
    have hD:=fun h=>B3i (d:=d) (t:=t) (h:=h)
    have l0:(encI (d :: t))[0]? = some (.i .i64 d):=rfl
    have haf:A8 (List.replicate 256 (Cell.i .u8 0)) []=some (List.replicate 256 (Cell.i .u8 0)):=rfl
    rw [N8] at haf
    rw [C3n,N8]
    unfold okX
    by_cases c:0 ≤ d ∧ d ≤ 5
    · rw [decide_eq_true c.1,decide_eq_true c.2,Bool.true_and,Bool.true_and]
      have hd:=B2i c.1 c.2
      rw [hd] at hD
      have ef:A8 [Cell.i .u8 0,.i .u8 0,.i .u8 0,.i .u8 0] [(0,1,.c (.i .u8 105)),(1,1,.c (.i .u8 100)),(2,1,.c (.i .u8 120)),(3,1,.c (.i .u8 33))]=some (A1 magX):=rfl
      have hO:=A9f (data:=magX) (v:=.c (.sl (g.length + 2) 0 4 1)) (nv:=4) (h:=g ++ [some (Row.mk (encI (d :: t)) true),some (Row.mk (A1 (zeros 256)) true),some (Row.mk (A1 magX) true),none]) (Has.row (rw:=true) (by simp) rfl (K1 _)) (by decide)
      rw [A9j (by decide)] at hO
      have hM:Q6 (g ++ [some (Row.mk (encI (d :: t)) true),some (Row.mk (A1 (zeros 256)) true),some (Row.mk (A1 magX) true),none]) (.c (.sl (g.length + 2) 0 4 1))=some (.c (.sl (g.length + 2) 0 4 1)):=by simp [Q6]
      have hW:=fun h=>A0v (h:=h) (l:=D7 256 magX) (L5 (by decide)) (a:=4) (w:=1) (v:=d)
      have ew:=A0z (l:=magX) (a:=4) (w:=1) (v:=d) (by decide) (by omega) (by omega) (by omega)
      have e5:magX ++ zeros (4 - magX.length) ++ B5 1 d=magX ++ B5 1 d:=rfl
      have e6:D7 256 (magX ++ B5 1 d)=D7 256 (M1 d ++ K2 (t.take 0)):=by
        rw [List.take_zero,show K2 []=[] from rfl,List.append_nil]
        exact (D1Y (by simp [magX])).symm
      rw [e5,e6] at ew
      rw [show ((4:Nat):Int)=4 from rfl,show ((1:Nat):Int)=1 from rfl] at ew
      rw [ew] at hW
      have hp2:(A1 (D7 256 (M1 d ++ K2 (t.take 0)))).length=256:=by rw [B1,L5 (by rw [List.length_append,A3t,A3y,List.length_take];omega)]
      have e7:A3 (g ++ [some (Row.mk (encI (d :: t)) true),some (Row.mk (A1 (zeros 256)) true),some (Row.mk (A1 magX) true),some (Row.mk (A1 (D7 256 (M1 d ++ K2 (t.take 0)))) true)]) 32 (.c (.p g.length 1))=some (.a (encI t)):=by
        rw [T1]
        simp only [List.getElem?_cons_zero,Option.join_some,ldN,Option.bind_some]
        rw [if_pos ⟨by rw [hB];omega,rfl⟩]
        have:(encI (d :: t)).drop 1=encI t:=rfl
        rw [this,List.take_of_length_le (by rw [F7];omega)]
      obtain ⟨h',e⟩:=B9h (d:=d) (t:=t) (g:=g) (q:=N) ht hB 32 0 N (by omega) hN
      rw [List.drop_zero] at e
      generalize D7 256 (M1 d ++ K2 (t.take 0))=P1 at *
      generalize D7 256 magX=P2 at *
      generalize J9 d t=B at *
      generalize A1 magX=mg at *
      generalize zeros 256=z at *
      generalize encI (d :: t)=y at *
      refine ⟨h',?_⟩
      simp only [esc,esh,Nat.reduceAdd,Nat.reduceMul,Nat.reduceLT,hB,hz,l0,hD,ef,hM,hO,hW,hp2,e7,show g.length + 2 + 1=g.length + 3 from rfl]
      exact e
    · have cd:¬ d=((K7 d:Nat):Int):=by unfold K7;omega
      have ec:(decide (0 ≤ d) && (decide (d ≤ 5) && t.all T6))=false:=by
        by_cases c1:0 ≤ d
        · rw [decide_eq_false (show ¬ d ≤ 5 by omega)];simp
        · rw [decide_eq_false c1];rfl
      rw [ec,cond_false,cond_false]
      generalize zeros 256=z at *
      generalize encI (d :: t)=y at *
      exact ⟨_,by simp only [esc,esh,Nat.reduceAdd,Nat.reduceMul,Nat.reduceLT,hB,hz,l0,hD,cd,haf] <;> rfl⟩
  obtain ⟨g',e⟩:=key (h.length + 33) (by omega) (ro h)
  refine C5T e ?_
  cases okX d t <;> simp
def getD (b:List UInt8):Int:=fieldN b 4 1
def B8g (b:List UInt8) (i:Nat):Int:=fieldN b (32 + 2 * i) 2
def C9 (b:List UInt8) (n:Nat):List Int:=(List.range n).map (B8g b) ++ zI (32 - n)
theorem A3s {b:List UInt8} {n:Nat} (hn:n ≤ 32):(C9 b n).length=32:=by simp [C9,zI];omega
theorem B8v {b:List UInt8} {k:Nat} (hk:k < 32):C9 b (k + 1)=(C9 b k).set k (B8g b k):=by
  unfold C9
  have e:zI (32 - k)=0 :: zI (32 - (k + 1)):=by
    unfold zI
    rw [show 32 - k=(32 - (k + 1)) + 1 by omega,List.replicate_succ]
  rw [e,List.set_append_right _ _ (by simp),List.range_succ,List.map_append,List.append_assoc]
  simp
theorem A7G {b:List UInt8} {a w:Nat} (h:a + w ≤ 256) (hw:1 ≤ w) (hw4:w ≤ 4):((atN b (a:Int) w:Nat):Int)=fieldN b a w:=by
  unfold atN fieldN
  rw [if_pos ⟨by omega,U7.2 (by omega)⟩]
  simp only [Int.toNat_natCast]
def U4 (t:List Int) (n e:Nat):Bool:=(List.range' n e).all fun i=>decide (toX t i=0)
def K8 (b:List UInt8):Bool:=okX (getD b) (C9 b 32) && (decide (J9 (getD b) (C9 b 32)=b) && U4 (C9 b 32) (F3 (getD b)) (32 - F3 (getD b)))
theorem B8x {b:List UInt8} {d:Int} {t:List Int} {ix iz q:Nat} {h:A0} (ht:t.length=32) (hx:rd h ix=some ⟨encI (d :: t),true⟩) (hz:rd h iz=some ⟨encI (0 :: zI 32),true⟩):∀ e i m:Nat,i + e=32 → e < m →
    ∃ h',A8E q m (.c (.p iz 0)) (.c (.p ix 0)) (.c (.i .i64 (i:Int))) h=some (.t [.a (encI (bif U4 t i e then d :: t else 0 :: zI 32)),.c (.i .i64 (bif U4 t i e then 0 else 14))],h')
  | e,i,0,_,hm=>by omega
  | 0,i,m + 1,hi,hm=>by
    have e0:i=32:=by omega
    subst e0
    have c0:¬ ((32:Nat):Int) < 32:=by omega
    have hX:=J0 (d:=d) ht
    have hZ:(encI (0 :: zI 32)).length=33:=J0 (d:=0) M8
    have s1:=G5 (h:=h) (id:=ix) hx hX
    have s2:=storeAll (h:=h) (id:=iz) (xs:=encI (d :: t)) hz hZ hX
    have s3:=G5 (h:=h.set iz (some ⟨encI (d :: t),true⟩)) (id:=iz) (K3 (D0 hz)) hX
    have er:U4 t 32 0=true:=rfl
    rw [B8N,er,cond_true,cond_true]
    generalize encI (d :: t)=y at *
    exact ⟨_,by simp only [esc,c0,s1,s2,s3] <;> rfl⟩
  | e + 1,i,m + 1,hi,hm=>by
    obtain ⟨h',ih⟩:=B8x (b:=b) (q:=q) ht hx hz e (i + 1) m (by omega) (by omega)
    have c0:(i:Int) < 32:=by omega
    have hZ:(encI (0 :: zI 32)).length=33:=J0 (d:=0) M8
    have a1:=adX (id:=ix) (i:=i) (by omega)
    have l1:=ldX (h:=h) (id:=ix) hx ht (i:=i) (by omega)
    have haf:A8 (encI (0 :: zI 32)) []=some (encI (0 :: zI 32)):=rfl
    have s2:=storeAll (h:=h) (id:=iz) (xs:=encI (0 :: zI 32)) hz hZ hZ
    have s3:=G5 (h:=h.set iz (some ⟨encI (0 :: zI 32),true⟩)) (id:=iz) (K3 (D0 hz)) hZ
    have er:U4 t i (e + 1)=(decide (toX t i=0) && U4 t (i + 1) e):=by unfold U4;rw [List.range'_succ,List.all_cons]
    rw [B8N,er,X1]
    by_cases c:toX t i=0
    · rw [decide_eq_true c,Bool.true_and]
      rw [c] at l1
      generalize encI (0 :: zI 32)=z at *
      exact ⟨h',by simp only [esc,c0,a1,l1,E6 (show i + 1 < 9223372036854775808 by omega)];exact ih⟩
    · rw [decide_eq_false c,Bool.false_and,cond_false,cond_false]
      generalize encI (0 :: zI 32)=z at *
      exact ⟨_,by simp only [esc,c0,a1,l1,c,haf,s2,s3] <;> rfl⟩
theorem B8w {b:List UInt8} {g:A0} {q:Nat} (hb:b.length=256) (hq:32 < q):∀ e i m:Nat,i + e=32 → e < m →
    ∃ h',A8D q m (.c (.p g.length 0)) (.c (.p (g.length + 1) 0)) (.c (.p (g.length + 2) 0)) (.c (.i .i64 (i:Int))) (g ++ [some (Row.mk (A1 b) true),some (Row.mk (encI (0 :: zI 32)) true),some (Row.mk (encI (getD b :: C9 b i)) true)]) =
      some (.t [.a (encI (bif K8 b then getD b :: C9 b 32 else 0 :: zI 32)),.c (.i .i64 (bif K8 b then 0 else 14))],h')
  | e,i,0,_,hm=>by omega
  | 0,i,m + 1,hi,hm=>by
    have e0:i=32:=by omega
    subst e0
    have c0:¬ ((32:Nat):Int) < 32:=by omega
    have hB:(A1 b).length=256:=by rw [B1,hb]
    have ht:=A3s (b:=b) (n:=32) (Nat.le_refl _)
    have hX:=J0 (d:=getD b) ht
    have hZ:(encI (0 :: zI 32)).length=33:=J0 (d:=0) M8
    have hz0:(List.replicate 256 (Cell.i .u8 0)).length=256:=List.length_replicate
    have hP:=fun h=>B8Q (d:=getD b) (t:=C9 b 32) (h:=h) ht
    have hM:=fun h=>B8V (d:=getD b) (h:=h) ht
    have hm32:=A0X (getD b)
    have haf:A8 (encI (0 :: zI 32)) []=some (encI (0 :: zI 32)):=rfl
    unfold K8
    rw [B8M,X1]
    cases co:okX (getD b) (C9 b 32) with
    | false =>
      rw [co] at hP
      simp only [cond_false] at hP
      have hzz:(A1 (zeros 256)).length=256:=by rw [B1];exact zeros_length
      rw [Bool.false_and,cond_false,cond_false]
      generalize encI (0 :: zI 32)=z at *
      generalize encI (getD b :: C9 b 32)=y at *
      generalize List.replicate 256 (Cell.i .u8 0)=zz at *
      generalize zeros 256=zzz at *
      exact ⟨_,by simp only [esc,esh,Nat.reduceAdd,Nat.reduceMul,Nat.reduceLT,c0,hX,hP,hz0,hzz,haf,hZ,show decide ((1:Int)=0)=false from rfl] <;> rfl⟩
    | true =>
      rw [co] at hP
      simp only [cond_true] at hP
      rw [Bool.true_and]
      have hil:=A5C (d:=getD b) ht
      have hI:(A1 (J9 (getD b) (C9 b 32))).length=256:=by rw [B1,hil]
      have hE:=A7y (n:=256) hil hb
      by_cases ce:J9 (getD b) (C9 b 32)=b
      · rw [decide_eq_true ce,Bool.true_and]
        rw [decide_eq_true ce] at hE
        obtain ⟨h',e⟩:=B8x (b:=b) (d:=getD b) (t:=C9 b 32) (ix:=g.length + 2) (iz:=g.length + 1) (q:=q) (h:=g ++ [some (Row.mk (A1 b) true),some (Row.mk (encI (0 :: zI 32)) true),some (Row.mk (encI (getD b :: C9 b 32)) true),some (Row.mk (A1 (J9 (getD b) (C9 b 32))) true)]) ht (by simp) (by simp) (32 - F3 (getD b)) (F3 (getD b)) q (by omega) (by omega)
        refine ⟨h',?_⟩
        generalize U4 (C9 b 32) (F3 (getD b)) (32 - F3 (getD b))=R at *
        generalize J9 (getD b) (C9 b 32)=I at *
        generalize getD b :: C9 b 32=Y at *
        generalize encI (0 :: zI 32)=z at *
        generalize List.replicate 256 (Cell.i .u8 0)=zz at *
        simp only [esc,esh,Nat.reduceAdd,Nat.reduceMul,Nat.reduceLT,c0,hX,hP,hz0,hI,hB,hE,hM]
        exact e
      · rw [decide_eq_false ce,Bool.false_and,cond_false,cond_false]
        rw [decide_eq_false ce] at hE
        generalize J9 (getD b) (C9 b 32)=I at *
        generalize encI (0 :: zI 32)=z at *
        generalize encI (getD b :: C9 b 32)=y at *
        generalize List.replicate 256 (Cell.i .u8 0)=zz at *
        exact ⟨_,by simp only [esc,esh,Nat.reduceAdd,Nat.reduceMul,Nat.reduceLT,c0,hX,hP,hz0,hI,hB,hE,haf,hZ] <;> rfl⟩
  | e + 1,i,m + 1,hi,hm=>by
    obtain ⟨h',ih⟩:=B8w (g:=g) (q:=q) hb hq e (i + 1) m (by omega) (by omega)
    have c0:(i:Int) < 32:=by omega
    have hB:(A1 b).length=256:=by rw [B1,hb]
    have ht:=A3s (b:=b) (n:=i) (by omega)
    have hX:=J0 (d:=getD b) ht
    have hA:=fun h=>A1w (h:=h) hb (a:=((32 + 2 * i:Nat):Int)) (w:=2)
    have ea:=A7G (b:=b) (a:=32 + 2 * i) (w:=2) (by omega) (by omega) (by omega)
    rw [show ((2:Nat):Int)=2 from rfl] at ea
    rw [ea] at hA
    have w1:IntKind.wrap .i64 (2 * (i:Int))=((2 * i:Nat):Int):=by rw [wrap_i64 (by omega) (by omega)];omega
    have w2:IntKind.wrap .i64 (32 + ((2 * i:Nat):Int))=((32 + 2 * i:Nat):Int):=by rw [wrap_i64 (by omega) (by omega)];omega
    have a1:=adX (id:=g.length + 2) (i:=i) (by omega)
    have hs:(encI (getD b :: C9 b i)).set (1 + i) (.i .i64 (fieldN b (32 + 2 * i) 2))=encI (getD b :: C9 b (i + 1)):=by rw [B6X,B8v (by omega)];rfl
    have hlt:1 + i < (encI (getD b :: C9 b i)).length:=by rw [hX];omega
    rw [B8M]
    generalize K8 b=G at *
    generalize getD b :: C9 b 32=Y at *
    generalize encI (getD b :: C9 b (i + 1))=y1 at *
    generalize encI (getD b :: C9 b i)=y at *
    generalize encI (0 :: zI 32)=z at *
    refine ⟨h',?_⟩
    simp only [esc,esh,Nat.reduceAdd,Nat.reduceMul,Nat.reduceLT,c0,hB,w1,w2,hA,a1,hlt,hs,E6 (show i + 1 < 9223372036854775808 by omega)]
    exact ih
theorem D0f {b:List UInt8} {h:A0} (hb:b.length=256):A4W [.a (A1 b)] h=some (.t [.a (encI (bif K8 b then getD b :: C9 b 32 else 0 :: zI 32)),.c (.i .i64 (bif K8 b then 0 else 14))],h):=by
  have key:∀ N,32 < N → ∀ g,∃ g',A6U N [.a (A1 b)] g=some (.t [.a (encI (bif K8 b then getD b :: C9 b 32 else 0 :: zI 32)),.c (.i .i64 (bif K8 b then 0 else 14))],g'):=by
    intro N hN g
    have hB:(A1 b).length=256:=by rw [B1,hb]
    have hZ:(encI (0 :: zI 32)).length=33:=J0 (d:=0) M8
    have hA:=fun h=>A1w (h:=h) hb (a:=4) (w:=1)
    have ea:=A7G (b:=b) (a:=4) (w:=1) (by omega) (by omega) (by omega)
    rw [show ((4:Nat):Int)=4 from rfl,show ((1:Nat):Int)=1 from rfl] at ea
    rw [ea] at hA
    have ef:A8 (encI (0 :: zI 32)) [(0,1,.c (.i .i64 (fieldN b 4 1)))]=some (encI (getD b :: C9 b 0)):=by
      have e1:(0 + 1 ≤ (encI (0 :: zI 32)).length):=by rw [hZ];omega
      simp only [A8,cells?]
      rw [if_pos ⟨rfl,e1⟩]
      rfl
    have hX:=J0 (d:=getD b) (A3s (b:=b) (n:=0) (by omega))
    obtain ⟨h',e⟩:=B8w (g:=g) (q:=N) hb hN 32 0 N (by omega) hN
    rw [C3l,X1]
    generalize K8 b=G at *
    generalize getD b :: C9 b 32=Y at *
    generalize encI (getD b :: C9 b 0)=y at *
    generalize encI (0 :: zI 32)=z at *
    exact ⟨h',by simp only [esc,esh,Nat.reduceAdd,Nat.reduceMul,Nat.reduceLT,hB,hZ,hA,ef,hX];exact e⟩
  obtain ⟨g',e⟩:=key (h.length + 33) (by omega) (ro h)
  refine C5P e ?_
  cases K8 b <;> simp
end Go.Proofs.YteckncopbicmcaaGreat
end
section
namespace Go.Proofs.YteckncopbicmcaaGreat
open Go Go.Esc
def R7 (t:List Int) (i:Nat):Bool:=!decide (toX t i=0) && Z9 t i
def E9 (t:List Int) (k:Nat):List Int:=((List.range k).filter (R7 t)).map (toX t)
theorem A3e {t:List Int} {k:Nat}:E9 t (k + 1)=E9 t k ++ (if R7 t k=true then [toX t k] else []):=by
  unfold E9
  rw [List.range_succ,List.filter_append,List.map_append,List.filter_cons]
  by_cases c:R7 t k=true <;> simp [c]
theorem A5l (t:List Int) (k:Nat):(E9 t k).length ≤ k:=by
  unfold E9;rw [List.length_map];exact Nat.le_trans (List.length_filter_le _ _) (by simp)
theorem B10 {d:Int} {t:List Int} {g:A0} {n q:Nat} (ht:t.length=32) (hn:n ≤ 32):∀ (e i m:Nat) (h:A0) (id:Nat),i + e=n → e < m → Low (g ++ [some (Row.mk (encI (d :: t)) true)]).length (g ++ [some (Row.mk (encI (d :: t)) true)]) h → (g ++ [some (Row.mk (encI (d :: t)) true)]).length ≤ id → rd h id=some ⟨encI (E9 t i),true⟩ →
    ∃ v h',A5D q m (.c (.p g.length 0)) (.c (.sl id 0 (E9 t i).length 1)) (.c (.i .i64 (n:Int))) (.c (.i .i64 (i:Int))) h=some (v,h') ∧ Out g.length h' v 1 (E9 t n).length (encI (E9 t n))
  | e,i,0,h,id,_,hm,_,_,_=>by omega
  | 0,i,m + 1,h,id,hi,hm,hlow,hid,hr=>by
    have e0:i=n:=by omega
    subst e0
    have c0:¬ (i:Int) < i:=by omega
    rw [List.length_append] at hid
    rw [B8H]
    exact ⟨_,_,by simp only [esc,c0] <;> rfl,by rw [F7];omega,_,rfl,by omega,hr⟩
  | e + 1,i,m + 1,h,id,hi,hm,hlow,hid,hr=>by
    have c0:(i:Int) < n:=by omega
    have hB:=J0 (d:=d) ht
    have hrd:rd h g.length=some ⟨encI (d :: t),true⟩:=hlow.rd (by simp)
    have s1:=G5 (h:=h) (id:=g.length) (cs:=encI (d :: t)) hrd hB
    have a1:=adX (id:=g.length) (i:=i) (by omega)
    have l1:=ldX (h:=h) (id:=g.length) hrd ht (i:=i) (by omega)
    have hFs:=fun h=>D0o (d:=d) (t:=t) (i:=i) (h:=h) ht (by omega)
    have w1:=E6 (show i + 1 < 9223372036854775808 by omega)
    have hul:=A5l t i
    rw [B8H]
    have skip:R7 t i=false → ∃ v h',A5D q m (.c (.p g.length 0)) (.c (.sl id 0 (E9 t i).length 1)) (.c (.i .i64 (n:Int))) (.c (.i .i64 ((i + 1:Nat):Int))) h=some (v,h') ∧ Out g.length h' v 1 (E9 t n).length (encI (E9 t n)):=by
      intro c
      have hu:E9 t (i + 1)=E9 t i:=by rw [A3e,c];simp
      have:=B10 (q:=q) ht hn e (i + 1) m h id (by omega) (by omega) hlow hid (by rw [hu];exact hr)
      rw [hu] at this;exact this
    by_cases cz:toX t i=0
    · obtain ⟨v,h',f1,f2⟩:=skip (by unfold R7;rw [decide_eq_true cz];rfl)
      rw [cz] at l1
      refine ⟨v,h',?_,f2⟩
      generalize encI (d :: t)=z at *
      simp only [esc,c0,a1,l1,B3g,w1]
      exact f1
    · cases cs:Z9 t i with
      | false =>
        obtain ⟨v,h',f1,f2⟩:=skip (by unfold R7;rw [cs,Bool.and_false])
        rw [cs] at hFs
        refine ⟨v,h',?_,f2⟩
        generalize encI (d :: t)=z at *
        simp only [esc,c0,a1,l1,cz,s1,hFs,B3g,w1]
        exact f1
      | true =>
        rw [cs] at hFs
        have cb:R7 t i=true:=by unfold R7;rw [cs,decide_eq_false cz];rfl
        have hu:E9 t (i + 1)=E9 t i ++ [toX t i]:=by rw [A3e,if_pos cb]
        obtain ⟨h1,b1,b2,b3,b4,b5⟩:=push (ys:=[.i .i64 (toX t i)]) (sz:=1) (n:=(E9 t i).length) hlow hr (by rw [F7];omega) hid rfl (by omega) (by omega)
        have he:encI (E9 t i) ++ [.i .i64 (toX t i)]=encI (E9 t (i + 1)):=by rw [hu];simp [encI]
        rw [he] at b2
        obtain ⟨v,h',f1,f2⟩:=B10 (q:=q) ht hn e (i + 1) m h1 (h.length + 1) (by omega) (by omega) b3 b4 b2
        have hl1:(E9 t (i + 1)).length=(E9 t i).length + 1:=by rw [hu];simp
        rw [hl1] at f1
        have ef:A8 [Cell.i .i64 0] [(0,1,.c (.i .i64 (toX t i)))]=some [.i .i64 (toX t i)]:=rfl
        refine ⟨v,h',?_,f2⟩
        generalize encI (d :: t)=z at *
        simp only [esc,c0,a1,l1,cz,s1,hFs,ef,b1,B3g,w1]
        exact f1
theorem D0c {d:Int} {t:List Int} {h:A0} (ht:t.length=32):A4V [.a (encI (d :: t))] h=some (.c (.sl h.length 0 (E9 t (F3 d)).length 1),h ++ [some ⟨encI (E9 t (F3 d)),true⟩]):=by
  have key:∀ N,32 < N → ∀ g,∃ v g',A6T N [.a (encI (d :: t))] g=some (v,g') ∧ Out g.length g' v 1 (E9 t (F3 d)).length (encI (E9 t (F3 d))):=by
    intro N hN g
    have hB:=J0 (d:=d) ht
    have hM:=fun h=>B8V (d:=d) (h:=h) ht
    have hm:=A0X d
    obtain ⟨v,g',f1,f2⟩:=B10 (g:=g) (d:=d) (q:=N) ht hm (F3 d) 0 N (g ++ [some (Row.mk (encI (d :: t)) true),some (Row.mk [] true),some (Row.mk [] true)]) (g.length + 2) (by omega) (by omega)
      (by have:=(Low.refl (h:=g ++ [some (Row.mk (encI (d :: t)) true)]) (Nat.le_refl _)).new [some ⟨[],true⟩,some ⟨[],true⟩]
          simpa using this) (by simp) (by simp [E9,encI])
    rw [show E9 t 0=[] from rfl] at f1
    rw [C3k]
    refine ⟨v,g',?_,f2⟩
    generalize encI (d :: t)=z at *
    simp only [esc,esh,Nat.reduceAdd,Nat.reduceMul,Nat.reduceLT,hB,hM] at f1 ⊢
    exact f1
  obtain ⟨v,g',e,ho⟩:=key (h.length + 33) (by omega) (ro h)
  exact C5O e (by simpa [K4] using ho) (by simp)
def A0s (h:Nat) (b:Int):Nat:=if b < 1 then 0 else if 32 ≤ b then h else h % 2 ^ b.toNat
theorem D1b {x:Nat} {b:Int} {h:A0} (hx:x < 4294967296):A43 [.c (.i .u32 (x:Int)),.c (.i .i64 b)] h=some (.c (.i .i64 (A0s x b:Nat)),h):=by
  have key:∀ g,∃ g',A65 0 [.c (.i .u32 (x:Int)),.c (.i .i64 b)] g=some (.c (.i .i64 (A0s x b:Nat)),g'):=by
    intro g
    rw [C3y]
    unfold A0s
    by_cases c1:b < 1
    · rw [if_pos c1]
      exact ⟨_,by simp only [esc,c1] <;> rfl⟩
    · rw [if_neg c1]
      have w1:IntKind.wrap .i64 (x:Int)=(x:Int):=wrap_i64 (by omega) (by omega)
      by_cases c2:32 ≤ b
      · rw [if_pos c2]
        exact ⟨_,by simp only [esc,c1,c2,w1] <;> rfl⟩
      · rw [if_neg c2]
        obtain ⟨k,rfl⟩:∃ k:Nat,b=k:=⟨b.toNat,by omega⟩
        have hk:k < 32:=by omega
        rw [Int.toNat_natCast]
        have w2:=C18 (k:=k) (by omega)
        have hp:2 ^ k ≤ 2 ^ 31:=Nat.pow_le_pow_right (by omega) (by omega)
        have hp0:0 < 2 ^ k:=Nat.pow_pos (by omega)
        have e1:A2 .shl (.c (.i .u32 1)) (.c (.i .u64 (k:Int)))=some (.c (.i .u32 ((2 ^ k:Nat):Int))):=by
          rw [B1E (by omega)]
          have h1:Nat.min (k:Int).toNat (IntKind.u32).bits=k:=by
            have:(IntKind.u32).bits=32:=rfl
            rw [this,Int.toNat_natCast];exact Nat.min_eq_left (by omega)
          rw [h1,Int.one_mul]
          have e:(2:Int) ^ k=((2 ^ k:Nat):Int):=by simp
          rw [e]
          generalize 2 ^ k=y at hp hp0 ⊢
          rw [wrap_u32 (by omega) (by omega)]
        have w3:IntKind.wrap .u32 (((2 ^ k:Nat):Int) - 1)=((2 ^ k - 1:Nat):Int):=by rw [wrap_u32 (by omega) (by omega)];omega
        have e2:=C7j (a:=x) (b:=2 ^ k - 1) hx (by omega)
        rw [Nat.and_two_pow_sub_one_eq_mod] at e2
        have hm:x % 2 ^ k < 2 ^ k:=Nat.mod_lt _ hp0
        have w4:IntKind.wrap .i64 ((x % 2 ^ k:Nat):Int)=((x % 2 ^ k:Nat):Int):=wrap_i64 (by omega) (by omega)
        generalize 2 ^ k - 1=y at *
        generalize x % 2 ^ k=z at *
        exact ⟨_,by simp only [esc,c1,c2,w2,e1,w3,e2,w4] <;> rfl⟩
  obtain ⟨g',e⟩:=key (ro h)
  exact C6a e rfl
theorem D0k {d:Int} {t:List Int} {x:Nat} {h:A0} (ht:t.length=32) (hx:x < 4294967296):A4X [.a (encI (d :: t)),.c (.i .u32 (x:Int))] h=some (.c (.i .i64 (x % F3 d:Nat)),h):=by
  have key:∀ g,∃ g',A6V 0 [.a (encI (d :: t)),.c (.i .u32 (x:Int))] g=some (.c (.i .i64 (x % F3 d:Nat)),g'):=by
    intro g
    have hB:=J0 (d:=d) ht
    have hD:=fun h=>B3i (d:=d) (t:=t) (h:=h)
    have hL:=fun h=>D1b (x:=x) (b:=(K7 d:Nat)) (h:=h) hx
    have e:A0s x (K7 d:Nat)=x % F3 d:=by
      unfold A0s F3
      have:=A3l d
      rw [Int.toNat_natCast]
      by_cases c:((K7 d:Nat):Int) < 1
      · have:K7 d=0:=by omega
        rw [if_pos c,this];simp [Nat.mod_one]
      · rw [if_neg c,if_neg (by omega)]
    rw [e] at hL
    rw [C3m]
    generalize encI (d :: t)=y at *
    exact ⟨_,by simp only [esc,esh,Nat.reduceAdd,Nat.reduceMul,Nat.reduceLT,hB,hD,hL] <;> rfl⟩
  obtain ⟨g',e⟩:=key (ro h)
  exact C5R e rfl
end Go.Proofs.YteckncopbicmcaaGreat
end
section
namespace Go.Proofs.YteckncopbicmcaaGreat
open Go Go.Esc
def M3 (D:Dev) (n k:Int) (d:List Int):Bool:=decide (k=2) && K0 D.length n (d.getD 0 0) && K8 (blk D (d.getD 0 0))
def J3 (D:Dev) (n k:Int) (d:List Int):List Int:=bif M3 D n k d then getD (blk D (d.getD 0 0)) :: C9 (blk D (d.getD 0 0)) 32 else 0 :: zI 32
theorem A5B (b:List UInt8):(C9 b 32).length=32:=by simp [C9,zI]
theorem B3d (D:Dev) (n k:Int) (d:List Int):∃ x t,J3 D n k d=x :: t ∧ t.length=32:=by
  unfold J3
  cases M3 D n k d with
  | false=>exact ⟨_,_,rfl,M8⟩
  | true=>exact ⟨_,_,rfl,A5B _⟩
theorem A8C (D:Dev) (n k:Int) (d:List Int):(encI (J3 D n k d)).length=33:=by
  obtain ⟨x,t,e,h⟩:=B3d D n k d
  rw [e,F7];simp [h]
theorem B8l {D:Dev} {n m k l s p:Int} {d:List Int} {f:Cell} {h:A0} (hD:okD D) (hd:d.length=7) (hv:IsView h f D) :
    A16 [.a (vwC D.length n m f),.a (A4 k l s p d)] h=some (.t [.a (encI (J3 D n k d)),.c (.b (M3 D n k d))],h):=by
  have key:∀ g,IsView g f D → ∃ g',A6M 0 [.a (vwC D.length n m f),.a (A4 k l s p d)] g=some (.t [.a (encI (J3 D n k d)),.c (.b (M3 D n k d))],g'):=by
    intro g hv
    have l3:=A9F (b:=D.length) (n:=n) (m:=m) (f:=f)
    have l4:=A2S (b:=D.length) (n:=n) (m:=m) (f:=f)
    have i0:(A4 k l s p d)[0]? = some (.i .i64 k):=rfl
    have i4:(A4 k l s p d)[4]? = some (.i .i64 (d.getD 0 0)):=by
      have:(A4 k l s p d)[4]? = (encI d)[0]? := rfl
      rw [this,Q9,List.getElem?_eq_getElem (by omega),List.getD_eq_getElem?_getD,List.getElem?_eq_getElem (by omega)];rfl
    have ad:∀ q,D8 6 1 (.c (.p q 4)) (.c (.i .i64 0))=some (.c (.p q 4)):=fun q=>rfl
    have hz:(encI (0 :: zI 32)).length=33:=J0 (d:=0) M8
    have ef:A8 (encI (0 :: zI 32)) []=some (encI (0 :: zI 32)):=rfl
    have n12:¬ (14:Int)=0:=by decide
    rw [C3c,X1]
    unfold J3 M3
    by_cases c1:k=2
    · have hI:=fun h=>B3a (b:=D.length) (n:=n) (m:=m) (i:=d.getD 0 0) (h:=h)
      cases c2:K0 D.length n (d.getD 0 0) with
      | false =>
        simp only [c2] at hI
        simp only [Bool.and_false,Bool.false_and,cond_false]
        generalize vwC D.length n m f=V at *
        generalize A4 k l s p d=I at *
        generalize encI (0 :: zI 32)=z at *
        exact ⟨_,by simp only [esc,esh,Nat.reduceAdd,Nat.reduceMul,Nat.reduceLT,eq_self,i0,c1,l3,ad,i4,hI,hz,ef] <;> rfl⟩
      | true =>
        simp only [c2] at hI
        have hB:=A58 (n:=n) (m:=m) (no:=d.getD 0 0) (h:=g ++ [some (Row.mk (vwC D.length n m f) true),some (Row.mk (A4 k l s p d) true),some (Row.mk (encI (0 :: zI 32)) true)]) hD (hv.more _)
        have hG:=fun h=>D0f (h:=h) (A1a hD (i:=d.getD 0 0))
        have hX:(encI (getD (blk D (d.getD 0 0)) :: C9 (blk D (d.getD 0 0)) 32)).length=33:=J0 (A5B _)
        rw [decide_eq_true c1,Bool.true_and,Bool.true_and]
        cases c3:K8 (blk D (d.getD 0 0)) with
        | false =>
          simp only [c3,cond_false] at hG
          rw [cond_false]
          generalize encI (getD (blk D (d.getD 0 0)) :: C9 (blk D (d.getD 0 0)) 32)=x at *
          generalize A1 (blk D (d.getD 0 0))=y at *
          generalize vwC D.length n m f=V at *
          generalize A4 k l s p d=I at *
          generalize encI (0 :: zI 32)=z at *
          exact ⟨_,by simp only [esc,esh,Nat.reduceAdd,Nat.reduceMul,Nat.reduceLT,eq_self,i0,c1,l3,l4,ad,i4,hI,hB,hG,hz,hX,ef,n12] <;> rfl⟩
        | true =>
          simp only [c3,cond_true] at hG
          rw [cond_true]
          generalize encI (getD (blk D (d.getD 0 0)) :: C9 (blk D (d.getD 0 0)) 32)=x at *
          generalize A1 (blk D (d.getD 0 0))=y at *
          generalize vwC D.length n m f=V at *
          generalize A4 k l s p d=I at *
          generalize encI (0 :: zI 32)=z at *
          exact ⟨_,by simp only [esc,esh,Nat.reduceAdd,Nat.reduceMul,Nat.reduceLT,eq_self,i0,c1,l3,l4,ad,i4,hI,hB,hG,hz,hX,ef,n12] <;> rfl⟩
    · rw [decide_eq_false c1,Bool.false_and,Bool.false_and,cond_false]
      generalize vwC D.length n m f=V at *
      generalize A4 k l s p d=I at *
      generalize encI (0 :: zI 32)=z at *
      exact ⟨_,by simp only [esc,esh,Nat.reduceAdd,Nat.reduceMul,Nat.reduceLT,eq_self,i0,c1,hz,ef] <;> rfl⟩
  obtain ⟨g',e⟩:=key (ro h) hv.ro
  exact C5B e (by simp [Val.flat,Cell.flat])
def E4 (D:Dev) (n k:Int) (d:List Int):List Int:=bif M3 D n k d then (E9 (C9 (blk D (d.getD 0 0)) 32) (F3 (getD (blk D (d.getD 0 0))))).filter (K0 D.length n) else []
theorem B11 {D:Dev} {n m:Int} {f:Cell} {g:A0} {p q sid:Nat} {L:List Int} (h1:rd g p=some ⟨vwC D.length n m f,true⟩) (hL:L.length ≤ 32):∀ (e i M id:Nat) (h:A0) (l:List Int),i + e=L.length → e < M → l.length ≤ i → Low g.length g h → g.length ≤ id → id ≠ sid → rd h sid=some ⟨encI L,true⟩ → rd h id=some ⟨encI l,true⟩ →
    ∃ v' h',A8z q M (.c (.p p 0)) (.c (.sl id 0 l.length 1)) (.c (.sl sid 0 L.length 1)) (.c (.i .i64 (L.length:Int))) (.c (.i .i64 (i:Int))) h=some (v',h') ∧ Out g.length h' v' 1 (l ++ (L.drop i).filter (K0 D.length n)).length (encI (l ++ (L.drop i).filter (K0 D.length n)))
  | e,i,0,id,h,l,_,hm,_,_,_,_,_,_=>by omega
  | 0,i,M + 1,id,h,l,hi,hm,hl,hlow,hid,hne,hs,hr=>by
    have e0:i=L.length:=by omega
    subst e0
    have c0:¬ ((L.length:Nat):Int) < (L.length:Nat):=by omega
    rw [B8k,List.drop_of_length_le (Nat.le_refl _),List.filter_nil,List.append_nil]
    exact ⟨_,_,by simp only [esc,c0] <;> rfl,by rw [F7,Nat.mul_one],id,rfl,hid,hr⟩
  | e + 1,i,M + 1,id,h,l,hi,hm,hl,hlow,hid,hne,hs,hr=>by
    have hil:i < L.length:=by omega
    have c0:(i:Int) < (L.length:Nat):=by omega
    have ad:B9 1 (.c (.sl sid 0 L.length 1)) (.c (.i .i64 (i:Int)))=some (.c (.p sid i)):=by rw [G6 hil];simp
    have l1:A5 h (.c (.p sid i))=some (.c (.i .i64 L[i])):=H4 hs (by rw [Q9,List.getElem?_eq_getElem hil];rfl) rfl
    have fa:B7 (.c (.p p 0)) 0=some (.c (.p p 0)):=rfl
    have l3:A3 h 3 (.c (.p p 0))=some (.a (C2 D.length n m)):=by rw [A1r (hlow.rd h1) (by simp [vwC]) rfl];rfl
    have hI:=B3a (b:=D.length) (n:=n) (m:=m) (i:=L[i]) (h:=h)
    have w1:=E6 (show i + 1 < 9223372036854775808 by omega)
    rw [B8k,List.drop_eq_getElem_cons hil]
    cases c:K0 D.length n L[i] with
    | false =>
      rw [c] at hI
      obtain ⟨v',h',f1,f2⟩:=B11 (q:=q) h1 hL e (i + 1) M id h l (by omega) (by omega) (by omega) hlow hid hne hs hr
      rw [List.filter_cons_of_neg (by rw [c];simp)]
      refine ⟨v',h',?_,f2⟩
      simp only [F2,I4,c0,decide_true,L9,ad,l1,fa,l3,hI,K6,B8j,O0,w1]
      exact f1
    | true =>
      rw [c] at hI
      have ef:A8 [Cell.i .i64 0] [(0,1,.c (.i .i64 L[i]))]=some (encI [L[i]]):=rfl
      obtain ⟨h2,a1,a2,a3,a4⟩:=A2L (n:=l.length) (sz:=1) (ys:=encI [L[i]]) hr (by rw [F7,Nat.mul_one]) rfl (by omega) (by omega)
      rw [← A73] at a2
      have el:(l ++ [L[i]]).length=l.length + 1:=by simp
      have hlt:=D0 hs
      obtain ⟨v',h',f1,f2⟩:=B11 (q:=q) h1 hL e (i + 1) M (h.length + 1) h2 (l ++ [L[i]]) (by omega) (by omega) (by rw [el];omega) (hlow.trans (a4 _ hid (by have:=hlow.2.1;omega))) (by have:=hlow.2.1;omega) (by omega) (a3 _ _ (Ne.symm hne) hs) a2
      rw [List.filter_cons_of_pos (by rw [c])]
      rw [List.append_assoc,List.singleton_append] at f2
      rw [el] at f1
      refine ⟨v',h',?_,f2⟩
      simp only [F2,I4,c0,decide_true,L9,ad,l1,fa,l3,hI,ef,a1,B8j,O0,w1]
      exact f1
theorem B26 {D:Dev} {n m k l s p:Int} {d:List Int} {f:Cell} {h:A0} (hD:okD D) (hd:d.length=7) (hv:IsView h f D) :
    A0I [.a (vwC D.length n m f),.a (A4 k l s p d)] h=some (.c (.sl h.length 0 (E4 D n k d).length 1),h ++ [some ⟨encI (E4 D n k d),true⟩]):=by
  have key:∀ g,IsView g f D → ∃ v g',A6L 33 [.a (vwC D.length n m f),.a (A4 k l s p d)] g=some (v,g') ∧ Out g.length g' v 1 (E4 D n k d).length (encI (E4 D n k d)):=by
    intro g hv
    have hIl:(A4 k l s p d).length=11:=by simp [A4,F7,hd]
    have l11:ldN (some (Row.mk (A4 k l s p d) true)) 0 11=some (.a (A4 k l s p d)):=Q3 hIl
    have l4:=A2S (b:=D.length) (n:=n) (m:=m) (f:=f)
    have hz:(encI (0 :: zI 32)).length=33:=J0 (d:=0) M8
    have hX:=A8C D n k d
    have hI:=B8l (n:=n) (m:=m) (k:=k) (l:=l) (s:=s) (p:=p) (h:=g ++ [some (Row.mk (vwC D.length n m f) true),some (Row.mk (A4 k l s p d) true),some (Row.mk [] true)]) hD hd (hv.more _)
    rw [C3b,X1]
    cases c:M3 D n k d with
    | false =>
      rw [c] at hI
      have eb:E4 D n k d=[]:=by unfold E4;rw [c];rfl
      rw [eb]
      generalize encI (J3 D n k d)=x at *
      generalize encI (0 :: zI 32)=z at *
      refine ⟨.c (.sl (g.length + 4) 0 0 1),g ++ [some (Row.mk (vwC D.length n m f) true),some (Row.mk (A4 k l s p d) true),some (Row.mk [] true),some (Row.mk x true),some (Row.mk [] true)],?_,rfl,g.length + 4,rfl,by omega,by simp [encI]⟩
      generalize vwC D.length n m f=V at *
      generalize A4 k l s p d=I at *
      simp only [esc,esh,Nat.reduceAdd,Nat.reduceMul,Nat.reduceLT,l4,l11,hI,hz,hX]
    | true =>
      rw [c] at hI
      have eb:E4 D n k d=(E9 (C9 (blk D (d.getD 0 0)) 32) (F3 (getD (blk D (d.getD 0 0))))).filter (K0 D.length n):=by unfold E4;rw [c];rfl
      have ex:J3 D n k d=getD (blk D (d.getD 0 0)) :: C9 (blk D (d.getD 0 0)) 32:=by unfold J3;rw [c];rfl
      rw [ex] at hI hX
      have hB:=fun h=>D0c (d:=getD (blk D (d.getD 0 0))) (h:=h) (A5B (blk D (d.getD 0 0)))
      have hBl:=A5l (C9 (blk D (d.getD 0 0)) 32) (F3 (getD (blk D (d.getD 0 0))))
      have hml:=A0X (getD (blk D (d.getD 0 0)))
      rw [eb]
      generalize E9 (C9 (blk D (d.getD 0 0)) 32) (F3 (getD (blk D (d.getD 0 0))))=L at *
      generalize encI (getD (blk D (d.getD 0 0)) :: C9 (blk D (d.getD 0 0)) 32)=x at *
      generalize encI (0 :: zI 32)=z at *
      obtain ⟨v',h',f1,f2⟩:=B11 (D:=D) (n:=n) (m:=m) (f:=f) (g:=g ++ [some (Row.mk (vwC D.length n m f) true),some (Row.mk (A4 k l s p d) true),some (Row.mk [] true),some (Row.mk x true)]) (p:=g.length) (q:=33) (sid:=g.length + 5) (L:=L) (by simp) (by omega) L.length 0 33 (g.length + 4) (g ++ [some (Row.mk (vwC D.length n m f) true),some (Row.mk (A4 k l s p d) true),some (Row.mk [] true),some (Row.mk x true),some (Row.mk [] true),some (Row.mk (encI L) true)]) [] (by omega) (by omega) (by simp)
        (by
          have:=(Low.refl (h:=g ++ [some (Row.mk (vwC D.length n m f) true),some (Row.mk (A4 k l s p d) true),some (Row.mk [] true),some (Row.mk x true)]) (Nat.le_refl _)).new [some (Row.mk [] true),some (Row.mk (encI L) true)]
          simpa using this) (by simp) (by omega) (by simp) (by simp [encI])
      rw [List.nil_append,List.drop_zero] at f2
      rw [List.length_nil] at f1
      refine ⟨v',h',?_,f2.1,?_⟩
      · generalize vwC D.length n m f=V at *
        generalize A4 k l s p d=I at *
        simp only [esc,esh,Nat.reduceAdd,Nat.reduceMul,Nat.reduceLT,l4,l11,hI,hz,hX,hB]
        exact f1
      · obtain ⟨id,e,hb,hr⟩:=f2.2
        exact ⟨id,e,by simp at hb;omega,hr⟩
  obtain ⟨v,g',e,ho⟩:=key (ro h) hv.ro
  exact C5A e (by simpa [K4] using ho) (by simp)
end Go.Proofs.YteckncopbicmcaaGreat
end
noncomputable section
namespace Go.Proofs.YteckncopbicmcaaGreat
open Go Go.Esc
set_option maxRecDepth 100000
def B9I:ACode:=.seq [0,21,22,23] (.ops [aO 23 (.bin .lss (.t 22) (.t 21))]) (.seq [0,21,22] (.cond (.t 23) .skip (.exit 0)) (.seq [0,21,22] (.block 1 (.seq [0,3,21,22] (.ops [aO 24 (.mv (.t 22)),aO 3 (.mv (.t 24))]) (.seq [0,21,22,34] (.ops [aO 25 (.mv (.t 0)),aO 26 (.mv (.t 3)),aO 27 (.idxS (.t 25) (.t 26)),aO 28 (.bin .eql (.t 27) (.v (.c (.i .u8 0)))),aO 29 (.mv (.t 28)),aG 30 29 false (.mv (.t 0)),aG 31 29 false (.mv (.t 3)),aG 32 29 false (.idxS (.t 30) (.t 31)),aG 33 29 false (.bin .eql (.t 32) (.v (.c (.i .u8 47)))),aO 34 (.pick (.t 29) (.v (.c (.b true))) (.t 33))]) (.cond (.t 34) (.seq [2] (.ops [aO 2 (.mv (.v (.c (.i .i64 3))))]) .ret) .skip)))) (.ops [aO 35 (.bin .add (.t 22) (.v (.c (.i .i64 1)))),aO 22 (.mv (.t 35))])))
def B9J:ACode:=.seq [2] (.ops [aO 2 (.mv (.v (.c (.i .i64 0))))]) .ret
def A_name_Check:AFn:=⟨.seq [0] (.ops [aO 2 (.mv (.v (.c (.i .i64 0))))]) (.seq [0] (.seq [0,19] (.ops [aO 4 (.mv (.t 0)),aO 5 (.lenS (.t 4)),aO 6 (.bin .lss (.t 5) (.v (.c (.i .i64 1)))),aO 7 (.mv (.t 6)),aG 8 7 false (.mv (.t 0)),aG 9 7 false (.lenS (.t 8)),aG 10 7 false (.bin .gtr (.t 9) (.v (.c (.i .i64 24)))),aO 11 (.pick (.t 7) (.v (.c (.b true))) (.t 10)),aO 12 (.mv (.t 11)),aG 13 12 false (.mv (.t 0)),aG 14 12 false (.bin .eql (.t 13) (.v (.c (.s [46])))),aO 15 (.pick (.t 12) (.v (.c (.b true))) (.t 14)),aO 16 (.mv (.t 15)),aG 17 16 false (.mv (.t 0)),aG 18 16 false (.bin .eql (.t 17) (.v (.c (.s [46,46])))),aO 19 (.pick (.t 16) (.v (.c (.b true))) (.t 18))]) (.cond (.t 19) (.seq [2] (.ops [aO 2 (.mv (.v (.c (.i .i64 3))))]) .ret) .skip)) (.seq [] (.seq [0,21,22] (.ops [aO 20 (.mv (.t 0)),aO 21 (.lenS (.t 20)),aO 22 (.mv (.v (.c (.i .i64 0))))]) (.block 0 (.loop [0,21,22] B9I))) B9J)),[.tmp 2]⟩
def A38:B3:=B8
def D1f (n:Nat):B4 (Val × A0):=E5 [] (ax A38 n B9J) A_name_Check.fin
def D1g (n:Nat):B4 (Val × A0):=D6 0 (D1f n)
def A85 (n m:Nat) (x0 x21 x22:Val) (h:A0):A6:=C8 (ax A38 n B9I) [0,21,22] (D1g n) m [(0,x0),(21,x21),(22,x22)] h
def B1g (n:Nat) (args:List Val) (h:A0):A6:=ax A38 n A_name_Check.code A_name_Check.fin (params 0 args) h
theorem C3B (n:Nat) (a0:Val) (h:A0):B1g n [a0] h=bnd (O5 a0) fun v1=>bnd (A2 .lss v1 (.c (.i .i64 1))) fun v2=>bnd (gd v2 false (some (a0,h)) (some (.no,h))) fun p3=>bnd (gd v2 false (bnd (O5 p3.1) fun v4=>some (v4,p3.2)) (some (.no,p3.2))) fun p5=>bnd (gd v2 false (bnd (A2 .gtr p5.1 (.c (.i .i64 24))) fun v6=>some (v6,p5.2)) (some (.no,p5.2))) fun p7=>bnd (C4 v2 (.c (.b true)) p7.1) fun v8=>bnd (gd v8 false (some (a0,p7.2)) (some (.no,p7.2))) fun p9=>bnd (gd v8 false (bnd (A2 .eql p9.1 (.c (.s [46]))) fun v10=>some (v10,p9.2)) (some (.no,p9.2))) fun p11=>bnd (C4 v8 (.c (.b true)) p11.1) fun v12=>bnd (gd v12 false (some (a0,p11.2)) (some (.no,p11.2))) fun p13=>bnd (gd v12 false (bnd (A2 .eql p13.1 (.c (.s [46,46]))) fun v14=>some (v14,p13.2)) (some (.no,p13.2))) fun p15=>bnd (C4 v12 (.c (.b true)) p15.1) fun v16=>cnd v16 (some ((.c (.i .i64 3)),p15.2)) (bnd (O5 a0) fun v17=>A85 n n a0 v17 (.c (.i .i64 0)) p15.2):=by kernel_rfl
theorem B9K (n m:Nat) (x0 x21 x22:Val) (h:A0):A85 n (m + 1) x0 x21 x22 h=bnd (A2 .lss x22 x21) fun v18=>cnd v18 (bnd (Q5 x0 x22) fun v19=>bnd (A2 .eql v19 (.c (.i .u8 0))) fun v20=>bnd (gd v20 false (some (x0,h)) (some (.no,h))) fun p21=>bnd (gd v20 false (some (x22,p21.2)) (some (.no,p21.2))) fun p22=>bnd (gd v20 false (bnd (Q5 p21.1 p22.1) fun v23=>some (v23,p22.2)) (some (.no,p22.2))) fun p24=>bnd (gd v20 false (bnd (A2 .eql p24.1 (.c (.i .u8 47))) fun v25=>some (v25,p24.2)) (some (.no,p24.2))) fun p26=>bnd (C4 v20 (.c (.b true)) p26.1) fun v27=>cnd v27 (some ((.c (.i .i64 3)),p26.2)) (bnd (A2 .add x22 (.c (.i .i64 1))) fun v28=>A85 n m x0 x21 v28 p26.2)) (some ((.c (.i .i64 0)),h)):=by kernel_rfl
theorem K_name_Check:FnK Tryz.prog 250 A_name_Check A38 B1g:=.mk' (C1) Tryz.func250 (by kernel_rfl) (fun _ _ _=>C0)
def A2e:Fun:=tidy (Lim A_name_Check A38)
theorem B4U:SOk Tryz.prog 250 A2e:=K_name_Check.sok
theorem C6f:D1 B1g A2e:=K_name_Check.flat
def B9L:ACode:=.seq [0,2,4,18,19,20] (.ops [aO 20 (.bin .lss (.t 19) (.t 18))]) (.seq [0,2,4,18,19] (.cond (.t 20) .skip (.exit 0)) (.seq [0,2,4,18,19] (.block 1 (.seq [0,2,4,6,18,19] (.ops [aO 21 (.mv (.t 19)),aO 6 (.mv (.t 21))]) (.ops [aO 22 (.mv (.t 6)),aO 23 (.bin .add (.v (.c (.i .i64 1))) (.t 22)),aO 24 (.mv (.t 0)),aO 25 (.mv (.t 6)),aO 26 (.idxS (.t 24) (.t 25)),aO 27 (.iAddrA 25 1 (.t 4) (.t 23)),aN (.store1 (.t 27) (.t 26))]))) (.ops [aO 28 (.bin .add (.t 19) (.v (.c (.i .i64 1)))),aO 19 (.mv (.t 28))])))
def B9M:ACode:=.seq [2,3] (.ops [aO 29 (.loadN 25 (.t 4)),aN (.storeN 25 (.t 2) (.t 29)),aO 3 (.mv (.v (.c (.i .i64 0))))]) .ret
def A_name_Pack:AFn:=⟨.seq [0,2] (.ops [aO 2 (.alloc (List.replicate 25 (.i .u8 0))),aO 3 (.mv (.v (.c (.i .i64 0))))]) (.seq [0,2,4] (.ops [aO 4 (.alloc (List.replicate 25 (.i .u8 0)))]) (.seq [0,2,4] (.seq [0,2,4,5] (.ops [aO 7 (.mv (.t 0)),aO 8 (.call 250 [(.t 7)]),aO 5 (.mv (.t 8))]) (.seq [0,2,4,5,10] (.ops [aO 9 (.mv (.t 5)),aO 10 (.bin .neq (.t 9) (.v (.c (.i .i64 0))))]) (.cond (.t 10) (.seq [2,3] (.ops [aO 11 (.loadN 25 (.t 4)),aO 12 (.mv (.t 5)),aN (.storeN 25 (.t 2) (.t 11)),aO 3 (.mv (.t 12))]) .ret) .skip))) (.seq [0,2,4] (.ops [aO 13 (.mv (.t 0)),aO 14 (.lenS (.t 13)),aO 15 (.conv .u8 (.t 14)),aO 16 (.iAddrA 25 1 (.t 4) (.v (.c (.i .i64 0)))),aN (.store1 (.t 16) (.t 15))]) (.seq [2,4] (.seq [0,2,4,18,19] (.ops [aO 17 (.mv (.t 0)),aO 18 (.lenS (.t 17)),aO 19 (.mv (.v (.c (.i .i64 0))))]) (.block 0 (.loop [0,2,4,18,19] B9L))) B9M)))),[.cellN 2 25,.tmp 3]⟩
def A39:B3:=A7 250 A2e B8
def D1i (n:Nat):B4 (Val × A0):=E5 [2,4] (ax A39 n B9M) A_name_Pack.fin
def D1j (n:Nat):B4 (Val × A0):=D6 0 (D1i n)
def A86 (n m:Nat) (x0 x2 x4 x18 x19:Val) (h:A0):A6:=C8 (ax A39 n B9L) [0,2,4,18,19] (D1j n) m [(0,x0),(2,x2),(4,x4),(18,x18),(19,x19)] h
def A66 (n:Nat) (args:List Val) (h:A0):A6:=ax A39 n A_name_Pack.code A_name_Pack.fin (params 0 args) h
theorem C3D (n:Nat) (a0:Val) (h:A0):A66 n [a0] h=bnd (A2e [a0] ((h ++ [some (Row.mk (List.replicate 25 (.i .u8 0)) true)]) ++ [some (Row.mk (List.replicate 25 (.i .u8 0)) true)])) fun p1=>bnd (A2 .neq p1.1 (.c (.i .i64 0))) fun v2=>cnd v2 (bnd (A3 p1.2 25 (.c (.p (h ++ [some (Row.mk (List.replicate 25 (.i .u8 0)) true)]).length 0))) fun v3=>bnd (B6 p1.2 25 (.c (.p h.length 0)) v3) fun h4=>C7 [A3 h4 25 (.c (.p h.length 0)),some p1.1] h4) (bnd (O5 a0) fun v5=>bnd (I1 .u8 v5) fun v6=>bnd (D8 25 1 (.c (.p (h ++ [some (Row.mk (List.replicate 25 (.i .u8 0)) true)]).length 0)) (.c (.i .i64 0))) fun v7=>bnd (F9 p1.2 v7 v6) fun h8=>bnd (O5 a0) fun v9=>A86 n n a0 (.c (.p h.length 0)) (.c (.p (h ++ [some (Row.mk (List.replicate 25 (.i .u8 0)) true)]).length 0)) v9 (.c (.i .i64 0)) h8):=by kernel_rfl
theorem B9N (n m:Nat) (x0 x2 x4 x18 x19:Val) (h:A0):A86 n (m + 1) x0 x2 x4 x18 x19 h=bnd (A2 .lss x19 x18) fun v10=>cnd v10 (bnd (A2 .add (.c (.i .i64 1)) x19) fun v11=>bnd (Q5 x0 x19) fun v12=>bnd (D8 25 1 x4 v11) fun v13=>bnd (F9 h v13 v12) fun h14=>bnd (A2 .add x19 (.c (.i .i64 1))) fun v15=>A86 n m x0 x2 x4 x18 v15 h14) (bnd (A3 h 25 x4) fun v16=>bnd (B6 h 25 x2 v16) fun h17=>C7 [A3 h17 25 x2,some (.c (.i .i64 0))] h17):=by kernel_rfl
theorem K_name_Pack:FnK Tryz.prog 251 A_name_Pack A39 A66:=.mk' (A9 B4U C1) Tryz.func251 (by kernel_rfl) (fun _ _ _=>C0)
def A2f:Fun:=tidy (Lim A_name_Pack A39)
theorem B4V:SOk Tryz.prog 251 A2f:=K_name_Pack.sok
theorem C6i:D1 A66 A2f:=K_name_Pack.flat
def A_name_Unpack:AFn:=⟨.seq [1] (.ops [aO 1 (.box (.t 0)),aO 2 (.mv (.v (.c (.s [])))),aO 3 (.mv (.v (.c (.i .i64 0))))]) (.seq [1,4] (.ops [aO 8 (.iAddrA 25 1 (.t 1) (.v (.c (.i .i64 0)))),aO 9 (.load1 (.t 8)),aO 10 (.conv .i64 (.t 9)),aO 4 (.mv (.t 10))]) (.seq [1,4] (.seq [1,4,12] (.ops [aO 11 (.mv (.t 4)),aO 12 (.bin .gtr (.t 11) (.v (.c (.i .i64 24))))]) (.cond (.t 12) (.seq [2,3] (.ops [aO 2 (.mv (.v (.c (.s [])))),aO 3 (.mv (.v (.c (.i .i64 3))))]) .ret) .skip)) (.seq [1,5] (.ops [aO 13 (.mv (.t 4)),aO 14 (.bin .add (.v (.c (.i .i64 1))) (.t 13)),aO 15 (.slA 25 1 (.t 1) (some (.v (.c (.i .i64 1)))) (some (.t 14))),aO 16 (.b2s (.t 15)),aO 5 (.mv (.t 16))]) (.seq [5] (.seq [1,5,6,7] (.ops [aO 18 (.mv (.t 5)),aO 19 (.call 251 [(.t 18)]),aO 17 (.mv (.t 19)),aO 20 (.ext (.t 17) 0),aO 21 (.ext (.t 17) 1),aO 6 (.alloc (List.replicate 25 (.i .u8 0))),aN (.storeN 25 (.t 6) (.t 20)),aO 7 (.mv (.t 21))]) (.seq [5,28] (.ops [aO 22 (.mv (.t 7)),aO 23 (.bin .neq (.t 22) (.v (.c (.i .i64 0)))),aO 24 (.mv (.t 23)),aG 25 24 false (.loadN 25 (.t 6)),aG 26 24 false (.loadN 25 (.t 1)),aG 27 24 false (.eqA true (List.replicate 25 (.i .u8)) (.t 25) (.t 26)),aO 28 (.pick (.t 24) (.v (.c (.b true))) (.t 27))]) (.cond (.t 28) (.seq [2,3] (.ops [aO 2 (.mv (.v (.c (.s [])))),aO 3 (.mv (.v (.c (.i .i64 3))))]) .ret) .skip))) (.seq [2,3] (.ops [aO 29 (.mv (.t 5)),aO 2 (.mv (.t 29)),aO 3 (.mv (.v (.c (.i .i64 0))))]) .ret))))),[.tmp 2,.tmp 3]⟩
def B0u:B3:=A7 251 A2f B8
def A69 (n:Nat) (args:List Val) (h:A0):A6:=ax B0u n A_name_Unpack.code A_name_Unpack.fin (params 0 args) h
theorem C3G (n:Nat) (a0:Val) (h:A0):A69 n [a0] h=bnd (cells? a0) fun c1=>bnd (D8 25 1 (.c (.p h.length 0)) (.c (.i .i64 0))) fun v2=>bnd (A5 (h ++ [some (Row.mk (c1) true)]) v2) fun v3=>bnd (I1 .i64 v3) fun v4=>bnd (A2 .gtr v4 (.c (.i .i64 24))) fun v5=>cnd v5 (C7 [some (.c (.s [])),some (.c (.i .i64 3))] (h ++ [some (Row.mk (c1) true)])) (bnd (A2 .add (.c (.i .i64 1)) v4) fun v6=>bnd (Q7 (h ++ [some (Row.mk (c1) true)]) 25 1 (.c (.p h.length 0)) (some (.c (.i .i64 1))) (some v6)) fun v7=>bnd (P8 (h ++ [some (Row.mk (c1) true)]) v7) fun v8=>bnd (A2f [v8] (h ++ [some (Row.mk (c1) true)])) fun p9=>bnd (C5 p9.1 0) fun v10=>bnd (C5 p9.1 1) fun v11=>bnd (B6 (p9.2 ++ [some (Row.mk (List.replicate 25 (.i .u8 0)) true)]) 25 (.c (.p p9.2.length 0)) v10) fun h12=>bnd (A2 .neq v11 (.c (.i .i64 0))) fun v13=>bnd (gd v13 false (bnd (A3 h12 25 (.c (.p p9.2.length 0))) fun v14=>some (v14,h12)) (some (.no,h12))) fun p15=>bnd (gd v13 false (bnd (A3 p15.2 25 (.c (.p h.length 0))) fun v16=>some (v16,p15.2)) (some (.no,p15.2))) fun p17=>bnd (gd v13 false (bnd (aeq true (List.replicate 25 (.i .u8)) p15.1 p17.1) fun v18=>some (v18,p17.2)) (some (.no,p17.2))) fun p19=>bnd (C4 v13 (.c (.b true)) p19.1) fun v20=>cnd v20 (C7 [some (.c (.s [])),some (.c (.i .i64 3))] p19.2) (C7 [some v8,some (.c (.i .i64 0))] p19.2)):=by kernel_rfl
theorem K_name_Unpack:FnK Tryz.prog 253 A_name_Unpack B0u A69:=.mk' (A9 B4V C1) Tryz.func253 (by kernel_rfl) (fun _ _ _=>C0)
def A47:Fun:=tidy (Lim A_name_Unpack B0u)
theorem C6o:SOk Tryz.prog 253 A47:=K_name_Unpack.sok
theorem C6n:D1 A69 A47:=K_name_Unpack.flat
def A_name_Less:AFn:=⟨.seq [0,1] (.ops [aO 4 (.mv (.v (.c (.b false))))]) (.seq [4] (.ops [aO 5 (.mv (.t 0)),aO 6 (.mv (.t 1)),aO 7 (.bin .lss (.t 5) (.t 6)),aO 4 (.mv (.t 7))]) .ret),[.tmp 4]⟩
def B0t:B3:=B8
def B1h (n:Nat) (args:List Val) (h:A0):A6:=ax B0t n A_name_Less.code A_name_Less.fin (params 0 args) h
theorem C3C (n:Nat) (a0 a1:Val) (h:A0):B1h n [a0,a1] h=bnd (A2 .lss a0 a1) fun v1=>some (v1,h):=by kernel_rfl
theorem K_name_Less:FnK Tryz.prog 227 A_name_Less B0t B1h:=.mk' (C1) Tryz.func227 (by kernel_rfl) (fun _ _ _=>C0)
def A45:Fun:=tidy (Lim A_name_Less B0t)
theorem C6h:SOk Tryz.prog 227 A45:=K_name_Less.sok
theorem C6g:D1 B1h A45:=K_name_Less.flat
def B9O:ACode:=.seq [0,1,6,7] (.seq [0,1,6,7,13] (.ops [aO 11 (.mv (.t 6)),aO 12 (.mv (.t 7)),aO 13 (.bin .lss (.t 11) (.t 12))]) (.cond (.t 13) .skip (.exit 0))) (.block 1 (.seq [0,1,6,7,8] (.ops [aO 14 (.mv (.t 6)),aO 15 (.mv (.t 7)),aO 16 (.mv (.t 6)),aO 17 (.bin .sub (.t 15) (.t 16)),aO 18 (.bin .quo (.t 17) (.v (.c (.i .i64 2)))),aO 19 (.bin .add (.t 14) (.t 18)),aO 8 (.mv (.t 19))]) (.seq [0,1,6,7,8,25] (.ops [aO 20 (.mv (.t 0)),aO 21 (.mv (.t 8)),aO 22 (.iAddrL 1 (.t 20) (.t 21)),aO 23 (.load1 (.t 22)),aO 24 (.mv (.t 1)),aO 25 (.call 227 [(.t 23),(.t 24)])]) (.cond (.t 25) (.ops [aO 26 (.mv (.t 8)),aO 27 (.bin .add (.t 26) (.v (.c (.i .i64 1)))),aO 6 (.mv (.t 27))]) (.ops [aO 28 (.mv (.t 8)),aO 7 (.mv (.t 28))])))))
def B9P:ACode:=.seq [4,5] (.draw 0 [aO 29 (.mv (.t 6)),aO 30 (.mv (.t 6)),aO 31 (.mv (.t 0)),aO 32 (.len (.t 31)),aO 33 (.bin .lss (.t 30) (.t 32)),aO 34 (.mv (.t 33)),aG 35 34 true (.mv (.t 0)),aG 36 34 true (.mv (.t 6)),aG 37 34 true (.iAddrL 1 (.t 35) (.t 36)),aG 38 34 true (.load1 (.t 37)),aG 39 34 true (.mv (.t 1)),aG 40 34 true (.bin .eql (.t 38) (.t 39)),aO 41 (.pick (.t 34) (.t 40) (.v (.c (.b false)))),aO 4 (.mv (.t 29))] [aO 5 (.mv (.t 41))]) .ret
def A_name_Place:AFn:=⟨.seq [0,1] (.ops [aO 4 (.mv (.v (.c (.i .i64 0)))),aO 5 (.mv (.v (.c (.b false))))]) (.seq [0,1,6,7] (.ops [aO 9 (.mv (.t 0)),aO 10 (.len (.t 9)),aO 6 (.mv (.v (.c (.i .i64 0)))),aO 7 (.mv (.t 10))]) (.seq [0,1,6] (.block 0 (.loop [0,1,6,7] B9O)) B9P)),[.tmp 4,.tmp 5]⟩
def A4a:B3:=A7 227 A45 B8
def D1l (n:Nat):B4 (Val × A0):=E5 [0,1,6] (ax A4a n B9P) A_name_Place.fin
def D1m (n:Nat):B4 (Val × A0):=D6 0 (D1l n)
def A3x (n m:Nat) (x0 x1 x6 x7:Val) (h:A0):A6:=C8 (ax A4a n B9O) [0,1,6,7] (D1m n) m [(0,x0),(1,x1),(6,x6),(7,x7)] h
def A67 (n:Nat) (args:List Val) (h:A0):A6:=ax A4a n A_name_Place.code A_name_Place.fin (params 0 args) h
theorem C3E (n:Nat) (a0 a1:Val) (h:A0):A67 n [a0,a1] h=bnd (E3 a0) fun v1=>A3x n n a0 a1 (.c (.i .i64 0)) v1 h:=by kernel_rfl
theorem B9Q (n m:Nat) (x0 x1 x6 x7:Val) (h:A0):A3x n (m + 1) x0 x1 x6 x7 h=bnd (A2 .lss x6 x7) fun v2=>cnd v2 (bnd (A2 .sub x7 x6) fun v3=>bnd (A2 .quo v3 (.c (.i .i64 2))) fun v4=>bnd (A2 .add x6 v4) fun v5=>bnd (B9 1 x0 v5) fun v6=>bnd (A5 h v6) fun v7=>bnd (A45 [v7,x1] h) fun p8=>cnd p8.1 (bnd (A2 .add v5 (.c (.i .i64 1))) fun v9=>A3x n m x0 x1 v9 x7 p8.2) (A3x n m x0 x1 x6 v5 p8.2)) (bnd (E3 x0) fun v10=>bnd (A2 .lss x6 v10) fun v11=>bnd (gd v11 true (some (x0,(h ++ []))) (some (.no,(h ++ [])))) fun p12=>bnd (gd v11 true (some (x6,p12.2)) (some (.no,p12.2))) fun p13=>bnd (gd v11 true (bnd (B9 1 p12.1 p13.1) fun v14=>some (v14,p13.2)) (some (.no,p13.2))) fun p15=>bnd (gd v11 true (bnd (A5 h p15.1) fun v16=>some (v16,p15.2)) (some (.no,p15.2))) fun p17=>bnd (gd v11 true (some (x1,p17.2)) (some (.no,p17.2))) fun p18=>bnd (gd v11 true (bnd (A2 .eql p17.1 p18.1) fun v19=>some (v19,p18.2)) (some (.no,p18.2))) fun p20=>bnd (C4 v11 p20.1 (.c (.b false))) fun v21=>C7 [some x6,some v21] p20.2):=by kernel_rfl
theorem K_name_Place:FnK Tryz.prog 161 A_name_Place A4a A67:=.mk' (A9 C6h C1) Tryz.func161 (by kernel_rfl) (fun _ _ _=>C0)
def A24:Fun:=tidy (Lim A_name_Place A4a)
theorem C6k:SOk Tryz.prog 161 A24:=K_name_Place.sok
theorem C6j:D1 A67 A24:=K_name_Place.flat
def B9S:ACode:=.ops [aO 36 (.bin .add (.t 10) (.v (.c (.i .i64 1)))),aO 10 (.mv (.t 36))]
def B3y:ACode:=.seq [3,8,9,10,11] (.ops [aO 11 (.bin .lss (.t 10) (.t 9))]) (.seq [3,8,9,10] (.cond (.t 11) .skip (.exit 0)) (.seq [3,8,9,10] (.block 1 (.seq [3,5,8,9,10] (.ops [aO 12 (.iAddrL 1 (.t 8) (.t 10)),aO 13 (.load1 (.t 12)),aO 5 (.mv (.t 13))]) (.seq [3,5,6,7,8,9,10] (.ops [aO 15 (.mv (.t 3)),aO 16 (.mv (.t 5)),aO 17 (.call 161 [(.t 15),(.t 16)]),aO 14 (.mv (.t 17)),aO 18 (.ext (.t 14) 0),aO 19 (.ext (.t 14) 1),aO 6 (.mv (.t 18)),aO 7 (.mv (.t 19))]) (.seq [3,5,6,8,9,10] (.seq [3,5,6,8,9,10,20] (.ops [aO 20 (.mv (.t 7))]) (.cond (.t 20) (.exit 1) .skip)) (.seq [3,5,6,8,9,10] (.ops [aO 21 (.mv (.t 3)),aO 22 (.buildSl 1 1 ([.s []]) [(0,1,(.v (.c (.s []))))]),aO 23 (.app 1 (.t 21) (.t 22)),aO 3 (.mv (.t 23))]) (.seq [3,5,6,8,9,10] (.draw 0 [aO 24 (.mv (.t 3)),aO 25 (.mv (.t 6)),aO 26 (.bin .add (.t 25) (.v (.c (.i .i64 1)))),aO 27 (.slL 1 (.t 24) (some (.t 26)) none),aO 28 (.mv (.t 3)),aO 29 (.mv (.t 6)),aO 30 (.slL 1 (.t 28) (some (.t 29)) none)] [aO 31 (.copy 1 (.t 27) (.t 30))]) (.ops [aO 32 (.mv (.t 3)),aO 33 (.mv (.t 6)),aO 34 (.mv (.t 5)),aO 35 (.iAddrL 1 (.t 32) (.t 33)),aN (.store1 (.t 35) (.t 34))]))))))) B9S))
def B9R:ACode:=.seq [2] (.ops [aO 37 (.mv (.t 3)),aO 2 (.mv (.t 37))]) .ret
def A_name_Sort:AFn:=⟨.seq [0] (.ops [aO 2 (.nilrow 1)]) (.seq [0,3] (.ops [aO 3 (.nilrow 1)]) (.seq [3] (.seq [3,8,9,10] (.ops [aO 8 (.mv (.t 0)),aO 9 (.len (.t 8)),aO 10 (.mv (.v (.c (.i .i64 0))))]) (.block 0 (.loop [3,8,9,10] B3y))) B9R)),[.tmp 2]⟩
def A1P:B3:=A7 161 A24 B8
def D1o (n:Nat):B4 (Val × A0):=E5 [3] (ax A1P n B9R) A_name_Sort.fin
def B3A (n:Nat):B4 (Val × A0):=D6 0 (D1o n)
def A87 (n m:Nat) (x3 x8 x9 x10:Val) (h:A0):A6:=C8 (ax A1P n B3y) [3,8,9,10] (B3A n) m [(3,x3),(8,x8),(9,x9),(10,x10)] h
def A68 (n:Nat) (args:List Val) (h:A0):A6:=ax A1P n A_name_Sort.code A_name_Sort.fin (params 0 args) h
def D1p (n m:Nat):B4 (Val × A0):=R1 [3,8,9,10] (C8 (ax A1P n B3y) [3,8,9,10] (B3A n) m) (B3A n)
def B3z (n m:Nat) (x3 x8 x9 x10:Val) (h:A0):A6:=hold ((ax A1P n B9S) (D1p n m) [(3,x3),(8,x8),(9,x9),(10,x10)] h)
theorem C3F (n:Nat) (a0:Val) (h:A0):A68 n [a0] h=bnd (E3 a0) fun v1=>A87 n n (.c (.sl (h ++ [some (Row.mk ([]) true)]).length 0 0 1)) a0 v1 (.c (.i .i64 0)) ((h ++ [some (Row.mk ([]) true)]) ++ [some (Row.mk ([]) true)]):=by kernel_rfl
theorem B9U (n m:Nat) (x3 x8 x9 x10:Val) (h:A0):A87 n (m + 1) x3 x8 x9 x10 h=bnd (A2 .lss x10 x9) fun v2=>cnd v2 (bnd (B9 1 x8 x10) fun v3=>bnd (A5 h v3) fun v4=>bnd (A24 [x3,v4] h) fun p5=>bnd (C5 p5.1 0) fun v6=>bnd (C5 p5.1 1) fun v7=>cnd v7 (B3z n m x3 x8 x9 x10 p5.2) (bnd (A8 ([.s []]) [(0,1,.c (.s []))]) fun c8=>bnd (E7 (p5.2 ++ [some (Row.mk (c8) true)]) 1 x3 (.c (.sl p5.2.length 0 1 1))) fun p9=>bnd (A2 .add v6 (.c (.i .i64 1))) fun v10=>bnd (A0m 1 p9.1 (some v10) none) fun v11=>bnd (A0m 1 p9.1 (some v6) none) fun v12=>bnd (A2k (p9.2 ++ []) 1 v11 v12) fun p13=>bnd (B9 1 p9.1 v6) fun v14=>bnd (F9 p13.2 v14 v4) fun h15=>B3z n m p9.1 x8 x9 x10 h15)) (some (x3,h)):=by kernel_rfl
theorem B9T (n m:Nat) (x3 x8 x9 x10:Val) (h:A0):B3z n m x3 x8 x9 x10 h=bnd (A2 .add x10 (.c (.i .i64 1))) fun v16=>A87 n m x3 x8 x9 v16 h:=by kernel_rfl
theorem K_name_Sort:FnK Tryz.prog 86 A_name_Sort A1P A68:=.mk' (A9 C6k C1) Tryz.func86 (by kernel_rfl) (fun _ _ _=>C0)
def A46:Fun:=tidy (Lim A_name_Sort A1P)
theorem C6l:SOk Tryz.prog 86 A46:=K_name_Sort.sok
theorem C6m:N9 A68 A46:=K_name_Sort.out
end Go.Proofs.YteckncopbicmcaaGreat
end
section
namespace Go.Proofs.YteckncopbicmcaaGreat
open Go Go.Esc
def T7 (c:UInt8):Bool:=!(decide ((c.toNat:Int)=0) || decide ((c.toNat:Int)=47))
def Q1 (s:List UInt8):Bool:=!(decide ((s.length:Int) < 1) || decide (24 < (s.length:Int)) || decide (s=[46]) || decide (s=[46,46])) && s.all T7
theorem A3p {s:List UInt8} (h:Q1 s=true):1 ≤ s.length ∧ s.length ≤ 24:=by
  unfold Q1 at h
  simp at h
  omega
theorem B6f (s:List UInt8) (hs:s.length < 9223372036854775807) (n:Nat) (h:A0):∀ d i m:Nat,i + d=s.length → d < m →
    A85 n m (.c (.s s)) (.c (.i .i64 s.length)) (.c (.i .i64 i)) h=some (.c (.i .i64 (bif (s.drop i).all T7 then 0 else 3)),h)
  | d,i,0,_,hm=>by omega
  | 0,i,m + 1,hi,hm=>by
    have c0:¬ ((i:Int) < s.length):=by omega
    rw [B9K,show s.drop i=[] from List.drop_of_length_le (by omega)]
    simp only [esc,c0,List.all_nil]
  | d + 1,i,m + 1,hi,hm=>by
    have h1:(i:Int) < s.length:=by omega
    have h2:i < s.length:=by omega
    have ih:=B6f s hs n h d (i + 1) m (by omega) (by omega)
    rw [B9K,List.drop_eq_getElem_cons h2,List.all_cons]
    by_cases c1:(s[i].toNat:Int)=0
    · have f:T7 s[i]=false:=by unfold T7;rw [decide_eq_true c1];rfl
      simp only [esc,h1,V5 h2,c1,f,Bool.false_and]
    · by_cases c2:(s[i].toNat:Int)=47
      · have f:T7 s[i]=false:=by unfold T7;rw [decide_eq_true c2];simp
        simp only [esc,h1,V5 h2,c1,c2,f,Bool.false_and,Int.reduceEq]
      · have f:T7 s[i]=true:=by unfold T7;rw [decide_eq_false c1,decide_eq_false c2];rfl
        simp only [esc,h1,V5 h2,c1,c2,f,Bool.true_and,E6 (show i + 1 < 9223372036854775808 by omega)]
        exact ih
theorem B15 {s:List UInt8} (hs:s.length < 9223372036854775807) (h:A0):A2e [.c (.s s)] h=some (.c (.i .i64 (bif Q1 s then 0 else 3)),h):=by
  refine C6f (n:=s.length + 1) (h2:=ro h) ?_ rfl
  rw [C3B]
  have hl:=B6f s hs (s.length + 1) (ro h) s.length 0 (s.length + 1) (by omega) (by omega)
  rw [List.drop_zero] at hl
  unfold Q1
  by_cases c1:(s.length:Int) < 1
  · simp only [esc,c1,Bool.true_or,Bool.false_and]
  · by_cases c2:(24:Int) < s.length
    · simp only [esc,c1,c2,Bool.true_or,Bool.false_and,Bool.or_true]
    · by_cases c3:s=[46]
      · subst c3;simp only [esc];rfl
      · by_cases c4:s=[46,46]
        · subst c4;simp only [esc];rfl
        · simp only [esc,c1,c2,c3,c4,Bool.or_self,Bool.true_and]
          exact hl
def M6 (s:List UInt8) (i:Nat):List UInt8:=UInt8.ofNat s.length :: (s.take i ++ zeros (24 - i))
def H7 (s:List UInt8):List UInt8:=bif Q1 s then M6 s s.length else zeros 25
theorem A3C {s:List UInt8} {i:Nat} (hi:i ≤ s.length) (hs:s.length ≤ 24):(M6 s i).length=25:=by
  unfold M6
  rw [List.length_cons,List.length_append,zeros_length,List.length_take]
  omega
theorem A2J {s:List UInt8}:(H7 s).length=25:=by
  unfold H7
  cases hf:Q1 s with
  | false=>exact zeros_length
  | true=>exact A3C (Nat.le_refl _) (A3p hf).2
theorem D1X {s:List UInt8} {i:Nat} (hi:i < s.length) (hs:s.length ≤ 24):(M6 s i).set (1 + i) s[i]=M6 s (i + 1):=by
  unfold M6
  rw [Nat.add_comm 1 i,List.set_cons_succ]
  refine congrArg (UInt8.ofNat s.length :: ·) ?_
  have hlen:(List.take i s).length=i:=by simp;omega
  rw [List.set_append_right _ _ (by omega),hlen,Nat.sub_self,List.take_succ_eq_append_getElem hi,List.append_assoc]
  refine congrArg (List.take i s ++ ·) ?_
  have e:24 - i=(24 - (i + 1)) + 1:=by omega
  rw [e]
  unfold zeros
  rw [List.replicate_succ,List.set_cons_zero];rfl
theorem C0w (s:List UInt8) (hs:s.length ≤ 24) (h:A0) (c2:List Cell) (l2:c2.length=25) (n:Nat):∀ d i m:Nat,i + d=s.length → d < m →
    A86 n m (.c (.s s)) (.c (.p h.length 0)) (.c (.p (h.length + 1) 0)) (.c (.i .i64 s.length)) (.c (.i .i64 i)) (h ++ [some ⟨c2,true⟩,some ⟨A1 (M6 s i),true⟩]) =
      some (.t [.a (A1 (M6 s s.length)),.c (.i .i64 0)],h ++ [some ⟨A1 (M6 s s.length),true⟩,some ⟨A1 (M6 s s.length),true⟩])
  | d,i,0,_,hm=>by omega
  | 0,i,m + 1,hi,hm=>by
    have h1:¬ ((i:Int) < s.length):=by omega
    have e:i=s.length:=by omega
    subst e
    have hl:(A1 (M6 s s.length)).length=25:=by rw [B1];exact A3C (Nat.le_refl _) hs
    rw [B9N]
    simp only [esc,esh,Nat.reduceAdd,Nat.reduceMul,Nat.reduceLT,h1,hl,l2]
  | d + 1,i,m + 1,hi,hm=>by
    have h1:(i:Int) < s.length:=by omega
    have h3:i < s.length:=by omega
    have hl:(A1 (M6 s i)).length=25:=by rw [B1];exact A3C (by omega) hs
    have ih:=C0w s hs h c2 l2 n d (i + 1) m (by omega) (by omega)
    have e1:IntKind.wrap .i64 (1 + (i:Int))=((1 + i:Nat):Int):=by rw [wrap_i64 (by omega) (by omega)];omega
    have ea:D8 25 1 (.c (.p (h.length + 1) 0)) (.c (.i .i64 ((1 + i:Nat):Int)))=some (.c (.p (h.length + 1) (1 + i))):=by rw [T9 (by omega)];simp
    have ho:1 + i < (A1 (M6 s i)).length:=by omega
    rw [B9N]
    simp only [esc,esh,Nat.reduceAdd,Nat.reduceMul,Nat.reduceLT,h1,e1,V5 h3,ea,ho,A0q,D1X h3 hs,E6 (show i + 1 < 9223372036854775808 by omega)]
    exact ih
theorem C0v {s:List UInt8} (hs:s.length < 9223372036854775807) (h:A0) :
    A2f [.c (.s s)] h=some (.t [.a (A1 (H7 s)),.c (.i .i64 (bif Q1 s then 0 else 3))],h):=by
  have key:∀ g,∃ g',A66 (s.length + 1) [.c (.s s)] g=some (.t [.a (A1 (H7 s)),.c (.i .i64 (bif Q1 s then 0 else 3))],g'):=by
    intro g
    have hz:=N8 25
    have hl:(A1 (zeros 25)).length=25:=by rw [B1];exact zeros_length
    rw [C3D,hz]
    unfold H7
    cases hf:Q1 s with
    | false =>
      generalize zeros 25=Z at *
      exact ⟨_,by simp only [esc,esh,Nat.reduceAdd,Nat.reduceMul,Nat.reduceLT,B15 hs,hf,hl,Int.reduceEq] <;> rfl⟩
    | true =>
      have hs24:=(A3p hf).2
      have e0:(A1 (zeros 25)).set 0 (.i .u8 (IntKind.wrap .u8 s.length))=A1 (M6 s 0):=by
        rw [wrap_u8 (by omega) (by omega)]
        have:((s.length:Nat):Int)=((UInt8.ofNat s.length).toNat:Int):=by rw [UInt8.toNat_ofNat'];omega
        rw [this,A0q]
        rfl
      have:=C0w s hs24 g (A1 (zeros 25)) hl (s.length + 1) s.length 0 (s.length + 1) (by omega) (by omega)
      rw [← e0] at this
      generalize zeros 25=Z at *
      have a0:D8 25 1 (.c (.p (g.length + 1) 0)) (.c (.i .i64 0))=some (.c (.p (g.length + 1) 0)):=rfl
      have ho:0 < (A1 Z).length:=by omega
      exact ⟨_,by simp only [esc,esh,Nat.reduceAdd,Nat.reduceMul,Nat.reduceLT,B15 hs,hf,a0,ho];exact this⟩
  obtain ⟨g',e⟩:=key (ro h)
  exact C6i e (by simp)
def T0 (l:List UInt8):Option (List UInt8) :=
  if (l.headD 0).toNat ≤ 24 then
    if Q1 ((l.drop 1).take (l.headD 0).toNat)=true ∧ H7 ((l.drop 1).take (l.headD 0).toNat)=l then some ((l.drop 1).take (l.headD 0).toNat) else none
  else none
theorem D36 {l:List UInt8} (hl:l.length=25) (h:A0) :
    A47 [.a (A1 l)] h=some (.t [.c (.s ((T0 l).getD [])),.c (.i .i64 (if (T0 l).isSome then 0 else 3))],h):=by
  have key:∀ g,∃ g',A69 0 [.a (A1 l)] g=some (.t [.c (.s ((T0 l).getD [])),.c (.i .i64 (if (T0 l).isSome then 0 else 3))],g'):=by
    intro g
    obtain ⟨x,r,rfl⟩:∃ x r,l=x :: r:=by
      cases l with
      | nil=>simp at hl
      | cons x r=>exact ⟨x,r,rfl⟩
    have hx:=x.toNat_lt
    rw [C3G]
    have a0:D8 25 1 (.c (.p g.length 0)) (.c (.i .i64 0))=some (.c (.p g.length 0)):=rfl
    have l0:(A1 (x :: r))[0]? = some (.i .u8 x.toNat):=rfl
    have e1:IntKind.wrap .i64 (x.toNat:Int)=x.toNat:=wrap_i64 (by omega) (by omega)
    have hle:(A1 (x :: r)).length=25:=by rw [B1,hl]
    unfold T0
    simp only [List.headD_cons,List.drop_succ_cons,List.drop_zero]
    by_cases c1:x.toNat ≤ 24
    · rw [if_pos c1]
      have c1':¬ (24:Int) < x.toNat:=by omega
      have e2:IntKind.wrap .i64 (1 + (x.toNat:Int))=((1 + x.toNat:Nat):Int):=by rw [wrap_i64 (by omega) (by omega)];omega
      have e3:=D3w (h:=g) (l:=[some ⟨A1 (x :: r),true⟩]) (k:=0) (n:=25) (a:=1) (b:=1 + x.toNat) (cs:=A1 (x :: r)) rfl hle (by omega) (by omega)
      rw [Nat.add_zero,show 1 + x.toNat - 1=x.toNat by omega,show ((1:Nat):Int)=1 from rfl] at e3
      have hh:Has (g ++ [some ⟨A1 (x :: r),true⟩]) (.c (.sl g.length 1 x.toNat 1)) 1 x.toNat (A1 (r.take x.toNat)):=Has.part N6 (by omega) (by
        rw [B6S,B6V];simp) (K1 _)
      have hs:(r.take x.toNat).length < 9223372036854775807:=by simp;omega
      have hp:=C0v hs (g ++ [some ⟨A1 (x :: r),true⟩])
      have hpl:(A1 (H7 (r.take x.toNat))).length=25:=by rw [B1,A2J]
      have hz:(List.replicate 25 (Cell.i .u8 0)).length=25:=List.length_replicate
      have hq:=A7y (l:=H7 (r.take x.toNat)) (m:=x :: r) A2J hl
      generalize List.replicate 25 (Cell.i .u8 0)=z at *
      cases hf:Q1 (r.take x.toNat) with
      | false =>
        rw [hf] at hp
        rw [if_neg (by simp)]
        exact ⟨_,by simp only [esc,esh,Nat.reduceAdd,Nat.reduceMul,Nat.reduceLT,a0,l0,e1,c1',e2,e3,hh.str,hp,hpl,hz,Int.reduceEq,Option.getD_none,Option.isSome_none,Bool.false_eq_true] <;> rfl⟩
      | true =>
        rw [hf] at hp
        by_cases c2:H7 (r.take x.toNat)=x :: r
        · rw [if_pos ⟨rfl,c2⟩]
          exact ⟨_,by simp only [esc,esh,Nat.reduceAdd,Nat.reduceMul,Nat.reduceLT,a0,l0,e1,c1',e2,e3,hh.str,hp,hpl,hz,hle,hq,decide_eq_true c2,Int.reduceEq,Option.getD_some,Option.isSome_some,Bool.false_eq_true] <;> rfl⟩
        · rw [if_neg (fun h=>c2 h.2)]
          exact ⟨_,by simp only [esc,esh,Nat.reduceAdd,Nat.reduceMul,Nat.reduceLT,a0,l0,e1,c1',e2,e3,hh.str,hp,hpl,hz,hle,hq,decide_eq_false c2,Int.reduceEq,Option.getD_none,Option.isSome_none,Bool.false_eq_true] <;> rfl⟩
    · rw [if_neg c1]
      have c1':(24:Int) < x.toNat:=by omega
      exact ⟨_,by simp only [esc,esh,Nat.reduceAdd,Nat.reduceMul,Nat.reduceLT,a0,l0,e1,c1',Option.getD_none,Option.isSome_none,Bool.false_eq_true] <;> rfl⟩
  obtain ⟨g',e⟩:=key (ro h)
  exact C6n e (by simp)
end Go.Proofs.YteckncopbicmcaaGreat
end
noncomputable section
namespace Go.Proofs.YteckncopbicmcaaGreat
open Go Go.Esc
set_option maxRecDepth 100000
def A_bucket_head:AFn:=⟨.seq [0] (.ops [aO 0 (.alloc (List.replicate 256 (.i .u8 0)))]) (.seq [0] (.ops [aO 1 (.buildSl 1 4 ([.i .u8 0,.i .u8 0,.i .u8 0,.i .u8 0]) [(0,1,(.v (.c (.i .u8 98)))),(1,1,(.v (.c (.i .u8 107)))),(2,1,(.v (.c (.i .u8 116)))),(3,1,(.v (.c (.i .u8 33))))]),aO 2 (.mark (.t 1)),aO 3 (.call 212 [(.t 2)]),aN (.storeN 256 (.t 0) (.t 3))]) .ret),[.cellN 0 256]⟩
def A9M:B3:=A7 212 Z4 B8
def A6e (n:Nat) (args:List Val) (h:A0):A6:=ax A9M n A_bucket_head.code A_bucket_head.fin (params 0 args) h
theorem C2l (n:Nat) (h:A0):A6e n [] h=bnd (A8 ([.i .u8 0,.i .u8 0,.i .u8 0,.i .u8 0]) [(0,1,.c (.i .u8 98)),(1,1,.c (.i .u8 107)),(2,1,.c (.i .u8 116)),(3,1,.c (.i .u8 33))]) fun c1=>bnd (Q6 ((h ++ [some (Row.mk (List.replicate 256 (.i .u8 0)) true)]) ++ [some (Row.mk (c1) true)]) (.c (.sl (h ++ [some (Row.mk (List.replicate 256 (.i .u8 0)) true)]).length 0 4 1))) fun v2=>bnd (Z4 [v2] ((h ++ [some (Row.mk (List.replicate 256 (.i .u8 0)) true)]) ++ [some (Row.mk (c1) true)])) fun p3=>bnd (B6 p3.2 256 (.c (.p h.length 0)) p3.1) fun h4=>mp (A3 h4 256 (.c (.p h.length 0))) fun v=>(v,h4):=by kernel_rfl
theorem K_bucket_head:FnK Tryz.prog 217 A_bucket_head A9M A6e:=.mk' (A9 A7u C1) Tryz.func217 (by kernel_rfl) (fun _ _ _=>C0)
def A4p:Fun:=tidy (Lim A_bucket_head A9M)
theorem C4e:SOk Tryz.prog 217 A4p:=K_bucket_head.sok
theorem C4d:D1 A6e A4p:=K_bucket_head.flat
def A_bucket_may:AFn:=⟨.seq [1] (.ops [aO 1 (.box (.t 0)),aO 2 (.mv (.v (.c (.b false))))]) (.seq [2] (.ops [aO 3 (.fAddr (.t 1) 0),aO 4 (.load1 (.t 3)),aO 5 (.call 250 [(.t 4)]),aO 6 (.bin .eql (.t 5) (.v (.c (.i .i64 0)))),aO 7 (.mv (.t 6)),aG 8 7 true (.fAddr (.t 1) 1),aG 9 7 true (.load1 (.t 8)),aG 10 7 true (.bin .geq (.t 9) (.v (.c (.i .i64 1)))),aO 11 (.pick (.t 7) (.t 10) (.v (.c (.b false)))),aO 12 (.mv (.t 11)),aG 13 12 true (.fAddr (.t 1) 1),aG 14 12 true (.load1 (.t 13)),aG 15 12 true (.bin .leq (.t 14) (.v (.c (.i .i64 128)))),aO 16 (.pick (.t 12) (.t 15) (.v (.c (.b false)))),aO 2 (.mv (.t 16))]) .ret),[.tmp 2]⟩
def A9N:B3:=A7 250 A2e B8
def A6f (n:Nat) (args:List Val) (h:A0):A6:=ax A9N n A_bucket_may.code A_bucket_may.fin (params 0 args) h
theorem C2m (n:Nat) (a0:Val) (h:A0):A6f n [a0] h=bnd (cells? a0) fun c1=>bnd (B7 (.c (.p h.length 0)) 0) fun v2=>bnd (A5 (h ++ [some (Row.mk (c1) true)]) v2) fun v3=>bnd (A2e [v3] (h ++ [some (Row.mk (c1) true)])) fun p4=>bnd (A2 .eql p4.1 (.c (.i .i64 0))) fun v5=>bnd (gd v5 true (bnd (B7 (.c (.p h.length 0)) 1) fun v6=>some (v6,p4.2)) (some (.no,p4.2))) fun p7=>bnd (gd v5 true (bnd (A5 p7.2 p7.1) fun v8=>some (v8,p7.2)) (some (.no,p7.2))) fun p9=>bnd (gd v5 true (bnd (A2 .geq p9.1 (.c (.i .i64 1))) fun v10=>some (v10,p9.2)) (some (.no,p9.2))) fun p11=>bnd (C4 v5 p11.1 (.c (.b false))) fun v12=>bnd (gd v12 true (bnd (B7 (.c (.p h.length 0)) 1) fun v13=>some (v13,p11.2)) (some (.no,p11.2))) fun p14=>bnd (gd v12 true (bnd (A5 p14.2 p14.1) fun v15=>some (v15,p14.2)) (some (.no,p14.2))) fun p16=>bnd (gd v12 true (bnd (A2 .leq p16.1 (.c (.i .i64 128))) fun v17=>some (v17,p16.2)) (some (.no,p16.2))) fun p18=>bnd (C4 v12 p18.1 (.c (.b false))) fun v19=>some (v19,p18.2):=by kernel_rfl
theorem K_bucket_may:FnK Tryz.prog 218 A_bucket_may A9N A6f:=.mk' (A9 B4U C1) Tryz.func218 (by kernel_rfl) (fun _ _ _=>C0)
def A1R:Fun:=tidy (Lim A_bucket_may A9N)
theorem B4v:SOk Tryz.prog 218 A1R:=K_bucket_may.sok
theorem C4f:D1 A6f A1R:=K_bucket_may.flat
def A_bucket_first:AFn:=⟨.seq [0] (.ops [aO 2 (.mv (.v (.c (.i .i64 0))))]) (.seq [2] (.ops [aO 3 (.mv (.t 0)),aO 4 (.bin .add (.t 3) (.v (.c (.i .i64 1)))),aO 5 (.bin .mul (.v (.c (.i .i64 32))) (.t 4)),aO 2 (.mv (.t 5))]) .ret),[.tmp 2]⟩
def A9L:B3:=B8
def A6d (n:Nat) (args:List Val) (h:A0):A6:=ax A9L n A_bucket_first.code A_bucket_first.fin (params 0 args) h
theorem C2k (n:Nat) (a0:Val) (h:A0):A6d n [a0] h=bnd (A2 .add a0 (.c (.i .i64 1))) fun v1=>bnd (A2 .mul (.c (.i .i64 32)) v1) fun v2=>some (v2,h):=by kernel_rfl
theorem K_bucket_first:FnK Tryz.prog 219 A_bucket_first A9L A6d:=.mk' (C1) Tryz.func219 (by kernel_rfl) (fun _ _ _=>C0)
def A0D:Fun:=tidy (Lim A_bucket_first A9L)
theorem B4u:SOk Tryz.prog 219 A0D:=K_bucket_first.sok
theorem C4c:D1 A6d A0D:=K_bucket_first.flat
def A_bucket_written:AFn:=⟨.seq [1] (.ops [aO 1 (.box (.t 0)),aO 2 (.nilrow 1)]) (.seq [1,3] (.ops [aO 6 (.fAddr (.t 1) 1),aO 7 (.load1 (.t 6)),aO 8 (.conv .u8 (.t 7)),aO 9 (.fAddr (.t 1) 1),aO 10 (.load1 (.t 9)),aO 11 (.bin .shr (.t 10) (.v (.c (.i .u64 8)))),aO 12 (.conv .u8 (.t 11)),aO 13 (.buildSl 1 2 ([.i .u8 0,.i .u8 0]) [(0,1,(.t 8)),(1,1,(.t 12))]),aO 3 (.mv (.t 13))]) (.seq [3,4] (.ops [aO 15 (.fAddr (.t 1) 0),aO 16 (.load1 (.t 15)),aO 17 (.call 251 [(.t 16)]),aO 14 (.mv (.t 17)),aO 18 (.ext (.t 14) 0),aO 19 (.ext (.t 14) 1),aO 4 (.alloc (List.replicate 25 (.i .u8 0))),aN (.storeN 25 (.t 4) (.t 18)),aO 5 (.mv (.t 19))]) (.seq [3] (.ops [aO 20 (.mv (.t 3)),aO 21 (.slA 25 1 (.t 4) none none),aO 22 (.app 1 (.t 20) (.t 21)),aO 3 (.mv (.t 22))]) (.seq [2] (.ops [aO 23 (.mv (.t 3)),aO 24 (.buildSl 1 5 ([.i .u8 0,.i .u8 0,.i .u8 0,.i .u8 0,.i .u8 0]) [(0,1,(.v (.c (.i .u8 0)))),(1,1,(.v (.c (.i .u8 0)))),(2,1,(.v (.c (.i .u8 0)))),(3,1,(.v (.c (.i .u8 0)))),(4,1,(.v (.c (.i .u8 0))))]),aO 25 (.app 1 (.t 23) (.t 24)),aO 2 (.mv (.t 25))]) .ret)))),[.tmp 2]⟩
def A9O:B3:=A7 251 A2f B8
def A6h (n:Nat) (args:List Val) (h:A0):A6:=ax A9O n A_bucket_written.code A_bucket_written.fin (params 0 args) h
theorem C2o (n:Nat) (a0:Val) (h:A0):A6h n [a0] h=bnd (cells? a0) fun c1=>bnd (B7 (.c (.p h.length 0)) 1) fun v2=>bnd (A5 ((h ++ [some (Row.mk (c1) true)]) ++ [some (Row.mk ([]) true)]) v2) fun v3=>bnd (I1 .u8 v3) fun v4=>bnd (B7 (.c (.p h.length 0)) 1) fun v5=>bnd (A5 ((h ++ [some (Row.mk (c1) true)]) ++ [some (Row.mk ([]) true)]) v5) fun v6=>bnd (A2 .shr v6 (.c (.i .u64 8))) fun v7=>bnd (I1 .u8 v7) fun v8=>bnd (A8 ([.i .u8 0,.i .u8 0]) [(0,1,v4),(1,1,v8)]) fun c9=>bnd (B7 (.c (.p h.length 0)) 0) fun v10=>bnd (A5 (((h ++ [some (Row.mk (c1) true)]) ++ [some (Row.mk ([]) true)]) ++ [some (Row.mk (c9) true)]) v10) fun v11=>bnd (A2f [v11] (((h ++ [some (Row.mk (c1) true)]) ++ [some (Row.mk ([]) true)]) ++ [some (Row.mk (c9) true)])) fun p12=>bnd (C5 p12.1 0) fun v13=>bnd (C5 p12.1 1) fun v14=>bnd (B6 (p12.2 ++ [some (Row.mk (List.replicate 25 (.i .u8 0)) true)]) 25 (.c (.p p12.2.length 0)) v13) fun h15=>bnd (Q7 h15 25 1 (.c (.p p12.2.length 0)) none none) fun v16=>bnd (E7 h15 1 (.c (.sl ((h ++ [some (Row.mk (c1) true)]) ++ [some (Row.mk ([]) true)]).length 0 2 1)) v16) fun p17=>bnd (A8 ([.i .u8 0,.i .u8 0,.i .u8 0,.i .u8 0,.i .u8 0]) [(0,1,.c (.i .u8 0)),(1,1,.c (.i .u8 0)),(2,1,.c (.i .u8 0)),(3,1,.c (.i .u8 0)),(4,1,.c (.i .u8 0))]) fun c18=>bnd (E7 (p17.2 ++ [some (Row.mk (c18) true)]) 1 p17.1 (.c (.sl p17.2.length 0 5 1))) fun p19=>some (p19.1,p19.2):=by kernel_rfl
theorem K_bucket_written:FnK Tryz.prog 220 A_bucket_written A9O A6h:=.mk' (A9 B4V C1) Tryz.func220 (by kernel_rfl) (fun _ _ _=>C0)
def A1T:Fun:=tidy (Lim A_bucket_written A9O)
theorem B4x:SOk Tryz.prog 220 A1T:=K_bucket_written.sok
theorem C4h:N9 A6h A1T:=K_bucket_written.out
def B51:ACode:=.seq [1,2,4,6,11,12] (.ops [aO 12 (.bin .lss (.t 11) (.v (.c (.i .i64 25))))]) (.seq [1,2,4,6,11] (.cond (.t 12) .skip (.exit 0)) (.seq [1,2,4,6,11] (.block 1 (.seq [1,2,4,6,7,11] (.ops [aO 13 (.mv (.t 11)),aO 7 (.mv (.t 13))]) (.ops [aO 14 (.mv (.t 7)),aO 15 (.mv (.t 1)),aO 16 (.call 219 [(.t 15)]),aO 17 (.bin .add (.t 16) (.v (.c (.i .i64 2)))),aO 18 (.mv (.t 7)),aO 19 (.bin .add (.t 17) (.t 18)),aO 20 (.iAddrA 256 1 (.t 2) (.t 19)),aO 21 (.load1 (.t 20)),aO 22 (.iAddrA 25 1 (.t 6) (.t 14)),aN (.store1 (.t 22) (.t 21))]))) (.ops [aO 23 (.bin .add (.t 11) (.v (.c (.i .i64 1)))),aO 11 (.mv (.t 23))])))
def B52:ACode:=.seq [1,2,4,8,9] (.ops [aO 25 (.loadN 25 (.t 6)),aO 26 (.call 253 [(.t 25)]),aO 24 (.mv (.t 26)),aO 27 (.ext (.t 24) 0),aO 28 (.ext (.t 24) 1),aO 8 (.mv (.t 27)),aO 9 (.mv (.t 28))]) (.seq [1,2,4,9,10] (.draw 1 [aO 29 (.mv (.t 8)),aO 30 (.loadN 256 (.t 2)),aO 31 (.mv (.t 1)),aO 32 (.call 219 [(.t 31)]),aO 33 (.call 142 [(.t 30),(.t 32),(.v (.c (.i .i64 2)))]),aO 34 (.build ([.s [],.i .i64 0]) [(0,1,(.t 29)),(1,1,(.t 33))]),aS 10 0 (.alloc ([.s [],.i .i64 0]))] [aN (.storeN 2 (.t 10) (.t 34))]) (.seq [4,10] (.seq [4,10,52] (.draw 0 [aO 35 (.mv (.t 9)),aO 36 (.bin .neq (.t 35) (.v (.c (.i .i64 0)))),aO 37 (.mv (.t 36)),aG 38 37 false (.loadN 2 (.t 10)),aG 39 37 false (.call 218 [(.t 38)]),aG 40 37 false (.un .not (.t 39)),aO 41 (.pick (.t 37) (.v (.c (.b true))) (.t 40)),aO 42 (.mv (.t 41)),aG 43 42 false (.loadN 2 (.t 10)),aG 44 42 false (.call 220 [(.t 43)]),aG 45 42 false (.b2sN none (.t 44)),aG 46 42 false (.loadN 256 (.t 2)),aG 47 42 false (.mv (.t 1)),aG 48 42 false (.call 219 [(.t 47)]),aG 49 42 false (.call 141 [(.t 46),(.t 48),(.v (.c (.i .i64 32)))]),aG 50 42 false (.b2sN none (.t 49))] [aG 51 42 false (.bin .neq (.t 45) (.t 50)),aO 52 (.pick (.t 42) (.v (.c (.b true))) (.t 51))]) (.cond (.t 52) (.seq [4,5] (.ops [aO 53 (.build ([.s [],.i .i64 0]) []),aN (.storeN 2 (.t 4) (.t 53)),aO 5 (.mv (.v (.c (.b false))))]) .ret) .skip)) (.seq [4,5] (.ops [aO 54 (.loadN 2 (.t 10)),aN (.storeN 2 (.t 4) (.t 54)),aO 5 (.mv (.v (.c (.b true))))]) .ret)))
def A_bucket_read:AFn:=⟨.seq [1,2,4] (.ops [aO 2 (.box (.t 0)),aO 4 (.alloc ([.s [],.i .i64 0])),aO 5 (.mv (.v (.c (.b false))))]) (.seq [1,2,4,6] (.ops [aO 6 (.alloc (List.replicate 25 (.i .u8 0)))]) (.seq [1,2,4,6] (.seq [1,2,4,6,11] (.ops [aO 11 (.mv (.v (.c (.i .i64 0))))]) (.block 0 (.loop [1,2,4,6,11] B51))) B52)),[.cellN 4 2,.tmp 5]⟩
def A3L:B3:=A7 219 A0D (A7 253 A47 (A7 142 P6 (A7 218 A1R (A7 220 A1T (A7 141 A0M B8)))))
def C7N (n:Nat):B4 (Val × A0):=E5 [1,2,4,6] (ax A3L n B52) A_bucket_read.fin
def C7O (n:Nat):B4 (Val × A0):=D6 0 (C7N n)
def A7O (n m:Nat) (x1 x2 x4 x6 x11:Val) (h:A0):A6:=C8 (ax A3L n B51) [1,2,4,6,11] (C7O n) m [(1,x1),(2,x2),(4,x4),(6,x6),(11,x11)] h
def A6g (n:Nat) (args:List Val) (h:A0):A6:=ax A3L n A_bucket_read.code A_bucket_read.fin (params 0 args) h
theorem C2n (n:Nat) (a0 a1:Val) (h:A0):A6g n [a0,a1] h=bnd (cells? a0) fun c1=>A7O n n a1 (.c (.p h.length 0)) (.c (.p (h ++ [some (Row.mk (c1) true)]).length 0)) (.c (.p ((h ++ [some (Row.mk (c1) true)]) ++ [some (Row.mk ([.s [],.i .i64 0]) true)]).length 0)) (.c (.i .i64 0)) (((h ++ [some (Row.mk (c1) true)]) ++ [some (Row.mk ([.s [],.i .i64 0]) true)]) ++ [some (Row.mk (List.replicate 25 (.i .u8 0)) true)]):=by kernel_rfl
theorem B54 (n m:Nat) (x1 x2 x4 x6 x11:Val) (h:A0):A7O n (m + 1) x1 x2 x4 x6 x11 h=bnd (A2 .lss x11 (.c (.i .i64 25))) fun v2=>cnd v2 (bnd (A0D [x1] h) fun p3=>bnd (A2 .add p3.1 (.c (.i .i64 2))) fun v4=>bnd (A2 .add v4 x11) fun v5=>bnd (D8 256 1 x2 v5) fun v6=>bnd (A5 p3.2 v6) fun v7=>bnd (D8 25 1 x6 x11) fun v8=>bnd (F9 p3.2 v8 v7) fun h9=>bnd (A2 .add x11 (.c (.i .i64 1))) fun v10=>A7O n m x1 x2 x4 x6 v10 h9) (bnd (A3 h 25 x6) fun v11=>bnd (A47 [v11] h) fun p12=>bnd (C5 p12.1 0) fun v13=>bnd (C5 p12.1 1) fun v14=>bnd (A3 p12.2 256 x2) fun v15=>bnd (quiet (p12.2 ++ [none]) (A0D [x1] (p12.2 ++ [none]))) fun p16=>bnd (quiet p16.2 (P6 [v15,p16.1,.c (.i .i64 2)] p16.2)) fun p17=>bnd (A8 ([.s [],.i .i64 0]) [(0,1,v13),(1,1,p17.1)]) fun c18=>bnd (B6 (p17.2.set (p12.2.length + 0) (some (Row.mk ([.s [],.i .i64 0]) true))) 2 (.c (.p (p12.2.length + 0) 0)) (.a c18)) fun h19=>bnd (A2 .neq v14 (.c (.i .i64 0))) fun v20=>bnd (gd v20 false (bnd (A3 h19 2 (.c (.p (p12.2.length + 0) 0))) fun v21=>some (v21,(h19 ++ []))) (some (.no,(h19 ++ [])))) fun p22=>bnd (gd v20 false (bnd (quiet p22.2 (A1R [p22.1] p22.2)) fun p23=>some (p23.1,p23.2)) (some (.no,p22.2))) fun p24=>bnd (gd v20 false (bnd (aun .not p24.1) fun v25=>some (v25,p24.2)) (some (.no,p24.2))) fun p26=>bnd (C4 v20 (.c (.b true)) p26.1) fun v27=>bnd (gd v27 false (bnd (A3 h19 2 (.c (.p (p12.2.length + 0) 0))) fun v28=>some (v28,p26.2)) (some (.no,p26.2))) fun p29=>bnd (gd v27 false (bnd (quiet p29.2 (A1T [p29.1] p29.2)) fun p30=>some (p30.1,p30.2)) (some (.no,p29.2))) fun p31=>bnd (gd v27 false (bnd (P8 p31.2 p31.1) fun v32=>some (v32,p31.2)) (some (.no,p31.2))) fun p33=>bnd (gd v27 false (bnd (A3 h19 256 x2) fun v34=>some (v34,p33.2)) (some (.no,p33.2))) fun p35=>bnd (gd v27 false (some (x1,p35.2)) (some (.no,p35.2))) fun p36=>bnd (gd v27 false (bnd (quiet p36.2 (A0D [p36.1] p36.2)) fun p37=>some (p37.1,p37.2)) (some (.no,p36.2))) fun p38=>bnd (gd v27 false (bnd (quiet p38.2 (A0M [p35.1,p38.1,.c (.i .i64 32)] p38.2)) fun p39=>some (p39.1,p39.2)) (some (.no,p38.2))) fun p40=>bnd (gd v27 false (bnd (P8 p40.2 p40.1) fun v41=>some (v41,p40.2)) (some (.no,p40.2))) fun p42=>bnd (gd v27 false (bnd (A2 .neq p33.1 p42.1) fun v43=>some (v43,p42.2)) (some (.no,p42.2))) fun p44=>bnd (C4 v27 (.c (.b true)) p44.1) fun v45=>cnd v45 (bnd (A8 ([.s [],.i .i64 0]) []) fun c46=>bnd (B6 p44.2 2 x4 (.a c46)) fun h47=>C7 [A3 h47 2 x4,some (.c (.b false))] h47) (bnd (A3 p44.2 2 (.c (.p (p12.2.length + 0) 0))) fun v48=>bnd (B6 p44.2 2 x4 v48) fun h49=>C7 [A3 h49 2 x4,some (.c (.b true))] h49)):=by kernel_rfl
theorem K_bucket_read:FnK Tryz.prog 224 A_bucket_read A3L A6g:=.mk' (A9 B4u (A9 C6o (A9 A7t (A9 B4v (A9 B4x (A9 B1z C1)))))) Tryz.func224 (by kernel_rfl) (fun _ _ _=>C0)
def A1S:Fun:=tidy (Lim A_bucket_read A3L)
theorem B4w:SOk Tryz.prog 224 A1S:=K_bucket_read.sok
theorem C4g:D1 A6g A1S:=K_bucket_read.flat
def B5L:ACode:=.seq [5] (.ops [aO 12 (.load1 (.t 3)),aO 13 (.un .not (.t 12)),aO 5 (.mv (.t 13))]) .ret
def A_bucket_Find_1:AFn:=⟨.seq [1,2,3,4] (.ops [aO 4 (.box (.t 0)),aO 5 (.mv (.v (.c (.b false))))]) (.seq [3] (.seq [2,3,4,10] (.ops [aO 6 (.fAddr (.t 4) 1),aO 7 (.fAddr (.t 6) 0),aO 8 (.load1 (.t 7)),aO 9 (.load1 (.t 1)),aO 10 (.bin .eql (.t 8) (.t 9))]) (.cond (.t 10) (.ops [aO 11 (.loadN 3 (.t 4)),aN (.storeN 3 (.t 2) (.t 11)),aN (.store1 (.t 3) (.v (.c (.b true))))]) .skip)) B5L),[.tmp 5]⟩
def A59:B3:=B8
def B1X (n:Nat) (x3:Val) (h:A0):A6:=hold ((ax A59 n B5L) A_bucket_Find_1.fin [(3,x3)] h)
def B0L (n:Nat) (args:List Val) (h:A0):A6:=ax A59 n A_bucket_Find_1.code A_bucket_Find_1.fin (params 0 args) h
theorem B4m (n:Nat) (a0 a1 a2 a3:Val) (h:A0):B0L n [a0,a1,a2,a3] h=bnd (cells? a0) fun c1=>bnd (B7 (.c (.p h.length 0)) 1) fun v2=>bnd (B7 v2 0) fun v3=>bnd (A5 (h ++ [some (Row.mk (c1) true)]) v3) fun v4=>bnd (A5 (h ++ [some (Row.mk (c1) true)]) a1) fun v5=>bnd (A2 .eql v4 v5) fun v6=>cnd v6 (bnd (A3 (h ++ [some (Row.mk (c1) true)]) 3 (.c (.p h.length 0))) fun v7=>bnd (B6 (h ++ [some (Row.mk (c1) true)]) 3 a2 v7) fun h8=>bnd (F9 h8 a3 (.c (.b true))) fun h9=>B1X n a3 h9) (B1X n a3 (h ++ [some (Row.mk (c1) true)])):=by kernel_rfl
theorem B5M (n:Nat) (x3:Val) (h:A0):B1X n x3 h=bnd (A5 h x3) fun v10=>bnd (aun .not v10) fun v11=>some (v11,h):=by kernel_rfl
theorem K_bucket_Find_1:FnK Tryz.prog 153 A_bucket_Find_1 A59 B0L:=.mk' (C1) Tryz.func153 (by kernel_rfl) (fun _ _ _=>C0)
def A20:Fun:=Lim A_bucket_Find_1 A59
theorem C31:SOk Tryz.prog 153 A20:=K_bucket_Find_1.ok
theorem B4r:OfT B0L A20:=K_bucket_Find_1.of
def B5W:ACode:=.seq [1,2,7,8] (.ops [aO 8 (.bin .lss (.t 7) (.v (.c (.i .i64 7))))]) (.seq [1,2,7] (.cond (.t 8) .skip (.exit 0)) (.seq [1,2,7] (.block 1 (.seq [1,2,4,7] (.ops [aO 9 (.mv (.t 7)),aO 4 (.mv (.t 9))]) (.seq [1,2,4,5,6,7] (.ops [aO 11 (.loadN 256 (.t 2)),aO 12 (.mv (.t 4)),aO 13 (.call 224 [(.t 11),(.t 12)]),aO 10 (.mv (.t 13)),aO 14 (.ext (.t 10) 0),aO 15 (.ext (.t 10) 1),aO 5 (.alloc ([.s [],.i .i64 0])),aN (.storeN 2 (.t 5) (.t 14)),aO 6 (.mv (.t 15))]) (.seq [1,2,7,24] (.ops [aO 16 (.mv (.t 6)),aO 17 (.mv (.t 16)),aG 18 17 true (.mv (.t 1)),aG 19 17 true (.mv (.t 4)),aG 20 17 true (.loadN 2 (.t 5)),aG 21 17 true (.build ([.i .i64 0,.s [],.i .i64 0]) [(0,1,(.t 19)),(1,2,(.t 20))]),aG 22 17 true (.callV (.t 18) [(.t 21)]),aG 23 17 true (.un .not (.t 22)),aO 24 (.pick (.t 17) (.t 23) (.v (.c (.b false))))]) (.cond (.t 24) .ret .skip))))) (.ops [aO 25 (.bin .add (.t 7) (.v (.c (.i .i64 1)))),aO 7 (.mv (.t 25))])))
def A_bucket_each__Find_1:AFn:=⟨.seq [1,2] (.ops [aO 2 (.box (.t 0))]) (.seq [1,2,7] (.ops [aO 7 (.mv (.v (.c (.i .i64 0))))]) (.block 0 (.loop [1,2,7] B5W))),[]⟩
def A2V:B3:=A7 224 A1S (A7 153 A20 B8)
def C7K (n:Nat):B4 (Val × A0):=D6 0 A_bucket_each__Find_1.fin
def A7M (n m:Nat) (x1 x2 x7:Val) (h:A0):A6:=C8 (ax A2V n B5W) [1,2,7] (C7K n) m [(1,x1),(2,x2),(7,x7)] h
def B0N (n:Nat) (args:List Val) (h:A0):A6:=ax A2V n A_bucket_each__Find_1.code A_bucket_each__Find_1.fin (params 0 args) h
theorem C2i (n:Nat) (a0 a1:Val) (h:A0):B0N n [a0,a1] h=bnd (cells? a0) fun c1=>A7M n n a1 (.c (.p h.length 0)) (.c (.i .i64 0)) (h ++ [some (Row.mk (c1) true)]):=by kernel_rfl
theorem B5X (n m:Nat) (x1 x2 x7:Val) (h:A0):A7M n (m + 1) x1 x2 x7 h=bnd (A2 .lss x7 (.c (.i .i64 7))) fun v2=>cnd v2 (bnd (A3 h 256 x2) fun v3=>bnd (A1S [v3,x7] h) fun p4=>bnd (C5 p4.1 0) fun v5=>bnd (C5 p4.1 1) fun v6=>bnd (B6 (p4.2 ++ [some (Row.mk ([.s [],.i .i64 0]) true)]) 2 (.c (.p p4.2.length 0)) v5) fun h7=>bnd (gd v6 true (some (x1,h7)) (some (.no,h7))) fun p8=>bnd (gd v6 true (some (x7,p8.2)) (some (.no,p8.2))) fun p9=>bnd (gd v6 true (bnd (A3 p9.2 2 (.c (.p p4.2.length 0))) fun v10=>some (v10,p9.2)) (some (.no,p9.2))) fun p11=>bnd (gd v6 true (bnd (A8 ([.i .i64 0,.s [],.i .i64 0]) [(0,1,p9.1),(1,2,p11.1)]) fun c12=>some ((.a c12),p11.2)) (some (.no,p11.2))) fun p13=>bnd (gd v6 true (bnd (O7 A2V p8.1 [p13.1] p13.2) fun p14=>some (p14.1,p14.2)) (some (.no,p13.2))) fun p15=>bnd (gd v6 true (bnd (aun .not p15.1) fun v16=>some (v16,p15.2)) (some (.no,p15.2))) fun p17=>bnd (C4 v6 p17.1 (.c (.b false))) fun v18=>cnd v18 (C7 [] p17.2) (bnd (A2 .add x7 (.c (.i .i64 1))) fun v19=>A7M n m x1 x2 v19 p17.2)) (C7 [] h):=by kernel_rfl
theorem K_bucket_each__Find_1:FnK Tryz.prog 152 A_bucket_each__Find_1 A2V B0N:=.mk' (A9 B4w (A9 C31 C1)) Tryz.func152 (by kernel_rfl) (fun _ _ _=>C0)
def A4n:Fun:=Lim A_bucket_each__Find_1 A2V
theorem C39:SOk Tryz.prog 152 A4n:=K_bucket_each__Find_1.ok
theorem C38:OfT B0N A4n:=K_bucket_each__Find_1.of
def A_bucket_Find:AFn:=⟨.seq [2,3,4] (.ops [aO 2 (.box (.t 0)),aO 3 (.box (.t 1)),aO 4 (.alloc ([.i .i64 0,.s [],.i .i64 0])),aO 5 (.mv (.v (.c (.b false))))]) (.seq [2,3,4,6] (.ops [aO 6 (.alloc ([.i .i64 0,.s [],.i .i64 0]))]) (.seq [2,3,4,6,7] (.ops [aO 7 (.alloc ([.b false])),aN (.store1 (.t 7) (.v (.c (.b false))))]) (.seq [4,6,7] (.ops [aO 8 (.loadN 256 (.t 2)),aO 9 (.mkf 153 [(.t 3),(.t 6),(.t 7)]),aO 10 (.call 152 [(.t 8),(.t 9)])]) (.seq [4,5] (.drawS 0 [aO 11 (.loadN 3 (.t 6)),aO 12 (.load1 (.t 7))] (aN (.storeN 3 (.t 4) (.t 11))) [(12,.load1 (.t 7))] [aO 5 (.mv (.t 12))]) .ret)))),[.cellN 4 3,.tmp 5]⟩
def A9I:B3:=A7 152 A4n B8
def A6b (n:Nat) (args:List Val) (h:A0):A6:=ax A9I n A_bucket_Find.code A_bucket_Find.fin (params 0 args) h
theorem C2f (n:Nat) (a0 a1:Val) (h:A0):A6b n [a0,a1] h=bnd (cells? a0) fun c1=>bnd (cells? a1) fun c2=>bnd (F9 (((((h ++ [some (Row.mk (c1) true)]) ++ [some (Row.mk (c2) true)]) ++ [some (Row.mk ([.i .i64 0,.s [],.i .i64 0]) true)]) ++ [some (Row.mk ([.i .i64 0,.s [],.i .i64 0]) true)]) ++ [some (Row.mk ([.b false]) true)]) (.c (.p ((((h ++ [some (Row.mk (c1) true)]) ++ [some (Row.mk (c2) true)]) ++ [some (Row.mk ([.i .i64 0,.s [],.i .i64 0]) true)]) ++ [some (Row.mk ([.i .i64 0,.s [],.i .i64 0]) true)]).length 0)) (.c (.b false))) fun h3=>bnd (A3 h3 256 (.c (.p h.length 0))) fun v4=>bnd (X5 153 [(.c (.p (h ++ [some (Row.mk (c1) true)]).length 0)),(.c (.p (((h ++ [some (Row.mk (c1) true)]) ++ [some (Row.mk (c2) true)]) ++ [some (Row.mk ([.i .i64 0,.s [],.i .i64 0]) true)]).length 0)),(.c (.p ((((h ++ [some (Row.mk (c1) true)]) ++ [some (Row.mk (c2) true)]) ++ [some (Row.mk ([.i .i64 0,.s [],.i .i64 0]) true)]) ++ [some (Row.mk ([.i .i64 0,.s [],.i .i64 0]) true)]).length 0))]) fun v5=>bnd (A4n [v4,v5] h3) fun p6=>bnd (A3 p6.2 3 (.c (.p (((h ++ [some (Row.mk (c1) true)]) ++ [some (Row.mk (c2) true)]) ++ [some (Row.mk ([.i .i64 0,.s [],.i .i64 0]) true)]).length 0))) fun v7=>bnd (A5 p6.2 (.c (.p ((((h ++ [some (Row.mk (c1) true)]) ++ [some (Row.mk (c2) true)]) ++ [some (Row.mk ([.i .i64 0,.s [],.i .i64 0]) true)]) ++ [some (Row.mk ([.i .i64 0,.s [],.i .i64 0]) true)]).length 0))) fun v8=>bnd (B6 (p6.2 ++ []) 3 (.c (.p ((h ++ [some (Row.mk (c1) true)]) ++ [some (Row.mk (c2) true)]).length 0)) v7) fun h9=>agn (A5 h9 (.c (.p ((((h ++ [some (Row.mk (c1) true)]) ++ [some (Row.mk (c2) true)]) ++ [some (Row.mk ([.i .i64 0,.s [],.i .i64 0]) true)]) ++ [some (Row.mk ([.i .i64 0,.s [],.i .i64 0]) true)]).length 0))) v8 <| C7 [A3 h9 3 (.c (.p ((h ++ [some (Row.mk (c1) true)]) ++ [some (Row.mk (c2) true)]).length 0)),some v8] h9:=by kernel_rfl
theorem K_bucket_Find:FnK Tryz.prog 73 A_bucket_Find A9I A6b:=.mk' (A9 C39 C1) Tryz.func73 (by kernel_rfl) (fun _ _ _=>C0)
def A1Q:Fun:=tidy (Lim A_bucket_Find A9I)
theorem B4s:SOk Tryz.prog 73 A1Q:=K_bucket_Find.sok
theorem C32:D1 A6b A1Q:=K_bucket_Find.flat
def B5P:ACode:=.seq [0,2,4,16,17,18,19] (.ops [aO 19 (.bin .lss (.t 18) (.t 17))]) (.seq [0,2,4,16,17,18] (.cond (.t 19) .skip (.exit 0)) (.seq [0,2,4,16,17,18] (.block 1 (.seq [0,2,4,5,6,16,17,18] (.ops [aO 20 (.mv (.t 18)),aO 21 (.iAddrL 2 (.t 16) (.t 18)),aO 22 (.loadN 2 (.t 21)),aO 6 (.alloc ([.s [],.i .i64 0])),aO 5 (.mv (.t 20)),aN (.storeN 2 (.t 6) (.t 22))]) (.seq [0,2,4,5,6,16,17,18] (.seq [0,2,4,5,6,16,17,18,25] (.ops [aO 23 (.loadN 2 (.t 6)),aO 24 (.call 218 [(.t 23)]),aO 25 (.un .not (.t 24))]) (.cond (.t 25) (.seq [2,3] (.ops [aO 26 (.build (List.replicate 256 (.i .u8 0)) []),aN (.storeN 256 (.t 2) (.t 26)),aO 3 (.mv (.v (.c (.i .i64 1))))]) .ret) .skip)) (.draw 0 [aO 27 (.loadN 256 (.t 4)),aO 28 (.mv (.t 5)),aO 29 (.call 219 [(.t 28)]),aO 30 (.loadN 2 (.t 6)),aO 31 (.call 220 [(.t 30)])] [aO 32 (.call 215 [(.t 27),(.t 29),(.t 31)]),aN (.storeN 256 (.t 4) (.t 32))])))) (.ops [aO 33 (.bin .add (.t 18) (.v (.c (.i .i64 1)))),aO 18 (.mv (.t 33))])))
def B5R:ACode:=.seq [2,4,34,35,36,37] (.ops [aO 37 (.bin .lss (.t 36) (.t 35))]) (.seq [2,4,34,35,36] (.cond (.t 37) .skip (.exit 2)) (.seq [2,4,34,35,36] (.block 3 (.seq [2,4,7,8,34,35,36] (.ops [aO 38 (.mv (.t 36)),aO 39 (.iAddrL 2 (.t 34) (.t 36)),aO 40 (.loadN 2 (.t 39)),aO 8 (.alloc ([.s [],.i .i64 0])),aO 7 (.mv (.t 38)),aN (.storeN 2 (.t 8) (.t 40))]) (.seq [2,4,7,9,34,35,36] (.ops [aO 42 (.loadN 256 (.t 4)),aO 43 (.fAddr (.t 8) 0),aO 44 (.load1 (.t 43)),aO 45 (.call 73 [(.t 42),(.t 44)]),aO 41 (.mv (.t 45)),aO 46 (.ext (.t 41) 0),aO 47 (.ext (.t 41) 1),aO 9 (.alloc ([.i .i64 0,.s [],.i .i64 0])),aN (.storeN 3 (.t 9) (.t 46)),aO 10 (.mv (.t 47))]) (.seq [2,4,34,35,36,51] (.ops [aO 48 (.fAddr (.t 9) 0),aO 49 (.load1 (.t 48)),aO 50 (.mv (.t 7)),aO 51 (.bin .neq (.t 49) (.t 50))]) (.cond (.t 51) (.seq [2,3] (.ops [aO 52 (.build (List.replicate 256 (.i .u8 0)) []),aN (.storeN 256 (.t 2) (.t 52)),aO 3 (.mv (.v (.c (.i .i64 5))))]) .ret) .skip))))) (.ops [aO 53 (.bin .add (.t 36) (.v (.c (.i .i64 1)))),aO 36 (.mv (.t 53))])))
def B5S:ACode:=.seq [2,3] (.ops [aO 54 (.loadN 256 (.t 4)),aN (.storeN 256 (.t 2) (.t 54)),aO 3 (.mv (.v (.c (.i .i64 0))))]) .ret
def B5Q:ACode:=.seq [2,4] (.seq [2,4,34,35,36] (.ops [aO 34 (.mv (.t 0)),aO 35 (.len (.t 34)),aO 36 (.mv (.v (.c (.i .i64 0))))]) (.block 2 (.loop [2,4,34,35,36] B5R))) B5S
def A_bucket_New:AFn:=⟨.seq [0,2] (.ops [aO 2 (.alloc (List.replicate 256 (.i .u8 0))),aO 3 (.mv (.v (.c (.i .i64 0))))]) (.seq [0,2] (.seq [0,2,13] (.ops [aO 11 (.mv (.t 0)),aO 12 (.len (.t 11)),aO 13 (.bin .gtr (.t 12) (.v (.c (.i .i64 7))))]) (.cond (.t 13) (.seq [2,3] (.ops [aO 14 (.build (List.replicate 256 (.i .u8 0)) []),aN (.storeN 256 (.t 2) (.t 14)),aO 3 (.mv (.v (.c (.i .i64 11))))]) .ret) .skip)) (.seq [0,2,4] (.ops [aO 15 (.call 217 []),aO 4 (.alloc (List.replicate 256 (.i .u8 0))),aN (.storeN 256 (.t 4) (.t 15))]) (.seq [0,2,4] (.seq [0,2,4,16,17,18] (.ops [aO 16 (.mv (.t 0)),aO 17 (.len (.t 16)),aO 18 (.mv (.v (.c (.i .i64 0))))]) (.block 0 (.loop [0,2,4,16,17,18] B5P))) B5Q))),[.cellN 2 256,.tmp 3]⟩
def A1G:B3:=A7 217 A4p (A7 218 A1R (A7 219 A0D (A7 220 A1T (A7 215 A0N (A7 73 A1Q B8)))))
def C7G (n:Nat):B4 (Val × A0):=E5 [0,2,4] (ax A1G n B5Q) A_bucket_New.fin
def C7H (n:Nat):B4 (Val × A0):=D6 0 (C7G n)
def A7K (n m:Nat) (x0 x2 x4 x16 x17 x18:Val) (h:A0):A6:=C8 (ax A1G n B5P) [0,2,4,16,17,18] (C7H n) m [(0,x0),(2,x2),(4,x4),(16,x16),(17,x17),(18,x18)] h
def A6c (n:Nat) (args:List Val) (h:A0):A6:=ax A1G n A_bucket_New.code A_bucket_New.fin (params 0 args) h
def C7I (n:Nat):B4 (Val × A0):=E5 [2,4] (ax A1G n B5S) A_bucket_New.fin
def C7J (n:Nat):B4 (Val × A0):=D6 2 (C7I n)
def A7L (n m:Nat) (x2 x4 x34 x35 x36:Val) (h:A0):A6:=C8 (ax A1G n B5R) [2,4,34,35,36] (C7J n) m [(2,x2),(4,x4),(34,x34),(35,x35),(36,x36)] h
theorem C2h (n:Nat) (a0:Val) (h:A0):A6c n [a0] h=bnd (E3 a0) fun v1=>bnd (A2 .gtr v1 (.c (.i .i64 7))) fun v2=>cnd v2 (bnd (A8 (List.replicate 256 (.i .u8 0)) []) fun c3=>bnd (B6 (h ++ [some (Row.mk (List.replicate 256 (.i .u8 0)) true)]) 256 (.c (.p h.length 0)) (.a c3)) fun h4=>C7 [A3 h4 256 (.c (.p h.length 0)),some (.c (.i .i64 11))] h4) (bnd (A4p [] (h ++ [some (Row.mk (List.replicate 256 (.i .u8 0)) true)])) fun p5=>bnd (B6 (p5.2 ++ [some (Row.mk (List.replicate 256 (.i .u8 0)) true)]) 256 (.c (.p p5.2.length 0)) p5.1) fun h6=>bnd (E3 a0) fun v7=>A7K n n a0 (.c (.p h.length 0)) (.c (.p p5.2.length 0)) a0 v7 (.c (.i .i64 0)) h6):=by kernel_rfl
theorem B5U (n m:Nat) (x0 x2 x4 x16 x17 x18:Val) (h:A0):A7K n (m + 1) x0 x2 x4 x16 x17 x18 h=bnd (A2 .lss x18 x17) fun v8=>cnd v8 (bnd (B9 2 x16 x18) fun v9=>bnd (A3 h 2 v9) fun v10=>bnd (B6 (h ++ [some (Row.mk ([.s [],.i .i64 0]) true)]) 2 (.c (.p h.length 0)) v10) fun h11=>bnd (A3 h11 2 (.c (.p h.length 0))) fun v12=>bnd (A1R [v12] h11) fun p13=>bnd (aun .not p13.1) fun v14=>cnd v14 (bnd (A8 (List.replicate 256 (.i .u8 0)) []) fun c15=>bnd (B6 p13.2 256 x2 (.a c15)) fun h16=>C7 [A3 h16 256 x2,some (.c (.i .i64 1))] h16) (bnd (A3 p13.2 256 x4) fun v17=>bnd (quiet (p13.2 ++ []) (A0D [x18] (p13.2 ++ []))) fun p18=>bnd (A3 p13.2 2 (.c (.p h.length 0))) fun v19=>bnd (quiet p18.2 (A1T [v19] p18.2)) fun p20=>bnd (A0N [v17,p18.1,p20.1] p20.2) fun p21=>bnd (B6 p21.2 256 x4 p21.1) fun h22=>bnd (A2 .add x18 (.c (.i .i64 1))) fun v23=>A7K n m x0 x2 x4 x16 x17 v23 h22)) (bnd (E3 x0) fun v24=>A7L n n x2 x4 x0 v24 (.c (.i .i64 0)) h):=by kernel_rfl
theorem B5V (n m:Nat) (x2 x4 x34 x35 x36:Val) (h:A0):A7L n (m + 1) x2 x4 x34 x35 x36 h=bnd (A2 .lss x36 x35) fun v25=>cnd v25 (bnd (B9 2 x34 x36) fun v26=>bnd (A3 h 2 v26) fun v27=>bnd (B6 (h ++ [some (Row.mk ([.s [],.i .i64 0]) true)]) 2 (.c (.p h.length 0)) v27) fun h28=>bnd (A3 h28 256 x4) fun v29=>bnd (B7 (.c (.p h.length 0)) 0) fun v30=>bnd (A5 h28 v30) fun v31=>bnd (A1Q [v29,v31] h28) fun p32=>bnd (C5 p32.1 0) fun v33=>bnd (C5 p32.1 1) fun v34=>bnd (B6 (p32.2 ++ [some (Row.mk ([.i .i64 0,.s [],.i .i64 0]) true)]) 3 (.c (.p p32.2.length 0)) v33) fun h35=>bnd (B7 (.c (.p p32.2.length 0)) 0) fun v36=>bnd (A5 h35 v36) fun v37=>bnd (A2 .neq v37 x36) fun v38=>cnd v38 (bnd (A8 (List.replicate 256 (.i .u8 0)) []) fun c39=>bnd (B6 h35 256 x2 (.a c39)) fun h40=>C7 [A3 h40 256 x2,some (.c (.i .i64 5))] h40) (bnd (A2 .add x36 (.c (.i .i64 1))) fun v41=>A7L n m x2 x4 x34 x35 v41 h35)) (bnd (A3 h 256 x4) fun v42=>bnd (B6 h 256 x2 v42) fun h43=>C7 [A3 h43 256 x2,some (.c (.i .i64 0))] h43):=by kernel_rfl
theorem K_bucket_New:FnK Tryz.prog 139 A_bucket_New A1G A6c:=.mk' (A9 C4e (A9 B4v (A9 B4u (A9 B4x (A9 B1A (A9 B4s C1)))))) Tryz.func139 (by kernel_rfl) (fun _ _ _=>C0)
def A21:Fun:=tidy (Lim A_bucket_New A1G)
theorem C37:SOk Tryz.prog 139 A21:=K_bucket_New.sok
theorem C36:D1 A6c A21:=K_bucket_New.flat
def A_bucket_List_1:AFn:=⟨.seq [1,2] (.ops [aO 2 (.box (.t 0)),aO 3 (.mv (.v (.c (.b false))))]) (.seq [] (.ops [aO 4 (.load1 (.t 1)),aO 5 (.loadN 3 (.t 2)),aO 6 (.buildSl 3 1 (([.i .i64 0,.s [],.i .i64 0])) [(0,3,(.t 5))]),aO 7 (.app 3 (.t 4) (.t 6)),aN (.store1 (.t 1) (.t 7))]) (.seq [3] (.ops [aO 3 (.mv (.v (.c (.b true))))]) .ret)),[.tmp 3]⟩
def A9K:B3:=B8
def B0M (n:Nat) (args:List Val) (h:A0):A6:=ax A9K n A_bucket_List_1.code A_bucket_List_1.fin (params 0 args) h
theorem B4n (n:Nat) (a0 a1:Val) (h:A0):B0M n [a0,a1] h=bnd (cells? a0) fun c1=>bnd (A5 (h ++ [some (Row.mk (c1) true)]) a1) fun v2=>bnd (A3 (h ++ [some (Row.mk (c1) true)]) 3 (.c (.p h.length 0))) fun v3=>bnd (A8 (([.i .i64 0,.s [],.i .i64 0])) [(0,3,v3)]) fun c4=>bnd (E7 ((h ++ [some (Row.mk (c1) true)]) ++ [some (Row.mk (c4) true)]) 3 v2 (.c (.sl (h ++ [some (Row.mk (c1) true)]).length 0 1 3))) fun p5=>bnd (F9 p5.2 a1 p5.1) fun h6=>some ((.c (.b true)),h6):=by kernel_rfl
theorem K_bucket_List_1:FnK Tryz.prog 163 A_bucket_List_1 A9K B0M:=.mk' (C1) Tryz.func163 (by kernel_rfl) (fun _ _ _=>C0)
def A4m:Fun:=Lim A_bucket_List_1 A9K
theorem C33:SOk Tryz.prog 163 A4m:=K_bucket_List_1.ok
theorem B4t:OfT B0M A4m:=K_bucket_List_1.of
def B5Y:ACode:=.seq [1,2,7,8] (.ops [aO 8 (.bin .lss (.t 7) (.v (.c (.i .i64 7))))]) (.seq [1,2,7] (.cond (.t 8) .skip (.exit 0)) (.seq [1,2,7] (.block 1 (.seq [1,2,4,7] (.ops [aO 9 (.mv (.t 7)),aO 4 (.mv (.t 9))]) (.seq [1,2,4,5,6,7] (.ops [aO 11 (.loadN 256 (.t 2)),aO 12 (.mv (.t 4)),aO 13 (.call 224 [(.t 11),(.t 12)]),aO 10 (.mv (.t 13)),aO 14 (.ext (.t 10) 0),aO 15 (.ext (.t 10) 1),aO 5 (.alloc ([.s [],.i .i64 0])),aN (.storeN 2 (.t 5) (.t 14)),aO 6 (.mv (.t 15))]) (.seq [1,2,7,24] (.ops [aO 16 (.mv (.t 6)),aO 17 (.mv (.t 16)),aG 18 17 true (.mv (.t 1)),aG 19 17 true (.mv (.t 4)),aG 20 17 true (.loadN 2 (.t 5)),aG 21 17 true (.build ([.i .i64 0,.s [],.i .i64 0]) [(0,1,(.t 19)),(1,2,(.t 20))]),aG 22 17 true (.callV (.t 18) [(.t 21)]),aG 23 17 true (.un .not (.t 22)),aO 24 (.pick (.t 17) (.t 23) (.v (.c (.b false))))]) (.cond (.t 24) .ret .skip))))) (.ops [aO 25 (.bin .add (.t 7) (.v (.c (.i .i64 1)))),aO 7 (.mv (.t 25))])))
def A_bucket_each__List_1:AFn:=⟨.seq [1,2] (.ops [aO 2 (.box (.t 0))]) (.seq [1,2,7] (.ops [aO 7 (.mv (.v (.c (.i .i64 0))))]) (.block 0 (.loop [1,2,7] B5Y))),[]⟩
def A2W:B3:=A7 224 A1S (A7 163 A4m B8)
def C7L (n:Nat):B4 (Val × A0):=D6 0 A_bucket_each__List_1.fin
def A7N (n m:Nat) (x1 x2 x7:Val) (h:A0):A6:=C8 (ax A2W n B5Y) [1,2,7] (C7L n) m [(1,x1),(2,x2),(7,x7)] h
def B0O (n:Nat) (args:List Val) (h:A0):A6:=ax A2W n A_bucket_each__List_1.code A_bucket_each__List_1.fin (params 0 args) h
theorem C2j (n:Nat) (a0 a1:Val) (h:A0):B0O n [a0,a1] h=bnd (cells? a0) fun c1=>A7N n n a1 (.c (.p h.length 0)) (.c (.i .i64 0)) (h ++ [some (Row.mk (c1) true)]):=by kernel_rfl
theorem B5Z (n m:Nat) (x1 x2 x7:Val) (h:A0):A7N n (m + 1) x1 x2 x7 h=bnd (A2 .lss x7 (.c (.i .i64 7))) fun v2=>cnd v2 (bnd (A3 h 256 x2) fun v3=>bnd (A1S [v3,x7] h) fun p4=>bnd (C5 p4.1 0) fun v5=>bnd (C5 p4.1 1) fun v6=>bnd (B6 (p4.2 ++ [some (Row.mk ([.s [],.i .i64 0]) true)]) 2 (.c (.p p4.2.length 0)) v5) fun h7=>bnd (gd v6 true (some (x1,h7)) (some (.no,h7))) fun p8=>bnd (gd v6 true (some (x7,p8.2)) (some (.no,p8.2))) fun p9=>bnd (gd v6 true (bnd (A3 p9.2 2 (.c (.p p4.2.length 0))) fun v10=>some (v10,p9.2)) (some (.no,p9.2))) fun p11=>bnd (gd v6 true (bnd (A8 ([.i .i64 0,.s [],.i .i64 0]) [(0,1,p9.1),(1,2,p11.1)]) fun c12=>some ((.a c12),p11.2)) (some (.no,p11.2))) fun p13=>bnd (gd v6 true (bnd (O7 A2W p8.1 [p13.1] p13.2) fun p14=>some (p14.1,p14.2)) (some (.no,p13.2))) fun p15=>bnd (gd v6 true (bnd (aun .not p15.1) fun v16=>some (v16,p15.2)) (some (.no,p15.2))) fun p17=>bnd (C4 v6 p17.1 (.c (.b false))) fun v18=>cnd v18 (C7 [] p17.2) (bnd (A2 .add x7 (.c (.i .i64 1))) fun v19=>A7N n m x1 x2 v19 p17.2)) (C7 [] h):=by kernel_rfl
theorem K_bucket_each__List_1:FnK Tryz.prog 152 A_bucket_each__List_1 A2W B0O:=.mk' (A9 B4w (A9 C33 C1)) Tryz.func152 (by kernel_rfl) (fun _ _ _=>C0)
def A4o:Fun:=Lim A_bucket_each__List_1 A2W
theorem C4b:SOk Tryz.prog 152 A4o:=K_bucket_each__List_1.ok
theorem C4a:OfT B0O A4o:=K_bucket_each__List_1.of
def A_bucket_List:AFn:=⟨.seq [1] (.ops [aO 1 (.box (.t 0)),aO 2 (.nilrow 3)]) (.seq [1,3] (.ops [aO 3 (.alloc ([.ns]))]) (.seq [3] (.ops [aO 4 (.loadN 256 (.t 1)),aO 5 (.mkf 163 [(.t 3)]),aO 6 (.call 152 [(.t 4),(.t 5)])]) (.seq [2] (.ops [aO 7 (.load1 (.t 3)),aO 2 (.mv (.t 7))]) .ret))),[.tmp 2]⟩
def A9J:B3:=A7 152 A4o B8
def A4k (n:Nat) (args:List Val) (h:A0):A6:=ax A9J n A_bucket_List.code A_bucket_List.fin (params 0 args) h
theorem C2g (n:Nat) (a0:Val) (h:A0):A4k n [a0] h=bnd (cells? a0) fun c1=>bnd (A3 (((h ++ [some (Row.mk (c1) true)]) ++ [some (Row.mk ([]) true)]) ++ [some (Row.mk ([.ns]) true)]) 256 (.c (.p h.length 0))) fun v2=>bnd (X5 163 [(.c (.p ((h ++ [some (Row.mk (c1) true)]) ++ [some (Row.mk ([]) true)]).length 0))]) fun v3=>bnd (A4o [v2,v3] (((h ++ [some (Row.mk (c1) true)]) ++ [some (Row.mk ([]) true)]) ++ [some (Row.mk ([.ns]) true)])) fun p4=>bnd (A5 p4.2 (.c (.p ((h ++ [some (Row.mk (c1) true)]) ++ [some (Row.mk ([]) true)]).length 0))) fun v5=>some (v5,p4.2):=by kernel_rfl
theorem K_bucket_List:FnK Tryz.prog 88 A_bucket_List A9J A4k:=.mk' (A9 C4b C1) Tryz.func88 (by kernel_rfl) (fun _ _ _=>C0)
def Z2:Fun:=tidy (Lim A_bucket_List A9J)
theorem B1m:SOk Tryz.prog 88 Z2:=K_bucket_List.sok
theorem C34:B0K A4k Z2:=K_bucket_List.low
theorem C35:N9 A4k Z2:=K_bucket_List.out
end Go.Proofs.YteckncopbicmcaaGreat
end
section
namespace Go.Proofs.YteckncopbicmcaaGreat
open Go Go.Esc
theorem A9q {g:A0} {l l':List (Option Row)} {v:Val} {cs:List Cell} (hl:l'=l ++ [some ⟨cs,true⟩]):quiet (g ++ l) (some (v,g ++ l'))=some (v,g ++ l'):=by
  subst hl
  have:=B3N ((Grows.rfl' (h:=g ++ l)).new cs) (v:=v)
  rw [List.append_assoc] at this
  exact this
theorem D2c {g:A0} {a:Option Row} {v:Val} {cs:List Cell}:quiet (g ++ [a]) (some (v,g ++ [a,some ⟨cs,true⟩]))=some (v,g ++ [a,some ⟨cs,true⟩]):=A9q rfl
theorem D2d {g:A0} {a b:Option Row} {v:Val} {cs:List Cell}:quiet (g ++ [a,b]) (some (v,g ++ [a,b,some ⟨cs,true⟩]))=some (v,g ++ [a,b,some ⟨cs,true⟩]):=A9q rfl
theorem C0L {g:A0} {a b c d:Option Row} {v:Val} {cs:List Cell}:quiet (g ++ [a,b,c,d]) (some (v,g ++ [a,b,c,d,some ⟨cs,true⟩]))=some (v,g ++ [a,b,c,d,some ⟨cs,true⟩]):=A9q rfl
theorem C0M {g:A0} {a b c d e:Option Row} {v:Val} {cs:List Cell}:quiet (g ++ [a,b,c,d,e]) (some (v,g ++ [a,b,c,d,e,some ⟨cs,true⟩]))=some (v,g ++ [a,b,c,d,e,some ⟨cs,true⟩]):=A9q rfl
def G3 (k:Nat):Nat:=32 + 32 * k
theorem B1Y {k:Nat} {h:A0} (hk:k < 7):A0D [.c (.i .i64 (k:Int))] h=some (.c (.i .i64 (G3 k:Nat)),h):=by
  have key:∀ g,∃ g',A6d 0 [.c (.i .i64 (k:Int))] g=some (.c (.i .i64 (G3 k:Nat)),g'):=by
    intro g
    have w1:=E6 (show k + 1 < 9223372036854775808 by omega)
    have w2:IntKind.wrap .i64 (32 * ((k + 1:Nat):Int))=((G3 k:Nat):Int):=by unfold G3;rw [wrap_i64 (by omega) (by omega)];omega
    rw [C2k]
    exact ⟨_,by simp only [esc,w1,w2] <;> rfl⟩
  obtain ⟨g',e⟩:=key (ro h)
  exact C4c e rfl
def A2t:List UInt8:=[98,107,116,33]
def hdB:List UInt8:=D7 256 A2t
theorem B3c:hdB.length=256:=L5 (by decide)
theorem C7M {h:A0}:A4p [] h=some (.a (A1 hdB),h):=by
  have key:∀ g,∃ g',A6e 0 [] g=some (.a (A1 hdB),g'):=by
    intro g
    have hz:(A1 (zeros 256)).length=256:=by rw [B1];exact zeros_length
    have hd:(A1 hdB).length=256:=by rw [B1];exact B3c
    have ef:A8 [Cell.i .u8 0,.i .u8 0,.i .u8 0,.i .u8 0] [(0,1,.c (.i .u8 98)),(1,1,.c (.i .u8 107)),(2,1,.c (.i .u8 116)),(3,1,.c (.i .u8 33))]=some (A1 A2t):=rfl
    have hO:=A9f (data:=A2t) (v:=.c (.sl (g.length + 1) 0 4 1)) (nv:=4) (h:=g ++ [some (Row.mk (A1 (zeros 256)) true),some (Row.mk (A1 A2t) true)]) (Has.row (rw:=true) (by simp) rfl (K1 _)) (by decide)
    rw [A9j (by decide),show D7 256 A2t=hdB from rfl] at hO
    have hM:Q6 (g ++ [some (Row.mk (A1 (zeros 256)) true),some (Row.mk (A1 A2t) true)]) (.c (.sl (g.length + 1) 0 4 1))=some (.c (.sl (g.length + 1) 0 4 1)):=by simp [Q6]
    rw [C2l,N8]
    generalize hdB=B at *
    generalize A1 A2t=mg at *
    generalize zeros 256=z at *
    exact ⟨_,by simp only [esc,esh,Nat.reduceAdd,Nat.reduceMul,Nat.reduceLT,ef,hM,hO,hz,hd] <;> rfl⟩
  obtain ⟨g',e⟩:=key (ro h)
  exact C4d e (by simp)
def U3 (s:List UInt8) (n:Int):Bool:=Q1 s && (decide (1 ≤ n) && decide (n ≤ 128))
theorem B50 {s:List UInt8} {n:Int} {h:A0} (hs:s.length < 9223372036854775807):A1R [.a [.s s,.i .i64 n]] h=some (.c (.b (U3 s n)),h):=by
  have key:∀ g,∃ g',A6f 0 [.a [.s s,.i .i64 n]] g=some (.c (.b (U3 s n)),g'):=by
    intro g
    have hC:=fun h=>B15 hs h
    rw [C2m]
    unfold U3
    cases hf:Q1 s with
    | false =>
      rw [hf] at hC
      exact ⟨_,by simp only [esc,esh,Nat.reduceAdd,Nat.reduceMul,Nat.reduceLT,hC,Int.reduceEq] <;> rfl⟩
    | true =>
      rw [hf] at hC
      by_cases c1:1 ≤ n
      · by_cases c2:n ≤ 128
        · rw [decide_eq_true c1,decide_eq_true c2]
          exact ⟨_,by simp only [esc,esh,Nat.reduceAdd,Nat.reduceMul,Nat.reduceLT,hC,c1,c2] <;> rfl⟩
        · rw [decide_eq_true c1,decide_eq_false c2]
          exact ⟨_,by simp only [esc,esh,Nat.reduceAdd,Nat.reduceMul,Nat.reduceLT,hC,c1,c2] <;> rfl⟩
      · rw [decide_eq_false c1]
        exact ⟨_,by simp only [esc,esh,Nat.reduceAdd,Nat.reduceMul,Nat.reduceLT,hC,c1] <;> rfl⟩
  obtain ⟨g',e⟩:=key (ro h)
  exact C4f e rfl
def J1 (s:List UInt8) (n:Int):List UInt8:=B5 2 n ++ H7 s ++ [0,0,0,0,0]
theorem A1i {s:List UInt8} {n:Int}:(J1 s n).length=32:=by simp [J1,A2J]
theorem B55 {s:List UInt8} {n:Int} {h:A0} (hs:s.length < 9223372036854775807):A1T [.a [.s s,.i .i64 n]] h=some (.c (.sl h.length 0 32 1),h ++ [some ⟨A1 (J1 s n),true⟩]):=by
  have key:∀ g,∃ v g',A6h 0 [.a [.s s,.i .i64 n]] g=some (v,g') ∧ Out g.length g' v 1 32 (A1 (J1 s n)):=by
    intro g
    have e4:A2 .shr (.c (.i .i64 n)) (.c (.i .u64 8))=some (.c (.i .i64 (n / 256))):=B1F (by omega)
    have wm:∀ a:Int,IntKind.wrap .u8 a=a % 256:=fun a=>by
      simp only [IntKind.wrap,IntKind.bits,IntKind.signed,Bool.false_and]
      rfl
    have b0:IntKind.wrap .u8 n=((byI n 0).toNat:Int):=by rw [wm,A2u];simp
    have b1:IntKind.wrap .u8 (n / 256)=((byI n 1).toNat:Int):=by rw [wm,A2u];simp
    have ef:A8 [Cell.i .u8 0,.i .u8 0] [(0,1,.c (.i .u8 (byI n 0).toNat)),(1,1,.c (.i .u8 (byI n 1).toNat))]=some (A1 (B5 2 n)):=rfl
    have ef5:A8 [Cell.i .u8 0,.i .u8 0,.i .u8 0,.i .u8 0,.i .u8 0] [(0,1,.c (.i .u8 0)),(1,1,.c (.i .u8 0)),(2,1,.c (.i .u8 0)),(3,1,.c (.i .u8 0)),(4,1,.c (.i .u8 0))]=some (A1 [0,0,0,0,0]):=rfl
    have hP:=fun h=>C0v hs h
    have hpl:(A1 (H7 s)).length=25:=by rw [B1];exact A2J
    have hz:(A1 (zeros 25)).length=25:=by rw [B1];exact zeros_length
    have hA:=T2 (h:=g ++ [some (Row.mk [.s s,.i .i64 n] true),some (Row.mk [] true),some (Row.mk (A1 (B5 2 n)) true),some (Row.mk (A1 (H7 s)) true)]) (id:=g.length + 2) (jd:=g.length + 3) (n:=2) (m:=25) (sz:=1) (cs:=A1 (B5 2 n)) (ys:=A1 (H7 s)) (rw:=true) (by simp) (by simp [B1]) (by simp) (by rw [hpl]) rfl (by omega) (by omega)
    simp only [List.length_append,List.length_cons,List.length_nil,Nat.zero_add,List.append_assoc,List.cons_append,List.nil_append,A1A,List.set_cons_succ,List.set_cons_zero,Nat.reduceAdd,← W7] at hA
    have hl27:(A1 (B5 2 n ++ H7 s)).length=27 * 1:=by rw [B1,List.length_append,A0T,A2J]
    have hA2:=T2 (h:=g ++ [some (Row.mk [.s s,.i .i64 n] true),some (Row.mk [] true),none,some (Row.mk (A1 (H7 s)) true),some (Row.mk (A1 (B5 2 n ++ H7 s)) true),some (Row.mk (A1 [0,0,0,0,0]) true)]) (id:=g.length + 4) (jd:=g.length + 5) (n:=27) (m:=5) (sz:=1) (cs:=A1 (B5 2 n ++ H7 s)) (ys:=A1 [0,0,0,0,0]) (rw:=true) (by simp) hl27 (by simp) rfl rfl (by omega) (by omega)
    simp only [List.length_append,List.length_cons,List.length_nil,Nat.zero_add,List.append_assoc,List.cons_append,List.nil_append,A1A,List.set_cons_succ,List.set_cons_zero,Nat.reduceAdd,← W7] at hA2
    rw [← List.append_assoc (B5 2 n),show B5 2 n ++ H7 s ++ [0,0,0,0,0]=J1 s n from rfl] at hA2
    rw [C2o,N8]
    refine ⟨.c (.sl (g.length + 6) 0 32 1),g ++ [some (Row.mk [.s s,.i .i64 n] true),some (Row.mk [] true),none,some (Row.mk (A1 (H7 s)) true),none,some (Row.mk (A1 [0,0,0,0,0]) true),some (Row.mk (A1 (J1 s n)) true)],?_,by rw [B1,A1i],g.length + 6,rfl,by omega,?_⟩
    · generalize J1 s n=E at *
      generalize B5 2 n ++ H7 s=Q at *
      generalize A1 [0,0,0,0,0]=F at *
      generalize A1 (H7 s)=P at *
      generalize A1 (B5 2 n)=B2 at *
      generalize zeros 25=z at *
      simp only [esc,esh,Nat.reduceAdd,Nat.reduceMul,Nat.reduceLT,b0,e4,b1,ef,hP,hpl,hz,hA,ef5,hA2]
    · simp
  obtain ⟨v,g',e,ho⟩:=key (ro h)
  exact C4h e (by simpa [K4] using ho) (by simp)
end Go.Proofs.YteckncopbicmcaaGreat
end
section
namespace Go.Proofs.YteckncopbicmcaaGreat
open Go Go.Esc
def U5 (b:List UInt8) (k:Nat):List UInt8:=(b.drop (G3 k)).take 32
def nameB (b:List UInt8) (k:Nat):List UInt8:=(b.drop (G3 k + 2)).take 25
def J8 (b:List UInt8) (k:Nat):Int:=fieldN b (G3 k) 2
abbrev Ent:=List UInt8 × Int
def isE (b:List UInt8) (k:Nat) (s:List UInt8):Bool:=U3 s (J8 b k) && decide (J1 s (J8 b k)=U5 b k)
def I3 (b:List UInt8) (k:Nat):Option Ent:=(T0 (nameB b k)).bind fun s=>if isE b k s=true then some (s,J8 b k) else none
def F0:Option Ent → List Cell
  | none=>[.s [],.i .i64 0]
  | some e=>[.s e.1,.i .i64 e.2]
theorem C1D {b:List UInt8} {k:Nat} (hb:b.length=256) (hk:k < 7):(U5 b k).length=32:=by simp [U5,G3,hb];omega
theorem B3x {b:List UInt8} {k:Nat} (hb:b.length=256) (hk:k < 7):(nameB b k).length=25:=by simp [nameB,G3,hb];omega
theorem B4j {l s:List UInt8} (h:T0 l=some s):Q1 s=true:=by
  unfold T0 at h
  split at h
  · split at h
    · rename_i hc
      cases h;exact hc.1
    · cases h
  · cases h
def cpN (l:List UInt8) (i:Nat):List UInt8:=l.take i ++ zeros (25 - i)
theorem C78 {l:List UInt8} {i:Nat} (hl:l.length=25) (hi:i ≤ 25):(cpN l i).length=25:=by simp [cpN,zeros,hl];omega
theorem C79 {l:List UInt8} {i:Nat} (hl:l.length=25) (hi:i < 25):(cpN l i).set i l[i]=cpN l (i + 1):=by
  unfold cpN
  have hlen:(List.take i l).length=i:=by simp;omega
  rw [List.set_append_right _ _ (by omega),hlen,Nat.sub_self,List.take_succ_eq_append_getElem (by omega),List.append_assoc]
  refine congrArg (List.take i l ++ ·) ?_
  have e:25 - i=(25 - (i + 1)) + 1:=by omega
  rw [e]
  unfold zeros
  rw [List.replicate_succ,List.set_cons_zero];rfl
theorem C77 {l:List UInt8} (hl:l.length=25):cpN l 25=l:=by simp [cpN,zeros,List.take_of_length_le,hl]
theorem B6q {b:List UInt8} {k:Nat}:G1 b (G3 k:Nat) 32=U5 b k:=by
  unfold G1 U5
  rw [if_pos (by omega)]
  simp
theorem B5F {b:List UInt8} {k:Nat} (hk:k < 7):((atN b (G3 k:Nat) 2:Nat):Int)=J8 b k:=by
  unfold atN J8 fieldN G3
  rw [if_pos ⟨by omega,U7.2 (by omega)⟩]
  simp only [Int.toNat_natCast]
  rfl
theorem B5K {b:List UInt8} {k q:Nat} {g:A0} (hb:b.length=256) (hk:k < 7):∀ e i m:Nat,i + e=25 → e < m →
    ∃ h',A7O q m (.c (.i .i64 (k:Int))) (.c (.p g.length 0)) (.c (.p (g.length + 1) 0)) (.c (.p (g.length + 2) 0)) (.c (.i .i64 (i:Int))) (g ++ [some (Row.mk (A1 b) true),some (Row.mk [.s [],.i .i64 0] true),some (Row.mk (A1 (cpN (nameB b k) i)) true)]) =
      some (.t [.a (F0 (I3 b k)),.c (.b (I3 b k).isSome)],h')
  | e,i,0,_,hm=>by omega
  | 0,i,m + 1,hi,hm=>by
    have e0:i=25:=by omega
    subst e0
    have hnl:=B3x hb hk
    rw [C77 hnl]
    have c0:¬ ((25:Nat):Int) < 25:=by omega
    have hbl:(A1 b).length=256:=by rw [B1,hb]
    have hnc:(A1 (nameB b k)).length=25:=by rw [B1,hnl]
    have hU:=fun h=>D36 hnl h
    have hF:=fun h=>B1Y (h:=h) hk
    have hA:=fun h=>A1w (h:=h) hb (a:=(G3 k:Nat)) (w:=2)
    rw [B5F hk] at hA
    have ef:∀ (s:List UInt8) (n:Int),A8 [Cell.s [],.i .i64 0] [(0,1,.c (.s s)),(1,1,.c (.i .i64 n))]=some [.s s,.i .i64 n]:=fun _ _=>rfl
    have ef0:A8 [Cell.s [],.i .i64 0] []=some [.s [],.i .i64 0]:=rfl
    rw [B54]
    unfold I3
    cases hu:T0 (nameB b k) with
    | none =>
      rw [hu] at hU
      simp only [Option.getD_none,Option.isSome_none,Bool.false_eq_true,if_false] at hU
      generalize J8 b k=n at *
      generalize A1 (nameB b k)=z at *
      generalize A1 b=y at *
      exact ⟨_,by simp only [esc,esh,Nat.reduceAdd,Nat.reduceMul,Nat.reduceLT,c0,hbl,hnc,hU,hF,hA,ef,ef0,Int.reduceEq,Option.bind_none,F0] <;> rfl⟩
    | some s =>
      rw [hu] at hU
      simp only [Option.getD_some,Option.isSome_some,if_true] at hU
      have hfs:=(A3p (B4j hu)).2
      have hM:=fun h=>B50 (s:=s) (n:=J8 b k) (h:=h) (by omega)
      rw [Option.bind_some]
      unfold isE
      cases hm:U3 s (J8 b k) with
      | false =>
        rw [hm] at hM
        rw [Bool.false_and,if_neg (by simp)]
        generalize J8 b k=n at *
        generalize A1 (nameB b k)=z at *
        generalize A1 b=y at *
        exact ⟨_,by simp only [esc,esh,Nat.reduceAdd,Nat.reduceMul,Nat.reduceLT,c0,hbl,hnc,hU,hF,hA,ef,ef0,hM,Int.reduceEq,F0] <;> rfl⟩
      | true =>
        rw [hm] at hM
        rw [Bool.true_and]
        have hW:=fun h=>B55 (s:=s) (n:=J8 b k) (h:=h) (by omega)
        have hsl:=C1D hb hk
        have hC:=fun h=>B3D (h:=h) hb (a:=(G3 k:Nat)) (n:=32)
        rw [B6q,hsl] at hC
        have s1:=fun (c0 c1 c2 c3:Option Row)=>Has.str (l:=J1 s (J8 b k)) (Has.row (h:=g ++ [c0,c1,c2,c3,some (Row.mk (A1 (J1 s (J8 b k))) true)]) (id:=g.length + 4) (sz:=1) (n:=32) (rw:=true) (by simp) (by rw [B1,A1i]) (K1 _))
        have s2:=fun (c0 c1 c2 c3 c4:Option Row)=>Has.str (l:=U5 b k) (Has.row (h:=g ++ [c0,c1,c2,c3,c4,some (Row.mk (A1 (U5 b k)) true)]) (id:=g.length + 5) (sz:=1) (n:=32) (rw:=true) (by simp) (by rw [B1,hsl]) (K1 _))
        by_cases ce:J1 s (J8 b k)=U5 b k
        · rw [if_pos (decide_eq_true ce)]
          generalize J1 s (J8 b k)=E at *
          generalize U5 b k=L at *
          generalize J8 b k=n at *
          subst ce
          generalize A1 (nameB b k)=z at *
          generalize A1 b=y at *
          exact ⟨_,by simp only [esc,esh,Nat.reduceAdd,Nat.reduceMul,Nat.reduceLT,c0,hbl,hnc,hU,hF,hA,ef,ef0,hM,hW,C0L,s1,hC,C0M,s2,eq_self,decide_true,Int.reduceEq,F0,Option.isSome_some] <;> rfl⟩
        · rw [if_neg (by rw [decide_eq_true_eq];exact ce)]
          generalize J1 s (J8 b k)=E at *
          generalize U5 b k=L at *
          generalize J8 b k=n at *
          generalize A1 (nameB b k)=z at *
          generalize A1 b=y at *
          exact ⟨_,by simp only [esc,esh,Nat.reduceAdd,Nat.reduceMul,Nat.reduceLT,c0,hbl,hnc,hU,hF,hA,ef,ef0,hM,hW,C0L,s1,hC,C0M,s2,ce,Int.reduceEq,F0,Option.isSome_none] <;> rfl⟩
  | e + 1,i,m + 1,hi,hm=>by
    obtain ⟨h',ih⟩:=B5K (q:=q) (g:=g) hb hk e (i + 1) m (by omega) (by omega)
    have hnl:=B3x hb hk
    have c0:(i:Int) < 25:=by omega
    have hF:=fun h=>B1Y (h:=h) hk
    have hbl:(A1 b).length=256:=by rw [B1,hb]
    have hcl:(A1 (cpN (nameB b k) i)).length=25:=by rw [B1];exact C78 hnl (by omega)
    have hlt:i < (A1 (cpN (nameB b k) i)).length:=by omega
    have w1:IntKind.wrap .i64 (((G3 k:Nat):Int) + 2)=((G3 k + 2:Nat):Int):=by unfold G3;rw [wrap_i64 (by omega) (by omega)];omega
    have w2:IntKind.wrap .i64 (((G3 k + 2:Nat):Int) + (i:Int))=((G3 k + 2 + i:Nat):Int):=by unfold G3;rw [wrap_i64 (by omega) (by omega)];omega
    have hj:G3 k + 2 + i < 256:=by unfold G3;omega
    have a1:D8 256 1 (.c (.p g.length 0)) (.c (.i .i64 ((G3 k + 2 + i:Nat):Int)))=some (.c (.p g.length (G3 k + 2 + i))):=by rw [T9 hj];simp
    have a2:D8 25 1 (.c (.p (g.length + 2) 0)) (.c (.i .i64 (i:Int)))=some (.c (.p (g.length + 2) i)):=by rw [T9 (by omega)];simp
    have ei:(nameB b k)[i]'(by omega)=b[G3 k + 2 + i]'(by omega):=by simp [nameB]
    have l1:(A1 b)[G3 k + 2 + i]? = some (.i .u8 ((nameB b k)[i]'(by omega)).toNat):=by
      rw [ei];simp [A1,hb,hj]
    have hs:(A1 (cpN (nameB b k) i)).set i (.i .u8 ((nameB b k)[i]'(by omega)).toNat)=A1 (cpN (nameB b k) (i + 1)):=by rw [A0q,C79 hnl (by omega)]
    rw [B54]
    refine ⟨h',?_⟩
    generalize A1 (cpN (nameB b k) (i + 1))=z1 at *
    generalize A1 (cpN (nameB b k) i)=z at *
    generalize A1 b=y at *
    simp only [esc,esh,Nat.reduceAdd,Nat.reduceMul,Nat.reduceLT,c0,hF,w1,w2,a1,l1,a2,hlt,hs,E6 (show i + 1 < 9223372036854775808 by omega)]
    exact ih
end Go.Proofs.YteckncopbicmcaaGreat
end
section
namespace Go.Proofs.YteckncopbicmcaaGreat
open Go Go.Esc
theorem B6Y {o:Option Ent}:F4 (F0 o)=true:=by cases o <;> rfl
theorem B53 {b:List UInt8} {k:Nat} {h:A0} (hb:b.length=256) (hk:k < 7):A1S [.a (A1 b),.c (.i .i64 (k:Int))] h=some (.t [.a (F0 (I3 b k)),.c (.b (I3 b k).isSome)],h):=by
  have key:∀ N,25 < N → ∀ g,∃ g',A6g N [.a (A1 b),.c (.i .i64 (k:Int))] g=some (.t [.a (F0 (I3 b k)),.c (.b (I3 b k).isSome)],g'):=by
    intro N hN g
    obtain ⟨h',e⟩:=B5K (g:=g) (q:=N) hb hk 25 0 N (by omega) hN
    have e0:cpN (nameB b k) 0=zeros 25:=by simp [cpN]
    rw [e0] at e
    rw [C2n,N8]
    generalize zeros 25=z at *
    generalize A1 b=y at *
    exact ⟨h',by simp only [esc,esh,Nat.reduceAdd,Nat.reduceMul,Nat.reduceLT];exact e⟩
  obtain ⟨g',e⟩:=key (h.length + 26) (by omega) (ro h)
  exact C4g e (by simp [Val.flat,B6Y,Cell.flat])
end Go.Proofs.YteckncopbicmcaaGreat
end
section
namespace Go.Proofs.YteckncopbicmcaaGreat
open Go Go.Esc
abbrev Slt:=Nat × Ent
def slC:Option Slt → List Cell
  | none=>[.i .i64 0,.s [],.i .i64 0]
  | some x=>[.i .i64 (x.1:Int),.s x.2.1,.i .i64 x.2.2]
theorem A1B {o:Option Slt}:(slC o).length=3:=by cases o <;> rfl
theorem C1B {o:Option Slt}:F4 (slC o)=true:=by cases o <;> rfl
def S9 (b nm:List UInt8):Nat → Nat → Option Slt
  | 0,_=>none
  | e + 1,k=>match I3 b k with
    | some x=>if x.1=nm then some (k,x) else S9 b nm e (k + 1)
    | none=>S9 b nm e (k + 1)
theorem B22 {b nm:List UInt8} {e k:Nat} (hx:I3 b k=none):S9 b nm (e + 1) k=S9 b nm e (k + 1):=by rw [S9,hx]
theorem B2Z {b nm:List UInt8} {e k:Nat} {n:Int} (hx:I3 b k=some (nm,n)):S9 b nm (e + 1) k=some (k,(nm,n)):=by rw [S9,hx];simp
theorem B21 {b nm s:List UInt8} {e k:Nat} {n:Int} (hx:I3 b k=some (s,n)) (hne:s ≠ nm):S9 b nm (e + 1) k=S9 b nm e (k + 1):=by rw [S9,hx];simp [hne]
def J2 (b nm:List UInt8):Option Slt:=S9 b nm 7 0
theorem C9R {k n:Int} {s nm:List UInt8} {r1 r2 r3:Nat} {h:A0} (h1:rd h r1=some ⟨[.s nm],true⟩) (h3:rd h r3=some ⟨[.b false],true⟩) (hne:s ≠ nm) :
    A20 [.a [.i .i64 k,.s s,.i .i64 n],.c (.p r1 0),.c (.p r2 0),.c (.p r3 0)] h=some (.c (.b true),h ++ [some ⟨[.i .i64 k,.s s,.i .i64 n],true⟩]):=by
  refine B4r (n:=0) ?_
  have l1:A5 (h ++ [some (Row.mk [.i .i64 k,.s s,.i .i64 n] true)]) (.c (.p r1 0))=some (.c (.s nm)):=H4 (cs:=[.s nm]) (C3 h1) rfl rfl
  have l3:A5 (h ++ [some (Row.mk [.i .i64 k,.s s,.i .i64 n] true)]) (.c (.p r3 0))=some (.c (.b false)):=H4 (cs:=[.b false]) (C3 h3) rfl rfl
  rw [B4m]
  simp only [esc,esh,Nat.reduceAdd,Nat.reduceMul,Nat.reduceLT,l1,hne,B5M,l3] <;> rfl
theorem C9S {k n:Int} {nm:List UInt8} {c2:List Cell} {r1 r2 r3:Nat} {h:A0} (h1:rd h r1=some ⟨[.s nm],true⟩) (h2:rd h r2=some ⟨c2,true⟩) (hl:c2.length=3) (h3:rd h r3=some ⟨[.b false],true⟩) (h23:r2 ≠ r3) :
    A20 [.a [.i .i64 k,.s nm,.i .i64 n],.c (.p r1 0),.c (.p r2 0),.c (.p r3 0)] h=some (.c (.b false),((h ++ [some (Row.mk [.i .i64 k,.s nm,.i .i64 n] true)]).set r2 (some (Row.mk [.i .i64 k,.s nm,.i .i64 n] true))).set r3 (some (Row.mk [.b true] true))):=by
  refine B4r (n:=0) ?_
  have l1:A5 (h ++ [some (Row.mk [.i .i64 k,.s nm,.i .i64 n] true)]) (.c (.p r1 0))=some (.c (.s nm)):=H4 (cs:=[.s nm]) (C3 h1) rfl rfl
  have s2:=storeAll (h:=h ++ [some (Row.mk [.i .i64 k,.s nm,.i .i64 n] true)]) (id:=r2) (n:=3) (xs:=[.i .i64 k,.s nm,.i .i64 n]) (C3 h2) hl rfl
  have h3':rd ((h ++ [some (Row.mk [.i .i64 k,.s nm,.i .i64 n] true)]).set r2 (some (Row.mk [.i .i64 k,.s nm,.i .i64 n] true))) r3=some ⟨[.b false],true⟩:=by rw [H8 h23];exact C3 h3
  have s3:=Z0 (x:=.b true) (off:=0) h3' (by simp)
  have l4:A5 (((h ++ [some (Row.mk [.i .i64 k,.s nm,.i .i64 n] true)]).set r2 (some (Row.mk [.i .i64 k,.s nm,.i .i64 n] true))).set r3 (some (Row.mk [.b true] true))) (.c (.p r3 0))=some (.c (.b true)):=H4 (cs:=[.b true]) (K3 (by simpa using D0 h3')) rfl rfl
  rw [B4m]
  have s3:F9 ((h ++ [some (Row.mk [.i .i64 k,.s nm,.i .i64 n] true)]).set r2 (some (Row.mk [.i .i64 k,.s nm,.i .i64 n] true))) (.c (.p r3 0)) (.c (.b true))=some (((h ++ [some (Row.mk [.i .i64 k,.s nm,.i .i64 n] true)]).set r2 (some (Row.mk [.i .i64 k,.s nm,.i .i64 n] true))).set r3 (some (Row.mk [.b true] true))):=s3
  simp only [esc,esh,Nat.reduceAdd,Nat.reduceMul,Nat.reduceLT,l1,s2,s3,B5M,l4] <;> rfl
theorem B2p {b nm:List UInt8} {r0 r1 r2 r3 q:Nat} {B:A0} (hb:b.length=256) (hB1:rd B r1=some ⟨[.s nm],true⟩) (hr2:B.length ≤ r2) (hr3:B.length ≤ r3) (h23:r2 ≠ r3) (h02:r0 ≠ r2) (h03:r0 ≠ r3):∀ (e k m:Nat) (h:A0),k + e=7 → e < m → Low B.length B h →
    rd h r2=some ⟨slC none,true⟩ → rd h r3=some ⟨[.b false],true⟩ → rd h r0=some ⟨A1 b,true⟩ →
    ∃ h',A7M q m (.c (.f 153 [(r1,0),(r2,0),(r3,0)])) (.c (.p r0 0)) (.c (.i .i64 (k:Int))) h=some (.t [],h') ∧ Low B.length B h' ∧ rd h' r2=some ⟨slC (S9 b nm e k),true⟩ ∧ rd h' r3=some ⟨[.b (S9 b nm e k).isSome],true⟩
  | e,k,0,h,_,hm,_,_,_,_=>by omega
  | 0,k,m + 1,h,hk,hm,hlow,h2,h3,h0=>by
    have e0:k=7:=by omega
    subst e0
    have c0:¬ ((7:Nat):Int) < 7:=by omega
    refine ⟨h,?_,hlow,h2,h3⟩
    rw [B5X]
    simp only [esc,c0] <;> rfl
  | e + 1,k,m + 1,h,hk,hm,hlow,h2,h3,h0=>by
    have c0:(k:Int) < 7:=by omega
    have hbl:(A1 b).length=256:=by rw [B1,hb]
    have s1:=G5 (h:=h) (id:=r0) h0 hbl
    have hR:=B53 (h:=h) (k:=k) hb (by omega)
    have w1:=E6 (show k + 1 < 9223372036854775808 by omega)
    have hcv:∀ (x:Val) (h:A0),O7 A2V (.c (.f 153 [(r1,0),(r2,0),(r3,0)])) [x] h=A20 [x,.c (.p r1 0),.c (.p r2 0),.c (.p r3 0)] h:=fun _ _=>Eq.trans rfl rfl
    rw [B5X]
    cases hx:I3 b k with
    | none =>
      rw [hx] at hR
      rw [B22 hx]
      obtain ⟨h',f1,f2⟩:=B2p (q:=q) hb hB1 hr2 hr3 h23 h02 h03 e (k + 1) m (h ++ [some ⟨[.s [],.i .i64 0],true⟩]) (by omega) (by omega) (hlow.new _) (C3 h2) (C3 h3) (C3 h0)
      refine ⟨h',?_,f2⟩
      generalize A1 b=y at *
      simp only [esc,esh,Nat.reduceAdd,Nat.reduceMul,Nat.reduceLT,c0,s1,hR,F0,Option.isSome_none,w1]
      exact f1
    | some x =>
      obtain ⟨s,n⟩:=x
      rw [hx] at hR
      have ef:A8 [Cell.i .i64 0,.s [],.i .i64 0] [(0,1,.c (.i .i64 (k:Int))),(1,2,.a [.s s,.i .i64 n])]=some [.i .i64 (k:Int),.s s,.i .i64 n]:=rfl
      have h1':rd (h ++ [some (Row.mk [.s s,.i .i64 n] true)]) r1=some ⟨[.s nm],true⟩:=C3 (hlow.rd hB1)
      by_cases ce:s=nm
      · subst ce
        have hF:=C9S (k:=(k:Int)) (n:=n) h1' (C3 h2) A1B (C3 h3) h23
        simp only [List.append_assoc,List.cons_append,List.nil_append] at hF
        rw [B2Z hx]
        refine ⟨((h ++ [some (Row.mk [.s s,.i .i64 n] true),some (Row.mk [.i .i64 (k:Int),.s s,.i .i64 n] true)]).set r2 (some (Row.mk [.i .i64 (k:Int),.s s,.i .i64 n] true))).set r3 (some (Row.mk [.b true] true)),?_,((hlow.new [some (Row.mk [.s s,.i .i64 n] true),some (Row.mk [.i .i64 (k:Int),.s s,.i .i64 n] true)]).set hr2 _).set hr3 _,?_,?_⟩
        · generalize A1 b=y at *
          simp only [esc,esh,Nat.reduceAdd,Nat.reduceMul,Nat.reduceLT,c0,s1,hR,F0,Option.isSome_some,ef,hcv,hF] <;> rfl
        · rw [H8 (Ne.symm h23)]
          exact K3 (D0 (C3 h2))
        · exact K3 (by rw [List.length_set];exact D0 (C3 h3))
      · have hF:=C9R (k:=(k:Int)) (n:=n) (r2:=r2) h1' (C3 h3) ce
        simp only [List.append_assoc,List.cons_append,List.nil_append] at hF
        rw [B21 hx ce]
        obtain ⟨h',f1,f2⟩:=B2p (q:=q) hb hB1 hr2 hr3 h23 h02 h03 e (k + 1) m (h ++ [some (Row.mk [.s s,.i .i64 n] true),some (Row.mk [.i .i64 (k:Int),.s s,.i .i64 n] true)]) (by omega) (by omega) (hlow.new _) (C3 h2) (C3 h3) (C3 h0)
        refine ⟨h',?_,f2⟩
        generalize A1 b=y at *
        simp only [esc,esh,Nat.reduceAdd,Nat.reduceMul,Nat.reduceLT,c0,s1,hR,F0,Option.isSome_some,ef,hcv,hF,w1]
        exact f1
theorem B5N {b nm:List UInt8} {h:A0} (hb:b.length=256):A1Q [.a (A1 b),.c (.s nm)] h=some (.t [.a (slC (J2 b nm)),.c (.b (J2 b nm).isSome)],h):=by
  have key:∀ g,∃ g',A6b 0 [.a (A1 b),.c (.s nm)] g=some (.t [.a (slC (J2 b nm)),.c (.b (J2 b nm).isSome)],g'):=by
    intro g
    have hbl:(A1 b).length=256:=by rw [B1,hb]
    have emk:X5 153 [.c (.p (g.length + 1) 0),.c (.p (g.length + 3) 0),.c (.p (g.length + 4) 0)]=some (.c (.f 153 [(g.length + 1,0),(g.length + 3,0),(g.length + 4,0)])):=rfl
    obtain ⟨h',f1,f2,f3,f4⟩:=B2p (b:=b) (nm:=nm) (r0:=g.length + 5) (r1:=g.length + 1) (r2:=g.length + 3) (r3:=g.length + 4) (q:=8) (B:=g ++ [some (Row.mk (A1 b) true),some (Row.mk [.s nm] true),some (Row.mk (slC none) true)]) hb (by simp) (by simp) (by simp) (by omega) (by omega) (by omega) 7 0 8 (g ++ [some (Row.mk (A1 b) true),some (Row.mk [.s nm] true),some (Row.mk (slC none) true),some (Row.mk (slC none) true),some (Row.mk [.b false] true),some (Row.mk (A1 b) true)]) (by omega) (by omega)
      (by have:=(Low.refl (h:=g ++ [some (Row.mk (A1 b) true),some (Row.mk [.s nm] true),some (Row.mk (slC none) true)]) (Nat.le_refl _)).new [some (Row.mk (slC none) true),some (Row.mk [.b false] true),some (Row.mk (A1 b) true)]
          simpa using this) (by simp) (by simp) (by simp)
    have hS:A4n [.a (A1 b),.c (.f 153 [(g.length + 1,0),(g.length + 3,0),(g.length + 4,0)])] (g ++ [some (Row.mk (A1 b) true),some (Row.mk [.s nm] true),some (Row.mk (slC none) true),some (Row.mk (slC none) true),some (Row.mk [.b false] true)])=some (.t [],h'):=by
      refine C38 (n:=8) ?_
      rw [C2i]
      simp only [esc,esh,Nat.reduceAdd,Nat.reduceMul,Nat.reduceLT]
      exact f1
    have hr:rd h' (g.length + 2)=some ⟨slC none,true⟩:=by rw [f2.2.2 _ (by simp)];simp
    change rd h' (g.length + 3)=some ⟨slC (J2 b nm),true⟩ at f3
    change rd h' (g.length + 4)=some ⟨[.b (J2 b nm).isSome],true⟩ at f4
    have t1:=G5 (n:=3) f3 A1B
    have t2:A5 h' (.c (.p (g.length + 4) 0))=some (.c (.b (J2 b nm).isSome)):=H4 (cs:=[.b (J2 b nm).isSome]) f4 rfl rfl
    have t3:=storeAll (n:=3) (xs:=slC (J2 b nm)) hr A1B A1B
    have f4':rd (h'.set (g.length + 2) (some ⟨slC (J2 b nm),true⟩)) (g.length + 4)=some ⟨[.b (J2 b nm).isSome],true⟩:=by rw [H8 (by omega)];exact f4
    have t4:A5 (h'.set (g.length + 2) (some ⟨slC (J2 b nm),true⟩)) (.c (.p (g.length + 4) 0))=some (.c (.b (J2 b nm).isSome)):=H4 (cs:=[.b (J2 b nm).isSome]) f4' rfl rfl
    have t5:=G5 (n:=3) (K3 (x:=some ⟨slC (J2 b nm),true⟩) (D0 hr)) A1B
    have z0:[Cell.i .i64 0,.s [],.i .i64 0]=slC none:=rfl
    rw [C2f,z0]
    generalize slC (J2 b nm)=Y at *
    generalize slC none=Z at *
    generalize (J2 b nm).isSome=S at *
    generalize A1 b=y at *
    exact ⟨_,by simp only [esc,esh,Nat.reduceAdd,Nat.reduceMul,Nat.reduceLT,hbl,emk,hS,t1,t2,t3,t4,t5] <;> rfl⟩
  obtain ⟨g',e⟩:=key (ro h)
  exact C32 e (by simp [Val.flat,C1B,Cell.flat])
end Go.Proofs.YteckncopbicmcaaGreat
end
noncomputable section
namespace Go.Proofs.YteckncopbicmcaaGreat
open Go Go.Esc
set_option maxRecDepth 100000
def A_dread_Route:AFn:=⟨.seq [2,3,4] (.ops [aO 3 (.box (.t 0)),aO 4 (.box (.t 1)),aO 6 (.mv (.v (.c (.i .i64 0)))),aO 7 (.mv (.v (.c (.i .i64 0)))),aO 8 (.mv (.v (.c (.b false))))]) (.seq [2,9,10] (.ops [aO 13 (.loadN 4 (.t 3)),aO 14 (.loadN 11 (.t 4)),aO 15 (.call 76 [(.t 13),(.t 14)]),aO 12 (.mv (.t 15)),aO 16 (.ext (.t 12) 0),aO 17 (.ext (.t 12) 1),aO 9 (.alloc ([.i .i64 0] ++ List.replicate 32 (.i .i64 0))),aN (.storeN 33 (.t 9) (.t 16)),aO 10 (.mv (.t 17))]) (.seq [2,9] (.seq [2,9,19] (.ops [aO 18 (.mv (.t 10)),aO 19 (.un .not (.t 18))]) (.cond (.t 19) (.seq [6,7,8] (.ops [aO 6 (.mv (.v (.c (.i .i64 0)))),aO 7 (.mv (.v (.c (.i .i64 0)))),aO 8 (.mv (.v (.c (.b false))))]) .ret) .skip)) (.seq [9,11] (.draw 0 [aO 20 (.loadN 33 (.t 9)),aO 21 (.mv (.t 2)),aO 22 (.call 78 [(.t 21)])] [aO 23 (.call 77 [(.t 20),(.t 22)]),aO 11 (.mv (.t 23))]) (.seq [6,7,8] (.draw 0 [aO 24 (.mv (.t 11)),aO 25 (.mv (.t 11)),aO 26 (.fAddr (.t 9) 1),aO 27 (.iAddrA 32 1 (.t 26) (.t 25)),aO 28 (.load1 (.t 27)),aO 6 (.mv (.t 24))] [aO 7 (.mv (.t 28)),aO 8 (.mv (.v (.c (.b true))))]) .ret)))),[.tmp 6,.tmp 7,.tmp 8]⟩
def A9S:B3:=A7 76 A16 (A7 78 A2d (A7 77 A4X B8))
def A6m (n:Nat) (args:List Val) (h:A0):A6:=ax A9S n A_dread_Route.code A_dread_Route.fin (params 0 args) h
theorem C2t (n:Nat) (a0 a1 a2:Val) (h:A0):A6m n [a0,a1,a2] h=bnd (cells? a0) fun c1=>bnd (cells? a1) fun c2=>bnd (A3 ((h ++ [some (Row.mk (c1) true)]) ++ [some (Row.mk (c2) true)]) 4 (.c (.p h.length 0))) fun v3=>bnd (A3 ((h ++ [some (Row.mk (c1) true)]) ++ [some (Row.mk (c2) true)]) 11 (.c (.p (h ++ [some (Row.mk (c1) true)]).length 0))) fun v4=>bnd (A16 [v3,v4] ((h ++ [some (Row.mk (c1) true)]) ++ [some (Row.mk (c2) true)])) fun p5=>bnd (C5 p5.1 0) fun v6=>bnd (C5 p5.1 1) fun v7=>bnd (B6 (p5.2 ++ [some (Row.mk ([.i .i64 0] ++ List.replicate 32 (.i .i64 0)) true)]) 33 (.c (.p p5.2.length 0)) v6) fun h8=>bnd (aun .not v7) fun v9=>cnd v9 (C7 [some (.c (.i .i64 0)),some (.c (.i .i64 0)),some (.c (.b false))] h8) (bnd (A3 h8 33 (.c (.p p5.2.length 0))) fun v10=>bnd (quiet (h8 ++ []) (A2d [a2] (h8 ++ []))) fun p11=>bnd (A4X [v10,p11.1] p11.2) fun p12=>bnd (B7 (.c (.p p5.2.length 0)) 1) fun v13=>bnd (D8 32 1 v13 p12.1) fun v14=>bnd (A5 p12.2 v14) fun v15=>C7 [some p12.1,some v15,some (.c (.b true))] (p12.2 ++ [])):=by kernel_rfl
theorem K_dread_Route:FnK Tryz.prog 22 A_dread_Route A9S A6m:=.mk' (A9 B4N (A9 B4T (A9 C5S C1))) Tryz.func22 (by kernel_rfl) (fun _ _ _=>C0)
def A4s:Fun:=tidy (Lim A_dread_Route A9S)
theorem C4p:SOk Tryz.prog 22 A4s:=K_dread_Route.sok
theorem C4o:D1 A6m A4s:=K_dread_Route.flat
def A_dread_Lookup:AFn:=⟨.seq [2,3,4,6] (.ops [aO 3 (.box (.t 0)),aO 4 (.box (.t 1)),aO 6 (.alloc ([.i .i64 0,.i .i64 0,.i .i64 0])),aO 7 (.mv (.v (.c (.b false))))]) (.seq [2,3,6,9,10] (.ops [aO 14 (.loadN 4 (.t 3)),aO 15 (.loadN 11 (.t 4)),aO 16 (.mv (.t 2)),aO 17 (.call 22 [(.t 14),(.t 15),(.t 16)]),aO 13 (.mv (.t 17)),aO 18 (.ext (.t 13) 0),aO 19 (.ext (.t 13) 1),aO 20 (.ext (.t 13) 2),aO 8 (.mv (.t 18)),aO 9 (.mv (.t 19)),aO 10 (.mv (.t 20))]) (.seq [2,3,6,9] (.seq [2,3,6,9,29] (.ops [aO 21 (.mv (.t 10)),aO 22 (.un .not (.t 21)),aO 23 (.mv (.t 22)),aG 24 23 false (.fAddr (.t 3) 0),aG 25 23 false (.loadN 3 (.t 24)),aG 26 23 false (.mv (.t 9)),aG 27 23 false (.call 72 [(.t 25),(.t 26)]),aG 28 23 false (.un .not (.t 27)),aO 29 (.pick (.t 23) (.v (.c (.b true))) (.t 28))]) (.cond (.t 29) (.seq [6,7] (.ops [aO 30 (.build ([.i .i64 0,.i .i64 0,.i .i64 0]) []),aN (.storeN 3 (.t 6) (.t 30)),aO 7 (.mv (.v (.c (.b false))))]) .ret) .skip)) (.seq [6,9,11,12] (.ops [aO 32 (.loadN 4 (.t 3)),aO 33 (.mv (.t 9)),aO 34 (.call 71 [(.t 32),(.t 33)]),aO 35 (.mv (.t 2)),aO 36 (.call 73 [(.t 34),(.t 35)]),aO 31 (.mv (.t 36)),aO 37 (.ext (.t 31) 0),aO 38 (.ext (.t 31) 1),aO 11 (.alloc ([.i .i64 0,.s [],.i .i64 0])),aN (.storeN 3 (.t 11) (.t 37)),aO 12 (.mv (.t 38))]) (.seq [6,9,11] (.seq [6,9,11,40] (.ops [aO 39 (.mv (.t 12)),aO 40 (.un .not (.t 39))]) (.cond (.t 40) (.seq [6,7] (.ops [aO 41 (.build ([.i .i64 0,.i .i64 0,.i .i64 0]) []),aN (.storeN 3 (.t 6) (.t 41)),aO 7 (.mv (.v (.c (.b false))))]) .ret) .skip)) (.seq [6,7] (.ops [aO 42 (.mv (.t 9)),aO 43 (.fAddr (.t 11) 0),aO 44 (.load1 (.t 43)),aO 45 (.fAddr (.t 11) 1),aO 46 (.fAddr (.t 45) 1),aO 47 (.load1 (.t 46)),aO 48 (.build ([.i .i64 0,.i .i64 0,.i .i64 0]) [(0,1,(.t 42)),(1,1,(.t 44)),(2,1,(.t 47))]),aN (.storeN 3 (.t 6) (.t 48)),aO 7 (.mv (.v (.c (.b true))))]) .ret))))),[.cellN 6 3,.tmp 7]⟩
def A9R:B3:=A7 22 A4s (A7 72 A0J (A7 71 S7 (A7 73 A1Q B8)))
def A6l (n:Nat) (args:List Val) (h:A0):A6:=ax A9R n A_dread_Lookup.code A_dread_Lookup.fin (params 0 args) h
theorem C2s (n:Nat) (a0 a1 a2:Val) (h:A0):A6l n [a0,a1,a2] h=bnd (cells? a0) fun c1=>bnd (cells? a1) fun c2=>bnd (A3 (((h ++ [some (Row.mk (c1) true)]) ++ [some (Row.mk (c2) true)]) ++ [some (Row.mk ([.i .i64 0,.i .i64 0,.i .i64 0]) true)]) 4 (.c (.p h.length 0))) fun v3=>bnd (A3 (((h ++ [some (Row.mk (c1) true)]) ++ [some (Row.mk (c2) true)]) ++ [some (Row.mk ([.i .i64 0,.i .i64 0,.i .i64 0]) true)]) 11 (.c (.p (h ++ [some (Row.mk (c1) true)]).length 0))) fun v4=>bnd (A4s [v3,v4,a2] (((h ++ [some (Row.mk (c1) true)]) ++ [some (Row.mk (c2) true)]) ++ [some (Row.mk ([.i .i64 0,.i .i64 0,.i .i64 0]) true)])) fun p5=>bnd (C5 p5.1 0) fun v6=>bnd (C5 p5.1 1) fun v7=>bnd (C5 p5.1 2) fun v8=>bnd (aun .not v8) fun v9=>bnd (gd v9 false (bnd (B7 (.c (.p h.length 0)) 0) fun v10=>some (v10,p5.2)) (some (.no,p5.2))) fun p11=>bnd (gd v9 false (bnd (A3 p11.2 3 p11.1) fun v12=>some (v12,p11.2)) (some (.no,p11.2))) fun p13=>bnd (gd v9 false (some (v7,p13.2)) (some (.no,p13.2))) fun p14=>bnd (gd v9 false (bnd (A0J [p13.1,p14.1] p14.2) fun p15=>some (p15.1,p15.2)) (some (.no,p14.2))) fun p16=>bnd (gd v9 false (bnd (aun .not p16.1) fun v17=>some (v17,p16.2)) (some (.no,p16.2))) fun p18=>bnd (C4 v9 (.c (.b true)) p18.1) fun v19=>cnd v19 (bnd (A8 ([.i .i64 0,.i .i64 0,.i .i64 0]) []) fun c20=>bnd (B6 p18.2 3 (.c (.p ((h ++ [some (Row.mk (c1) true)]) ++ [some (Row.mk (c2) true)]).length 0)) (.a c20)) fun h21=>C7 [A3 h21 3 (.c (.p ((h ++ [some (Row.mk (c1) true)]) ++ [some (Row.mk (c2) true)]).length 0)),some (.c (.b false))] h21) (bnd (A3 p18.2 4 (.c (.p h.length 0))) fun v22=>bnd (S7 [v22,v7] p18.2) fun p23=>bnd (A1Q [p23.1,a2] p23.2) fun p24=>bnd (C5 p24.1 0) fun v25=>bnd (C5 p24.1 1) fun v26=>bnd (B6 (p24.2 ++ [some (Row.mk ([.i .i64 0,.s [],.i .i64 0]) true)]) 3 (.c (.p p24.2.length 0)) v25) fun h27=>bnd (aun .not v26) fun v28=>cnd v28 (bnd (A8 ([.i .i64 0,.i .i64 0,.i .i64 0]) []) fun c29=>bnd (B6 h27 3 (.c (.p ((h ++ [some (Row.mk (c1) true)]) ++ [some (Row.mk (c2) true)]).length 0)) (.a c29)) fun h30=>C7 [A3 h30 3 (.c (.p ((h ++ [some (Row.mk (c1) true)]) ++ [some (Row.mk (c2) true)]).length 0)),some (.c (.b false))] h30) (bnd (B7 (.c (.p p24.2.length 0)) 0) fun v31=>bnd (A5 h27 v31) fun v32=>bnd (B7 (.c (.p p24.2.length 0)) 1) fun v33=>bnd (B7 v33 1) fun v34=>bnd (A5 h27 v34) fun v35=>bnd (A8 ([.i .i64 0,.i .i64 0,.i .i64 0]) [(0,1,v7),(1,1,v32),(2,1,v35)]) fun c36=>bnd (B6 h27 3 (.c (.p ((h ++ [some (Row.mk (c1) true)]) ++ [some (Row.mk (c2) true)]).length 0)) (.a c36)) fun h37=>C7 [A3 h37 3 (.c (.p ((h ++ [some (Row.mk (c1) true)]) ++ [some (Row.mk (c2) true)]).length 0)),some (.c (.b true))] h37)):=by kernel_rfl
theorem K_dread_Lookup:FnK Tryz.prog 20 A_dread_Lookup A9R A6l:=.mk' (A9 C4p (A9 B1w (A9 A26 (A9 B4s C1)))) Tryz.func20 (by kernel_rfl) (fun _ _ _=>C0)
def A0F:Fun:=tidy (Lim A_dread_Lookup A9R)
theorem B1p:SOk Tryz.prog 20 A0F:=K_dread_Lookup.sok
theorem C4n:D1 A6l A0F:=K_dread_Lookup.flat
def A_dread_List_1:AFn:=⟨.seq [1,2,3,4,5,6] (.ops [aO 6 (.box (.t 0))]) (.seq [1,4,5,6,8,9] (.ops [aO 11 (.loadN 4 (.t 2)),aO 12 (.loadN 11 (.t 3)),aO 13 (.mv (.t 1)),aO 14 (.call 20 [(.t 11),(.t 12),(.t 13)]),aO 10 (.mv (.t 14)),aO 15 (.ext (.t 10) 0),aO 16 (.ext (.t 10) 1),aO 8 (.alloc ([.i .i64 0,.i .i64 0,.i .i64 0])),aN (.storeN 3 (.t 8) (.t 15)),aO 9 (.mv (.t 16))]) (.seq [1,4,5,6,22] (.ops [aO 17 (.mv (.t 9)),aO 18 (.mv (.t 17)),aG 19 18 true (.loadN 3 (.t 8)),aG 20 18 true (.loadN 3 (.t 6)),aG 21 18 true (.eqA false ([.i .i64,.i .i64,.i .i64]) (.t 19) (.t 20)),aO 22 (.pick (.t 18) (.t 21) (.v (.c (.b false))))]) (.cond (.t 22) (.seq [1,5,6] (.ops [aO 23 (.load1 (.t 4)),aO 24 (.mv (.t 1)),aO 25 (.buildSl 1 1 ([.s []]) [(0,1,(.t 24))]),aO 26 (.app 1 (.t 23) (.t 25)),aN (.store1 (.t 4) (.t 26))]) (.ops [aO 27 (.load1 (.t 5)),aO 28 (.mv (.t 1)),aO 29 (.fAddr (.t 6) 2),aO 30 (.load1 (.t 29)),aN (.mput none (.t 27) (.t 28) (.t 30))])) .skip))),[]⟩
def A9Q:B3:=A7 20 A0F B8
def B0P (n:Nat) (args:List Val) (h:A0):A6:=ax A9Q n A_dread_List_1.code A_dread_List_1.fin (params 0 args) h
theorem B0Q (n:Nat) (a0 a1 a2 a3 a4 a5:Val) (h:A0):B0P n [a0,a1,a2,a3,a4,a5] h=bnd (cells? a0) fun c1=>bnd (A3 (h ++ [some (Row.mk (c1) true)]) 4 a2) fun v2=>bnd (A3 (h ++ [some (Row.mk (c1) true)]) 11 a3) fun v3=>bnd (A0F [v2,v3,a1] (h ++ [some (Row.mk (c1) true)])) fun p4=>bnd (C5 p4.1 0) fun v5=>bnd (C5 p4.1 1) fun v6=>bnd (B6 (p4.2 ++ [some (Row.mk ([.i .i64 0,.i .i64 0,.i .i64 0]) true)]) 3 (.c (.p p4.2.length 0)) v5) fun h7=>bnd (gd v6 true (bnd (A3 h7 3 (.c (.p p4.2.length 0))) fun v8=>some (v8,h7)) (some (.no,h7))) fun p9=>bnd (gd v6 true (bnd (A3 p9.2 3 (.c (.p h.length 0))) fun v10=>some (v10,p9.2)) (some (.no,p9.2))) fun p11=>bnd (gd v6 true (bnd (aeq false ([.i .i64,.i .i64,.i .i64]) p9.1 p11.1) fun v12=>some (v12,p11.2)) (some (.no,p11.2))) fun p13=>bnd (C4 v6 p13.1 (.c (.b false))) fun v14=>cnd v14 (bnd (A5 p13.2 a4) fun v15=>bnd (A8 ([.s []]) [(0,1,a1)]) fun c16=>bnd (E7 (p13.2 ++ [some (Row.mk (c16) true)]) 1 v15 (.c (.sl p13.2.length 0 1 1))) fun p17=>bnd (F9 p17.2 a4 p17.1) fun h18=>bnd (A5 h18 a5) fun v19=>bnd (B7 (.c (.p h.length 0)) 2) fun v20=>bnd (A5 h18 v20) fun v21=>bnd (A2o h18 none v19 a1 v21) fun h22=>C7 [] h22) (C7 [] p13.2):=by kernel_rfl
theorem K_dread_List_1:FnK Tryz.prog 85 A_dread_List_1 A9Q B0P:=.mk' (A9 B1p C1) Tryz.func85 (by kernel_rfl) (fun _ _ _=>C0)
def A4q:Fun:=Lim A_dread_List_1 A9Q
theorem C4j:SOk Tryz.prog 85 A4q:=K_dread_List_1.ok
theorem B1n:OfT B0P A4q:=K_dread_List_1.of
def B6B:ACode:=.seq [2,3,7,12,13,14,21,22,23,24] (.ops [aO 24 (.bin .lss (.t 23) (.t 22))]) (.seq [2,3,7,12,13,14,21,22,23] (.cond (.t 24) .skip (.exit 2)) (.seq [2,3,7,12,13,14,21,22,23] (.block 3 (.seq [2,3,7,9,12,13,14,21,22,23] (.ops [aO 25 (.iAddrL 3 (.t 21) (.t 23)),aO 26 (.loadN 3 (.t 25)),aO 9 (.alloc ([.i .i64 0,.s [],.i .i64 0])),aN (.storeN 3 (.t 9) (.t 26))]) (.ops [aO 27 (.mv (.t 2)),aO 28 (.mv (.t 7)),aO 29 (.fAddr (.t 9) 0),aO 30 (.load1 (.t 29)),aO 31 (.fAddr (.t 9) 1),aO 32 (.fAddr (.t 31) 1),aO 33 (.load1 (.t 32)),aO 34 (.build ([.i .i64 0,.i .i64 0,.i .i64 0]) [(0,1,(.t 28)),(1,1,(.t 30)),(2,1,(.t 33))]),aO 35 (.fAddr (.t 9) 1),aO 36 (.fAddr (.t 35) 0),aO 37 (.load1 (.t 36)),aO 38 (.callV (.t 27) [(.t 34),(.t 37)])]))) (.ops [aO 39 (.bin .add (.t 23) (.v (.c (.i .i64 1)))),aO 23 (.mv (.t 39))])))
def B6C:ACode:=.ops [aO 40 (.bin .add (.t 14) (.v (.c (.i .i64 1)))),aO 14 (.mv (.t 40))]
def B2l:ACode:=.seq [2,3,12,13,14,15] (.ops [aO 15 (.bin .lss (.t 14) (.t 13))]) (.seq [2,3,12,13,14] (.cond (.t 15) .skip (.exit 0)) (.seq [2,3,12,13,14] (.block 1 (.seq [2,3,7,12,13,14] (.ops [aO 16 (.iAddrL 1 (.t 12) (.t 14)),aO 17 (.load1 (.t 16)),aO 7 (.mv (.t 17))]) (.seq [2,3,7,12,13,14,21,22,23] (.ops [aO 18 (.loadN 4 (.t 3)),aO 19 (.mv (.t 7)),aO 20 (.call 71 [(.t 18),(.t 19)]),aO 21 (.call 88 [(.t 20)]),aO 22 (.len (.t 21)),aO 23 (.mv (.v (.c (.i .i64 0))))]) (.block 2 (.loop [2,3,7,12,13,14,21,22,23] B6B))))) B6C))
def A_dread_each__List_1:AFn:=⟨.seq [2,3,4] (.ops [aO 3 (.box (.t 0)),aO 4 (.box (.t 1))]) (.seq [2,3,12,13,14] (.ops [aO 10 (.loadN 4 (.t 3)),aO 11 (.loadN 11 (.t 4)),aO 12 (.call 87 [(.t 10),(.t 11)]),aO 13 (.len (.t 12)),aO 14 (.mv (.v (.c (.i .i64 0))))]) (.block 0 (.loop [2,3,12,13,14] B2l))),[]⟩
def A0g:B3:=A7 87 A0I (A7 71 S7 (A7 88 Z2 (A7 85 A4q B8)))
def B2m (n:Nat):B4 (Val × A0):=D6 0 A_dread_each__List_1.fin
def A7X (n m:Nat) (x2 x3 x12 x13 x14:Val) (h:A0):A6:=C8 (ax A0g n B2l) [2,3,12,13,14] (B2m n) m [(2,x2),(3,x3),(12,x12),(13,x13),(14,x14)] h
def B0S (n:Nat) (args:List Val) (h:A0):A6:=ax A0g n A_dread_each__List_1.code A_dread_each__List_1.fin (params 0 args) h
def C8r (n m:Nat):B4 (Val × A0):=R1 [2,3,12,13,14] (C8 (ax A0g n B2l) [2,3,12,13,14] (B2m n) m) (B2m n)
def C8s (n m:Nat):B4 (Val × A0):=E5 [2,3,12,13,14] (ax A0g n B6C) (C8r n m)
def C8t (n m:Nat):B4 (Val × A0):=D6 1 (C8s n m)
def C8u (n m:Nat):B4 (Val × A0):=D6 2 (C8t n m)
def A7Y (n m m2:Nat) (x2 x3 x7 x12 x13 x14 x21 x22 x23:Val) (h:A0):A6:=C8 (ax A0g n B6B) [2,3,7,12,13,14,21,22,23] (C8u n m) m2 [(2,x2),(3,x3),(7,x7),(12,x12),(13,x13),(14,x14),(21,x21),(22,x22),(23,x23)] h
theorem C2v (n:Nat) (a0 a1 a2:Val) (h:A0):B0S n [a0,a1,a2] h=bnd (cells? a0) fun c1=>bnd (cells? a1) fun c2=>bnd (A3 ((h ++ [some (Row.mk (c1) true)]) ++ [some (Row.mk (c2) true)]) 4 (.c (.p h.length 0))) fun v3=>bnd (A3 ((h ++ [some (Row.mk (c1) true)]) ++ [some (Row.mk (c2) true)]) 11 (.c (.p (h ++ [some (Row.mk (c1) true)]).length 0))) fun v4=>bnd (A0I [v3,v4] ((h ++ [some (Row.mk (c1) true)]) ++ [some (Row.mk (c2) true)])) fun p5=>bnd (E3 p5.1) fun v6=>A7X n n a2 (.c (.p h.length 0)) p5.1 v6 (.c (.i .i64 0)) p5.2:=by kernel_rfl
theorem C8v (n m:Nat) (x2 x3 x12 x13 x14:Val) (h:A0):A7X n (m + 1) x2 x3 x12 x13 x14 h=bnd (A2 .lss x14 x13) fun v7=>cnd v7 (bnd (B9 1 x12 x14) fun v8=>bnd (A5 h v8) fun v9=>bnd (A3 h 4 x3) fun v10=>bnd (S7 [v10,v9] h) fun p11=>bnd (Z2 [p11.1] p11.2) fun p12=>bnd (E3 p12.1) fun v13=>A7Y n m n x2 x3 v9 x12 x13 x14 p12.1 v13 (.c (.i .i64 0)) p12.2) (C7 [] h):=by kernel_rfl
theorem C8w (n m m2:Nat) (x2 x3 x7 x12 x13 x14 x21 x22 x23:Val) (h:A0):A7Y n m (m2 + 1) x2 x3 x7 x12 x13 x14 x21 x22 x23 h=bnd (A2 .lss x23 x22) fun v14=>cnd v14 (bnd (B9 3 x21 x23) fun v15=>bnd (A3 h 3 v15) fun v16=>bnd (B6 (h ++ [some (Row.mk ([.i .i64 0,.s [],.i .i64 0]) true)]) 3 (.c (.p h.length 0)) v16) fun h17=>bnd (B7 (.c (.p h.length 0)) 0) fun v18=>bnd (A5 h17 v18) fun v19=>bnd (B7 (.c (.p h.length 0)) 1) fun v20=>bnd (B7 v20 1) fun v21=>bnd (A5 h17 v21) fun v22=>bnd (A8 ([.i .i64 0,.i .i64 0,.i .i64 0]) [(0,1,x7),(1,1,v19),(2,1,v22)]) fun c23=>bnd (B7 (.c (.p h.length 0)) 1) fun v24=>bnd (B7 v24 0) fun v25=>bnd (A5 h17 v25) fun v26=>bnd (O7 A0g x2 [(.a c23),v26] h17) fun p27=>bnd (A2 .add x23 (.c (.i .i64 1))) fun v28=>A7Y n m m2 x2 x3 x7 x12 x13 x14 x21 x22 v28 p27.2) (bnd (A2 .add x14 (.c (.i .i64 1))) fun v29=>A7X n m x2 x3 x12 x13 v29 h):=by kernel_rfl
theorem K_dread_each__List_1:FnK Tryz.prog 83 A_dread_each__List_1 A0g B0S:=.mk' (A9 B1v (A9 A26 (A9 B1m (A9 C4j C1)))) Tryz.func83 (by kernel_rfl) (fun _ _ _=>C0)
def A4u:Fun:=Lim A_dread_each__List_1 A0g
theorem C4u:SOk Tryz.prog 83 A4u:=K_dread_each__List_1.ok
theorem C4t:OfT B0S A4u:=K_dread_each__List_1.of
def B6u:ACode:=.seq [6,7,16,17,18,19] (.ops [aO 19 (.bin .lss (.t 18) (.t 17))]) (.seq [6,7,16,17,18] (.cond (.t 19) .skip (.exit 0)) (.seq [6,7,16,17,18] (.block 1 (.seq [6,7,9,16,17,18] (.ops [aO 20 (.iAddrL 1 (.t 16) (.t 18)),aO 21 (.load1 (.t 20)),aO 9 (.mv (.t 21))]) (.ops [aO 22 (.mv (.t 7)),aO 23 (.mv (.t 9)),aO 24 (.load1 (.t 6)),aO 25 (.mv (.t 9)),aO 26 (.look none (.c (.i .i64 0)) false (.t 24) (.t 25)),aO 27 (.build ([.s [],.i .i64 0]) [(0,1,(.t 23)),(1,1,(.t 26))]),aO 28 (.buildSl 2 1 (([.s [],.i .i64 0])) [(0,2,(.t 27))]),aO 29 (.app 2 (.t 22) (.t 28)),aO 7 (.mv (.t 29))]))) (.ops [aO 30 (.bin .add (.t 18) (.v (.c (.i .i64 1)))),aO 18 (.mv (.t 30))])))
def B6v:ACode:=.seq [4] (.ops [aO 31 (.mv (.t 7)),aO 4 (.mv (.t 31))]) .ret
def A_dread_List:AFn:=⟨.seq [2,3] (.ops [aO 2 (.box (.t 0)),aO 3 (.box (.t 1)),aO 4 (.nilrow 2)]) (.seq [2,3,5] (.ops [aO 5 (.alloc ([.ns]))]) (.seq [2,3,5,6] (.ops [aO 10 (.mkMap),aO 6 (.alloc ([.nm])),aN (.store1 (.t 6) (.t 10))]) (.seq [5,6] (.ops [aO 11 (.loadN 4 (.t 2)),aO 12 (.loadN 11 (.t 3)),aO 13 (.mkf 85 [(.t 2),(.t 3),(.t 5),(.t 6)]),aO 14 (.call 83 [(.t 11),(.t 12),(.t 13)])]) (.seq [5,6,7] (.ops [aO 7 (.nilrow 2)]) (.seq [7] (.seq [6,7,16,17,18] (.ops [aO 15 (.load1 (.t 5)),aO 16 (.call 86 [(.t 15)]),aO 17 (.len (.t 16)),aO 18 (.mv (.v (.c (.i .i64 0))))]) (.block 0 (.loop [6,7,16,17,18] B6u))) B6v))))),[.tmp 4]⟩
def A3M:B3:=A7 83 A4u (A7 86 A46 B8)
def C8l (n:Nat):B4 (Val × A0):=E5 [7] (ax A3M n B6v) A_dread_List.fin
def C8m (n:Nat):B4 (Val × A0):=D6 0 (C8l n)
def A7V (n m:Nat) (x6 x7 x16 x17 x18:Val) (h:A0):A6:=C8 (ax A3M n B6u) [6,7,16,17,18] (C8m n) m [(6,x6),(7,x7),(16,x16),(17,x17),(18,x18)] h
def A6j (n:Nat) (args:List Val) (h:A0):A6:=ax A3M n A_dread_List.code A_dread_List.fin (params 0 args) h
theorem C2q (n:Nat) (a0 a1:Val) (h:A0):A6j n [a0,a1] h=bnd (cells? a0) fun c1=>bnd (cells? a1) fun c2=>bnd (F9 ((((((h ++ [some (Row.mk (c1) true)]) ++ [some (Row.mk (c2) true)]) ++ [some (Row.mk ([]) true)]) ++ [some (Row.mk ([.ns]) true)]) ++ [some (I5 [])]) ++ [some (Row.mk ([.nm]) true)]) (.c (.p (((((h ++ [some (Row.mk (c1) true)]) ++ [some (Row.mk (c2) true)]) ++ [some (Row.mk ([]) true)]) ++ [some (Row.mk ([.ns]) true)]) ++ [some (I5 [])]).length 0)) (.c (.m ((((h ++ [some (Row.mk (c1) true)]) ++ [some (Row.mk (c2) true)]) ++ [some (Row.mk ([]) true)]) ++ [some (Row.mk ([.ns]) true)]).length))) fun h3=>bnd (A3 h3 4 (.c (.p h.length 0))) fun v4=>bnd (A3 h3 11 (.c (.p (h ++ [some (Row.mk (c1) true)]).length 0))) fun v5=>bnd (X5 85 [(.c (.p h.length 0)),(.c (.p (h ++ [some (Row.mk (c1) true)]).length 0)),(.c (.p (((h ++ [some (Row.mk (c1) true)]) ++ [some (Row.mk (c2) true)]) ++ [some (Row.mk ([]) true)]).length 0)),(.c (.p (((((h ++ [some (Row.mk (c1) true)]) ++ [some (Row.mk (c2) true)]) ++ [some (Row.mk ([]) true)]) ++ [some (Row.mk ([.ns]) true)]) ++ [some (I5 [])]).length 0))]) fun v6=>bnd (A4u [v4,v5,v6] h3) fun p7=>bnd (A5 (p7.2 ++ [some (Row.mk ([]) true)]) (.c (.p (((h ++ [some (Row.mk (c1) true)]) ++ [some (Row.mk (c2) true)]) ++ [some (Row.mk ([]) true)]).length 0))) fun v8=>bnd (A46 [v8] (p7.2 ++ [some (Row.mk ([]) true)])) fun p9=>bnd (E3 p9.1) fun v10=>A7V n n (.c (.p (((((h ++ [some (Row.mk (c1) true)]) ++ [some (Row.mk (c2) true)]) ++ [some (Row.mk ([]) true)]) ++ [some (Row.mk ([.ns]) true)]) ++ [some (I5 [])]).length 0)) (.c (.sl p7.2.length 0 0 2)) p9.1 v10 (.c (.i .i64 0)) p9.2:=by kernel_rfl
theorem B6w (n m:Nat) (x6 x7 x16 x17 x18:Val) (h:A0):A7V n (m + 1) x6 x7 x16 x17 x18 h=bnd (A2 .lss x18 x17) fun v11=>cnd v11 (bnd (B9 1 x16 x18) fun v12=>bnd (A5 h v12) fun v13=>bnd (A5 h x6) fun v14=>bnd (A3a h none (.c (.i .i64 0)) false v14 v13) fun v15=>bnd (A8 ([.s [],.i .i64 0]) [(0,1,v13),(1,1,v15)]) fun c16=>bnd (A8 (([.s [],.i .i64 0])) [(0,2,(.a c16))]) fun c17=>bnd (E7 (h ++ [some (Row.mk (c17) true)]) 2 x7 (.c (.sl h.length 0 1 2))) fun p18=>bnd (A2 .add x18 (.c (.i .i64 1))) fun v19=>A7V n m x6 p18.1 x16 x17 v19 p18.2) (some (x7,h)):=by kernel_rfl
theorem K_dread_List:FnK Tryz.prog 28 A_dread_List A3M A6j:=.mk' (A9 C4u (A9 C6l C1)) Tryz.func28 (by kernel_rfl) (fun _ _ _=>C0)
def A0E:Fun:=tidy (Lim A_dread_List A3M)
theorem B1o:SOk Tryz.prog 28 A0E:=K_dread_List.sok
theorem C4k:N9 A6j A0E:=K_dread_List.out
def A_dread_Stray_1:AFn:=⟨.seq [1,2,3,4,5] (.ops [aO 5 (.box (.t 0))]) (.seq [4,5,7,8] (.ops [aO 10 (.loadN 4 (.t 2)),aO 11 (.loadN 11 (.t 3)),aO 12 (.mv (.t 1)),aO 13 (.call 20 [(.t 10),(.t 11),(.t 12)]),aO 9 (.mv (.t 13)),aO 14 (.ext (.t 9) 0),aO 15 (.ext (.t 9) 1),aO 7 (.alloc ([.i .i64 0,.i .i64 0,.i .i64 0])),aN (.storeN 3 (.t 7) (.t 14)),aO 8 (.mv (.t 15))]) (.seq [4,5,22] (.ops [aO 16 (.mv (.t 8)),aO 17 (.un .not (.t 16)),aO 18 (.mv (.t 17)),aG 19 18 false (.loadN 3 (.t 7)),aG 20 18 false (.loadN 3 (.t 5)),aG 21 18 false (.eqA true ([.i .i64,.i .i64,.i .i64]) (.t 19) (.t 20)),aO 22 (.pick (.t 18) (.v (.c (.b true))) (.t 21))]) (.cond (.t 22) (.ops [aO 23 (.load1 (.t 4)),aO 24 (.loadN 3 (.t 5)),aO 25 (.buildSl 3 1 (([.i .i64 0,.i .i64 0,.i .i64 0])) [(0,3,(.t 24))]),aO 26 (.app 3 (.t 23) (.t 25)),aN (.store1 (.t 4) (.t 26))]) .skip))),[]⟩
def A9U:B3:=A7 20 A0F B8
def B0R (n:Nat) (args:List Val) (h:A0):A6:=ax A9U n A_dread_Stray_1.code A_dread_Stray_1.fin (params 0 args) h
theorem B4o (n:Nat) (a0 a1 a2 a3 a4:Val) (h:A0):B0R n [a0,a1,a2,a3,a4] h=bnd (cells? a0) fun c1=>bnd (A3 (h ++ [some (Row.mk (c1) true)]) 4 a2) fun v2=>bnd (A3 (h ++ [some (Row.mk (c1) true)]) 11 a3) fun v3=>bnd (A0F [v2,v3,a1] (h ++ [some (Row.mk (c1) true)])) fun p4=>bnd (C5 p4.1 0) fun v5=>bnd (C5 p4.1 1) fun v6=>bnd (B6 (p4.2 ++ [some (Row.mk ([.i .i64 0,.i .i64 0,.i .i64 0]) true)]) 3 (.c (.p p4.2.length 0)) v5) fun h7=>bnd (aun .not v6) fun v8=>bnd (gd v8 false (bnd (A3 h7 3 (.c (.p p4.2.length 0))) fun v9=>some (v9,h7)) (some (.no,h7))) fun p10=>bnd (gd v8 false (bnd (A3 p10.2 3 (.c (.p h.length 0))) fun v11=>some (v11,p10.2)) (some (.no,p10.2))) fun p12=>bnd (gd v8 false (bnd (aeq true ([.i .i64,.i .i64,.i .i64]) p10.1 p12.1) fun v13=>some (v13,p12.2)) (some (.no,p12.2))) fun p14=>bnd (C4 v8 (.c (.b true)) p14.1) fun v15=>cnd v15 (bnd (A5 p14.2 a4) fun v16=>bnd (A3 p14.2 3 (.c (.p h.length 0))) fun v17=>bnd (A8 (([.i .i64 0,.i .i64 0,.i .i64 0])) [(0,3,v17)]) fun c18=>bnd (E7 (p14.2 ++ [some (Row.mk (c18) true)]) 3 v16 (.c (.sl p14.2.length 0 1 3))) fun p19=>bnd (F9 p19.2 a4 p19.1) fun h20=>C7 [] h20) (C7 [] p14.2):=by kernel_rfl
theorem K_dread_Stray_1:FnK Tryz.prog 84 A_dread_Stray_1 A9U B0R:=.mk' (A9 B1p C1) Tryz.func84 (by kernel_rfl) (fun _ _ _=>C0)
def A4t:Fun:=Lim A_dread_Stray_1 A9U
theorem C4q:SOk Tryz.prog 84 A4t:=K_dread_Stray_1.ok
theorem B4z:OfT B0R A4t:=K_dread_Stray_1.of
def B6D:ACode:=.seq [2,3,7,12,13,14,21,22,23,24] (.ops [aO 24 (.bin .lss (.t 23) (.t 22))]) (.seq [2,3,7,12,13,14,21,22,23] (.cond (.t 24) .skip (.exit 2)) (.seq [2,3,7,12,13,14,21,22,23] (.block 3 (.seq [2,3,7,9,12,13,14,21,22,23] (.ops [aO 25 (.iAddrL 3 (.t 21) (.t 23)),aO 26 (.loadN 3 (.t 25)),aO 9 (.alloc ([.i .i64 0,.s [],.i .i64 0])),aN (.storeN 3 (.t 9) (.t 26))]) (.ops [aO 27 (.mv (.t 2)),aO 28 (.mv (.t 7)),aO 29 (.fAddr (.t 9) 0),aO 30 (.load1 (.t 29)),aO 31 (.fAddr (.t 9) 1),aO 32 (.fAddr (.t 31) 1),aO 33 (.load1 (.t 32)),aO 34 (.build ([.i .i64 0,.i .i64 0,.i .i64 0]) [(0,1,(.t 28)),(1,1,(.t 30)),(2,1,(.t 33))]),aO 35 (.fAddr (.t 9) 1),aO 36 (.fAddr (.t 35) 0),aO 37 (.load1 (.t 36)),aO 38 (.callV (.t 27) [(.t 34),(.t 37)])]))) (.ops [aO 39 (.bin .add (.t 23) (.v (.c (.i .i64 1)))),aO 23 (.mv (.t 39))])))
def B6E:ACode:=.ops [aO 40 (.bin .add (.t 14) (.v (.c (.i .i64 1)))),aO 14 (.mv (.t 40))]
def B2n:ACode:=.seq [2,3,12,13,14,15] (.ops [aO 15 (.bin .lss (.t 14) (.t 13))]) (.seq [2,3,12,13,14] (.cond (.t 15) .skip (.exit 0)) (.seq [2,3,12,13,14] (.block 1 (.seq [2,3,7,12,13,14] (.ops [aO 16 (.iAddrL 1 (.t 12) (.t 14)),aO 17 (.load1 (.t 16)),aO 7 (.mv (.t 17))]) (.seq [2,3,7,12,13,14,21,22,23] (.ops [aO 18 (.loadN 4 (.t 3)),aO 19 (.mv (.t 7)),aO 20 (.call 71 [(.t 18),(.t 19)]),aO 21 (.call 88 [(.t 20)]),aO 22 (.len (.t 21)),aO 23 (.mv (.v (.c (.i .i64 0))))]) (.block 2 (.loop [2,3,7,12,13,14,21,22,23] B6D))))) B6E))
def A_dread_each__Stray_1:AFn:=⟨.seq [2,3,4] (.ops [aO 3 (.box (.t 0)),aO 4 (.box (.t 1))]) (.seq [2,3,12,13,14] (.ops [aO 10 (.loadN 4 (.t 3)),aO 11 (.loadN 11 (.t 4)),aO 12 (.call 87 [(.t 10),(.t 11)]),aO 13 (.len (.t 12)),aO 14 (.mv (.v (.c (.i .i64 0))))]) (.block 0 (.loop [2,3,12,13,14] B2n))),[]⟩
def A0h:B3:=A7 87 A0I (A7 71 S7 (A7 88 Z2 (A7 84 A4t B8)))
def B2o (n:Nat):B4 (Val × A0):=D6 0 A_dread_each__Stray_1.fin
def A7Z (n m:Nat) (x2 x3 x12 x13 x14:Val) (h:A0):A6:=C8 (ax A0h n B2n) [2,3,12,13,14] (B2o n) m [(2,x2),(3,x3),(12,x12),(13,x13),(14,x14)] h
def B0T (n:Nat) (args:List Val) (h:A0):A6:=ax A0h n A_dread_each__Stray_1.code A_dread_each__Stray_1.fin (params 0 args) h
def C8x (n m:Nat):B4 (Val × A0):=R1 [2,3,12,13,14] (C8 (ax A0h n B2n) [2,3,12,13,14] (B2o n) m) (B2o n)
def C8y (n m:Nat):B4 (Val × A0):=E5 [2,3,12,13,14] (ax A0h n B6E) (C8x n m)
def C8z (n m:Nat):B4 (Val × A0):=D6 1 (C8y n m)
def C8A (n m:Nat):B4 (Val × A0):=D6 2 (C8z n m)
def A70 (n m m2:Nat) (x2 x3 x7 x12 x13 x14 x21 x22 x23:Val) (h:A0):A6:=C8 (ax A0h n B6D) [2,3,7,12,13,14,21,22,23] (C8A n m) m2 [(2,x2),(3,x3),(7,x7),(12,x12),(13,x13),(14,x14),(21,x21),(22,x22),(23,x23)] h
theorem C2w (n:Nat) (a0 a1 a2:Val) (h:A0):B0T n [a0,a1,a2] h=bnd (cells? a0) fun c1=>bnd (cells? a1) fun c2=>bnd (A3 ((h ++ [some (Row.mk (c1) true)]) ++ [some (Row.mk (c2) true)]) 4 (.c (.p h.length 0))) fun v3=>bnd (A3 ((h ++ [some (Row.mk (c1) true)]) ++ [some (Row.mk (c2) true)]) 11 (.c (.p (h ++ [some (Row.mk (c1) true)]).length 0))) fun v4=>bnd (A0I [v3,v4] ((h ++ [some (Row.mk (c1) true)]) ++ [some (Row.mk (c2) true)])) fun p5=>bnd (E3 p5.1) fun v6=>A7Z n n a2 (.c (.p h.length 0)) p5.1 v6 (.c (.i .i64 0)) p5.2:=by kernel_rfl
theorem C8B (n m:Nat) (x2 x3 x12 x13 x14:Val) (h:A0):A7Z n (m + 1) x2 x3 x12 x13 x14 h=bnd (A2 .lss x14 x13) fun v7=>cnd v7 (bnd (B9 1 x12 x14) fun v8=>bnd (A5 h v8) fun v9=>bnd (A3 h 4 x3) fun v10=>bnd (S7 [v10,v9] h) fun p11=>bnd (Z2 [p11.1] p11.2) fun p12=>bnd (E3 p12.1) fun v13=>A70 n m n x2 x3 v9 x12 x13 x14 p12.1 v13 (.c (.i .i64 0)) p12.2) (C7 [] h):=by kernel_rfl
theorem C8C (n m m2:Nat) (x2 x3 x7 x12 x13 x14 x21 x22 x23:Val) (h:A0):A70 n m (m2 + 1) x2 x3 x7 x12 x13 x14 x21 x22 x23 h=bnd (A2 .lss x23 x22) fun v14=>cnd v14 (bnd (B9 3 x21 x23) fun v15=>bnd (A3 h 3 v15) fun v16=>bnd (B6 (h ++ [some (Row.mk ([.i .i64 0,.s [],.i .i64 0]) true)]) 3 (.c (.p h.length 0)) v16) fun h17=>bnd (B7 (.c (.p h.length 0)) 0) fun v18=>bnd (A5 h17 v18) fun v19=>bnd (B7 (.c (.p h.length 0)) 1) fun v20=>bnd (B7 v20 1) fun v21=>bnd (A5 h17 v21) fun v22=>bnd (A8 ([.i .i64 0,.i .i64 0,.i .i64 0]) [(0,1,x7),(1,1,v19),(2,1,v22)]) fun c23=>bnd (B7 (.c (.p h.length 0)) 1) fun v24=>bnd (B7 v24 0) fun v25=>bnd (A5 h17 v25) fun v26=>bnd (O7 A0h x2 [(.a c23),v26] h17) fun p27=>bnd (A2 .add x23 (.c (.i .i64 1))) fun v28=>A70 n m m2 x2 x3 x7 x12 x13 x14 x21 x22 v28 p27.2) (bnd (A2 .add x14 (.c (.i .i64 1))) fun v29=>A7Z n m x2 x3 x12 x13 v29 h):=by kernel_rfl
theorem K_dread_each__Stray_1:FnK Tryz.prog 83 A_dread_each__Stray_1 A0h B0T:=.mk' (A9 B1v (A9 A26 (A9 B1m (A9 C4q C1)))) Tryz.func83 (by kernel_rfl) (fun _ _ _=>C0)
def A4v:Fun:=Lim A_dread_each__Stray_1 A0h
theorem C4w:SOk Tryz.prog 83 A4v:=K_dread_each__Stray_1.ok
theorem C4v:OfT B0T A4v:=K_dread_each__Stray_1.of
def A_dread_Stray:AFn:=⟨.seq [2,3] (.ops [aO 2 (.box (.t 0)),aO 3 (.box (.t 1)),aO 4 (.nilrow 3)]) (.seq [2,3,5] (.ops [aO 5 (.alloc ([.ns]))]) (.seq [5] (.ops [aO 6 (.loadN 4 (.t 2)),aO 7 (.loadN 11 (.t 3)),aO 8 (.mkf 84 [(.t 2),(.t 3),(.t 5)]),aO 9 (.call 83 [(.t 6),(.t 7),(.t 8)])]) (.seq [4] (.ops [aO 10 (.load1 (.t 5)),aO 4 (.mv (.t 10))]) .ret))),[.tmp 4]⟩
def A9T:B3:=A7 83 A4v B8
def A2Z (n:Nat) (args:List Val) (h:A0):A6:=ax A9T n A_dread_Stray.code A_dread_Stray.fin (params 0 args) h
theorem C2u (n:Nat) (a0 a1:Val) (h:A0):A2Z n [a0,a1] h=bnd (cells? a0) fun c1=>bnd (cells? a1) fun c2=>bnd (A3 ((((h ++ [some (Row.mk (c1) true)]) ++ [some (Row.mk (c2) true)]) ++ [some (Row.mk ([]) true)]) ++ [some (Row.mk ([.ns]) true)]) 4 (.c (.p h.length 0))) fun v3=>bnd (A3 ((((h ++ [some (Row.mk (c1) true)]) ++ [some (Row.mk (c2) true)]) ++ [some (Row.mk ([]) true)]) ++ [some (Row.mk ([.ns]) true)]) 11 (.c (.p (h ++ [some (Row.mk (c1) true)]).length 0))) fun v4=>bnd (X5 84 [(.c (.p h.length 0)),(.c (.p (h ++ [some (Row.mk (c1) true)]).length 0)),(.c (.p (((h ++ [some (Row.mk (c1) true)]) ++ [some (Row.mk (c2) true)]) ++ [some (Row.mk ([]) true)]).length 0))]) fun v5=>bnd (A4v [v3,v4,v5] ((((h ++ [some (Row.mk (c1) true)]) ++ [some (Row.mk (c2) true)]) ++ [some (Row.mk ([]) true)]) ++ [some (Row.mk ([.ns]) true)])) fun p6=>bnd (A5 p6.2 (.c (.p (((h ++ [some (Row.mk (c1) true)]) ++ [some (Row.mk (c2) true)]) ++ [some (Row.mk ([]) true)]).length 0))) fun v7=>some (v7,p6.2):=by kernel_rfl
theorem K_dread_Stray:FnK Tryz.prog 26 A_dread_Stray A9T A2Z:=.mk' (A9 C4w C1) Tryz.func26 (by kernel_rfl) (fun _ _ _=>C0)
def A0G:Fun:=tidy (Lim A_dread_Stray A9T)
theorem B4A:SOk Tryz.prog 26 A0G:=K_dread_Stray.sok
theorem C4r:B0K A2Z A0G:=K_dread_Stray.low
theorem C4s:N9 A2Z A0G:=K_dread_Stray.out
def A_dread_Empty:AFn:=⟨.seq [2,3] (.ops [aO 2 (.box (.t 0)),aO 3 (.box (.t 1)),aO 4 (.mv (.v (.c (.b false))))]) (.seq [4] (.ops [aO 5 (.loadN 4 (.t 2)),aO 6 (.loadN 11 (.t 3)),aO 7 (.call 28 [(.t 5),(.t 6)]),aO 8 (.len (.t 7)),aO 9 (.bin .eql (.t 8) (.v (.c (.i .i64 0)))),aO 4 (.mv (.t 9))]) .ret),[.tmp 4]⟩
def A9P:B3:=A7 28 A0E B8
def A6i (n:Nat) (args:List Val) (h:A0):A6:=ax A9P n A_dread_Empty.code A_dread_Empty.fin (params 0 args) h
theorem C2p (n:Nat) (a0 a1:Val) (h:A0):A6i n [a0,a1] h=bnd (cells? a0) fun c1=>bnd (cells? a1) fun c2=>bnd (A3 ((h ++ [some (Row.mk (c1) true)]) ++ [some (Row.mk (c2) true)]) 4 (.c (.p h.length 0))) fun v3=>bnd (A3 ((h ++ [some (Row.mk (c1) true)]) ++ [some (Row.mk (c2) true)]) 11 (.c (.p (h ++ [some (Row.mk (c1) true)]).length 0))) fun v4=>bnd (A0E [v3,v4] ((h ++ [some (Row.mk (c1) true)]) ++ [some (Row.mk (c2) true)])) fun p5=>bnd (E3 p5.1) fun v6=>bnd (A2 .eql v6 (.c (.i .i64 0))) fun v7=>some (v7,p5.2):=by kernel_rfl
theorem K_dread_Empty:FnK Tryz.prog 29 A_dread_Empty A9P A6i:=.mk' (A9 B1o C1) Tryz.func29 (by kernel_rfl) (fun _ _ _=>C0)
def A1U:Fun:=tidy (Lim A_dread_Empty A9P)
theorem B4y:SOk Tryz.prog 29 A1U:=K_dread_Empty.sok
theorem C4i:D1 A6i A1U:=K_dread_Empty.flat
def B6x:ACode:=.seq [2,5,10,11,12,13] (.ops [aO 13 (.bin .lss (.t 12) (.t 11))]) (.seq [2,5,10,11,12] (.cond (.t 13) .skip (.exit 0)) (.seq [2,5,10,11,12] (.block 1 (.seq [2,5,7,10,11,12] (.ops [aO 14 (.iAddrL 1 (.t 10) (.t 12)),aO 15 (.load1 (.t 14)),aO 7 (.mv (.t 15))]) (.ops [aO 16 (.mv (.t 5)),aO 17 (.loadN 4 (.t 2)),aO 18 (.mv (.t 7)),aO 19 (.call 71 [(.t 17),(.t 18)]),aO 20 (.call 88 [(.t 19)]),aO 21 (.len (.t 20)),aO 22 (.buildSl 1 1 ([.i .i64 0]) [(0,1,(.t 21))]),aO 23 (.app 1 (.t 16) (.t 22)),aO 5 (.mv (.t 23))]))) (.ops [aO 24 (.bin .add (.t 12) (.v (.c (.i .i64 1)))),aO 12 (.mv (.t 24))])))
def B6y:ACode:=.seq [4] (.ops [aO 25 (.mv (.t 5)),aO 4 (.mv (.t 25))]) .ret
def A_dread_Load:AFn:=⟨.seq [2,3] (.ops [aO 2 (.box (.t 0)),aO 3 (.box (.t 1)),aO 4 (.nilrow 1)]) (.seq [2,3,5] (.ops [aO 5 (.nilrow 1)]) (.seq [5] (.seq [2,5,10,11,12] (.ops [aO 8 (.loadN 4 (.t 2)),aO 9 (.loadN 11 (.t 3)),aO 10 (.call 87 [(.t 8),(.t 9)]),aO 11 (.len (.t 10)),aO 12 (.mv (.v (.c (.i .i64 0))))]) (.block 0 (.loop [2,5,10,11,12] B6x))) B6y)),[.tmp 4]⟩
def A3N:B3:=A7 87 A0I (A7 71 S7 (A7 88 Z2 B8))
def C8o (n:Nat):B4 (Val × A0):=E5 [5] (ax A3N n B6y) A_dread_Load.fin
def C8p (n:Nat):B4 (Val × A0):=D6 0 (C8o n)
def A7W (n m:Nat) (x2 x5 x10 x11 x12:Val) (h:A0):A6:=C8 (ax A3N n B6x) [2,5,10,11,12] (C8p n) m [(2,x2),(5,x5),(10,x10),(11,x11),(12,x12)] h
def A6k (n:Nat) (args:List Val) (h:A0):A6:=ax A3N n A_dread_Load.code A_dread_Load.fin (params 0 args) h
theorem C2r (n:Nat) (a0 a1:Val) (h:A0):A6k n [a0,a1] h=bnd (cells? a0) fun c1=>bnd (cells? a1) fun c2=>bnd (A3 ((((h ++ [some (Row.mk (c1) true)]) ++ [some (Row.mk (c2) true)]) ++ [some (Row.mk ([]) true)]) ++ [some (Row.mk ([]) true)]) 4 (.c (.p h.length 0))) fun v3=>bnd (A3 ((((h ++ [some (Row.mk (c1) true)]) ++ [some (Row.mk (c2) true)]) ++ [some (Row.mk ([]) true)]) ++ [some (Row.mk ([]) true)]) 11 (.c (.p (h ++ [some (Row.mk (c1) true)]).length 0))) fun v4=>bnd (A0I [v3,v4] ((((h ++ [some (Row.mk (c1) true)]) ++ [some (Row.mk (c2) true)]) ++ [some (Row.mk ([]) true)]) ++ [some (Row.mk ([]) true)])) fun p5=>bnd (E3 p5.1) fun v6=>A7W n n (.c (.p h.length 0)) (.c (.sl (((h ++ [some (Row.mk (c1) true)]) ++ [some (Row.mk (c2) true)]) ++ [some (Row.mk ([]) true)]).length 0 0 1)) p5.1 v6 (.c (.i .i64 0)) p5.2:=by kernel_rfl
theorem B6z (n m:Nat) (x2 x5 x10 x11 x12:Val) (h:A0):A7W n (m + 1) x2 x5 x10 x11 x12 h=bnd (A2 .lss x12 x11) fun v7=>cnd v7 (bnd (B9 1 x10 x12) fun v8=>bnd (A5 h v8) fun v9=>bnd (A3 h 4 x2) fun v10=>bnd (S7 [v10,v9] h) fun p11=>bnd (Z2 [p11.1] p11.2) fun p12=>bnd (E3 p12.1) fun v13=>bnd (A8 ([.i .i64 0]) [(0,1,v13)]) fun c14=>bnd (E7 (p12.2 ++ [some (Row.mk (c14) true)]) 1 x5 (.c (.sl p12.2.length 0 1 1))) fun p15=>bnd (A2 .add x12 (.c (.i .i64 1))) fun v16=>A7W n m x2 p15.1 x10 x11 v16 p15.2) (some (x5,h)):=by kernel_rfl
theorem K_dread_Load:FnK Tryz.prog 30 A_dread_Load A3N A6k:=.mk' (A9 B1v (A9 A26 (A9 B1m C1))) Tryz.func30 (by kernel_rfl) (fun _ _ _=>C0)
def A4r:Fun:=tidy (Lim A_dread_Load A3N)
theorem C4l:SOk Tryz.prog 30 A4r:=K_dread_Load.sok
theorem C4m:N9 A6k A4r:=K_dread_Load.out
end Go.Proofs.YteckncopbicmcaaGreat
end
section
namespace Go.Proofs.YteckncopbicmcaaGreat
open Go Go.Esc
def S0 (X:List Int) (nm:List UInt8):Nat:=M5 nm % F3 (X.headD 0)
def V4 (X:List Int) (nm:List UInt8):Int:=X.tail.getD (S0 X nm) 0
theorem B8z (X:List Int) (nm:List UInt8):S0 X nm < 32:=by
  have h1:=A0X (X.headD 0)
  have h2:0 < F3 (X.headD 0):=by unfold F3;exact Nat.two_pow_pos _
  have:=Nat.mod_lt (M5 nm) h2
  unfold S0;omega
def A5V (D:Dev) (n k:Int) (d:List Int) (nm:List UInt8):List Part :=
  bif M3 D n k d then [.c (.i .i64 (S0 (J3 D n k d) nm:Nat)),.c (.i .i64 (V4 (J3 D n k d) nm)),.c (.b true)] else [.c (.i .i64 0),.c (.i .i64 0),.c (.b false)]
theorem C8q {D:Dev} {n m k l s p:Int} {d:List Int} {f:Cell} {nm:List UInt8} {h:A0} (hD:okD D) (hd:d.length=7) (hv:IsView h f D) (hs:nm.length < 9223372036854775807) :
    A4s [.a (vwC D.length n m f),.a (A4 k l s p d),.c (.s nm)] h=some (.t (A5V D n k d nm),h):=by
  have key:∀ g,IsView g f D → ∃ g',A6m 0 [.a (vwC D.length n m f),.a (A4 k l s p d),.c (.s nm)] g=some (.t (A5V D n k d nm),g'):=by
    intro g hv
    have hIl:(A4 k l s p d).length=11:=by simp [A4,F7,hd]
    have l11:ldN (some (Row.mk (A4 k l s p d) true)) 0 11=some (.a (A4 k l s p d)):=Q3 hIl
    have l4:=A2S (b:=D.length) (n:=n) (m:=m) (f:=f)
    have hz:(encI (0 :: zI 32)).length=33:=J0 (d:=0) M8
    have hX:=A8C D n k d
    have hI:=B8l (n:=n) (m:=m) (k:=k) (l:=l) (s:=s) (p:=p) (h:=g ++ [some (Row.mk (vwC D.length n m f) true),some (Row.mk (A4 k l s p d) true)]) hD hd (hv.more _)
    rw [C2t,X1]
    unfold A5V
    cases c:M3 D n k d with
    | false =>
      rw [c] at hI
      generalize encI (J3 D n k d)=x at *
      generalize encI (0 :: zI 32)=z at *
      generalize vwC D.length n m f=V at *
      generalize A4 k l s p d=I at *
      exact ⟨_,by simp only [esc,esh,Nat.reduceAdd,Nat.reduceMul,Nat.reduceLT,l4,l11,hI,hz,hX] <;> rfl⟩
    | true =>
      rw [c] at hI
      have hM:=fun h=>B9G (s:=nm) hs (h:=h)
      obtain ⟨x,t,e,ht⟩:=B3d D n k d
      rw [e] at hI hX ⊢
      have hP:=fun h=>D0k (d:=x) (h:=h) ht (A82 (s:=nm))
      have hlt:=B8z (x :: t) nm
      have eP:M5 nm % F3 x=S0 (x :: t) nm:=rfl
      rw [eP] at hP
      have ad:∀ q,D8 32 1 (.c (.p q 1)) (.c (.i .i64 (S0 (x :: t) nm:Nat)))=some (.c (.p q (1 + S0 (x :: t) nm))):=fun q=>by
        rw [B5a (by omega) (by omega)];simp
      have l1:ld1 (some (Row.mk (encI (x :: t)) true)) (1 + S0 (x :: t) nm)=some (.c (.i .i64 (V4 (x :: t) nm))):=by
        rw [B9o]
        have:(encI (x :: t))[1 + S0 (x :: t) nm]? = some (.i .i64 (V4 (x :: t) nm)):=by
          rw [Q9,Nat.add_comm,List.getElem?_cons_succ,List.getElem?_eq_getElem (by omega)]
          unfold V4
          rw [List.tail_cons,List.getD_eq_getElem?_getD,List.getElem?_eq_getElem (by omega)];rfl
        rw [this];rfl
      generalize V4 (x :: t) nm=B at *
      generalize S0 (x :: t) nm=P at *
      generalize encI (x :: t)=X at *
      generalize encI (0 :: zI 32)=z at *
      generalize vwC D.length n m f=V at *
      generalize A4 k l s p d=I at *
      exact ⟨_,by simp only [esc,X4,T1,A7A,A2m,A0R,T4,Q3,A3K,Nat.reduceAdd,l4,l11,hI,hz,hX,hM,hP,ad,l1] <;> rfl⟩
  obtain ⟨g',e⟩:=key (ro h) hv.ro
  exact C4o e (by unfold A5V;cases M3 D n k d <;> rfl)
abbrev Plc:=Int × Nat × Int
def F1:Option Plc → List Cell
  | none=>[.i .i64 0,.i .i64 0,.i .i64 0]
  | some p=>[.i .i64 p.1,.i .i64 (p.2.1:Int),.i .i64 p.2.2]
def Y3 (D:Dev) (n k:Int) (d:List Int) (nm:List UInt8):Option Plc :=
  if M3 D n k d=true ∧ K0 D.length n (V4 (J3 D n k d) nm)=true then (J2 (blk D (V4 (J3 D n k d) nm)) nm).map fun s=>(V4 (J3 D n k d) nm,s.1,s.2.2) else none
theorem B2k {D:Dev} {n m k l s p:Int} {d:List Int} {f:Cell} {nm:List UInt8} {h:A0} (hD:okD D) (hd:d.length=7) (hv:IsView h f D) (hs:nm.length < 9223372036854775807) :
    A0F [.a (vwC D.length n m f),.a (A4 k l s p d),.c (.s nm)] h=some (.t [.a (F1 (Y3 D n k d nm)),.c (.b (Y3 D n k d nm).isSome)],h):=by
  have key:∀ g,IsView g f D → ∃ g',A6l 0 [.a (vwC D.length n m f),.a (A4 k l s p d),.c (.s nm)] g=some (.t [.a (F1 (Y3 D n k d nm)),.c (.b (Y3 D n k d nm).isSome)],g'):=by
    intro g hv
    have hIl:(A4 k l s p d).length=11:=by simp [A4,F7,hd]
    have l11:ldN (some (Row.mk (A4 k l s p d) true)) 0 11=some (.a (A4 k l s p d)):=Q3 hIl
    have l4:=A2S (b:=D.length) (n:=n) (m:=m) (f:=f)
    have l3:=A9F (b:=D.length) (n:=n) (m:=m) (f:=f)
    have ef:A8 [Cell.i .i64 0,.i .i64 0,.i .i64 0] []=some [Cell.i .i64 0,.i .i64 0,.i .i64 0]:=rfl
    have l3z:ldN (some (Row.mk [Cell.i .i64 0,.i .i64 0,.i .i64 0] true)) 0 3=some (.a [Cell.i .i64 0,.i .i64 0,.i .i64 0]):=rfl
    have s3z:∀ x,stN (some (Row.mk [Cell.i .i64 0,.i .i64 0,.i .i64 0] true)) 0 3 [Cell.i .i64 x,.i .i64 0,.i .i64 0]=some ⟨[Cell.i .i64 x,.i .i64 0,.i .i64 0],true⟩:=fun _=>rfl
    have hR:=C8q (n:=n) (m:=m) (k:=k) (l:=l) (s:=s) (p:=p) (nm:=nm) (h:=g ++ [some (Row.mk (vwC D.length n m f) true),some (Row.mk (A4 k l s p d) true),some (Row.mk [.i .i64 0,.i .i64 0,.i .i64 0] true)]) hD hd (hv.more _) hs
    rw [C2s]
    unfold Y3
    unfold A5V at hR
    cases c:M3 D n k d with
    | false =>
      rw [c,cond_false] at hR
      rw [if_neg (by simp)]
      generalize vwC D.length n m f=V at *
      generalize A4 k l s p d=I at *
      exact ⟨_,by simp only [esc,esh,Nat.reduceAdd,Nat.reduceMul,Nat.reduceLT,l4,l11,hR,ef,l3z,s3z,F1,Option.isSome_none] <;> rfl⟩
    | true =>
      rw [c,cond_true] at hR
      generalize S0 (J3 D n k d) nm=P at *
      generalize V4 (J3 D n k d) nm=B at *
      have hG:=fun h=>B3a (b:=D.length) (n:=n) (m:=m) (i:=B) (h:=h)
      cases c2:K0 D.length n B with
      | false =>
        simp only [c2] at hG
        rw [if_neg (by simp)]
        generalize vwC D.length n m f=V at *
        generalize A4 k l s p d=I at *
        exact ⟨_,by simp only [esc,esh,Nat.reduceAdd,Nat.reduceMul,Nat.reduceLT,l4,l11,l3,hR,hG,ef,l3z,s3z,F1,Option.isSome_none] <;> rfl⟩
      | true =>
        simp only [c2] at hG
        rw [if_pos ⟨rfl,rfl⟩]
        have hB:=A58 (n:=n) (m:=m) (no:=B) (h:=g ++ [some (Row.mk (vwC D.length n m f) true),some (Row.mk (A4 k l s p d) true),some (Row.mk [.i .i64 0,.i .i64 0,.i .i64 0] true)]) hD (hv.more _)
        have hF:=fun h=>B5N (b:=blk D B) (nm:=nm) (h:=h) (A1a hD)
        cases c3:J2 (blk D B) nm with
        | none =>
          simp only [c3] at hF
          generalize A1 (blk D B)=y at *
          generalize vwC D.length n m f=V at *
          generalize A4 k l s p d=I at *
          have s3:stN (some (Row.mk [Cell.i .i64 0,.s [],.i .i64 0] true)) 0 3 (slC none)=some ⟨slC none,true⟩:=rfl
          exact ⟨_,by simp only [esc,esh,Nat.reduceAdd,Nat.reduceMul,Nat.reduceLT,l4,l11,l3,hR,hG,hB,hF,ef,l3z,s3z,s3,F1,Option.isSome_none,Option.map_none] <;> rfl⟩
        | some sl =>
          obtain ⟨kk,s',i'⟩:=sl
          simp only [c3] at hF
          generalize A1 (blk D B)=y at *
          generalize vwC D.length n m f=V at *
          generalize A4 k l s p d=I at *
          have s3:stN (some (Row.mk [Cell.i .i64 0,.s [],.i .i64 0] true)) 0 3 (slC (some (kk,s',i')))=some ⟨slC (some (kk,s',i')),true⟩:=rfl
          have g0:ld1 (some (Row.mk (slC (some (kk,s',i'))) true)) 0=some (.c (.i .i64 (kk:Int))):=rfl
          have g2:ld1 (some (Row.mk (slC (some (kk,s',i'))) true)) 2=some (.c (.i .i64 i')):=rfl
          have ef3:A8 [Cell.i .i64 0,.i .i64 0,.i .i64 0] [(0,1,.c (.i .i64 B)),(1,1,.c (.i .i64 (kk:Int))),(2,1,.c (.i .i64 i'))]=some [Cell.i .i64 B,.i .i64 (kk:Int),.i .i64 i']:=rfl
          have s33:stN (some (Row.mk [Cell.i .i64 0,.i .i64 0,.i .i64 0] true)) 0 3 [Cell.i .i64 B,.i .i64 (kk:Int),.i .i64 i']=some ⟨[Cell.i .i64 B,.i .i64 (kk:Int),.i .i64 i'],true⟩:=rfl
          have l33:ldN (some (Row.mk [Cell.i .i64 B,.i .i64 (kk:Int),.i .i64 i'] true)) 0 3=some (.a [Cell.i .i64 B,.i .i64 (kk:Int),.i .i64 i']):=rfl
          exact ⟨_,by simp only [esc,X4,T1,A7A,A2m,A0R,T4,Q3,A3K,Nat.reduceAdd,l4,l11,l3,hR,hG,hB,hF,ef,s3,g0,g2,ef3,s33,l33,F1,Option.isSome_some,Option.map_some] <;> rfl⟩
  obtain ⟨g',e⟩:=key (ro h) hv.ro
  exact C4n e (by cases Y3 D n k d nm <;> rfl)
end Go.Proofs.YteckncopbicmcaaGreat
end
section
namespace Go.Proofs.YteckncopbicmcaaGreat
open Go Go.Esc
def L7 (l:List Slt):List Cell:=(l.map fun x=>slC (some x)).flatten
theorem A9w {l:List Slt}:(L7 l).length=l.length * 3:=by
  induction l with
  | nil=>rfl
  | cons x l ih=>simp only [L7,List.map_cons,List.flatten_cons,List.length_append,A1B,List.length_cons] at ih ⊢;omega
theorem D3A {l:List Slt} {x:Slt}:L7 (l ++ [x])=L7 l ++ slC (some x):=by simp [L7]
theorem D3z {l:List Slt}:F4 (L7 l)=true:=by
  induction l with
  | nil=>rfl
  | cons x l ih =>
    have:L7 (x :: l)=slC (some x) ++ L7 l:=rfl
    rw [this,A8y,C1B,ih];rfl
theorem D1s {l:List Slt}:noX (L7 l)=true:=by
  induction l with
  | nil=>rfl
  | cons x l ih =>
    have:L7 (x :: l)=[.i .i64 (x.1:Int),.s x.2.1,.i .i64 x.2.2] ++ L7 l:=rfl
    rw [this]
    simp [noX,Cell.isX] at ih ⊢
    exact ih
def J4 (b:List UInt8):Nat → Nat → List Slt
  | 0,_=>[]
  | e + 1,k=>match I3 b k with
    | some x=>(k,x) :: J4 b e (k + 1)
    | none=>J4 b e (k + 1)
def H0 (b:List UInt8):List Slt:=J4 b 7 0
theorem A5J {b:List UInt8} {e k:Nat} (hx:I3 b k=none):J4 b (e + 1) k=J4 b e (k + 1):=by rw [J4,hx]
theorem A5K {b:List UInt8} {e k:Nat} {x:Ent} (hx:I3 b k=some x):J4 b (e + 1) k=(k,x) :: J4 b e (k + 1):=by rw [J4,hx]
theorem C7s {h:A0} {jd m sz:Nat} {ys:List Cell} (hy:rd h jd=some ⟨ys,true⟩) (hyl:ys.length=m * sz) (hsz:0 < sz) (hn:m ≤ 1073741824) :
    E7 h sz (.c .ns) (.c (.sl jd 0 m sz))=some (.c (.sl h.length 0 m sz),h ++ [some ⟨ys,true⟩]):=by
  have h2:O1 h sz (.c (.sl jd 0 m sz))=some ys:=by
    simp only [O1,if_true,X0,hy,Option.bind_some,List.drop_zero,Nat.zero_add]
    rw [← hyl,List.take_length,if_pos ⟨Nat.le_refl _,rfl⟩]
  have e1:ys.length / sz=m:=by rw [hyl];exact Nat.mul_div_cancel _ hsz
  simp only [E7,h2,Option.bind_some]
  rw [e1,if_pos hn]
def Held (h:A0) (x:Cell) (l:List Slt) (b r0 r:Nat):Prop:=(l=[] ∧ x=.ns) ∨ ∃ id,x=.sl id 0 l.length 3 ∧ rd h id=some ⟨L7 l,true⟩ ∧ b ≤ id ∧ id ≠ r0 ∧ id ≠ r
theorem Held.more {h:A0} {x:Cell} {l:List Slt} {b r0 r:Nat} (hd:Held h x l b r0 r) (t:A0):Held (h ++ t) x l b r0 r:=by
  rcases hd with hd | ⟨id,h1,h2,h3⟩
  · exact .inl hd
  · exact .inr ⟨id,h1,C3 h2,h3⟩
theorem D0X {k:Nat} {n:Int} {s:List UInt8} {x:Cell} {l:List Slt} {r0 r:Nat} {B h:A0} {c0:List Cell} (hlow:Low B.length B h) (hr:rd h r=some ⟨[x],true⟩) (h0:rd h r0=some ⟨c0,true⟩) (h0r:r0 ≠ r) (hBr:B.length ≤ r) (hB0:B.length ≤ r0) (hd:Held h x l B.length r0 r) (hl:l.length ≤ 7) :
    ∃ x' h',A4m [.a [.i .i64 (k:Int),.s s,.i .i64 n],.c (.p r 0)] h=some (.c (.b true),h') ∧ Low B.length B h' ∧ rd h' r=some ⟨[x'],true⟩ ∧ rd h' r0=some ⟨c0,true⟩ ∧ Held h' x' (l ++ [(k,(s,n))]) B.length r0 r:=by
  have hlt:=D0 hr
  have hlt0:=D0 h0
  have l1:A5 (h ++ [some (Row.mk [.i .i64 (k:Int),.s s,.i .i64 n] true)]) (.c (.p r 0))=some (.c x):=H4 (cs:=[x]) (C3 hr) rfl (by simp)
  have ef:A8 [Cell.i .i64 0,.s [],.i .i64 0] [(0,3,.a [.i .i64 (k:Int),.s s,.i .i64 n])]=some [.i .i64 (k:Int),.s s,.i .i64 n]:=rfl
  have hBh:=hlow.2.1
  rcases hd with ⟨rfl,rfl⟩ | ⟨id,rfl,hi,hbi,hi0,hir⟩
  · have hA:=C7s (h:=h ++ [some (Row.mk [.i .i64 (k:Int),.s s,.i .i64 n] true),some (Row.mk [.i .i64 (k:Int),.s s,.i .i64 n] true)]) (jd:=h.length + 1) (m:=1) (sz:=3) (ys:=[.i .i64 (k:Int),.s s,.i .i64 n]) (by simp) rfl (by omega) (by omega)
    simp only [List.length_append,List.length_cons,List.length_nil,Nat.zero_add,List.append_assoc,List.cons_append,List.nil_append,Nat.reduceAdd] at hA
    have hr2:rd (h ++ [some (Row.mk [.i .i64 (k:Int),.s s,.i .i64 n] true),some (Row.mk [.i .i64 (k:Int),.s s,.i .i64 n] true),some (Row.mk [.i .i64 (k:Int),.s s,.i .i64 n] true)]) r=some ⟨[.ns],true⟩:=C3 hr
    have t1:=Z0 (x:=.sl (h.length + 2) 0 1 3) (off:=0) hr2 (by simp)
    refine ⟨.sl (h.length + 2) 0 1 3,_,B4t (n:=0) (by rw [B4n];simp only [esc,esh,Nat.reduceAdd,Nat.reduceMul,Nat.reduceLT,l1,ef,hA,t1] <;> rfl),(hlow.new _).set hBr _,?_,?_,.inr ⟨h.length + 2,rfl,?_,by omega,by omega,by omega⟩⟩
    · exact K3 (D0 hr2)
    · rw [H8 (Ne.symm h0r)];exact C3 h0
    · rw [H8 (by omega)];simp [L7,slC]
  · have hA:=T2 (h:=h ++ [some (Row.mk [.i .i64 (k:Int),.s s,.i .i64 n] true),some (Row.mk [.i .i64 (k:Int),.s s,.i .i64 n] true)]) (id:=id) (jd:=h.length + 1) (n:=l.length) (m:=1) (sz:=3) (cs:=L7 l) (ys:=[.i .i64 (k:Int),.s s,.i .i64 n]) (rw:=true) (C3 hi) A9w (by simp) rfl rfl (by omega) (by omega)
    have hli:=D0 hi
    have es:(h ++ [some (Row.mk [.i .i64 (k:Int),.s s,.i .i64 n] true),some (Row.mk [.i .i64 (k:Int),.s s,.i .i64 n] true)]).length=h.length + 2:=by simp
    rw [es] at hA
    have hr2:rd ((h ++ [some (Row.mk [.i .i64 (k:Int),.s s,.i .i64 n] true),some (Row.mk [.i .i64 (k:Int),.s s,.i .i64 n] true)]).set id none ++ [some (Row.mk (L7 l ++ [.i .i64 (k:Int),.s s,.i .i64 n]) true)]) r=some ⟨[.sl id 0 l.length 3],true⟩:=by
      refine C3 ?_
      rw [H8 hir];exact C3 hr
    have t1:=Z0 (x:=.sl (h.length + 2) 0 (l.length + 1) 3) (off:=0) hr2 (by simp)
    refine ⟨.sl (h.length + 2) 0 (l.length + 1) 3,_,B4t (n:=0) (by rw [B4n];simp only [esc,esh,Nat.reduceAdd,Nat.reduceMul,Nat.reduceLT,l1,ef,hA,t1] <;> rfl),(((hlow.new _).set hbi _).new _).set hBr _,?_,?_,.inr ⟨h.length + 2,by simp,?_,by omega,by omega,by omega⟩⟩
    · exact K3 (D0 hr2)
    · rw [H8 (Ne.symm h0r)]
      refine C3 ?_
      rw [H8 hi0];exact C3 h0
    · rw [H8 (by omega),D3A]
      have:((h ++ [some (Row.mk [.i .i64 (k:Int),.s s,.i .i64 n] true),some (Row.mk [.i .i64 (k:Int),.s s,.i .i64 n] true)]).set id none).length=h.length + 2:=by simp
      rw [← this]
      exact N6
theorem B2q {b:List UInt8} {r0 r q:Nat} {B:A0} (hb:b.length=256) (h0r:r0 ≠ r) (hBr:B.length ≤ r) (hB0:B.length ≤ r0):∀ (e k m:Nat) (h:A0) (x:Cell) (l:List Slt),k + e=7 → e < m → l.length ≤ k → Low B.length B h →
    rd h r=some ⟨[x],true⟩ → rd h r0=some ⟨A1 b,true⟩ → Held h x l B.length r0 r →
    ∃ x' h',A7N q m (.c (.f 163 [(r,0)])) (.c (.p r0 0)) (.c (.i .i64 (k:Int))) h=some (.t [],h') ∧ Low B.length B h' ∧ rd h' r=some ⟨[x'],true⟩ ∧ Held h' x' (l ++ J4 b e k) B.length r0 r
  | e,k,0,h,x,l,_,hm,_,_,_,_,_=>by omega
  | 0,k,m + 1,h,x,l,hk,hm,hl,hlow,hr,h0,hd=>by
    have e0:k=7:=by omega
    subst e0
    have c0:¬ ((7:Nat):Int) < 7:=by omega
    refine ⟨x,h,?_,hlow,hr,by rw [J4,List.append_nil];exact hd⟩
    rw [B5Z]
    simp only [esc,c0] <;> rfl
  | e + 1,k,m + 1,h,x,l,hk,hm,hl,hlow,hr,h0,hd=>by
    have c0:(k:Int) < 7:=by omega
    have hbl:(A1 b).length=256:=by rw [B1,hb]
    have s1:=G5 (h:=h) (id:=r0) h0 hbl
    have hR:=B53 (h:=h) (k:=k) hb (by omega)
    have w1:=E6 (show k + 1 < 9223372036854775808 by omega)
    have hcv:∀ (x:Val) (h:A0),O7 A2W (.c (.f 163 [(r,0)])) [x] h=A4m [x,.c (.p r 0)] h:=fun _ _=>Eq.trans rfl rfl
    rw [B5Z]
    cases hx:I3 b k with
    | none =>
      rw [hx] at hR
      rw [A5J hx]
      obtain ⟨x',h',f1,f2⟩:=B2q (q:=q) hb h0r hBr hB0 e (k + 1) m (h ++ [some ⟨[.s [],.i .i64 0],true⟩]) x l (by omega) (by omega) (by omega) (hlow.new _) (C3 hr) (C3 h0) (hd.more _)
      refine ⟨x',h',?_,f2⟩
      generalize A1 b=y at *
      simp only [esc,esh,Nat.reduceAdd,Nat.reduceMul,Nat.reduceLT,c0,s1,hR,F0,Option.isSome_none,w1]
      exact f1
    | some en =>
      obtain ⟨s,n⟩:=en
      rw [hx] at hR
      rw [A5K hx]
      have ef:A8 [Cell.i .i64 0,.s [],.i .i64 0] [(0,1,.c (.i .i64 (k:Int))),(1,2,.a [.s s,.i .i64 n])]=some [.i .i64 (k:Int),.s s,.i .i64 n]:=rfl
      obtain ⟨x1,h1,g1,g2,g3,g4,g5⟩:=D0X (k:=k) (n:=n) (s:=s) (hlow.new [some (Row.mk [.s s,.i .i64 n] true)]) (C3 hr) (C3 h0) h0r hBr hB0 (hd.more _) (by omega)
      obtain ⟨x',h',f1,f2,f3,f4⟩:=B2q (q:=q) hb h0r hBr hB0 e (k + 1) m h1 x1 (l ++ [(k,(s,n))]) (by omega) (by omega) (by simp;omega) g2 g3 g4 g5
      rw [List.append_assoc,List.singleton_append] at f4
      refine ⟨x',h',?_,f2,f3,f4⟩
      generalize A1 b=y at *
      simp only [esc,esh,Nat.reduceAdd,Nat.reduceMul,Nat.reduceLT,c0,s1,hR,F0,Option.isSome_some,ef,hcv,g1,w1]
      exact f1
theorem B5O {b:List UInt8} {h:A0} (hb:b.length=256):∃ v t,Z2 [.a (A1 b)] h=some (v,h ++ t) ∧ Has (h ++ t) v 3 (H0 b).length (L7 (H0 b)) ∧ (t=[] ∧ v=.c .ns ∧ H0 b=[] ∨ t=[some ⟨L7 (H0 b),true⟩] ∧ v=.c (.sl h.length 0 (H0 b).length 3)):=by
  have key:∀ g,∃ x g',A4k 8 [.a (A1 b)] g=some (.c x,g') ∧ Held g' x (H0 b) g.length (g.length + 3) (g.length + 2):=by
    intro g
    have hbl:(A1 b).length=256:=by rw [B1,hb]
    have emk:X5 163 [.c (.p (g.length + 2) 0)]=some (.c (.f 163 [(g.length + 2,0)])):=rfl
    obtain ⟨x,h',f1,f2,f3,f4⟩:=B2q (b:=b) (r0:=g.length + 3) (r:=g.length + 2) (q:=8) (B:=g) hb (by omega) (by omega) (by omega) 7 0 8 (g ++ [some (Row.mk (A1 b) true),some (Row.mk [] true),some (Row.mk [.ns] true),some (Row.mk (A1 b) true)]) .ns [] (by omega) (by omega) (by simp)
      ((Low.refl (Nat.le_refl _)).new _) (by simp) (by simp) (.inl ⟨rfl,rfl⟩)
    have hS:A4o [.a (A1 b),.c (.f 163 [(g.length + 2,0)])] (g ++ [some (Row.mk (A1 b) true),some (Row.mk [] true),some (Row.mk [.ns] true)])=some (.t [],h'):=by
      refine C4a (n:=8) ?_
      rw [C2j]
      simp only [esc,esh,Nat.reduceAdd,Nat.reduceMul,Nat.reduceLT]
      exact f1
    have t1:A5 h' (.c (.p (g.length + 2) 0))=some (.c x):=H4 (cs:=[x]) f3 rfl (by simp)
    rw [C2g]
    generalize A1 b=y at *
    exact ⟨x,h',by simp only [esc,esh,Nat.reduceAdd,Nat.reduceMul,Nat.reduceLT,hbl,emk,hS,t1],f4⟩
  obtain ⟨x,g',e,hd⟩:=key (ro h)
  rcases hd with ⟨hl,rfl⟩ | ⟨id,rfl,hr,hbi,_⟩
  · refine ⟨.c .ns,[],?_,?_,.inl ⟨rfl,rfl,hl⟩⟩
    · rw [List.append_nil];exact C34 e (by simp [Val.low,Cell.low,Cell.flat])
    · rw [hl];exact .inl ⟨rfl,rfl,rfl⟩
  · rw [K4] at hbi
    refine ⟨.c (.sl h.length 0 (H0 b).length 3),[some ⟨L7 (H0 b),true⟩],C35 e ⟨A9w,id,rfl,hbi,hr⟩ D3z,Has.row (rw:=true) (by simp) A9w D1s,.inr ⟨rfl,rfl⟩⟩
end Go.Proofs.YteckncopbicmcaaGreat
end
section
namespace Go.Proofs.YteckncopbicmcaaGreat
open Go Go.Esc
def B0J (h:A0) (x:Cell) (cs:List Cell) (n sz b:Nat) (rs:List Nat):Prop:=(n=0 ∧ cs=[] ∧ x=.ns) ∨ ∃ id,x=.sl id 0 n sz ∧ rd h id=some ⟨cs,true⟩ ∧ cs.length=n * sz ∧ b ≤ id ∧ id ∉ rs
def VarC (h:A0) (r:Nat) (cs:List Cell) (n sz b:Nat) (rs:List Nat):Prop:=∃ x,rd h r=some ⟨[x],true⟩ ∧ B0J h x cs n sz b rs
theorem VarC.nil {h:A0} {r sz b:Nat} {rs:List Nat} (hr:rd h r=some ⟨[.ns],true⟩):VarC h r [] 0 sz b rs:=⟨.ns,hr,.inl ⟨rfl,rfl,rfl⟩⟩
theorem VarC.keep {h h':A0} {r n sz b:Nat} {cs:List Cell} {rs:List Nat} (hv:VarC h r cs n sz b rs) (h1:rd h' r=rd h r) (h2:∀ id,id ∉ rs → ∀ x,rd h id=some x → rd h' id=some x):VarC h' r cs n sz b rs:=by
  obtain ⟨x,hx,hd⟩:=hv
  refine ⟨x,by rw [h1];exact hx,?_⟩
  rcases hd with hd | ⟨id,e,hr,hl,hb,hn⟩
  · exact .inl hd
  · exact .inr ⟨id,e,h2 id hn _ hr,hl,hb,hn⟩
theorem VarC.more {h:A0} {r n sz b:Nat} {cs:List Cell} {rs rs':List Nat} (hv:VarC h r cs n sz b rs) (t:A0) (hrs:∀ j ∈ rs',j ∈ rs ∨ h.length ≤ j):VarC (h ++ t) r cs n sz b rs':=by
  obtain ⟨x,hx,hd⟩:=hv
  refine ⟨x,C3 hx,?_⟩
  rcases hd with hd | ⟨id,e,hr,hl,hb,hn⟩
  · exact .inl hd
  · refine .inr ⟨id,e,C3 hr,hl,hb,fun hm=>?_⟩
    have:=D0 hr
    rcases hrs id hm with h1 | h1
    · exact hn h1
    · omega
theorem VarC.fewer {h:A0} {r n sz b:Nat} {cs:List Cell} {rs rs':List Nat} (hv:VarC h r cs n sz b rs) (hrs:∀ j ∈ rs',j ∈ rs):VarC h r cs n sz b rs':=by
  have:=hv.more (rs':=rs') [] (fun j hj=>.inl (hrs j hj))
  rwa [List.append_nil] at this
theorem VarC.push {h:A0} {r n sz b:Nat} {cs ys:List Cell} {rs:List Nat} (hv:VarC h r cs n sz b rs) (hr:r ∈ rs) (hbr:b ≤ r) (hbh:b ≤ h.length) (hlt:∀ j ∈ rs,j < h.length) (hl:n ≤ 100000) (hy:ys.length=sz) (hsz:0 < sz) :
    ∃ x v h2 h3,A5 h (.c (.p r 0))=some (.c x) ∧ E7 (h ++ [some ⟨ys,true⟩]) sz (.c x) (.c (.sl h.length 0 1 sz))=some (.c v,h2) ∧ F9 h2 (.c (.p r 0)) (.c v)=some h3 ∧
      VarC h3 r (cs ++ ys) (n + 1) sz b rs ∧ Low b h h3 ∧ (∀ j ∈ rs,j ≠ r → rd h3 j=rd h j) ∧ h.length ≤ h3.length:=by
  obtain ⟨x,hx,hd⟩:=hv
  have hrl:=D0 hx
  have l1:A5 h (.c (.p r 0))=some (.c x):=H4 hx rfl (by simp)
  rcases hd with ⟨rfl,rfl,rfl⟩ | ⟨id,rfl,hi,hcl,hb,hn⟩
  · have hA:=B5w (h:=h ++ [some ⟨ys,true⟩]) (jd:=h.length) (m:=1) (sz:=sz) (ys:=ys) (by simp) (by omega) hsz (by omega)
    have e1:(h ++ [some (Row.mk ys true)]).length=h.length + 1:=by simp
    rw [e1] at hA
    have hr2:rd (h ++ [some (Row.mk ys true)] ++ [some (Row.mk ys true)]) r=some ⟨[.ns],true⟩:=C3 (C3 hx)
    have s1:=Z0 (x:=.sl (h.length + 1) 0 1 sz) (off:=0) hr2 (by simp)
    refine ⟨.ns,_,_,_,l1,hA,s1,⟨.sl (h.length + 1) 0 1 sz,K3 (D0 hr2),.inr ⟨h.length + 1,rfl,?_,by simp [hy],by omega,fun h1=>by have:=hlt _ h1;omega⟩⟩,(((Low.refl hbh).new _).new _).set hbr _,fun j hj hjr=>?_,by simp⟩
    · rw [H8 (by omega)]
      have:=N6 (h:=h ++ [some (Row.mk ys true)]) (r:=⟨ys,true⟩)
      rw [e1] at this
      exact this
    · rw [H8 (Ne.symm hjr)]
      have:=hlt j hj
      rw [N1 (by simp;omega),N1 this]
  · have hil:=D0 hi
    have hne:id ≠ r:=fun e=>hn (e ▸ hr)
    have hA:=T2 (h:=h ++ [some ⟨ys,true⟩]) (id:=id) (jd:=h.length) (n:=n) (m:=1) (sz:=sz) (cs:=cs) (ys:=ys) (rw:=true) (C3 hi) hcl (by simp) (by omega) rfl hsz (by omega)
    have e1:(h ++ [some (Row.mk ys true)]).length=h.length + 1:=by simp
    rw [e1] at hA
    have hr2:rd ((h ++ [some (Row.mk ys true)]).set id none ++ [some (Row.mk (cs ++ ys) true)]) r=some ⟨[.sl id 0 n sz],true⟩:=by
      refine C3 ?_
      rw [H8 hne];exact C3 hx
    have s1:=Z0 (x:=.sl (h.length + 1) 0 (n + 1) sz) (off:=0) hr2 (by simp)
    refine ⟨_,_,_,_,l1,hA,s1,⟨.sl (h.length + 1) 0 (n + 1) sz,K3 (D0 hr2),.inr ⟨h.length + 1,by simp,?_,by simp [hcl,hy,Nat.add_mul],by omega,fun h1=>by have:=hlt _ h1;omega⟩⟩,((((Low.refl hbh).new _).set hb _).new _).set hbr _,fun j hj hjr=>?_,by simp;omega⟩
    · rw [H8 (by omega)]
      have:=N6 (h:=(h ++ [some (Row.mk ys true)]).set id none) (r:=⟨cs ++ ys,true⟩)
      rw [List.length_set,e1] at this
      exact this
    · have hji:j ≠ id:=fun e=>hn (e ▸ hj)
      have:=hlt j hj
      rw [H8 (Ne.symm hjr),N1 (by simp;omega),H8 (Ne.symm hji),N1 this]
def B4l (h:A0) (o:A6) (cs:List Cell) (n sz:Nat):Prop:=∃ v t,o=some (v,h ++ t) ∧ Has (h ++ t) v sz n cs ∧ (t=[] ∧ v=.c .ns ∧ n=0 ∧ cs=[] ∨ t=[some ⟨cs,true⟩] ∧ v=.c (.sl h.length 0 n sz))
theorem C7l {S:Fun} {R:Nat → Fun} {args:List Val} {h g':A0} {N:Nat} {x:Cell} {cs:List Cell} {n sz:Nat} {rs:List Nat}
    (hlow:∀ {n:Nat} {args:List Val} {h h2:A0} {v:Val},R n args (ro h)=some (v,h2) → v.low h.length=true → S args h=some (v,h))
    (hout:∀ {n:Nat} {args:List Val} {h h2:A0} {v:Val} {sz k:Nat} {cs:List Cell},R n args (ro h)=some (v,h2) → Out h.length h2 v sz k cs → F4 cs=true → S args h=some (.c (.sl h.length 0 k sz),h ++ [some ⟨cs,true⟩]))
    (he:R N args (ro h)=some (.c x,g')) (hd:B0J g' x cs n sz h.length rs) (hf:F4 cs=true) (hx:noX cs=true):B4l h (S args h) cs n sz:=by
  rcases hd with ⟨hn,hl,rfl⟩ | ⟨id,rfl,hr,hl,hbi,_⟩
  · refine ⟨.c .ns,[],?_,?_,.inl ⟨rfl,rfl,hn,hl⟩⟩
    · rw [List.append_nil];exact hlow he (by simp [Val.low,Cell.low,Cell.flat])
    · exact .inl ⟨rfl,hn,hl⟩
  · exact ⟨.c (.sl h.length 0 n sz),[some ⟨cs,true⟩],hout he ⟨hl,id,rfl,hbi,hr⟩ hf,Has.row (rw:=true) (by simp) hl hx,.inr ⟨rfl,rfl⟩⟩
end Go.Proofs.YteckncopbicmcaaGreat
end
