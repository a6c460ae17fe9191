/- Regions whose order is open, with one write near their end: what need not stand ahead of it may stand behind it. -/
import Derived.Test.YtbbkpmbepljhkaaEscM2
set_option linter.all false
namespace Go.Esc
open Go

/-- It reads values alone. -/
def pureReg : AOp → Bool
  | .mv _ | .pick .. | .bin .. | .eqA .. | .eqB .. | .eqN .. | .nilc _ | .un .. | .conv .. | .convS _ | .fAddr .. | .iAddrA .. | .iAddrL .. | .fld1 .. | .fldN .. | .idxA1 .. | .idxAN .. | .idxS .. | .ext .. | .len _ | .lenS _ | .max .. | .min .. => true
  | _ => false

theorem aop_reg {E : Sums} {q : Bool} {hr : Heap} {n0 : Nat} {slot : Option Nat} {o : AOp} {e : Env} {h h' : Heap} {v : Val} (hp : pureReg o = true)
    (hres : aop E q hr n0 slot o e h (fun v h => some (v, h)) = some (v, h')) : ∀ (q2 : Bool) (hr2 : Heap) (n2 : Nat) (slot2 : Option Nat) (h2 : Heap), aop E q2 hr2 n2 slot2 o e h2 (fun v h => some (v, h)) = some (v, h2) := by
  intro q2 hr2 n2 slot2 h2
  cases o <;> simp [pureReg] at hp <;> simp only [aop] at hres ⊢
  case mv => cases hres; rfl
  all_goals
    simp only [Option.bind_eq_some_iff, Option.some.injEq, Prod.mk.injEq] at hres
    obtain ⟨_, h1, rfl, rfl⟩ := hres
    rw [h1]; rfl

def isLoad : AOp → Bool
  | .load1 _ | .loadN .. => true
  | _ => false

theorem aop_load {E : Sums} {q : Bool} {n0 : Nat} {slot : Option Nat} {o : AOp} {e : Env} {h : Heap} {v : Val} (hp : isLoad o = true) (hr : reload h o e = some v) : aop E q h n0 slot o e h (fun v h => some (v, h)) = some (v, h) := by
  cases o <;> simp [isLoad] at hp <;> simp only [reload] at hr <;> simp only [aop, hr] <;> rfl

theorem reload_env {o : AOp} {e e' : Env} {h : Heap} (he : ∀ x ∈ o.opds, e.ev x = e'.ev x) : reload h o e = reload h o e' := by
  cases o <;> simp only [AOp.opds] at he <;> simp only [reload]
  · rw [he _ (by simp)]
  · rw [he _ (by simp)]

def sameLoad : AOp → AOp → Bool
  | .load1 (.t a), .load1 (.t b) => decide (a = b)
  | .loadN n (.t a), .loadN m (.t b) => decide (n = m) && decide (a = b)
  | _, _ => false

theorem sameLoad_ok {o p : AOp} (h : sameLoad o p = true) : o = p ∧ isLoad p = true := by
  unfold sameLoad at h
  split at h
  · have := of_decide_eq_true h; subst this; exact ⟨rfl, rfl⟩
  · rw [Bool.and_eq_true] at h
    have h1 := of_decide_eq_true h.1
    have h2 := of_decide_eq_true h.2
    subst h1 h2; exact ⟨rfl, rfl⟩
  · cases h

def chkFloat (s : AOper) (chk : List (Nat × AOp)) (o : AOper) : Bool :=
  decide (o.guard = none) && decide (o.slot = none) && !isCall o.op && !slotted o.op &&
  (match o.dst with
   | some d => !(s.reads.contains d) && (pureReg o.op || chk.any fun c => decide (c.1 = d) && sameLoad c.2 o.op)
   | none => false) &&
  (match s.dst with | some d => !(o.reads.contains d) | none => true)

def chkS (ops : Array Oper) (l : List AOper) (s : AOper) (chk : List (Nat × AOp)) (r : List AOper) : Bool :=
  let cl := closures ops
  l.zipIdx.all (fun p => (cl.getD l.length 0).testBit p.2 || chkFloat s chk p.1) &&
  l.all (fun o => match s.dst with | some d => decide (o.dst ≠ some d) | none => true) &&
  chkLast ops (l.length + 1) r.length

structure Float1 (s : AOper) (chk : List (Nat × AOp)) (o : AOper) : Prop where
  guard : o.guard = none
  slot : o.slot = none
  call : isCall o.op = false
  slotted : slotted o.op = false
  dst : ∃ d, o.dst = some d ∧ d ∉ s.reads ∧ (pureReg o.op = true ∨ (isLoad o.op = true ∧ (d, o.op) ∈ chk))
  reads : ∀ d, s.dst = some d → d ∉ o.reads

theorem chkFloat_ok {s : AOper} {chk : List (Nat × AOp)} {o : AOper} (h : chkFloat s chk o = true) : Float1 s chk o := by
  simp only [chkFloat, Bool.and_eq_true, decide_eq_true_eq, Bool.not_eq_true'] at h
  obtain ⟨⟨⟨⟨⟨h1, h2⟩, h3⟩, h4⟩, h5⟩, h6⟩ := h
  refine ⟨h1, h2, h3, h4, ?_, fun d hd => ?_⟩
  · split at h5
    · rename_i d hd
      simp only [Bool.and_eq_true, Bool.not_eq_true', Bool.or_eq_true] at h5
      refine ⟨d, hd, fun hm => ?_, ?_⟩
      · have := h5.1
        rw [List.contains_iff_mem.2 hm] at this; cases this
      · rcases h5.2 with h | h
        · exact .inl h
        · right
          rw [List.any_eq_true] at h
          obtain ⟨c, hc, h⟩ := h
          simp only [Bool.and_eq_true, decide_eq_true_eq] at h
          obtain ⟨e1, e2⟩ := sameLoad_ok h.2
          refine ⟨e2, ?_⟩
          have : c = (d, o.op) := by cases c; simp at h e1; simp [h.1, e1]
          rw [← this]; exact hc
    · cases h5
  · rw [hd] at h6
    simp only [Bool.not_eq_true'] at h6
    intro hm
    rw [List.contains_iff_mem.2 hm] at h6; cases h6

theorem again_ok {R : Type} {e : Env} {h : Heap} {k : Option R} {res : R} : ∀ {l : List (Nat × AOp)}, again l e h k = some res → k = some res ∧ ∀ c ∈ l, reload h c.2 e = some (e.get c.1)
  | [], hr => ⟨hr, by simp⟩
  | c :: l, hr => by
    rw [again_cons] at hr
    unfold agn at hr
    split at hr
    · rename_i hc
      obtain ⟨h1, h2⟩ := again_ok hr
      exact ⟨h1, fun x hx => by rcases List.mem_cons.1 hx with e | hx; subst e; exact hc; exact h2 x hx⟩
    · cases hr

/-- How things stand behind the write. -/
structure Sim2 (Γ : Ctx) (l : List AOper) (s : AOper) (n0 N : Nat) (e : Env) (vs : Nat → Val) (v : Val) (μ0 : Mu) (done : Nat → Bool) (h2 : Heap) (μ : Mu) (a : Act) (w : World) : Prop where
  envD : ∀ (i : Nat) ao d, l[i]? = some ao → done i = true → ao.dst = some d → RV μ (vs i) (a.tmps.getD d undef)
  envO : ∀ t, (∀ (i : Nat) ao, l[i]? = some ao → done i = true → ao.dst ≠ some t) → s.dst ≠ some t → RV μ (e.get t) (a.tmps.getD t undef)
  envS : ∀ d, s.dst = some d → RV μ v (a.tmps.getD d undef)
  inv : Inv Γ μ h2 w
  le : μ0.le μ
  keep : ∀ id, id < n0 → μ id = μ0 id
  size : N ≤ a.tmps.size
  defers : a.defers = []

theorem getD_put {a : Act} {dst : Option Nat} {V : Value} {t : Nat} (h : dst ≠ some t) : (a.put dst V).tmps.getD t undef = a.tmps.getD t undef := by
  cases hd : dst with
  | none => rfl
  | some d =>
    rw [hd] at h
    simp [Act.put, Array.getElem?_setIfInBounds_ne (show d ≠ t from fun e => h (by rw [e]))]
theorem getD_put_same {a : Act} {d N : Nat} {V : Value} (h : chkDst N (some d) = true) (hN : N ≤ a.tmps.size) : (a.put (some d) V).tmps.getD d undef = V := by
  have hlt : d < a.tmps.size := by
    simp [chkDst] at h
    exact Nat.lt_of_lt_of_le h hN
  simp [Act.put, Array.getD, hlt]

section
variable {P : Program} {N m : Nat} {ops : Array Oper} {l r : List AOper} {s : AOper} {chk : List (Nat × AOp)} {E : Sums} {hr : Heap} {e : Env} {es : Nat → Env} {hs : Nat → Heap} {vs : Nat → Val} {Γ : Ctx} {μ0 : Mu}

/-- Behind the region's operations the values are those of the text's order. -/
theorem es_same (D : DrawOk P N ops m l (s :: r)) (ht : Trace E hr hr.length l es hs vs) (he : es 0 = e) {i t : Nat} {ao : AOper} (ha : l[i]? = some ao) (hm : t ∈ ao.reads) : (es l.length).get t = (es i).get t := by
  have hil : i < l.length := (List.getElem?_eq_some_iff.1 ha).1
  by_cases hw : ∃ (j : Nat) (aj : AOper), l[j]? = some aj ∧ aj.dst = some t
  · obtain ⟨j, aj, haj, hd⟩ := hw
    obtain ⟨_, h2⟩ := D.reads i j ao aj t ha haj hd hm
    rw [es_writer D ht haj hd i h2 (by omega), es_writer D ht haj hd l.length (by omega) (Nat.le_refl _)]
  · have hno : ∀ (j : Nat) (aj : AOper), l[j]? = some aj → aj.dst ≠ some t := fun j aj haj hd => hw ⟨j, aj, haj, hd⟩
    rw [es_other ht he i (by omega) fun j aj _ haj => hno j aj haj, es_other ht he l.length (Nat.le_refl _) fun j aj _ haj => hno j aj haj]

/-- One that floats, behind the write. -/
theorem sim2_step (D : DrawOk P N ops m l (s :: r)) (hE : Sound P E) (ht : Trace E hr hr.length l es hs vs) (he : es 0 = e) {v : Val} {h2 : Heap} (hag : ∀ c ∈ chk, reload h2 c.2 (es l.length) = some ((es l.length).get c.1))
    {done : Nat → Bool} {μ : Mu} {a : Act} {w : World} (S : Sim2 Γ l s hr.length N e vs v μ0 done h2 μ a w) {i : Nat} {ao : AOper} {o : Oper} (ha : l[i]? = some ao) (ho : ops[i]? = some o) (hnd : done i = false) (hf : Float1 s chk ao)
    (hdist : ∀ (k : Nat) ak d, l[k]? = some ak → s.dst = some d → ak.dst ≠ some d)
    (hah : ∀ b, ((closures ops).getD i 0).testBit b = true → done b = true)
    {next : Act → World → Prop} {Q : Exit → Act → World → Prop} (hn : ∀ V w' μ', Sim2 Γ l s hr.length N e vs v μ0 (also done i) h2 μ' (a.put o.dst V) w' → next (a.put o.dst V) w') :
    if Region.wanted o (yielded ops a.tmps) then o.wp P a w next Q ∨ (o.asks P a w ∧ LetsOut Q) else next (a.put o.dst undef) w := by
  have hil : i < l.length := (List.getElem?_eq_some_iff.1 ha).1
  have hco : chkOper P N ops o ao = true := D.oper i o ao ho (by rw [List.getElem?_append_left hil]; exact ha)
  have hdst : o.dst = ao.dst ∧ chkDst N o.dst = true := by
    simp only [chkOper, Bool.and_eq_true, decide_eq_true_eq] at hco
    exact ⟨hco.1.1.1, hco.1.1.2⟩
  obtain ⟨d, hd, hds, hkind⟩ := hf.dst
  have henv : SEnv μ ((es i).keep ao.reads) a := by
    intro t
    rw [Env.get_keep_mem]
    split
    · rename_i hmem
      by_cases hw : ∃ (j : Nat) (aj : AOper), l[j]? = some aj ∧ aj.dst = some t
      · obtain ⟨j, aj, haj, hdj⟩ := hw
        obtain ⟨h1, h3⟩ := D.reads i j ao aj t ha haj hdj hmem
        rw [es_writer D ht haj hdj i h3 (by omega)]
        exact S.envD j aj t haj (hah j h1) hdj
      · have hno : ∀ (j : Nat) (aj : AOper), l[j]? = some aj → aj.dst ≠ some t := fun j aj haj hd => hw ⟨j, aj, haj, hd⟩
        rw [es_other ht he i (by omega) fun j aj _ haj => hno j aj haj]
        exact S.envO t (fun j aj haj _ => hno j aj haj) fun hst => hf.reads t hst hmem
    · trivial
  have hstep := ht.step i ao ha
  have hone : aoper E true h2 hr.length ao (es i) h2 (fun v h => some (v, h)) = some (vs i, h2) := by
    unfold aoper at hstep ⊢
    rw [hf.guard] at hstep ⊢
    simp only at hstep ⊢
    rcases hkind with hp | ⟨hp, hmem⟩
    · exact aop_reg hp hstep _ _ _ _ _
    · refine aop_load hp ?_
      have h1 := hag _ hmem
      simp only at h1
      rw [es_writer D ht ha hd l.length hil (Nat.le_refl _)] at h1
      rw [← h1]
      refine reload_env fun x hx => ?_
      cases x with
      | v x => rfl
      | t n => exact (es_same D ht he ha (List.mem_append_left _ (List.mem_filterMap.2 ⟨.t n, hx, rfl⟩))).symm
  rw [aoper_env (e' := (es i).keep ao.reads) fun t ht' => by rw [Env.get_keep_mem, if_pos ht']] at hone
  refine aoper_wp (hr := h2) (n0 := hr.length) hE hco hone henv S.inv (fun _ _ h => h) (by rw [hf.slot]; trivial) ?_
  intro V w' μ' hle hv hinv hkeep
  rw [hf.slot] at hkeep
  refine hn V w' μ' ⟨?_, ?_, ?_, hinv, Mu.le_trans S.le hle, ?_, by rw [Act.size_put]; exact S.size, by rw [put_defers]; exact S.defers⟩
  · intro k ak d' hak hdk hd'
    by_cases e1 : k = i
    · subst e1
      rw [ha] at hak; cases hak
      rw [hdst.1, hd']
      rw [getD_put_same (by rw [← hd', ← hdst.1]; exact hdst.2) S.size]
      exact hv
    · rw [also_of _ _ e1] at hdk
      rw [getD_put (by rw [hdst.1]; exact fun h => (D.apart i k ao ak ha hak (Ne.symm e1)).1 d' h hd')]
      exact (S.envD k ak d' hak hdk hd').mono hle
  · intro t hno hst
    have h1 := hno i ao ha (also_self _ _)
    rw [getD_put (by rw [hdst.1]; exact h1)]
    refine (S.envO t (fun k ak hak hdk => ?_) hst).mono hle
    by_cases e1 : k = i
    · subst e1; rw [hnd] at hdk; cases hdk
    · exact hno k ak hak (by rw [also_of _ _ e1]; exact hdk)
  · intro d' hd'
    rw [getD_put (by rw [hdst.1]; exact hdist i ao d' ha hd')]
    exact (S.envS d' hd').mono hle
  · intro id hid
    by_cases hl : id < h2.length
    · rw [← S.keep id hid]
      exact hkeep id hl fun j hj => by cases hj
    · have h1 := S.inv.dom id (by omega)
      have h3 := S.keep id hid
      rw [h1] at h3
      have h4 := hinv.dom id (by omega)
      rw [h4, ← h3]

end

theorem drawS_ok {P : Program} {N L : Nat} {ops : Array Oper} {m id : Nat} {l r : List AOper} {s : AOper} {chk : List (Nat × AOp)} {E : Sums} (hE : Sound P E) {e : Env} {h : Heap} {R : Type} {k : Env → Heap → Option R} {res : R}
    (hc : chkDraw P N ops m l (s :: r) = true) (hcs : chkS ops l s chk r = true) (hL : L ≤ h.length)
    (hres : adraw E h h.length l e (h ++ List.replicate m none) (fun e h => aoper E false h 0 s e h fun v h2 => again chk e h2 (aops E r (e.put s.dst v) h2 k)) = some res) :
    ∃ e' h', k e' h' = some res ∧ L ≤ h'.length ∧ StepsTo P N L ((Code.region id ops true).wp P) e h .normal e' h' := by
  have D := chkDraw_ok hc
  simp only [chkS, Bool.and_eq_true, List.all_eq_true] at hcs
  obtain ⟨⟨hfl, hdi⟩, hla⟩ := hcs
  have hsz : ops.size = l.length + (r.length + 1) := by rw [D.size]; simp
  have last := chkLast_ok hla (by rw [hsz]; omega)
  have hfloat : ∀ (i : Nat) ao, l[i]? = some ao → ((closures ops).getD l.length 0).testBit i = false → Float1 s chk ao := by
    intro i ao ha hb
    have := hfl (ao, i) (mem_zipIdx ha)
    simp only [Bool.or_eq_true] at this
    rcases this with h | h
    · rw [hb] at h; cases h
    · exact chkFloat_ok h
  have hdist : ∀ (k : Nat) ak d, l[k]? = some ak → s.dst = some d → ak.dst ≠ some d := by
    intro k ak d hak hd
    have := hdi ak (List.mem_of_getElem? hak)
    rw [hd] at this
    simpa using this
  obtain ⟨es, hs, vs, he, h0, ht, hk⟩ := trace_of l _ _ hres
  rw [aoper_bind] at hk
  simp only [Option.bind_eq_some_iff] at hk
  obtain ⟨⟨v, h2⟩, hone, hk⟩ := hk
  obtain ⟨hk, hag⟩ := again_ok hk
  simp only at hk hag
  have hnl : l.length < ops.size := by omega
  have hos : ops[l.length]? = some ops[l.length] := by simp [hnl]
  have hcos : chkOper P N ops ops[l.length] s = true := D.oper l.length _ s hos (by rw [List.getElem?_append_right (Nat.le_refl _)]; simp)
  have hsslot : s.slot = none := D.rslot s (by simp)
  have hsdst : ops[l.length].dst = s.dst ∧ chkDst N ops[l.length].dst = true := by
    have := hcos
    simp only [chkOper, Bool.and_eq_true, decide_eq_true_eq] at this
    exact ⟨this.1.1.1, this.1.1.2⟩
  have hrlist : All2 (fun i ao => ∃ o, ops[i]? = some o ∧ chkOper P N ops o ao = true ∧ ao.slot = none) (List.range' (l.length + 1) r.length) r := by
    refine All2.of_get (by simp) fun i x ao hx hao => ?_
    have hi : i < r.length := (List.getElem?_eq_some_iff.1 hao).1
    rw [List.getElem?_range' hi] at hx
    simp at hx
    subst hx
    have hlt : l.length + 1 + i < ops.size := by omega
    refine ⟨ops[l.length + 1 + i], by simp [hlt], ?_, D.rslot ao (List.mem_cons_of_mem _ (List.mem_of_getElem? hao))⟩
    refine D.oper (l.length + 1 + i) _ ao (by simp [hlt]) ?_
    rw [List.getElem?_append_right (by omega), show l.length + 1 + i - l.length = i + 1 by omega]
    simpa using hao
  have hbl := base_len D ht h0 (k := l.length) (Nat.le_refl _)
  have hl2 := aoper_len hE hone
  obtain ⟨e', h', hk', hL', hst⟩ := aops_ok (L := L) hE _ r ((es l.length).put s.dst v) h2 k res hrlist hk (by omega)
  refine ⟨e', h', hk', hL', fun Γ μ0 a w hs0 hi hN hd Q hq => wp_region_any D.follows ?_⟩
  -- all is done
  have whole : ∀ (listed : Array Bool) (a : Act) (w : World) (μ : Mu), Sim2 Γ l s h.length N e vs v μ0 (fun i => listed.getD i false) h2 μ a w → (∀ j, j < l.length → listed.getD j false = true) → wpOps P ops Q (List.range' (l.length + 1) r.length) a w := by
    intro listed a w μ S hall
    have henv : SEnv μ ((es l.length).put s.dst v) a := by
      intro t
      have main : s.dst ≠ some t → RV μ ((es l.length).get t) (a.tmps.getD t undef) := by
        intro hne
        by_cases hw : ∃ (j : Nat) (aj : AOper), l[j]? = some aj ∧ aj.dst = some t
        · obtain ⟨j, aj, haj, hdj⟩ := hw
          have hjl := (List.getElem?_eq_some_iff.1 haj).1
          rw [es_writer D ht haj hdj l.length hjl (Nat.le_refl _)]
          exact S.envD j aj t haj (hall j hjl) hdj
        · have hno : ∀ (j : Nat) (aj : AOper), l[j]? = some aj → aj.dst ≠ some t := fun j aj haj hdj => hw ⟨j, aj, haj, hdj⟩
          rw [es_other ht he l.length (Nat.le_refl _) fun j aj _ haj => hno j aj haj]
          exact S.envO t (fun j aj haj _ => hno j aj haj) hne
      cases hsd : s.dst with
      | none => exact main (by rw [hsd]; simp)
      | some d =>
        by_cases e1 : d = t
        · subst e1
          rw [Env.get_put_same]; exact S.envS d hsd
        · rw [Env.get_put_other _ _ _ _ e1]
          exact main (by rw [hsd]; simpa using e1)
    exact hst Γ μ a w henv S.inv S.size S.defers Q fun μ' a' w' g1 g2 g3 g4 g5 g6 => hq μ' a' w' (Mu.le_trans S.le g1) (fun id hid => (g2 id hid).trans (S.keep id (by omega))) g3 g4 g5 g6
  -- behind the write
  have main2 : ∀ (fuel : Nat) (listed : Array Bool) (a : Act) (w : World) (μ : Mu), listed.size = ops.size → left ops.size listed ≤ fuel → listed.getD l.length false = true →
      (∀ j, l.length < j → j < ops.size → listed.getD j false = false) → (∀ (j : Nat) ao, l[j]? = some ao → listed.getD j false = false → Float1 s chk ao) →
      (∀ (i : Nat) (o : Oper), ops[i]? = some o → listed.getD i false = true → ∀ p ∈ directs o, listed.getD p false = true) →
      Sim2 Γ l s h.length N e vs v μ0 (fun i => listed.getD i false) h2 μ a w → wpAny P .any ops Q fuel listed a w := by
    intro fuel
    induction fuel with
    | zero =>
      intro listed a w μ hls hleft hsd hbeyond hfl2 hclosed S
      have hall : ∀ j, j < ops.size → listed.getD j false = true := by
        intro j hj
        cases hv : listed.getD j false with
        | true => rfl
        | false =>
          have hm : j ∈ (List.range ops.size).filter fun i => !listed.getD i false := by rw [List.mem_filter]; exact ⟨by simpa using hj, by rw [hv]; rfl⟩
          have := List.length_pos_of_mem hm
          unfold left at hleft
          omega
      have hr0 : r.length = 0 := by
        cases hr : r.length with
        | zero => rfl
        | succ x =>
          have h1 := hall (l.length + 1) (by omega)
          have h3 := hbeyond (l.length + 1) (by omega) (by omega)
          rw [h1] at h3; cases h3
      refine any_of_ops D.dir last 0 (l.length + 1) 0 listed a w (by omega) (Nat.le_refl _) hls (fun j hj => ?_) (Nat.le_refl _) ?_
      · rw [hall j hj]
        have : j < l.length + 1 := by omega
        simp [this]
      · have := whole listed a w μ S fun j hj => hall j (by omega)
        rw [hr0] at this
        exact this
    | succ fuel ih =>
      intro listed a w μ hls hleft hsd hbeyond hfl2 hclosed S
      by_cases hall : ∀ j, j < l.length → listed.getD j false = true
      · refine any_of_ops D.dir last r.length (l.length + 1) (fuel + 1) listed a w (by omega) (Nat.le_refl _) hls (fun j hj => ?_) ?_ (whole listed a w μ S hall)
        · by_cases hjl : j < l.length + 1
          · have : listed.getD j false = true := by
              by_cases e1 : j = l.length
              · subst e1; exact hsd
              · exact hall j (by omega)
            rw [this]; simp [hjl]
          · rw [hbeyond j (by omega) hj]; simp [hjl]
        · refine Nat.le_trans ?_ hleft
          unfold left
          have : ((List.range ops.size).filter fun i => !listed.getD i false) = List.range' (l.length + 1) r.length := by
            rw [show ops.size = (l.length + 1) + r.length by omega, List.range_add, List.filter_append]
            have e1 : (List.range (l.length + 1)).filter (fun i => !listed.getD i false) = [] := by
              rw [List.filter_eq_nil_iff]
              intro j hj
              have hj : j < l.length + 1 := by simpa using hj
              have : listed.getD j false = true := by
                by_cases e1 : j = l.length
                · subst e1; exact hsd
                · exact hall j (by omega)
              rw [this]
              simp
            rw [e1, List.nil_append, List.range'_eq_map_range, List.filter_eq_self.2]
            intro j hj
            obtain ⟨x, hx, rfl⟩ := List.mem_map.1 hj
            rw [hbeyond _ (by omega) (by simp at hx; omega)]
            rfl
          rw [this]; simp
      · have hex : ∃ j, j < l.length ∧ listed.getD j false = false := by
          false_or_by_contra
          rename_i hn
          exact hall fun j hj => by
            cases hv : listed.getD j false with
            | true => rfl
            | false => exact absurd ⟨j, hj, hv⟩ hn
        obtain ⟨j, hj, hv⟩ := hex
        refine ⟨fun hre => absurd hre (some_ready D.dir hls j (by omega) hv), fun i hi => ?_⟩
        obtain ⟨o, ho, h3, h4⟩ := ready_iff.1 hi
        have hin := (Array.getElem?_eq_some_iff.1 ho).1
        rw [getD_both (by omega)] at h3
        have hah := ahead_done (done := fun i => listed.getD i false) D.dir hclosed i o ho h4
        have hil : i < l.length := by
          by_cases e1 : i < l.length
          · exact e1
          · by_cases e2 : i = l.length
            · subst e2; rw [hsd] at h3; cases h3
            · have := hah j (last i (by omega) hin j (by omega))
              try simp only at this
              rw [hv] at this; cases this
        have hao := List.getElem?_eq_getElem hil
        have hstep := sim2_step D hE ht he hag S (i := i) (ao := l[i]) (o := o) hao ho h3 (hfl2 i l[i] hao h3) hdist hah
          (next := wpAny P .any ops Q fuel (listed.setIfInBounds i true)) (Q := Q) (by
            intro V w' μ' S'
            rw [← listed_set (by omega)] at S'
            refine ih (listed.setIfInBounds i true) _ w' μ' (by simpa using hls) (by have := left_set hin hls h3; omega) ?_ ?_ ?_ ?_ S'
            · have := congrFun (listed_set (listed := listed) (i := i) (by omega)) l.length
              try simp only at this
              rw [this, also_of _ _ (by omega)]
              exact hsd
            · intro k hk hkn
              have := congrFun (listed_set (listed := listed) (i := i) (by omega)) k
              try simp only at this
              rw [this, also_of _ _ (by omega)]
              exact hbeyond k hk hkn
            · intro k ak hak hdk
              have e1 := congrFun (listed_set (listed := listed) (i := i) (by omega)) k
              try simp only at e1
              rw [e1] at hdk
              by_cases e2 : k = i
              · subst e2; rw [also_self] at hdk; cases hdk
              · rw [also_of _ _ e2] at hdk; exact hfl2 k ak hak hdk
            · intro k ok hok hdk p hp
              have e1 := congrFun (listed_set (listed := listed) (i := i) (by omega)) k
              have e2 := congrFun (listed_set (listed := listed) (i := i) (by omega)) p
              try simp only at e1 e2
              rw [e1] at hdk
              rw [e2]
              have hdone : listed.getD p false = true := by
                by_cases e3 : k = i
                · subst e3; rw [ho] at hok; cases hok; exact h4 p hp
                · rw [also_of _ _ e3] at hdk
                  exact hclosed k ok hok hdk p hp
              unfold also
              show (decide (p = i) || listed.getD p false) = true
              rw [hdone]; simp)
        unfold wpOp
        rw [ho]
        exact hstep
  -- ahead of the write
  have main : ∀ (fuel : Nat) (listed : Array Bool) (a : Act) (w : World) (q : Nat) (μ : Mu), listed.size = ops.size → left ops.size listed ≤ fuel →
      (∀ j, l.length ≤ j → j < ops.size → listed.getD j false = false) → (∀ (i : Nat) (o : Oper), ops[i]? = some o → listed.getD i false = true → ∀ p ∈ directs o, listed.getD p false = true) →
      Sim Γ l h.length N e es hs vs μ0 (fun i => listed.getD i false) q μ a w → wpAny P .any ops Q fuel listed a w := by
    intro fuel
    induction fuel with
    | zero =>
      intro listed a w q μ hls hleft hbeyond hclosed S
      have hv := hbeyond l.length (Nat.le_refl _) hnl
      have hm : l.length ∈ (List.range ops.size).filter fun i => !listed.getD i false := by rw [List.mem_filter]; exact ⟨by simpa using hnl, by rw [hv]; rfl⟩
      have := List.length_pos_of_mem hm
      unfold left at hleft
      omega
    | succ fuel ih =>
      intro listed a w q μ hls hleft hbeyond hclosed S
      have hv := hbeyond l.length (Nat.le_refl _) hnl
      refine ⟨fun hre => absurd hre (some_ready D.dir hls l.length hnl hv), fun i hi => ?_⟩
      obtain ⟨o, ho, h3, h4⟩ := ready_iff.1 hi
      have hin := (Array.getElem?_eq_some_iff.1 ho).1
      rw [getD_both (by omega)] at h3
      have hah := ahead_done (done := fun i => listed.getD i false) D.dir hclosed i o ho h4
      have hcl : ∀ k, listed.getD k false = true → ∀ b, ((closures ops).getD k 0).testBit b = true → listed.getD b false = true := by
        intro k hk b hb
        by_cases hkn : k < ops.size
        · have hok : ops[k]? = some ops[k] := by simp [hkn]
          exact ahead_done (done := fun i => listed.getD i false) D.dir hclosed k _ hok (hclosed k _ hok hk) b hb
        · have : listed.getD k false = false := by simp [Array.getD, show ¬ k < listed.size by omega]
          rw [this] at hk; cases hk
      have hclosed' : ∀ k ok, ops[k]? = some ok → (listed.setIfInBounds i true).getD k false = true → ∀ p ∈ directs ok, (listed.setIfInBounds i true).getD p false = true := by
        intro k ok hok hdk p hp
        have e1 := congrFun (listed_set (listed := listed) (i := i) (by omega)) k
        have e2 := congrFun (listed_set (listed := listed) (i := i) (by omega)) p
        try simp only at e1 e2
        rw [e1] at hdk
        rw [e2]
        have hdone : listed.getD p false = true := by
          by_cases e3 : k = i
          · subst e3; rw [ho] at hok; cases hok; exact h4 p hp
          · rw [also_of _ _ e3] at hdk
            exact hclosed k ok hok hdk p hp
        unfold also
        show (decide (p = i) || listed.getD p false) = true
        rw [hdone]; simp
      by_cases hil : i < l.length
      · have hstep := sim_step D hE ht h0 he S (i := i) (ao := l[i]) (o := o) (List.getElem?_eq_getElem hil) ho h3 hah hcl
          (next := wpAny P .any ops Q fuel (listed.setIfInBounds i true)) (Q := Q) (by
            intro V w' μ' q' S'
            rw [← listed_set (by omega)] at S'
            refine ih (listed.setIfInBounds i true) _ w' q' μ' (by simpa using hls) (by have := left_set hin hls h3; omega) ?_ hclosed' S'
            intro k hk hkn
            have := congrFun (listed_set (listed := listed) (i := i) (by omega)) k
            try simp only at this
            rw [this, also_of _ _ (by omega)]
            exact hbeyond k hk hkn)
        unfold wpOp
        rw [ho]
        exact hstep
      · have hie : i = l.length := by
          by_cases e1 : i = l.length
          · exact e1
          · have := hah l.length (last i (by omega) hin l.length (by omega))
            try simp only at this
            rw [hv] at this; cases this
        subst hie
        have hoo : o = ops[l.length] := by rw [hos] at ho; cases ho; rfl
        -- what does not float is done
        have hdone : ∀ (j : Nat) aj, l[j]? = some aj → listed.getD j false = false → Float1 s chk aj := by
          intro j aj haj hdj
          refine hfloat j aj haj ?_
          cases hb : ((closures ops).getD l.length 0).testBit j with
          | false => rfl
          | true =>
            have := hah j hb
            try simp only at this
            rw [hdj] at this; cases this
        have hlen : (hs l.length).length = (hs q).length := by
          have hql := S.qle
          have := len_between D ht (q := q) (l.length - q) (by omega) fun k ak h1 h2 hak => by
            cases hck : isCall ak.op with
            | false => rfl
            | true =>
              have hd1 : listed.getD k false = true := by
                cases hd2 : listed.getD k false with
                | true => rfl
                | false => have := (hdone k ak hak hd2).call; rw [hck] at this; cases this
              have := (S.calls k ak hak hck).1 hd1
              omega
          rwa [show q + (l.length - q) = l.length by omega] at this
        have hheap : HD (hs l.length) (und l h.length fun i => listed.getD i false) (hs q).length = hs l.length := by
          refine heap_ext (by rw [HD_length, hlen]) fun id hid => ?_
          rw [HD_length] at hid
          have hu : und l h.length (fun i => listed.getD i false) id = false := by
            cases hu : und l h.length (fun i => listed.getD i false) id with
            | false => rfl
            | true =>
              obtain ⟨k, hk, ao, j, hak, hj, _⟩ := und_iff.1 hu
              have := (hdone k ao hak hk).slot
              rw [hj] at this; cases this
          rw [rd_HD, if_pos ⟨hid, hu⟩]
        have hinv := S.inv
        rw [hheap] at hinv
        have henv : SEnv μ ((es l.length).keep s.reads) a := by
          intro t
          rw [Env.get_keep_mem]
          split
          · rename_i hmem
            by_cases hw : ∃ (j : Nat) (aj : AOper), l[j]? = some aj ∧ aj.dst = some t
            · obtain ⟨j, aj, haj, hdj⟩ := hw
              have hjl := (List.getElem?_eq_some_iff.1 haj).1
              rw [es_writer D ht haj hdj l.length hjl (Nat.le_refl _)]
              refine S.envD j aj t haj ?_ hdj
              cases hd2 : listed.getD j false with
              | true => rfl
              | false =>
                obtain ⟨d, h5, h6, _⟩ := (hdone j aj haj hd2).dst
                rw [hdj] at h5; cases h5
                exact absurd hmem h6
            · have hno : ∀ (j : Nat) (aj : AOper), l[j]? = some aj → aj.dst ≠ some t := fun j aj haj hdj => hw ⟨j, aj, haj, hdj⟩
              rw [es_other ht he l.length (Nat.le_refl _) fun j aj _ haj => hno j aj haj]
              exact S.envO t fun j aj haj _ => hno j aj haj
          · trivial
        have hone' := hone
        rw [aoper_env (e' := (es l.length).keep s.reads) fun t ht' => by rw [Env.get_keep_mem, if_pos ht']] at hone'
        unfold wpOp
        rw [ho]
        subst hoo
        refine aoper_wp (hr := hs l.length) (n0 := 0) hE hcos hone' henv hinv (fun _ _ h => h) (by rw [hsslot]; trivial) ?_
        intro V w' μ' hle hv' hinv' hkeep
        rw [hsslot] at hkeep
        have halso := listed_set (listed := listed) (i := l.length) (by omega)
        refine main2 fuel (listed.setIfInBounds l.length true) _ w' μ' (by simpa using hls) (by have := left_set hin hls h3; omega) ?_ ?_ ?_ hclosed' ?_
        · have := congrFun halso l.length
          try simp only at this
          rw [this]; exact also_self _ _
        · intro k hk hkn
          have := congrFun halso k
          try simp only at this
          rw [this, also_of _ _ (by omega)]
          exact hbeyond k (by omega) hkn
        · intro k ak hak hdk
          have hkl := (List.getElem?_eq_some_iff.1 hak).1
          have := congrFun halso k
          try simp only at this
          rw [this, also_of _ _ (by omega)] at hdk
          exact hdone k ak hak hdk
        · have hsame : ∀ k : Nat, k < l.length → (listed.setIfInBounds l.length true).getD k false = listed.getD k false := by
            intro k hkl
            have := congrFun halso k
            try simp only at this
            rw [this, also_of _ _ (by omega)]
          refine ⟨?_, ?_, ?_, hinv', Mu.le_trans S.le hle, ?_, by rw [Act.size_put]; exact S.size, by rw [put_defers]; exact S.defers⟩
          · intro k ak d hak hdk hd
            have hkl := (List.getElem?_eq_some_iff.1 hak).1
            try simp only at hdk
            rw [hsame k hkl] at hdk
            rw [getD_put (by rw [hsdst.1]; exact fun h => hdist k ak d hak h hd)]
            exact (S.envD k ak d hak hdk hd).mono hle
          · intro t hno hst
            rw [getD_put (by rw [hsdst.1]; exact hst)]
            refine (S.envO t fun k ak hak hdk => hno k ak hak ?_).mono hle
            have hkl := (List.getElem?_eq_some_iff.1 hak).1
            try simp only
            rw [hsame k hkl]; exact hdk
          · intro d hd
            rw [hsdst.1, hd, getD_put_same (by rw [← hd, ← hsdst.1]; exact hsdst.2) S.size]
            exact hv'
          · intro id hid
            rw [← S.keep id hid]
            exact hkeep id (by omega) fun j hj => by cases hj
  have hgd : ∀ i : Nat, (Array.replicate ops.size false).getD i false = false := by intro i; simp [Array.getD]
  have hfun : (fun i => (Array.replicate ops.size false).getD i false) = fun _ => false := funext hgd
  refine main ops.size (Array.replicate ops.size false) a _ 0 μ0 (by simp) ?_ (fun j _ _ => hgd j) (fun i o _ hd => by rw [hgd] at hd; cases hd) ?_
  · unfold left; exact Nat.le_trans (List.length_filter_le _ _) (by simp)
  · rw [hfun]
    have hpad : HD (hs l.length) (und l h.length fun _ => false) (hs 0).length = h ++ List.replicate m none := by
      rw [h0]
      refine heap_ext (by rw [HD_length]) fun id hid => ?_
      rw [HD_length] at hid
      rw [rd_HD]
      by_cases ho : ∃ i, Owns l h.length i id
      · obtain ⟨i, ho⟩ := ho
        have hu : und l h.length (fun _ => false) id = true := und_iff.2 ⟨i, rfl, ho⟩
        rw [hu]
        have := own_none D ht h0 ho 0 (Nat.zero_le _)
        rw [h0] at this
        rw [this]; simp
      · have hno : ∀ i, 0 ≤ i → ¬ Owns l h.length i id := fun i _ hi => ho ⟨i, hi⟩
        have hu : und l h.length (fun _ => false) id = false := by
          cases hu : und l h.length (fun _ => false) id with
          | false => rfl
          | true => obtain ⟨i, _, hi⟩ := und_iff.1 hu; exact absurd ⟨i, hi⟩ ho
        rw [if_pos ⟨hid, hu⟩]
        have := own_keep D ht (k := 0) (id := id) (by rw [h0]; exact hid) hno l.length (by omega)
        rw [Nat.zero_add, h0] at this
        exact this
    refine ⟨Nat.zero_le _, fun i ao _ _ => ⟨fun h => (by cases h), fun h => (by omega)⟩, fun i ao d _ h => (by cases h), fun t _ => hs0 t, ?_, fun id hid => ?_, Mu.le_refl _, fun _ _ => rfl, hN, hd⟩
    · rw [hpad]
      exact (hi.pad m).world rfl rfl rfl fun _ _ => rfl
    · obtain ⟨i, _, ao, j, _, _, rfl⟩ := und_iff.1 hid
      exact hi.dom _ (by omega)

end Go.Esc
