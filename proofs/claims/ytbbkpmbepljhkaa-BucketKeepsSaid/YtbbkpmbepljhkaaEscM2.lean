/- Operations in sequence; regions whose order is open, whole. -/
import Derived.Test.YtbbkpmbepljhkaaEscM1
set_option linter.all false
namespace Go.Esc
open Go

section
variable {P : Program} {R : Type}

theorem anew_len {h : Heap} {n0 : Nat} {slot : Option Nat} {r : Row} : h.length ≤ (anew h n0 slot r).2.length := by
  cases slot <;> simp [anew]

theorem aop_len {E : Sums} (hE : Sound P E) {q : Bool} {hr : Heap} {n0 : Nat} {slot : Option Nat} {o : AOp} {e : Env} {h h' : Heap} {v : Val}
    (hres : aop E q hr n0 slot o e h (fun v h => some (v, h)) = some (v, h')) : h.length ≤ h'.length := by
  cases o <;> simp only [aop] at hres
  case store1 a x =>
    simp only [Option.bind_eq_some_iff, Option.some.injEq, Prod.mk.injEq] at hres
    obtain ⟨h2, hp, _, rfl⟩ := hres
    unfold astore1 at hp
    split at hp
    · simp only [Option.bind_eq_some_iff] at hp
      obtain ⟨r, _, hp⟩ := hp
      split at hp <;> cases hp
      simp
    · cases hp
  case storeN n a x =>
    simp only [Option.bind_eq_some_iff, Option.some.injEq, Prod.mk.injEq] at hres
    obtain ⟨h2, hp, _, rfl⟩ := hres
    unfold astoreN at hp
    split at hp
    · simp only [Option.bind_eq_some_iff] at hp
      obtain ⟨r, _, hp⟩ := hp
      split at hp <;> cases hp
      simp
    · cases hp
  case app sz a x =>
    simp only [Option.bind_eq_some_iff, Option.some.injEq] at hres
    obtain ⟨⟨v', h2⟩, hp, hpe⟩ := hres
    cases hpe
    simp only [aapp, Option.bind_eq_some_iff] at hp
    obtain ⟨ys, _, hp⟩ := hp
    split at hp
    · split at hp <;> cases hp
      simp
    · simp only [Option.bind_eq_some_iff] at hp
      obtain ⟨r, _, hp⟩ := hp
      split at hp <;> cases hp
      simp
    · cases hp
  case copy sz a x =>
    simp only [Option.bind_eq_some_iff, Option.some.injEq] at hres
    obtain ⟨⟨v', h2⟩, hp, hpe⟩ := hres
    cases hpe
    simp only [acopy] at hp
    split at hp
    · cases hp
    simp only [Option.bind_eq_some_iff] at hp
    obtain ⟨ys, _, hp⟩ := hp
    split at hp
    · simp only [Option.bind_eq_some_iff] at hp
      obtain ⟨r, _, hp⟩ := hp
      split at hp <;> cases hp
      simp
    · cases hp
  case appZ sz zero x y =>
    simp only [Option.bind_eq_some_iff, Option.some.injEq] at hres
    obtain ⟨⟨v', h2⟩, hp, hpe⟩ := hres
    cases hpe
    unfold aappZ at hp
    simp only [Option.bind_eq_some_iff] at hp
    obtain ⟨n, _, hp⟩ := hp
    split at hp
    · cases hp
      simp
    · simp only [Option.bind_eq_some_iff] at hp
      obtain ⟨r, _, hp⟩ := hp
      split at hp <;> cases hp
      simp
    · cases hp
  case call f args =>
    simp only [Option.bind_eq_some_iff, Option.some.injEq] at hres
    obtain ⟨⟨v', h2⟩, hp, hpe⟩ := hres
    cases hpe
    have hE1 : E f (args.map e.ev) h = some (v', h2) := by
      cases q with
      | false => simpa using hp
      | true =>
        simp only [cond_true, quiet, Option.bind_eq_some_iff] at hp
        obtain ⟨p', g1, g2⟩ := hp
        split at g2
        · cases g2; exact g1
        · cases g2
    exact (hE _ _ _ _ _ hE1).2.2
  case callV f args =>
    simp only [Option.bind_eq_some_iff, Option.some.injEq] at hres
    obtain ⟨⟨v', h2⟩, hp, hpe⟩ := hres
    cases hpe
    have hE0 : callv E (e.ev f) (args.map e.ev) h = some (v', h2) := by
      cases q with
      | false => simpa using hp
      | true =>
        simp only [cond_true, quiet, Option.bind_eq_some_iff] at hp
        obtain ⟨p', g1, g2⟩ := hp
        split at g2
        · cases g2; exact g1
        · cases g2
    unfold callv at hE0
    split at hE0
    · exact (hE _ _ _ _ _ hE0).2.2
    · cases hE0
  case mv => cases hres; exact Nat.le_refl _
  case nilrow => cases hres; exact anew_len
  case alloc => cases hres; exact anew_len
  case box =>
    simp only [Option.bind_eq_some_iff, Option.some.injEq, Prod.mk.injEq] at hres
    obtain ⟨_, _, _, rfl⟩ := hres
    exact anew_len
  case buildSl =>
    simp only [Option.bind_eq_some_iff, Option.some.injEq, Prod.mk.injEq] at hres
    obtain ⟨_, _, _, rfl⟩ := hres
    exact anew_len
  case s2b =>
    simp only [Option.bind_eq_some_iff, Option.some.injEq, Prod.mk.injEq] at hres
    obtain ⟨_, _, _, rfl⟩ := hres
    exact anew_len
  case mkSl =>
    simp only [Option.bind_eq_some_iff, Option.some.injEq, Prod.mk.injEq] at hres
    obtain ⟨_, _, _, rfl⟩ := hres
    exact anew_len
  all_goals
    simp only [Option.bind_eq_some_iff, Option.some.injEq, Prod.mk.injEq] at hres
    obtain ⟨_, _, _, rfl⟩ := hres
    exact Nat.le_refl _

theorem aoper_len {E : Sums} (hE : Sound P E) {q : Bool} {hr : Heap} {n0 : Nat} {o : AOper} {e : Env} {h h' : Heap} {v : Val}
    (hres : aoper E q hr n0 o e h (fun v h => some (v, h)) = some (v, h')) : h.length ≤ h'.length := by
  unfold aoper at hres
  split at hres
  · exact aop_len hE hres
  · simp only [Option.bind_eq_some_iff, Option.some.injEq] at hres
    obtain ⟨⟨v', h2⟩, hp, hpe⟩ := hres
    cases hpe
    unfold gd at hp
    split at hp
    · rename_i x _
      cases hx : (x == _) with
      | true => rw [hx] at hp; exact aop_len hE hp
      | false => rw [hx] at hp; cases hp; exact Nat.le_refl _
    · cases hp; exact Nat.le_refl _
    · cases hp

theorem put_defers (a : Act) (d : Option Nat) (V : Value) : (a.put d V).defers = a.defers := by cases d <;> rfl

theorem aops_ok {N L : Nat} {ops : Array Oper} {E : Sums} (hE : Sound P E) : ∀ (l : List Nat) (aos : List AOper) (e : Env) (h : Heap) (k : Env → Heap → Option R) (r : R),
    All2 (fun i ao => ∃ o, ops[i]? = some o ∧ chkOper P N ops o ao = true ∧ ao.slot = none) l aos → aops E aos e h k = some r → L ≤ h.length →
    ∃ e' h', k e' h' = some r ∧ L ≤ h'.length ∧ StepsTo P N L (fun Q => wpOps P ops Q l) e h .normal e' h'
  | [], [], e, h, k, r, _, hres, hL => ⟨e, h, hres, hL, fun Γ μ a w hs hi hN hd Q hq => hq μ a w (Mu.le_refl _) (fun _ _ => rfl) hs hi hN hd⟩
  | i :: l, ao :: aos, e, h, k, r, ⟨⟨o, ho, hc, hslot⟩, hrest⟩, hres, hL => by
    rw [aops_cons] at hres
    obtain ⟨v, h1, hk, hone⟩ := aoper_ok hE hc hres
    have hl1 := aoper_len hE hone
    obtain ⟨e', h', hk', hL', hst⟩ := aops_ok hE l aos (e.put ao.dst v) h1 k r hrest hk (Nat.le_trans hL hl1)
    refine ⟨e', h', hk', hL', fun Γ μ a w hs hi hN hd Q hq => ?_⟩
    show wpOps P ops Q (i :: l) a w
    rw [wpOps_cons]
    unfold wpOp
    rw [ho]
    have hdst : o.dst = ao.dst ∧ chkDst N o.dst = true := by
      simp only [chkOper, Bool.and_eq_true, decide_eq_true_eq] at hc
      exact ⟨hc.1.1.1, hc.1.1.2⟩
    have hlt : ∀ t, o.dst = some t → t < a.tmps.size := by
      intro t ht
      have := hdst.2
      rw [ht] at this
      simp [chkDst] at this
      exact Nat.lt_of_lt_of_le this hN
    refine aoper_wp (hr := h) (n0 := 0) hE hc hone hs hi (fun _ _ h => h) (by rw [hslot]; trivial) ?_
    intro V w' μ' hle hv hi' hkeep
    rw [hslot] at hkeep
    refine hst Γ μ' (a.put o.dst V) w' ?_ hi' (by rw [Act.size_put]; exact hN) (by rw [put_defers]; exact hd) Q ?_
    · rw [← hdst.1]
      exact (hs.mono hle).put hlt hv
    · intro μ2 a2 w2 h2 h3 h4 h5 h6 h7
      exact hq μ2 a2 w2 (Mu.le_trans hle h2) (fun id hid => by rw [h3 id hid]; exact hkeep id (by omega) (fun _ h => by cases h)) h4 h5 h6 h7
  | [], _ :: _, _, _, _, _, h, _, _ => h.elim
  | _ :: _, [], _, _, _, _, h, _, _ => h.elim


end

/-! ### Open regions -/

theorem directs_mem {o : Oper} {p : Nat} : p ∈ directs o ↔ ∃ e ∈ o.after, Region.binds .any e = true ∧ e.on = p := by
  unfold directs
  simp only [List.mem_map, List.mem_filter, Array.mem_toList_iff]
  constructor
  · rintro ⟨e, ⟨h1, h2⟩, rfl⟩; exact ⟨e, h1, h2, rfl⟩
  · rintro ⟨e, h1, h2, rfl⟩; exact ⟨e, ⟨h1, h2⟩, rfl⟩

theorem ready_iff {ops : Array Oper} {listed : Array Bool} {i : Nat} : i ∈ Region.ready .any ops listed ↔ ∃ o, ops[i]? = some o ∧ listed.getD i true = false ∧ ∀ p ∈ directs o, listed.getD p false = true := by
  unfold Region.ready
  simp only [List.mem_filter, List.mem_range, Bool.and_eq_true, Bool.not_eq_true']
  constructor
  · rintro ⟨h1, h2, h3⟩
    have ho : ops[i]? = some ops[i] := by simp [h1]
    refine ⟨ops[i], ho, h2, fun p hp => ?_⟩
    rw [ho] at h3
    simp only [Option.map_some, Option.getD_some, Array.all_eq_true_iff_forall_mem] at h3
    obtain ⟨e, he, hb, rfl⟩ := directs_mem.1 hp
    have := h3 e he
    rw [hb] at this
    simpa using this
  · rintro ⟨o, ho, h2, h3⟩
    refine ⟨(Array.getElem?_eq_some_iff.1 ho).1, h2, ?_⟩
    rw [ho]
    simp only [Option.map_some, Option.getD_some, Array.all_eq_true_iff_forall_mem]
    intro e he
    cases hb : Region.binds .any e with
    | false => rfl
    | true => simpa using h3 e.on (directs_mem.2 ⟨e, he, hb, rfl⟩)

theorem listed_set {listed : Array Bool} {i : Nat} (hi : i < listed.size) : (fun k => (listed.setIfInBounds i true).getD k false) = also (fun k => listed.getD k false) i := by
  funext k
  unfold also
  by_cases h : k = i
  · subst h; simp [Array.getD, hi]
  · simp [Array.getElem?_setIfInBounds_ne (Ne.symm h), h]

theorem getD_both {listed : Array Bool} {i : Nat} (hi : i < listed.size) : listed.getD i true = listed.getD i false := by simp [Array.getD, hi]

/-- One that is not done may come up, itself or one ahead of it. -/
theorem some_ready {ops : Array Oper} {listed : Array Bool} (hlt : ∀ (i : Nat) (o : Oper), ops[i]? = some o → ∀ p ∈ directs o, p < i) (hs : listed.size = ops.size) : ∀ (i : Nat), i < ops.size → listed.getD i false = false → Region.ready .any ops listed ≠ [] := by
  intro i
  induction i using Nat.strongRecOn with
  | _ i ih =>
    intro hi hu
    have ho : ops[i]? = some ops[i] := by simp [hi]
    by_cases h : ∀ p ∈ directs ops[i], listed.getD p false = true
    · have : i ∈ Region.ready .any ops listed := ready_iff.2 ⟨_, ho, by rw [getD_both (by omega)]; exact hu, h⟩
      intro e; rw [e] at this; cases this
    · have : ∃ p, p ∈ directs ops[i] ∧ listed.getD p false = false := by
        false_or_by_contra
        rename_i hn
        exact h fun p hp => by
          cases hv : listed.getD p false with
          | true => rfl
          | false => exact absurd ⟨p, hp, hv⟩ hn
      obtain ⟨p, hp, hv⟩ := this
      have hpi := hlt i _ ho p hp
      exact ih p hpi (by omega) hv

def left (n : Nat) (listed : Array Bool) : Nat := ((List.range n).filter fun i => !listed.getD i false).length

theorem left_set {n : Nat} {listed : Array Bool} {i : Nat} (hi : i < n) (hs : listed.size = n) (hu : listed.getD i false = false) : left n (listed.setIfInBounds i true) + 1 ≤ left n listed := by
  unfold left
  have e : (List.range n).filter (fun k => !(listed.setIfInBounds i true).getD k false) = ((List.range n).filter fun k => !listed.getD k false).filter (fun k => decide (k ≠ i)) := by
    rw [List.filter_filter]
    apply List.filter_congr
    intro k hk
    have := congrFun (listed_set (listed := listed) (i := i) (by omega)) k
    try simp only at this
    rw [this]
    unfold also
    by_cases h : k = i <;> simp [h]
  rw [e]
  have hm : i ∈ (List.range n).filter fun k => !listed.getD k false := by
    rw [List.mem_filter]; exact ⟨by simpa using hi, by rw [hu]; rfl⟩
  have := List.length_filter_lt_length_iff_exists (l := (List.range n).filter fun k => !listed.getD k false) (p := fun k => decide (k ≠ i))
  have h2 := this.2 ⟨i, hm, by simp⟩
  omega

section
variable {P : Program} {ops : Array Oper} {Q : Exit → Act → World → Prop}

/-- The rest in the text's order. -/
theorem any_of_ops (hlt : ∀ (i : Nat) (o : Oper), ops[i]? = some o → ∀ p ∈ directs o, p < i) {A : Nat} (hlast : ∀ i, A ≤ i → i < ops.size → ∀ j, j < i → ((closures ops).getD i 0).testBit j = true) :
    ∀ (k i fuel : Nat) (listed : Array Bool) (a : Act) (w : World), i + k = ops.size → A ≤ i → listed.size = ops.size → (∀ j, j < ops.size → listed.getD j false = decide (j < i)) → k ≤ fuel →
      wpOps P ops Q (List.range' i k) a w → wpAny P .any ops Q fuel listed a w
  | 0, i, fuel, listed, a, w, hik, hA, hs, hl, hf, h => by
    have hr : Region.ready .any ops listed = [] := by
      apply List.eq_nil_iff_forall_not_mem.2
      intro x hx
      obtain ⟨o, ho, h2, _⟩ := ready_iff.1 hx
      have hlt := (Array.getElem?_eq_some_iff.1 ho).1
      rw [getD_both (by omega), hl x hlt] at h2
      simp at h2; omega
    cases fuel with
    | zero => exact ⟨hr, h⟩
    | succ f => exact ⟨fun _ => h, fun x hx => by rw [hr] at hx; cases hx⟩
  | k + 1, i, fuel, listed, a, w, hik, hA, hs, hl, hf, h => by
    obtain ⟨f, rfl⟩ : ∃ f, fuel = f + 1 := ⟨fuel - 1, by omega⟩
    refine ⟨fun he => absurd he (some_ready hlt hs i (by omega) (by rw [hl i (by omega)]; simp)), fun x hx => ?_⟩
    obtain ⟨o, ho, h2, h3⟩ := ready_iff.1 hx
    have hxn := (Array.getElem?_eq_some_iff.1 ho).1
    rw [getD_both (by omega), hl x hxn] at h2
    simp at h2
    have hxi : x = i := by
      by_cases e : x = i
      · exact e
      · have hd := ahead_done (done := fun j => listed.getD j false) hlt (fun j oj hj hdj p hp => by
          have hjn := (Array.getElem?_eq_some_iff.1 hj).1
          try simp only at hdj
          rw [hl j hjn] at hdj
          have := hlt j oj hj p hp
          show listed.getD p false = true
          rw [hl p (by omega)]
          simp at hdj ⊢; omega) x o ho h3 i (hlast x (by omega) hxn i (by omega))
        try simp only at hd
        rw [hl i (by omega)] at hd
        simp at hd
    subst hxi
    rw [List.range'_succ, wpOps_cons] at h
    refine wpOp_mono (fun a' w' h' => ?_) h
    refine any_of_ops hlt hlast k (x + 1) f _ a' w' (by omega) (by omega) (by simpa using hs) (fun j hj => ?_) (by omega) h'
    have := congrFun (listed_set (listed := listed) (i := x) (by omega)) j
    try simp only at this
    rw [this]
    unfold also
    show (decide (j = x) || listed.getD j false) = _
    rw [hl j hj]
    by_cases e : j = x
    · subst e; simp
    · simp only [e, decide_false, Bool.false_or]
      have : (j < x) ↔ (j < x + 1) := by omega
      simp only [this]

end

/-- Places are kept for rows to come. -/
theorem Inv.pad {Γ : Ctx} {μ : Mu} {h : Heap} {w : World} (hi : Inv Γ μ h w) (m : Nat) : Inv Γ μ (h ++ List.replicate m none) w := by
  have hget : ∀ id x, rd (h ++ List.replicate m none) id = some x → rd h id = some x := by
    intro id x hx
    by_cases hl : id < h.length
    · rwa [rd_append_left hl] at hx
    · unfold rd at hx
      rw [List.getElem?_append_right (by omega), List.getElem?_replicate] at hx
      split at hx <;> cases hx
  exact ⟨fun id x hx => hi.rows id x (hget id x hx), fun i j x y z z' hx hy => hi.sep i j x y z z' (hget _ _ hx) (hget _ _ hy), fun i x y hx => hi.own i x y (hget _ _ hx), fun id hid => hi.dom id (by simp at hid; omega), hi.ctx⟩

theorem draw_ok {P : Program} {N L : Nat} {ops : Array Oper} {m id : Nat} {l r : List AOper} {E : Sums} (hE : Sound P E) {e : Env} {h : Heap} {R : Type} {k : Env → Heap → Option R} {res : R}
    (hc : chkDraw P N ops m l r = true) (hc2 : chkLast ops l.length r.length = true) (hL : L ≤ h.length)
    (hres : adraw E h h.length l e (h ++ List.replicate m none) (fun e h => aops E r e h k) = some res) :
    ∃ e' h', k e' h' = some res ∧ L ≤ h'.length ∧ StepsTo P N L ((Code.region id ops true).wp P) e h .normal e' h' := by
  have D := chkDraw_ok hc
  have last := chkLast_ok hc2 D.size
  obtain ⟨es, hs, vs, he, h0, ht, hk⟩ := trace_of l _ _ hres
  have hrlist : All2 (fun i ao => ∃ o, ops[i]? = some o ∧ chkOper P N ops o ao = true ∧ ao.slot = none) (List.range' l.length r.length) r := by
    refine All2.of_get (by simp) fun i x ao hx hao => ?_
    have hi : i < r.length := (List.getElem?_eq_some_iff.1 hao).1
    rw [List.getElem?_range' hi] at hx
    simp at hx
    subst hx
    have hlt : l.length + i < ops.size := by rw [D.size]; omega
    refine ⟨ops[l.length + i], by simp [hlt], ?_, D.rslot ao (List.mem_of_getElem? hao)⟩
    refine D.oper (l.length + i) _ ao (by simp [hlt]) ?_
    rw [List.getElem?_append_right (by omega)]
    simpa using hao
  have hbl := base_len D ht h0 (k := l.length) (Nat.le_refl _)
  obtain ⟨e', h', hk', hL', hst⟩ := aops_ok (L := L) hE _ r (es l.length) (hs l.length) k res hrlist hk (by omega)
  refine ⟨e', h', hk', hL', fun Γ μ0 a w hs0 hi hN hd Q hq => wp_region_any D.follows ?_⟩
  have whole : ∀ (listed : Array Bool) (a : Act) (w : World) (q : Nat) (μ : Mu), Sim Γ l h.length N e es hs vs μ0 (fun i => listed.getD i false) q μ a w → (∀ j, j < l.length → listed.getD j false = true) → wpOps P ops Q (List.range' l.length r.length) a w := by
    intro listed a w q μ S hall
    have henv : SEnv μ (es l.length) a := by
      intro t
      by_cases hw : ∃ (j : Nat) (aj : AOper), l[j]? = some aj ∧ aj.dst = some t
      · obtain ⟨j, aj, haj, hdj⟩ := hw
        have hjl := (List.getElem?_eq_some_iff.1 haj).1
        rw [es_writer D ht haj hdj l.length hjl (Nat.le_refl _)]
        exact S.envD j aj t haj (hall j hjl) hdj
      · have hno : ∀ (j : Nat) (aj : AOper), l[j]? = some aj → aj.dst ≠ some t := fun j aj haj hdj => hw ⟨j, aj, haj, hdj⟩
        rw [es_other ht he l.length (Nat.le_refl _) fun j aj _ haj => hno j aj haj]
        exact S.envO t fun j aj haj _ => hno j aj haj
    have hlen : (hs l.length).length = (hs q).length := by
      have hql := S.qle
      have := len_between D ht (q := q) (l.length - q) (by omega) fun k ak h1 h2 hak => by
        cases hck : isCall ak.op with
        | false => rfl
        | true =>
          have := (S.calls k ak hak hck).1 (hall k (by omega))
          omega
      rwa [show q + (l.length - q) = l.length by omega] at this
    have hheap : HD (hs l.length) (und l h.length fun i => listed.getD i false) (hs q).length = hs l.length := by
      refine heap_ext (by rw [HD_length, hlen]) fun id hid => ?_
      rw [HD_length] at hid
      have hu : und l h.length (fun i => listed.getD i false) id = false := by
        cases hu : und l h.length (fun i => listed.getD i false) id with
        | false => rfl
        | true =>
          obtain ⟨k, hk, ao, j, hak, _⟩ := und_iff.1 hu
          have := hall k (List.getElem?_eq_some_iff.1 hak).1
          rw [this] at hk; cases hk
      rw [rd_HD, if_pos ⟨hid, hu⟩]
    have hinv := S.inv
    rw [hheap] at hinv
    exact hst Γ μ a w henv hinv S.size S.defers Q fun μ' a' w' g1 g2 g3 g4 g5 g6 => hq μ' a' w' (Mu.le_trans S.le g1) (fun id hid => (g2 id hid).trans (S.keep id (by omega))) g3 g4 g5 g6
  -- what is left of the loop of orders
  have main : ∀ (fuel : Nat) (listed : Array Bool) (a : Act) (w : World) (q : Nat) (μ : Mu), listed.size = ops.size → left ops.size listed ≤ fuel →
      (∀ j, l.length ≤ j → j < ops.size → listed.getD j false = false) → (∀ (i : Nat) (o : Oper), ops[i]? = some o → listed.getD i false = true → ∀ p ∈ directs o, listed.getD p false = true) →
      Sim Γ l h.length N e es hs vs μ0 (fun i => listed.getD i false) q μ a w → wpAny P .any ops Q fuel listed a w := by
    intro fuel
    induction fuel with
    | zero =>
      intro listed a w q μ hsz hleft hbeyond hclosed S
      have hall : ∀ j, j < ops.size → listed.getD j false = true := by
        intro j hj
        cases hv : listed.getD j false with
        | true => rfl
        | false =>
          have hm : j ∈ (List.range ops.size).filter fun i => !listed.getD i false := by rw [List.mem_filter]; exact ⟨by simpa using hj, by rw [hv]; rfl⟩
          have := List.length_pos_of_mem hm
          unfold left at hleft
          omega
      have hr0 : r.length = 0 := by
        cases hr : r.length with
        | zero => rfl
        | succ x =>
          have h1 := hall l.length (by rw [D.size]; omega)
          have h2 := hbeyond l.length (Nat.le_refl _) (by rw [D.size]; omega)
          rw [h1] at h2; cases h2
      refine any_of_ops D.dir last 0 l.length 0 listed a w (by rw [D.size]; omega) (Nat.le_refl _) hsz (fun j hj => ?_) (Nat.le_refl _) ?_
      · rw [hall j hj]
        have : j < l.length := by rw [D.size] at hj; omega
        simp [this]
      · have := whole listed a w q μ S fun j hj => hall j (by rw [D.size]; omega)
        rw [hr0] at this
        exact this
    | succ fuel ih =>
      intro listed a w q μ hsz hleft hbeyond hclosed S
      by_cases hall : ∀ j, j < l.length → listed.getD j false = true
      · refine any_of_ops D.dir last r.length l.length (fuel + 1) listed a w D.size.symm (Nat.le_refl _) hsz (fun j hj => ?_) ?_ (whole listed a w q μ S hall)
        · by_cases hjl : j < l.length
          · rw [hall j hjl]; simp [hjl]
          · rw [hbeyond j (by omega) hj]; simp [hjl]
        · refine Nat.le_trans ?_ hleft
          unfold left
          have : ((List.range ops.size).filter fun i => !listed.getD i false) = List.range' l.length r.length := by
            rw [D.size, List.range_add, List.filter_append]
            have e1 : (List.range l.length).filter (fun i => !listed.getD i false) = [] := by
              rw [List.filter_eq_nil_iff]
              intro j hj
              rw [hall j (by simpa using hj)]
              simp
            rw [e1, List.nil_append, List.range'_eq_map_range, List.filter_eq_self.2]
            intro j hj
            obtain ⟨x, hx, rfl⟩ := List.mem_map.1 hj
            rw [hbeyond _ (by omega) (by rw [D.size]; simp at hx; omega)]
            rfl
          rw [this]; simp
      · have hex : ∃ j, j < l.length ∧ listed.getD j false = false := by
          false_or_by_contra
          rename_i hn
          exact hall fun j hj => by
            cases hv : listed.getD j false with
            | true => rfl
            | false => exact absurd ⟨j, hj, hv⟩ hn
        obtain ⟨j, hj, hv⟩ := hex
        refine ⟨fun hre => absurd hre (some_ready D.dir hsz j (by rw [D.size]; omega) hv), fun i hi => ?_⟩
        obtain ⟨o, ho, h2, h3⟩ := ready_iff.1 hi
        have hin := (Array.getElem?_eq_some_iff.1 ho).1
        rw [getD_both (by omega)] at h2
        have hah := ahead_done (done := fun i => listed.getD i false) D.dir hclosed i o ho h3
        have hil : i < l.length := by
          by_cases e1 : i < l.length
          · exact e1
          · have := hah j (last i (by omega) hin j (by omega))
            try simp only at this
            rw [hv] at this; cases this
        have hcl : ∀ k, listed.getD k false = true → ∀ b, ((closures ops).getD k 0).testBit b = true → listed.getD b false = true := by
          intro k hk b hb
          by_cases hkn : k < ops.size
          · have hok : ops[k]? = some ops[k] := by simp [hkn]
            exact ahead_done (done := fun i => listed.getD i false) D.dir hclosed k _ hok (hclosed k _ hok hk) b hb
          · have : listed.getD k false = false := by simp [Array.getD, show ¬ k < listed.size by omega]
            rw [this] at hk; cases hk
        have hstep := sim_step D hE ht h0 he S (i := i) (ao := l[i]) (o := o) (List.getElem?_eq_getElem hil) ho h2 hah hcl
          (next := wpAny P .any ops Q fuel (listed.setIfInBounds i true)) (Q := Q) (by
            intro V w' μ' q' S'
            rw [← listed_set (by omega)] at S'
            refine ih (listed.setIfInBounds i true) _ w' q' μ' (by simpa using hsz) (by have := left_set hin hsz h2; omega) ?_ ?_ S'
            · intro k hk hkn
              have := congrFun (listed_set (listed := listed) (i := i) (by omega)) k
              try simp only at this
              rw [this, also_of _ _ (by omega)]
              exact hbeyond k hk hkn
            · intro k ok hok hdk p hp
              have e1 := congrFun (listed_set (listed := listed) (i := i) (by omega)) k
              have e2 := congrFun (listed_set (listed := listed) (i := i) (by omega)) p
              try simp only at e1 e2
              rw [e1] at hdk
              rw [e2]
              have hdone : listed.getD p false = true := by
                by_cases e3 : k = i
                · subst e3; rw [ho] at hok; cases hok; exact h3 p hp
                · rw [also_of _ _ e3] at hdk
                  exact hclosed k ok hok hdk p hp
              unfold also
              show (decide (p = i) || listed.getD p false) = true
              rw [hdone]; simp)
        unfold wpOp
        rw [ho]
        exact hstep
  have hgd : ∀ i : Nat, (Array.replicate ops.size false).getD i false = false := by intro i; simp [Array.getD]
  have hfun : (fun i => (Array.replicate ops.size false).getD i false) = fun _ => false := funext hgd
  refine main ops.size (Array.replicate ops.size false) a _ 0 μ0 (by simp) ?_ (fun j _ _ => hgd j) (fun i o _ hd => by rw [hgd] at hd; cases hd) ?_
  · unfold left; exact Nat.le_trans (List.length_filter_le _ _) (by simp)
  · rw [hfun]
    have hpad : HD (hs l.length) (und l h.length fun _ => false) (hs 0).length = h ++ List.replicate m none := by
      rw [h0]
      refine heap_ext (by rw [HD_length]) fun id hid => ?_
      rw [HD_length] at hid
      rw [rd_HD]
      by_cases ho : ∃ i, Owns l h.length i id
      · obtain ⟨i, ho⟩ := ho
        have hu : und l h.length (fun _ => false) id = true := und_iff.2 ⟨i, rfl, ho⟩
        rw [hu]
        have := own_none D ht h0 ho 0 (Nat.zero_le _)
        rw [h0] at this
        rw [this]; simp
      · have hno : ∀ i, 0 ≤ i → ¬ Owns l h.length i id := fun i _ hi => ho ⟨i, hi⟩
        have hu : und l h.length (fun _ => false) id = false := by
          cases hu : und l h.length (fun _ => false) id with
          | false => rfl
          | true => obtain ⟨i, _, hi⟩ := und_iff.1 hu; exact absurd ⟨i, hi⟩ ho
        rw [if_pos ⟨hid, hu⟩]
        have := own_keep D ht (k := 0) (id := id) (by rw [h0]; exact hid) hno l.length (by omega)
        rw [Nat.zero_add, h0] at this
        exact this
    refine ⟨Nat.zero_le _, fun i ao _ _ => ⟨fun h => (by cases h), fun h => (by omega)⟩, fun i ao d _ h => (by cases h), fun t _ => hs0 t, ?_, fun id hid => ?_, Mu.le_refl _, fun _ _ => rfl, hN, hd⟩
    · rw [hpad]
      exact (hi.pad m).world rfl rfl rfl fun _ _ => rfl
    · obtain ⟨i, _, ao, j, _, _, rfl⟩ := und_iff.1 hid
      exact hi.dom _ (by omega)

end Go.Esc
