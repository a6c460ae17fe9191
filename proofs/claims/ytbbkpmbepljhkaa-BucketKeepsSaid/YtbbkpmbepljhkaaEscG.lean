/- What each abstract operation does is what the model's does: append, copy, bytes of a string, marks. -/
import Derived.Test.YtbbkpmbepljhkaaEscF
import Derived.Laws.Append
set_option linter.all false
namespace Go.Esc
open Go
section
variable {P : Program} {μ : Mu} {w : World}

theorem encB_ok (s : List UInt8) : All2 (RC μ) (encB s) (s.map fun b => Value.int .u8 b.toNat) := by
  induction s with
  | nil => trivial
  | cons b r ih => exact ⟨rfl, ih⟩

theorem encB_length (s : List UInt8) : (encB s).length = s.length := by simp [encB]

/-- What an append, or a copy, reads. -/
theorem addcells_ok {h : Heap} {sz : Nat} {y : Val} {Y : Value} {ys : List Cell} (hrow : ∀ id r, rd h id = some r → RowOk μ w id r) (hy : RV μ y Y) (hc : addcells h sz y = some ys) :
    ∃ n vs, (Builtin.lenOf Y).run P w = .ok n w ∧ (Builtin.firstCells sz n Y).run P w = .ok vs w ∧ All2 (RC μ) ys vs.toList ∧ vs.size = n * sz := by
  unfold addcells at hc
  split at hc
  · split at hc
    · cases hc
      rename_i s hs
      subst hs
      have hY : Y = .string ⟨s.toArray⟩ := hy
      subst hY
      refine ⟨s.length, (s.map fun b => Value.int .u8 b.toNat).toArray, ?_, ?_, encB_ok s, by simp⟩
      · simp [Builtin.lenOf]; show s.toArray.size = _; simp
      · have : ((ByteArray.mk s.toArray).extract 0 s.length).data = s.toArray := by
          apply Array.ext'
          simp
        simp [Builtin.firstCells]
    · cases hc
  · split at hc
    · rename_i id off len sz' hs
      subst hs
      obtain ⟨len', cap, a, vs, hY, hvs, hlen, hnone, hcell⟩ := slcells_ok hrow hy hc
      subst hY
      have hl := hlen sz (fun _ _ _ _ h => by cases h; rfl)
      refine ⟨len', vs.toArray, rfl, ?_, hvs, by simpa using hl⟩
      cases a with
      | none => have := hnone rfl; subst this; rfl
      | some b =>
        have := run_loadCells_list (P := P) w b vs (hcell b rfl)
        rw [hl] at this
        simpa [Builtin.firstCells] using this
    · cases hc
  · cases hc
    cases hy
    exact ⟨0, #[], rfl, rfl, trivial, by simp⟩
  · cases hc

/-- The old row is a dead one from now on; its block may be a new row's. -/
theorem Inv.move {Γ : Ctx} {h : Heap} {w' : World} {id : Nat} {r r' : Row} {b n : Nat} (hi : Inv Γ μ h w) (hr : rd h id = some r) (hrw : r.rw = true) (hm : μ id = some (b, n))
    (hos : w'.os = w.os) (htape : w'.tape = w.tape) (hout : w'.output = w.output) (hb : ∀ b', b' ≠ b → w'.heap[b']? = w.heap[b']?)
    (hrow : RowOk (μ.add h.length (b, n)) w' h.length r') : Inv Γ (μ.add h.length (b, n)) (h.set id none ++ [some r']) w' := by
  have hidlt := rd_lt hr
  have hget : ∀ j x, rd (h.set id none ++ [some r']) j = some x → (j = h.length ∧ x = r') ∨ (j ≠ h.length ∧ j ≠ id ∧ rd h j = some x) := by
    intro j x hx
    by_cases hj : j < h.length
    · rw [rd_append_left (by simpa using hj)] at hx
      by_cases e : id = j
      · subst e; rw [rd_set_same hj] at hx; cases hx
      · rw [rd_set_other e] at hx; exact .inr ⟨by omega, Ne.symm e, hx⟩
    · rw [rd_some, List.getElem?_append_right (by simp; omega)] at hx
      have h0 := (List.getElem?_eq_some_iff.1 hx).1
      simp at h0
      have e : j = h.length := by omega
      subst e
      simp at hx
      exact .inl ⟨rfl, hx.symm⟩
  have hnone : μ h.length = none := hi.dom _ (Nat.le_refl _)
  have old : ∀ j, j ≠ h.length → (μ.add h.length (b, n)) j = μ j := fun j hj => by simp [Mu.add, hj]
  refine ⟨fun j x hx => ?_, fun j j' x x' y y' hx hx' hxw hne hy hy' => ?_, fun j x y hx hxw hy => ?_, fun j hj => ?_, ?_⟩
  · rcases hget j x hx with ⟨rfl, rfl⟩ | ⟨h1, h2, h3⟩
    · exact hrow
    · exact (hi.rows j x h3).mono (Mu.le_add hnone) (old j h1) fun y hy => hb _ (Ne.symm (hi.sep id j r x (b, n) y hr h3 hrw (Ne.symm h2) hm hy))
  · rcases hget j x hx with ⟨rfl, rfl⟩ | ⟨h1, h2, h3⟩
    · rcases hget j' x' hx' with ⟨h4, _⟩ | ⟨h4, h5, h6⟩
      · exact absurd h4.symm hne
      · rw [add_same] at hy; cases hy
        rw [old _ h4] at hy'
        exact hi.sep id j' r x' (b, n) y' hr h6 hrw (Ne.symm h5) hm hy'
    · rw [old _ h1] at hy
      rcases hget j' x' hx' with ⟨h4, _⟩ | ⟨h4, h5, h6⟩
      · subst h4
        rw [add_same] at hy'; cases hy'
        exact hi.sep j id x r y (b, n) h3 hr hxw h2 hy hm
      · rw [old _ h4] at hy'
        exact hi.sep j j' x x' y y' h3 h6 hxw hne hy hy'
  · rcases hget j x hx with ⟨rfl, rfl⟩ | ⟨h1, h2, h3⟩
    · rw [add_same] at hy; cases hy
      exact hi.own id r (b, n) hr hrw hm
    · rw [old _ h1] at hy
      exact hi.own j x y h3 hxw hy
  · have : j ≠ h.length := by simp at hj; omega
    rw [old _ this]
    exact hi.dom j (by simp at hj; omega)
  · refine ⟨hos.trans hi.ctx.os, htape.trans hi.ctx.tape, hout.trans hi.ctx.output, fun b' o ho => ?_⟩
    have hne : b' ≠ b := by
      intro e; subst e
      have := hi.own id r (b', n) hr hrw hm
      simp at this
      rw [ho] at this; cases this
    rw [hb b' hne]; exact hi.ctx.block b' o ho

theorem Inv.drop {Γ : Ctx} {h : Heap} (hi : Inv Γ μ h w) (id : Nat) : Inv Γ μ (h.set id none) w := by
  have hget : ∀ j x, rd (h.set id none) j = some x → rd h j = some x := by
    intro j x hx
    by_cases e : id = j
    · subst e
      by_cases hl : id < h.length
      · rw [rd_set_same hl] at hx; cases hx
      · rw [List.set_eq_of_length_le (by omega)] at hx; exact hx
    · rwa [rd_set_other e] at hx
  exact ⟨fun j x hx => hi.rows j x (hget j x hx), fun j j' x x' y y' hx hx' => hi.sep j j' x x' y y' (hget j x hx) (hget j' x' hx'), fun j x y hx => hi.own j x y (hget j x hx), fun j hj => hi.dom j (by simpa using hj), hi.ctx⟩

theorem growBy_le' (n : Nat) : ∀ (k c : Nat), c ≤ n → Builtin.growBy n k c ≤ n + (n + 768) / 4
  | 0, c, h => by simp [Builtin.growBy]; omega
  | k + 1, c, h => by
    unfold Builtin.growBy
    split
    · omega
    · rename_i hc
      by_cases h2 : c + (c + 768) / 4 ≤ n
      · exact growBy_le' n k _ h2
      · have : Builtin.growBy n k (c + (c + 768) / 4) = c + (c + 768) / 4 := by
          cases k with
          | zero => rfl
          | succ k => unfold Builtin.growBy; rw [if_pos (by omega)]
        rw [this]; omega

theorem nextcap_le (n c : Nat) (h : c ≤ n) : Builtin.nextslicecap n c ≤ 2 * n + 1000 := by
  unfold Builtin.nextslicecap
  split
  · omega
  · split
    · omega
    · have := growBy_le' n 4 c h; omega

/-- The new array of an append that has no room. -/
theorem run_app_grow {s e yt ty : TypeId} {i : TypeInfo} {n sLen sCap : Nat} {z : Value} {base : Option Addr} {Y : Value} {old new : Array Value} {oc nc : List Cell} {Γ : Ctx} {h : Heap}
    (hi : Inv Γ μ h w) (hs : P.underlying s = some (.slice e)) (hinfo : P.info? e = some i) (hbl : i.bytes ≤ 65536) (hz : i.zero = some z) (hzl : z.cells.size = i.size)
    (hyt : P.underlying yt = some .string ∨ ∃ e', P.underlying yt = some (.slice e')) (hlen : (Builtin.lenOf Y).run P w = .ok n w) (hb0 : i.bytes ≠ 0)
    (hnew : (Builtin.firstCells i.size n Y).run P w.drew = .ok new w.drew) (hold : (Builtin.firstCells i.size sLen (.slice base sLen sCap)).run P w.drew = .ok old w.drew)
    (hgrow : ¬ sLen + n ≤ sCap) (hcap : sLen ≤ sCap) (hbound : sLen + n ≤ 1073741824)
    (ho : All2 (RC μ) oc old.toList) (hn : All2 (RC μ) nc new.toList) (hol : old.size = sLen * i.size) (hnl : new.size = n * i.size) :
    ∃ w' c, (Builtin.append_ #[s, yt] ty #[.slice base sLen sCap, Y]).run P w = .ok (.slice (some ⟨w.heap.size, 0, none⟩) (sLen + n) c) w' ∧ sLen + n ≤ c ∧
      Inv Γ (μ.add h.length (w.heap.size, c * i.size)) (h ++ [some ⟨oc ++ nc, true⟩]) w' := by
  have hnc := nextcap_le (sLen + n) sCap (by omega)
  have hle : ¬ (281474976710656 < Builtin.nextslicecap (sLen + n) sCap * i.bytes) := by
    have : Builtin.nextslicecap (sLen + n) sCap * i.bytes ≤ 2147484648 * 65536 := Nat.mul_le_mul (by omega) hbl
    omega
  have hc0 : sLen + n ≤ grownCap w (sLen + n) sCap e := by show sLen + n ≤ sLen + n + _ % _; omega
  have hw : Inv Γ μ h w.drew := hi.world rfl rfl rfl fun _ _ => rfl
  have hrest : (Builtin.zeroCells z.cells (grownCap w (sLen + n) sCap e - (sLen + n))).size = (grownCap w (sLen + n) sCap e - (sLen + n)) * i.size := by
    simp [Builtin.zeroCells, hzl]
  have hC : (old ++ new ++ Builtin.zeroCells z.cells (grownCap w (sLen + n) sCap e - (sLen + n))).toList.length = grownCap w (sLen + n) sCap e * i.size := by
    have : (sLen + n) * i.size + (grownCap w (sLen + n) sCap e - (sLen + n)) * i.size = grownCap w (sLen + n) sCap e * i.size := by
      rw [← Nat.add_mul]; congr 1; omega
    have h2 : (sLen + n) * i.size = sLen * i.size + n * i.size := Nat.add_mul ..
    rw [Array.length_toList, Array.size_append, Array.size_append, hrest, hol, hnl]
    omega
  have hrow := new_ok (t := e) hw (slot := none) (n0 := 0) trivial (cs := oc ++ nc) (C := (old ++ new ++ Builtin.zeroCells z.cells (grownCap w (sLen + n) sCap e - (sLen + n))).toList) (by
    have h1 : (old ++ new ++ Builtin.zeroCells z.cells (grownCap w (sLen + n) sCap e - (sLen + n))).toList = (old.toList ++ new.toList) ++ (Builtin.zeroCells z.cells (grownCap w (sLen + n) sCap e - (sLen + n))).toList := by simp
    rw [h1, show (oc ++ nc).length = (old.toList ++ new.toList).length by rw [(ho.append hn).length], List.take_left]
    exact ho.append hn)
  refine ⟨w.drew.alloc (.cells (old ++ new ++ Builtin.zeroCells z.cells (grownCap w (sLen + n) sCap e - (sLen + n))) e), grownCap w (sLen + n) sCap e, ?_, hc0, ?_⟩
  · have h63 : ¬ (9223372036854775807 < ((sLen + n : Nat) : Int) ∧ False) := by simp
    have hmax : IntKind.i64.max = 9223372036854775807 := by decide
    rcases hyt with hyt | ⟨e', hyt⟩ <;>
      simp [Builtin.append_, run_und hs, run_und hyt, sizeOf, typeInfo, zeroValue, hinfo, hz, hlen, hgrow, hb0, hle, Question.forced, hnew, hold, run_newRow, grownCap]
  · rw [hC] at hrow
    exact hrow

theorem run_app_room {s e yt ty : TypeId} {i : TypeInfo} {n sLen sCap : Nat} {base : Option Addr} {Y : Value} {new : Array Value} {w' : World}
    (hs : P.underlying s = some (.slice e)) (hinfo : P.info? e = some i) (hyt : P.underlying yt = some .string ∨ ∃ e', P.underlying yt = some (.slice e')) (hlen : (Builtin.lenOf Y).run P w = .ok n w)
    (hnew : (Builtin.firstCells i.size n Y).run P w = .ok new w) (hroom : sLen + n ≤ sCap)
    (hst : ∀ a, base = some a → (storeCells (a.add (sLen * i.size)) new.toList).run P w = .ok () w') (hno : base = none → w' = w) :
    (Builtin.append_ #[s, yt] ty #[.slice base sLen sCap, Y]).run P w = .ok (.slice base (sLen + n) sCap) w' := by
  cases base with
  | none =>
    have := hno rfl
    subst this
    rcases hyt with hyt | ⟨e', hyt⟩ <;> simp [Builtin.append_, run_und hs, run_und hyt, sizeOf, typeInfo, hinfo, hlen, hroom, hnew]
  | some a =>
    have := hst a rfl
    rcases hyt with hyt | ⟨e', hyt⟩ <;> simp [Builtin.append_, run_und hs, run_und hyt, sizeOf, typeInfo, hinfo, hlen, hroom, hnew, this]

/-- Cells behind a row are written. -/
theorem storeCells_behind {Γ : Ctx} {h : Heap} {id b m : Nat} {r : Row} {ys : List Cell} {vs : List Value} (hi : Inv Γ μ h w) (hr : rd h id = some r) (hrw : r.rw = true) (hm : μ id = some (b, m))
    (hx : All2 (RC μ) ys vs) (hl : r.cells.length + ys.length ≤ m) :
    (storeCells ⟨b, r.cells.length, none⟩ vs).run P w = .ok () (w.setCells b r.cells.length vs) ∧ Inv Γ (μ.add h.length (b, m)) (h.set id none ++ [some ⟨r.cells ++ ys, true⟩]) (w.setCells b r.cells.length vs) := by
  have hrow := hi.rows id r hr
  unfold RowOk at hrow
  rw [hm] at hrow
  obtain ⟨C, elem, fz, h1, h2, h3, h4⟩ := hrow
  replace h3 := RL.all h3 (by rw [hrw]; rfl)
  have hlen := h3.length
  have hxl := hx.length
  simp at hlen
  have hcell : ∀ j, j < vs.length → (w.cell? ⟨b, r.cells.length + 0 + j, none⟩).isSome = true := by
    intro j hj
    simp only [World.cell?, h1]
    simp; omega
  have hfz : ∀ j, j < vs.length → w.frozen? ⟨b, r.cells.length + 0 + j, none⟩ = false := by
    intro j hj
    simp only [World.frozen?, h1]
    obtain ⟨lo, hi'⟩ := fz
    rcases h4 hrw with h4 | h4 <;> simp at h4 ⊢ <;> omega
  have h1c : ∀ v ∈ vs, v.oneCell' = true := by
    intro v hv
    obtain ⟨i, hlt, rfl⟩ := List.getElem_of_mem hv
    have : i < ys.length := by omega
    obtain ⟨V, hV, hR⟩ := hx.get i ys[i] (by simp [this])
    rw [List.getElem?_eq_getElem hlt] at hV
    cases hV
    exact hR.one
  refine ⟨by simpa using run_storeCells_cells (P := P) b r.cells.length vs 0 w hcell hfz h1c, ?_⟩
  obtain ⟨C', h5, h6⟩ := setCells_heap b vs r.cells.length w C elem fz h1 (by omega)
  obtain ⟨ho, ht, hou⟩ := setCells_os b vs r.cells.length w
  have hle := Mu.le_add (x := (b, m)) (hi.dom h.length (Nat.le_refl _))
  refine hi.move hr hrw hm ho ht hou (fun b' hb => setCells_other b vs r.cells.length w b' hb) ?_
  unfold RowOk
  rw [add_same]
  refine ⟨C', elem, fz, h5, ?_, ?_, fun _ => h4 hrw⟩
  · have := congrArg List.length h6
    simp at this
    omega
  · rw [h6]
    have e : (C.toList.take r.cells.length ++ (vs ++ C.toList.drop (r.cells.length + vs.length))).take (r.cells ++ ys).length = C.toList.take r.cells.length ++ vs := by
      rw [← List.append_assoc, List.take_left']
      simp; omega
    rw [e]
    exact ((h3.mono fun _ _ => RC.mono hle).append (hx.mono fun _ _ => RC.mono hle)).mono fun _ _ => .inl

theorem run_app {s e yt ty : TypeId} {i : TypeInfo} {z : Value} {x y v : Val} {X Y : Value} {Γ : Ctx} {h h' : Heap}
    (hi : Inv Γ μ h w) (hs : P.underlying s = some (.slice e)) (hinfo : P.info? e = some i) (hbl : i.bytes ≤ 65536) (hb0 : i.bytes ≠ 0) (hz : i.zero = some z) (hzl : z.cells.size = i.size) (hpos : i.size ≠ 0)
    (hyt : P.underlying yt = some .string ∨ ∃ e', P.underlying yt = some (.slice e')) (hx : RV μ x X) (hy : RV μ y Y) (hc : aapp h i.size x y = some (v, h')) :
    ∃ V w' μ', (Builtin.append_ #[s, yt] ty #[X, Y]).run P w = .ok V w' ∧ μ.le μ' ∧ RV μ' v V ∧ Inv Γ μ' h' w' ∧ (∀ id, id < h.length → μ' id = μ id) := by
  unfold aapp at hc
  simp only [Option.bind_eq_some_iff] at hc
  obtain ⟨ys, hys, hc⟩ := hc
  obtain ⟨n, vs, hlen, hfirst, hvs, hvl⟩ := addcells_ok (P := P) hi.rows hy hys
  obtain ⟨n2, vs2, hlen2, hfirst2, hvs2, hvl2⟩ := addcells_ok (P := P) (w := w.drew) (hi.world (w' := w.drew) rfl rfl rfl fun _ _ => rfl).rows hy hys
  have hyl : ys.length / i.size = n := by
    have := hvs.length
    simp at this
    rw [this, hvl]
    exact Nat.mul_div_cancel _ (by omega)
  have hn2 : n2 = n := by
    have h1 := hvs.length
    have h2 := hvs2.length
    simp at h1 h2
    exact Nat.eq_of_mul_eq_mul_right (by omega : 0 < i.size) (by omega)
  rw [hyl] at hc
  subst hn2
  have hdom : μ h.length = none := hi.dom _ (Nat.le_refl _)
  have hkeep : ∀ x id, id < h.length → (μ.add h.length x) id = μ id := fun x id hid => by
    have : id ≠ h.length := by omega
    simp [Mu.add, this]
  split at hc
  · -- a nil slice
    split at hc
    · cases hc
      rename_i hb
      cases hx
      by_cases h0 : n2 = 0
      · subst h0
        have hy0 : ys = [] := by
          have := hvs.length
          simp [hvl] at this
          exact this
        subst hy0
        have hr := run_app_room (P := P) (ty := ty) (sLen := 0) (sCap := 0) (base := none) (w' := w) hs hinfo hyt hlen hfirst (by omega) (fun a h => by cases h) (fun _ => rfl)
        exact ⟨_, w, μ, hr, Mu.le_refl _, .inr ⟨rfl, none, rfl⟩, empty_ok (slot := none) (n0 := 0) hi trivial, fun _ _ => rfl⟩
      · obtain ⟨w', c, hr, hc1, hI⟩ := run_app_grow (P := P) (ty := ty) (sLen := 0) (sCap := 0) (base := none) (old := #[]) (oc := []) hi hs hinfo hbl hz hzl hyt hlen hb0 hfirst2 (by simp [Builtin.firstCells]) (by omega) (Nat.le_refl _) (by omega) trivial hvs2 (by simp) hvl2
        refine ⟨_, w', _, hr, Mu.le_add hdom, .inl ⟨w.heap.size, c * i.size, c, add_same _ _ _, by omega, by simp, by simp⟩, hI, hkeep _⟩
    · cases hc
  · rename_i id off len sz'
    simp only [Option.bind_eq_some_iff] at hc
    obtain ⟨r, hr, hc⟩ := hc
    split at hc
    · cases hc
      rename_i hcond
      obtain ⟨hrw, rfl, hcl, hsz, hbd⟩ := hcond
      subst hsz
      rcases hx with ⟨b, m, cap, hm, hlc, hcap, rfl⟩ | ⟨h0, a, rfl⟩
      · by_cases hroom : len + n2 ≤ cap
        · have hfit : r.cells.length + ys.length ≤ m := by
            have h1 := hvs.length
            simp at h1
            have h2 : (len + n2) * i.size ≤ cap * i.size := Nat.mul_le_mul_right _ hroom
            rw [Nat.add_mul] at h2
            omega
          have hst := storeCells_behind (P := P) hi hr hrw hm hvs hfit
          have hr' := run_app_room (P := P) (ty := ty) (sLen := len) (sCap := cap) (base := some ⟨b, 0, none⟩) (w' := w.setCells b r.cells.length vs.toList) hs hinfo hyt hlen hfirst hroom
            (fun a ha => by cases ha; rw [add_none, hcl, Nat.zero_add]; exact hst.1) (fun h => by cases h)
          exact ⟨_, _, _, hr', Mu.le_add hdom, .inl ⟨b, m, cap, add_same _ _ _, hroom, hcap, rfl⟩, hst.2, hkeep _⟩
        · have hrow := hi.rows id r hr
          obtain ⟨olds, ho1, ho2, ho3⟩ := hrow.cells hm 0 (len * i.size) (by omega) (by rw [hrw]; rfl)
          have hall : (r.cells.drop 0).take (len * i.size) = r.cells := by rw [List.drop_zero, hcl, List.take_length]
          rw [hall] at ho1
          have hold := run_loadCells_list (P := P) w.drew ⟨b, 0, none⟩ olds (fun j v hv => by rw [add_none]; exact ho3 j v hv)
          rw [ho2] at hold
          obtain ⟨w', c, hr', hc1, hI⟩ := run_app_grow (P := P) (ty := ty) (sLen := len) (sCap := cap) (base := some ⟨b, 0, none⟩) (old := olds.toArray) (oc := r.cells) hi hs hinfo hbl hz hzl hyt hlen hb0 hfirst2
            (by simpa [Builtin.firstCells] using hold) hroom hlc (by omega) ho1 hvs2 (by simpa using ho2) hvl2
          refine ⟨_, w', _, hr', Mu.le_add hdom, .inl ⟨w.heap.size, c * i.size, c, add_same _ _ _, by omega, by simp, by simp⟩, ?_, hkeep _⟩
          have := hI.drop id
          rwa [List.set_append_left _ _ (rd_lt hr)] at this
      · subst h0
        have hrc : r.cells = [] := by
          have : r.cells.length = 0 := by omega
          exact List.length_eq_zero_iff.1 this
        by_cases h0 : n2 = 0
        · subst h0
          have hy0 : ys = [] := by
            have := hvs.length
            simp [hvl] at this
            exact this
          subst hy0
          have hvs0 : vs = #[] := by simpa using hvl
          subst hvs0
          have hr' := run_app_room (P := P) (ty := ty) (sLen := 0) (sCap := 0) (base := a) (w' := w) hs hinfo hyt hlen hfirst (by omega) (fun a h => by simp [storeCells]) (fun _ => rfl)
          refine ⟨_, w, μ, hr', Mu.le_refl _, .inr ⟨rfl, a, rfl⟩, ?_, fun _ _ => rfl⟩
          have := (empty_ok (slot := none) (n0 := 0) hi trivial).drop id
          rw [hrc]
          simp only [anew] at this
          rwa [List.set_append_left _ _ (rd_lt hr)] at this
        · obtain ⟨w', c, hr', hc1, hI⟩ := run_app_grow (P := P) (ty := ty) (sLen := 0) (sCap := 0) (base := a) (old := #[]) (oc := []) hi hs hinfo hbl hz hzl hyt hlen hb0 hfirst2
            (by cases a <;> simp [Builtin.firstCells, loadCells, loadCellsFrom]) (by omega) (Nat.le_refl _) (by omega) trivial hvs2 (by simp) hvl2
          refine ⟨_, w', _, hr', Mu.le_add hdom, .inl ⟨w.heap.size, c * i.size, c, add_same _ _ _, by omega, by simp, by simp⟩, ?_, hkeep _⟩
          have := hI.drop id
          rw [hrc]
          rwa [List.set_append_left _ _ (rd_lt hr)] at this
    · cases hc
  · cases hc

/-- Zeros that are appended. -/
theorem run_appZ_grow {s e yt ty : TypeId} {k : IntKind} {i : TypeInfo} {n sLen sCap : Nat} {z : Value} {base : Option Addr} {old : Array Value} {oc nc : List Cell} {Γ : Ctx} {h : Heap}
    (hi : Inv Γ μ h w) (hs : P.underlying s = some (.slice e)) (hinfo : P.info? e = some i) (hbl : i.bytes ≤ 65536) (hz : i.zero = some z) (hzl : z.cells.size = i.size)
    (hyt : P.underlying yt = some (.int k)) (hb0 : i.bytes ≠ 0) (hp0 : i.size ≠ 0)
    (hold : (Builtin.firstCells i.size sLen (.slice base sLen sCap)).run P w.drew = .ok old w.drew)
    (hgrow : ¬ sLen + n ≤ sCap) (hcap : sLen ≤ sCap) (hbound : sLen + n ≤ 1073741824)
    (ho : All2 (RC μ) oc old.toList) (hn : All2 (RC μ) nc (Builtin.zeroCells z.cells n).toList) (hol : old.size = sLen * i.size) :
    ∃ w' c, (Builtin.append_ #[s, yt] ty #[.slice base sLen sCap, .int .i64 n]).run P w = .ok (.slice (some ⟨w.heap.size, 0, none⟩) (sLen + n) c) w' ∧ sLen + n ≤ c ∧
      Inv Γ (μ.add h.length (w.heap.size, c * i.size)) (h ++ [some ⟨oc ++ nc, true⟩]) w' := by
  have hnl : (Builtin.zeroCells z.cells n).size = n * i.size := by simp [Builtin.zeroCells, hzl]
  have hnc := nextcap_le (sLen + n) sCap (by omega)
  have hle : ¬ (281474976710656 < Builtin.nextslicecap (sLen + n) sCap * i.bytes) := by
    have : Builtin.nextslicecap (sLen + n) sCap * i.bytes ≤ 2147484648 * 65536 := Nat.mul_le_mul (by omega) hbl
    omega
  have hc0 : sLen + n ≤ grownCap w (sLen + n) sCap e := by show sLen + n ≤ sLen + n + _ % _; omega
  have hw : Inv Γ μ h w.drew := hi.world rfl rfl rfl fun _ _ => rfl
  have hrest : (Builtin.zeroCells z.cells (grownCap w (sLen + n) sCap e - (sLen + n))).size = (grownCap w (sLen + n) sCap e - (sLen + n)) * i.size := by
    simp [Builtin.zeroCells, hzl]
  have hC : (old ++ Builtin.zeroCells z.cells n ++ Builtin.zeroCells z.cells (grownCap w (sLen + n) sCap e - (sLen + n))).toList.length = grownCap w (sLen + n) sCap e * i.size := by
    have : (sLen + n) * i.size + (grownCap w (sLen + n) sCap e - (sLen + n)) * i.size = grownCap w (sLen + n) sCap e * i.size := by
      rw [← Nat.add_mul]; congr 1; omega
    have h2 : (sLen + n) * i.size = sLen * i.size + n * i.size := Nat.add_mul ..
    rw [Array.length_toList, Array.size_append, Array.size_append, hrest, hol, hnl]
    omega
  have hrow := new_ok (t := e) hw (slot := none) (n0 := 0) trivial (cs := oc ++ nc) (C := (old ++ Builtin.zeroCells z.cells n ++ Builtin.zeroCells z.cells (grownCap w (sLen + n) sCap e - (sLen + n))).toList) (by
    have h1 : (old ++ Builtin.zeroCells z.cells n ++ Builtin.zeroCells z.cells (grownCap w (sLen + n) sCap e - (sLen + n))).toList = (old.toList ++ (Builtin.zeroCells z.cells n).toList) ++ (Builtin.zeroCells z.cells (grownCap w (sLen + n) sCap e - (sLen + n))).toList := by simp
    rw [h1, show (oc ++ nc).length = (old.toList ++ (Builtin.zeroCells z.cells n).toList).length by rw [(ho.append hn).length], List.take_left]
    exact ho.append hn)
  refine ⟨w.drew.alloc (.cells (old ++ Builtin.zeroCells z.cells n ++ Builtin.zeroCells z.cells (grownCap w (sLen + n) sCap e - (sLen + n))) e), grownCap w (sLen + n) sCap e, ?_, hc0, ?_⟩
  · have hmax : IntKind.i64.max = 9223372036854775807 := by decide
    have w1 : IntKind.i64.wrap (n : Int) = n := IntWalk.i64_in _ (by omega)
    have q1 : ¬ (n : Int) < 0 := by omega
    have q2 : ¬ ((n : Int) * (i.bytes : Int) > 281474976710656) := by
      have h1 : n * i.bytes ≤ 1073741824 * 65536 := Nat.mul_le_mul (by omega) hbl
      have h2 : ((n * i.bytes : Nat) : Int) ≤ ((1073741824 * 65536 : Nat) : Int) := Int.ofNat_le.2 h1
      rw [Int.natCast_mul] at h2
      omega
    have q3 : ¬ (9223372036854775807 < ((sLen : Int) + (n : Int))) := by omega
    have q4 : ¬ (281474976710656 < (n : Int) * (i.bytes : Int)) := by omega
    by_cases h0 : n = 0
    · omega
    · have h1 : ¬ (n * i.size = 0) := Nat.mul_ne_zero h0 hp0
      simp [Builtin.append_, run_und hs, run_und hyt, sizeOf, typeInfo, zeroValue, hinfo, hz, asInt, asIntOf, w1, q1, q4, hmax, q3, hgrow, hb0, hle, Question.forced, hold, run_newRow, grownCap, h1]
  · rw [hC] at hrow
    exact hrow

theorem run_appZ_room {s e yt ty : TypeId} {k : IntKind} {i : TypeInfo} {n sLen sCap : Nat} {z : Value} {base : Option Addr} {w' : World}
    (hs : P.underlying s = some (.slice e)) (hinfo : P.info? e = some i) (hbl : i.bytes ≤ 65536) (hz : i.zero = some z) (hzl : z.cells.size = i.size) (hp0 : i.size ≠ 0) (hyt : P.underlying yt = some (.int k)) (hnb : n ≤ 1073741824) (hroom : sLen + n ≤ sCap)
    (hst : ∀ a, base = some a → (storeCells (a.add (sLen * i.size)) (Builtin.zeroCells z.cells n).toList).run P w = .ok () w') (hno : base = none → w' = w) :
    (Builtin.append_ #[s, yt] ty #[.slice base sLen sCap, .int .i64 n]).run P w = .ok (.slice base (sLen + n) sCap) w' := by
  have w1 : IntKind.i64.wrap (n : Int) = n := IntWalk.i64_in _ (by omega)
  have q1 : ¬ (n : Int) < 0 := by omega
  have q4 : ¬ (281474976710656 < (n : Int) * (i.bytes : Int)) := by
    have h1 : n * i.bytes ≤ 1073741824 * 65536 := Nat.mul_le_mul hnb hbl
    have h2 : ((n * i.bytes : Nat) : Int) ≤ ((1073741824 * 65536 : Nat) : Int) := Int.ofNat_le.2 h1
    rw [Int.natCast_mul] at h2
    omega
  by_cases h0 : n = 0
  · subst h0
    have hzc : (Builtin.zeroCells z.cells 0) = #[] := by simp [Builtin.zeroCells]
    have w0 : IntKind.i64.wrap 0 = 0 := IntWalk.i64_in _ (by omega)
    rw [hzc] at hst
    cases base with
    | none =>
      have := hno rfl
      subst this
      have hr0 : sLen ≤ sCap := by omega
      simp [Builtin.append_, run_und hs, run_und hyt, sizeOf, typeInfo, hinfo, asInt, asIntOf, hr0, w0]
    | some a =>
      have := hst a rfl
      simp [storeCells] at this
      subst this
      have hr0 : sLen ≤ sCap := by omega
      simp [Builtin.append_, run_und hs, run_und hyt, sizeOf, typeInfo, hinfo, asInt, asIntOf, storeCells, hr0, w0]
  · have h1 : ¬ (n * i.size = 0) := Nat.mul_ne_zero h0 hp0
    cases base with
    | none =>
      have := hno rfl
      subst this
      simp [Builtin.append_, run_und hs, run_und hyt, sizeOf, typeInfo, zeroValue, hinfo, hz, asInt, asIntOf, w1, q1, q4, hroom, h1]
    | some a =>
      have := hst a rfl
      simp [Builtin.append_, run_und hs, run_und hyt, sizeOf, typeInfo, zeroValue, hinfo, hz, asInt, asIntOf, w1, q1, q4, hroom, h1, this]

theorem run_appZ {s e yt ty : TypeId} {kk : IntKind} {i : TypeInfo} {z : Value} {zero : List Cell} {x y v : Val} {X Y : Value} {Γ : Ctx} {h h' : Heap}
    (hi : Inv Γ μ h w) (hs : P.underlying s = some (.slice e)) (hinfo : P.info? e = some i) (hbl : i.bytes ≤ 65536) (hb0 : i.bytes ≠ 0) (hz : i.zero = some z) (hzl : z.cells.size = i.size) (hpos : i.size ≠ 0)
    (hyt : P.underlying yt = some (.int kk)) (hzc : All2 (RC μ) zero z.cells.toList) (hx : RV μ x X) (hy : RV μ y Y) (hc : aappZ h i.size zero x y = some (v, h')) :
    ∃ V w' μ', (Builtin.append_ #[s, yt] ty #[X, Y]).run P w = .ok V w' ∧ μ.le μ' ∧ RV μ' v V ∧ Inv Γ μ' h' w' ∧ (∀ id, id < h.length → μ' id = μ id) := by
  unfold aappZ at hc
  simp only [Option.bind_eq_some_iff] at hc
  obtain ⟨n2, hn2, hc⟩ := hc
  have hY : Y = .int .i64 n2 ∧ n2 ≤ 1073741824 := by
    unfold nat? at hn2
    split at hn2
    · split at hn2
      · cases hn2
        rename_i k hk
        have : Y = .int .i64 k := hy
        subst this
        exact ⟨by congr 1; omega, by omega⟩
      · cases hn2
    · cases hn2
  obtain ⟨rfl, hnb⟩ := hY
  have hvs : All2 (RC μ) (rows zero n2) (Builtin.zeroCells z.cells n2).toList := by
    have := rows_eq hzc n2 (by omega)
    simpa [Builtin.zeroCells] using this
  have hvl : (Builtin.zeroCells z.cells n2).size = n2 * i.size := by simp [Builtin.zeroCells, hzl]
  have hdom : μ h.length = none := hi.dom _ (Nat.le_refl _)
  have hkeep : ∀ x id, id < h.length → (μ.add h.length x) id = μ id := fun x id hid => by
    have : id ≠ h.length := by omega
    simp [Mu.add, this]
  split at hc
  · -- a nil slice
    · cases hc
      cases hx
      by_cases h0 : n2 = 0
      · subst h0
        have hr := run_appZ_room (P := P) (ty := ty) (sLen := 0) (sCap := 0) (base := none) (w' := w) (n := 0) hs hinfo hbl hz hzl hpos hyt (by omega) (by omega) (fun a h => by cases h) (fun _ => rfl)
        exact ⟨_, w, μ, hr, Mu.le_refl _, .inr ⟨rfl, none, rfl⟩, empty_ok (slot := none) (n0 := 0) hi trivial, fun _ _ => rfl⟩
      · obtain ⟨w', c, hr, hc1, hI⟩ := run_appZ_grow (P := P) (ty := ty) (sLen := 0) (sCap := 0) (base := none) (old := #[]) (oc := []) (n := n2) hi hs hinfo hbl hz hzl hyt hb0 hpos (by simp [Builtin.firstCells]) (by omega) (Nat.le_refl _) (by omega) trivial hvs (by simp)
        refine ⟨_, w', _, hr, Mu.le_add hdom, .inl ⟨w.heap.size, c * i.size, c, add_same _ _ _, by omega, by simp, by simp⟩, hI, hkeep _⟩
  · rename_i id off len sz'
    simp only [Option.bind_eq_some_iff] at hc
    obtain ⟨r, hr, hc⟩ := hc
    split at hc
    · cases hc
      rename_i hcond
      obtain ⟨hrw, rfl, hcl, hsz, hbd⟩ := hcond
      subst hsz
      rcases hx with ⟨b, m, cap, hm, hlc, hcap, rfl⟩ | ⟨h0, a, rfl⟩
      · by_cases hroom : len + n2 ≤ cap
        · have hfit : r.cells.length + (rows zero n2).length ≤ m := by
            have h1 := hvs.length
            simp at h1
            have h2 : (len + n2) * i.size ≤ cap * i.size := Nat.mul_le_mul_right _ hroom
            rw [Nat.add_mul] at h2
            omega
          have hst := storeCells_behind (P := P) hi hr hrw hm hvs hfit
          have hr' := run_appZ_room (P := P) (ty := ty) (sLen := len) (sCap := cap) (base := some ⟨b, 0, none⟩) (w' := w.setCells b r.cells.length (Builtin.zeroCells z.cells n2).toList) hs hinfo hbl hz hzl hpos hyt hnb hroom
            (fun a ha => by cases ha; rw [add_none, hcl, Nat.zero_add]; exact hst.1) (fun h => by cases h)
          exact ⟨_, _, _, hr', Mu.le_add hdom, .inl ⟨b, m, cap, add_same _ _ _, hroom, hcap, rfl⟩, hst.2, hkeep _⟩
        · have hrow := hi.rows id r hr
          obtain ⟨olds, ho1, ho2, ho3⟩ := hrow.cells hm 0 (len * i.size) (by omega) (by rw [hrw]; rfl)
          have hall : (r.cells.drop 0).take (len * i.size) = r.cells := by rw [List.drop_zero, hcl, List.take_length]
          rw [hall] at ho1
          have hold := run_loadCells_list (P := P) w.drew ⟨b, 0, none⟩ olds (fun j v hv => by rw [add_none]; exact ho3 j v hv)
          rw [ho2] at hold
          obtain ⟨w', c, hr', hc1, hI⟩ := run_appZ_grow (P := P) (ty := ty) (sLen := len) (sCap := cap) (base := some ⟨b, 0, none⟩) (old := olds.toArray) (oc := r.cells) (n := n2) hi hs hinfo hbl hz hzl hyt hb0 hpos
            (by simpa [Builtin.firstCells] using hold) hroom hlc (by omega) ho1 hvs (by simpa using ho2)
          refine ⟨_, w', _, hr', Mu.le_add hdom, .inl ⟨w.heap.size, c * i.size, c, add_same _ _ _, by omega, by simp, by simp⟩, ?_, hkeep _⟩
          have := hI.drop id
          rwa [List.set_append_left _ _ (rd_lt hr)] at this
      · subst h0
        have hrc : r.cells = [] := by
          have : r.cells.length = 0 := by omega
          exact List.length_eq_zero_iff.1 this
        by_cases h0 : n2 = 0
        · subst h0
          have hr' := run_appZ_room (P := P) (ty := ty) (sLen := 0) (sCap := 0) (base := a) (w' := w) (n := 0) (z := z) hs hinfo hbl hz hzl hpos hyt (by omega) (by omega) (fun a h => by simp [storeCells, Builtin.zeroCells]) (fun _ => rfl)
          refine ⟨_, w, μ, hr', Mu.le_refl _, .inr ⟨rfl, a, rfl⟩, ?_, fun _ _ => rfl⟩
          have := (empty_ok (slot := none) (n0 := 0) hi trivial).drop id
          rw [hrc]
          simp only [anew] at this
          rwa [List.set_append_left _ _ (rd_lt hr)] at this
        · obtain ⟨w', c, hr', hc1, hI⟩ := run_appZ_grow (P := P) (ty := ty) (sLen := 0) (sCap := 0) (base := a) (old := #[]) (oc := []) (n := n2) hi hs hinfo hbl hz hzl hyt hb0 hpos
            (by cases a <;> simp [Builtin.firstCells, loadCells, loadCellsFrom]) (by omega) (Nat.le_refl _) (by omega) trivial hvs (by simp)
          refine ⟨_, w', _, hr', Mu.le_add hdom, .inl ⟨w.heap.size, c * i.size, c, add_same _ _ _, by omega, by simp, by simp⟩, ?_, hkeep _⟩
          have := hI.drop id
          rw [hrc]
          rwa [List.set_append_left _ _ (rd_lt hr)] at this
    · cases hc
  · cases hc

end
end Go.Esc