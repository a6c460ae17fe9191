/- What each abstract operation does is what the model's does: new rows. -/
import Derived.Test.YtbbkpmbepljhkaaEscE
import Derived.IntWalk
set_option linter.all false
namespace Go.Esc
open Go
section
variable {P : Program} {μ : Mu} {w : World}

/-- Where a new row may stand. -/
def SlotOk (μ : Mu) (h : Heap) (n0 : Nat) : Option Nat → Prop
  | none => True
  | some j => μ (n0 + j) = none ∧ n0 + j < h.length

/-- All rows that there were keep their blocks. -/
def Keeps (μ μ' : Mu) (h : Heap) (n0 : Nat) (slot : Option Nat) : Prop := ∀ id, id < h.length → (∀ j, slot = some j → id ≠ n0 + j) → μ' id = μ id

theorem Keeps.refl (μ : Mu) (h : Heap) (n0 : Nat) (slot : Option Nat) : Keeps μ μ h n0 slot := fun _ _ _ => rfl

theorem Keeps.new {μ : Mu} {h : Heap} {n0 : Nat} {slot : Option Nat} {r : Row} {x : Nat × Nat} : Keeps μ (μ.add (anew h n0 slot r).1 x) h n0 slot := by
  intro id h1 h2
  have : id ≠ (anew h n0 slot r).1 := by
    cases slot with
    | none => simp only [anew]; omega
    | some j => exact h2 j rfl
  simp [Mu.add, this]

theorem anew_spec {h : Heap} {n0 : Nat} {slot : Option Nat} {r : Row} (hs : SlotOk μ h n0 slot) (hd : ∀ id, h.length ≤ id → μ id = none) :
    μ (anew h n0 slot r).1 = none ∧ (∀ j, j ≠ (anew h n0 slot r).1 → ∀ x, rd (anew h n0 slot r).2 j = some x → rd h j = some x) ∧ (∀ x, rd (anew h n0 slot r).2 (anew h n0 slot r).1 = some x → x = r) ∧
      h.length ≤ (anew h n0 slot r).2.length ∧ (anew h n0 slot r).1 < (anew h n0 slot r).2.length ∧ rd (anew h n0 slot r).2 (anew h n0 slot r).1 = some r := by
  cases slot with
  | none =>
    simp only [anew]
    have e : rd (h ++ [some r]) h.length = some r := by rw [rd_some]; simp
    refine ⟨hd _ (Nat.le_refl _), ?_, ?_, by simp, by simp, e⟩
    · intro j hj x hx
      rw [rd_some] at hx ⊢
      by_cases hl : j < h.length
      · rwa [List.getElem?_append_left hl] at hx
      · have : j - h.length ≠ 0 := by omega
        rw [List.getElem?_append_right (by omega)] at hx
        have : ([some r] : Heap)[j - h.length]? = none := by apply List.getElem?_eq_none; simp; omega
        rw [this] at hx; cases hx
    · intro x hx; rw [e] at hx; cases hx; rfl
  | some j =>
    obtain ⟨h1, h2⟩ := hs
    simp only [anew]
    have e : rd (h.set (n0 + j) (some r)) (n0 + j) = some r := rd_set_same h2
    refine ⟨h1, ?_, ?_, by simp, by simpa using h2, e⟩
    · intro i hi x hx; rwa [rd_set_other (Ne.symm hi)] at hx
    · intro x hx; rw [e] at hx; cases hx; rfl

/-- A new block of cells is a new row. -/
theorem new_ok {Γ : Ctx} {h : Heap} {n0 : Nat} {slot : Option Nat} {cs : List Cell} {C : List Value} {t : TypeId} (hi : Inv Γ μ h w) (hs : SlotOk μ h n0 slot) (hc : All2 (RC μ) cs (C.take cs.length)) :
    Inv Γ (μ.add (anew h n0 slot ⟨cs, true⟩).1 (w.heap.size, C.length)) (anew h n0 slot ⟨cs, true⟩).2 (w.alloc (.cells C.toArray t)) := by
  obtain ⟨h1, h2, h3, h4, h5, h6⟩ := anew_spec (r := ⟨cs, true⟩) hs hi.dom
  refine hi.fresh h1 rfl rfl rfl (fun b hb => ?_) h2 h3 h4 h5 ?_
  · show (w.heap.push _)[b]? = _
    rw [Array.getElem?_push, if_neg (by omega)]
  · unfold RowOk
    simp only [Mu.add, if_true]
    refine ⟨C.toArray, t, (0, 0), by show (w.heap.push _)[w.heap.size]? = _; simp, by simp, ?_, fun _ => .inl rfl⟩
    exact hc.mono fun _ _ h => .inl (RC.mono (Mu.le_add h1) h)

/-- A row without cells needs no block. -/
theorem empty_ok {Γ : Ctx} {h : Heap} {n0 : Nat} {slot : Option Nat} (hi : Inv Γ μ h w) (hs : SlotOk μ h n0 slot) : Inv Γ μ (anew h n0 slot ⟨[], true⟩).2 w := by
  obtain ⟨h1, h2, h3, h4, h5, h6⟩ := anew_spec (r := ⟨[], true⟩) hs hi.dom
  generalize anew h n0 slot ⟨[], true⟩ = p at *
  refine ⟨fun id r hr => ?_, fun id id' r r' x x' hr hr' hrw hne hx hx' => ?_, fun id r x hr hrw hx => ?_, fun id hid => hi.dom id (by omega), hi.ctx⟩
  · by_cases e : id = p.1
    · subst e; rw [h3 r hr]; unfold RowOk; rw [h1]
    · exact hi.rows id r (h2 id e r hr)
  · have e : id ≠ p.1 := by intro e; subst e; rw [h1] at hx; cases hx
    have e' : id' ≠ p.1 := by intro e; subst e; rw [h1] at hx'; cases hx'
    exact hi.sep id id' r r' x x' (h2 id e r hr) (h2 id' e' r' hr') hrw hne hx hx'
  · have e : id ≠ p.1 := by intro e; subst e; rw [h1] at hx; cases hx
    exact hi.own id r x (h2 id e r hr) hrw hx

theorem run_newRow (t : TypeId) (C : Array Value) : (newRow t C).run P w = .ok ⟨w.heap.size, 0, none⟩ (w.alloc (.cells C t)) := by
  rfl

theorem add_same (m : Mu) (id : Nat) (x : Nat × Nat) : (m.add id x) id = some x := by simp [Mu.add]

theorem run_alloc {Γ : Ctx} {h : Heap} {n0 : Nat} {slot : Option Nat} {t : TypeId} {z : Value} {zero : List Cell} {old : Value} (hi : Inv Γ μ h w) (hs : SlotOk μ h n0 slot) (hz : zeroB P t = some z) (hc : chkZero z zero = true) :
    ∃ V w' μ', (Instr.alloc t true old).run P w = .ok V w' ∧ μ.le μ' ∧ RV μ' (.c (.p (anew h n0 slot ⟨zero, true⟩).1 0)) V ∧ Inv Γ μ' (anew h n0 slot ⟨zero, true⟩).2 w' ∧ Keeps μ μ' h n0 slot := by
  have hcs := chkZero_ok (μ := μ) hc
  have hn := new_ok (t := t) hi hs (cs := zero) (C := z.cells.toList) (by rw [List.take_of_length_le (by rw [hcs.length]; exact Nat.le_refl _)]; exact hcs)
  refine ⟨.pointer (some ⟨w.heap.size, 0, none⟩), _, _, ?_, Mu.le_add (anew_spec (r := ⟨zero, true⟩) hs hi.dom).1, ⟨_, _, add_same _ _ _, rfl⟩, hn, Keeps.new⟩
  cases old <;> simp [Instr.alloc, run_zero hz, newVar, run_newRow]

theorem run_box {Γ : Ctx} {h : Heap} {n0 : Nat} {slot : Option Nat} {t : TypeId} {x : Val} {X : Value} {cs : List Cell} (hi : Inv Γ μ h w) (hs : SlotOk μ h n0 slot) (hx : RV μ x X) (hc : cells? x = some cs) :
    ∃ V w' μ', (Instr.box t X).run P w = .ok V w' ∧ μ.le μ' ∧ RV μ' (.c (.p (anew h n0 slot ⟨cs, true⟩).1 0)) V ∧ Inv Γ μ' (anew h n0 slot ⟨cs, true⟩).2 w' ∧ Keeps μ μ' h n0 slot := by
  have hcs := hx.cells hc
  have hn := new_ok (t := t) hi hs (cs := cs) (C := X.cells.toList) (by rw [List.take_of_length_le (by rw [hcs.length]; exact Nat.le_refl _)]; exact hcs)
  refine ⟨.pointer (some ⟨w.heap.size, 0, none⟩), _, _, ?_, Mu.le_add (anew_spec (r := ⟨cs, true⟩) hs hi.dom).1, ⟨_, _, add_same _ _ _, rfl⟩, hn, Keeps.new⟩
  simp [Instr.box, newVar, run_newRow]

/-! ### Building -/

theorem foldl_set (vs : List Value) : ∀ (k off : Nat) (cs : Array Value), off + k + vs.length ≤ cs.size →
    ((vs.zipIdx k).foldl (fun cs (x : Value × Nat) => cs.setIfInBounds (off + x.2) x.1) cs).toList = cs.toList.take (off + k) ++ (vs ++ cs.toList.drop (off + k + vs.length)) := by
  induction vs with
  | nil => intro k off cs h; simp
  | cons v r ih =>
    intro k off cs h
    simp only [List.length_cons] at h
    simp only [List.zipIdx_cons, List.foldl_cons]
    rw [ih (k + 1) off _ (by simp; omega)]
    have ho : off + k < cs.toList.length := by simp; omega
    simp only [Array.toList_setIfInBounds]
    rw [List.drop_set_of_lt (by omega), List.length_cons, show off + (k + 1) + r.length = off + k + (r.length + 1) by omega]
    rw [show off + (k + 1) = off + k + 1 by omega, List.take_set, List.take_add_one, List.set_append]
    have hm : min (off + k) cs.size = off + k := Nat.min_eq_left (by simp at ho; omega)
    simp [List.getElem?_eq_getElem ho, hm]

/-- The parts, each with its place. -/
def PartsR (μ : Mu) (place : Nat → Option (Nat × Nat)) : List (Nat × Nat × Val) → List (Nat × Value) → Prop :=
  All2 fun p q => place q.1 = some (p.1, p.2.1) ∧ RV μ p.2.2 q.2

theorem fill_ok {place : Nat → Option (Nat × Nat)} : ∀ {ps : List (Nat × Nat × Val)} {qs : List (Nat × Value)} {zero cs : List Cell} {Z : Array Value}, PartsR μ place ps qs → All2 (RC μ) zero Z.toList → afill zero ps = some cs →
    ∃ Z', Instr.fill place Z qs = some Z' ∧ All2 (RC μ) cs Z'.toList
  | [], [], zero, cs, Z, _, hz, h => by simp [afill] at h; subst h; exact ⟨Z, rfl, hz⟩
  | (off, n, v) :: ps, (i, V) :: qs, zero, cs, Z, ⟨⟨h1, h2⟩, h3⟩, hz, h => by
    simp only [afill] at h
    split at h
    · rename_i xs hxs
      split at h
      · rename_i hc
        have hV := RV.cells h2 hxs
        have hVl := hV.length
        have hzl := hz.length
        simp at hzl hVl
        have hcond : (V.cells.size ≠ n || off + V.cells.size > Z.size) = false := by simp; omega
        have hl2 : ((V.cells.zipIdx.foldl (fun cs (x : Value × Nat) => cs.setIfInBounds (off + x.2) x.1) Z)).toList = Z.toList.take off ++ (V.cells.toList ++ Z.toList.drop (off + V.cells.toList.length)) := by
          have := foldl_set V.cells.toList 0 off Z (by simp; omega)
          rw [← Array.foldl_toList, Array.toList_zipIdx]
          simpa using this
        have hlay : All2 (RC μ) (lay zero off xs) (V.cells.zipIdx.foldl (fun cs (x : Value × Nat) => cs.setIfInBounds (off + x.2) x.1) Z).toList := by
          rw [hl2]
          unfold lay
          rw [hV.length]
          exact (hz.take off).append (hV.append (hz.drop _))
        obtain ⟨Z', h4, h5⟩ := fill_ok h3 hlay h
        refine ⟨Z', ?_, h5⟩
        rw [Instr.fill, h1]
        simp only [hcond]
        exact h4
      · cases h
    · cases h
  | [], _ :: _, _, _, _, h, _, _ => h.elim
  | _ :: _, [], _, _, _, h, _, _ => h.elim

theorem run_mapM_places {fs : List Field} {ps : List (Nat × Nat)} (h : fs.map (fun f => (sizeB P f.type).map fun n => (f.offset, n)) = ps.map some) :
    (fs.mapM fun f => (do pure (f.offset, ← sizeOf f.type) : Sem (Nat × Nat))).run P w = .ok ps w := by
  induction fs generalizing ps with
  | nil => cases ps <;> simp_all
  | cons f r ih =>
    cases ps with
    | nil => simp at h
    | cons p ps =>
      simp only [List.map_cons, List.cons.injEq] at h
      cases hs : sizeB P f.type with
      | none => simp [hs] at h
      | some n =>
        simp [hs] at h
        have := ih (ps := ps) (by simpa using h.2)
        simp at this
        simp [List.mapM_cons, run_size hs, this, h.1]

theorem run_buildS {s : TypeId} {fs : Array Field} {z : Value} {zero cs : List Cell} {pl : List (Nat × Nat)} {ps : List (Nat × Nat × Val)} {qs : List (Nat × Value)} (hs : structB P s = some fs) (hz : zeroB P s = some z) (hc : chkZero z zero = true)
    (hp : fs.toList.map (fun f => (sizeB P f.type).map fun n => (f.offset, n)) = pl.map some) (hR : PartsR μ (pl[·]?) ps qs) (h : afill zero ps = some cs) :
    ∃ V, (Instr.build s qs.toArray).run P w = .ok V w ∧ RV μ (.a cs) V := by
  obtain ⟨Z', h1, h2⟩ := fill_ok hR (chkZero_ok hc) h
  refine ⟨.agg Z', ?_, Z'.toList, by simp, h2⟩
  have hm := run_mapM_places (P := P) (w := w) hp
  simp [Instr.build, run_zero hz, run_und (structB_und hs), Array.mapM_eq_mapM_toList] at hm ⊢
  rw [hm]
  simp [h1]

theorem run_buildA {s e : TypeId} {n sz : Nat} {z : Value} {zero cs : List Cell} {ps : List (Nat × Nat × Val)} {qs : List (Nat × Value)} (hs : arrayB P s = some (n, e)) (hsz : sizeB P e = some sz) (hz : zeroB P s = some z) (hc : chkZero z zero = true)
    (hR : PartsR μ (fun i => some (i * sz, sz)) ps qs) (h : afill zero ps = some cs) :
    ∃ V, (Instr.build s qs.toArray).run P w = .ok V w ∧ RV μ (.a cs) V := by
  obtain ⟨Z', h1, h2⟩ := fill_ok hR (chkZero_ok hc) h
  refine ⟨.agg Z', ?_, Z'.toList, by simp, h2⟩
  simp [Instr.build, run_zero hz, run_und (arrayB_und hs), run_size hsz, h1]

theorem run_buildSl {Γ : Ctx} {h : Heap} {n0 : Nat} {slot : Option Nat} {s e : TypeId} {len sz : Nat} {z : Value} {zero cs : List Cell} {ps : List (Nat × Nat × Val)} {qs : List (Nat × Value)}
    (hi : Inv Γ μ h w) (hsl : SlotOk μ h n0 slot) (hs : sliceB P s = some e) (hsz : sizeB P e = some sz) (hz : zeroB P e = some z) (hlen : len * sz ≤ 2 ^ 24)
    (hc : chkZero (.agg ((Array.range (len * sz)).map (z.cells[· % z.cells.size]!))) zero = true) (hR : PartsR μ (fun i => some (i * sz, sz)) ps qs) (hf : afill zero ps = some cs) :
    ∃ V w' μ', (Instr.buildSlice s len qs.toArray).run P w = .ok V w' ∧ μ.le μ' ∧ RV μ' (.c (.sl (anew h n0 slot ⟨cs, true⟩).1 0 len sz)) V ∧ Inv Γ μ' (anew h n0 slot ⟨cs, true⟩).2 w' ∧ Keeps μ μ' h n0 slot := by
  obtain ⟨Z', h1, h2⟩ := fill_ok hR (chkZero_ok hc) hf
  have hn := new_ok (t := e) hi hsl (cs := cs) (C := Z'.toList) (by rw [List.take_of_length_le (by rw [h2.length]; exact Nat.le_refl _)]; exact h2)
  have hcl : cs.length = zero.length := by
    have : ∀ (ps : List (Nat × Nat × Val)) (zero cs : List Cell), afill zero ps = some cs → cs.length = zero.length := by
      intro ps
      induction ps with
      | nil => intro zero cs h; simp [afill] at h; rw [h]
      | cons p ps ih =>
        intro zero cs h
        obtain ⟨off, n, v⟩ := p
        simp only [afill] at h
        split at h
        · split at h
          · rename_i hc
            rw [ih _ _ h]; simp [lay]; omega
          · cases h
        · cases h
    exact this _ _ _ hf
  have hzl : zero.length = len * sz := by
    have := (chkZero_ok (μ := μ) hc).length
    simpa [Value.cells] using this
  refine ⟨.slice (some ⟨w.heap.size, 0, none⟩) len len, _, _, ?_, Mu.le_add (anew_spec (r := ⟨cs, true⟩) hsl hi.dom).1, .inl ⟨_, _, len, add_same _ _ _, Nat.le_refl _, ?_, rfl⟩, hn, Keeps.new⟩
  · have hno : ¬ len * sz > 2 ^ 24 := by omega
    have h1 : Instr.fill (fun i => some (i * sz, sz)) ((Array.range (len * sz)).map (z.cells[· % z.cells.size]!)) qs = some Z' := h1
    by_cases h0 : len * sz = 0
    · have e0 : ((Array.range (len * sz)).map (fun i => z.cells[i % z.cells.size]!)) = #[] := by simp [h0]
      rw [e0] at h1
      have hr0 : (Array.range 0).map (fun _ => (default : Value)) = #[] := by simp
      simp [Instr.buildSlice, run_und (sliceB_und hs), run_size hsz, h0, hr0, h1, run_newRow]
    · simp only [Instr.buildSlice, Sem.run_bind, run_und (sliceB_und hs), Result.andThen_ok, run_size hsz, if_neg hno, if_neg h0, Sem.run_pure, run_zero hz, h1, run_newRow, pure_bind]
  · have := h2.length
    simp at this ⊢
    omega

theorem rows_eq {Z : Array Value} {zero : List Cell} (hz : All2 (RC μ) zero Z.toList) (n : Nat) (h0 : Z.size ≠ 0) :
    All2 (RC μ) (rows zero n) (((Array.range (n * Z.size)).map (Z[· % Z.size]!)).toList) := by
  have e : ((Array.range (n * Z.size)).map (Z[· % Z.size]!)).toList = (List.replicate n Z.toList).flatten := by
    simp only [Array.toList_map, Array.toList_range]
    induction n with
    | zero => simp
    | succ n ih =>
      rw [List.replicate_succ', List.flatten_append, ← ih, Nat.add_mul, Nat.one_mul, List.range_add, List.map_append, List.map_map]
      congr 1
      simp only [List.flatten_cons, List.flatten_nil, List.append_nil]
      apply List.ext_getElem
      · simp
      · intro i h1 h2
        simp at h1 h2
        simp [Nat.add_mod, Nat.mod_eq_of_lt h1, h1]
  rw [e]
  exact hz.flatten_replicate n

theorem run_mkSl {Γ : Ctx} {h : Heap} {n0 : Nat} {slot : Option Nat} {s e : TypeId} {n c sz by_ : Nat} {z : Value} {zero : List Cell} {x y : Val} {X Y : Value} (hi : Inv Γ μ h w) (hsl : SlotOk μ h n0 slot)
    (hs : sliceB P s = some e) (hsz : sizeB P e = some sz) (hz : zeroB P e = some z) (hc : chkZero z zero = true) (hzs : zero.length = sz) (hpos : sz ≠ 0) (hby : bytesB P e = some by_) (hbl : by_ ≤ 65536)
    (hx : RV μ x X) (hy : RV μ y Y) (hn : nat? x = some n) (hcap : nat? y = some c) (hnc : n ≤ c) :
    ∃ V w' μ', (Instr.makeSlice s X Y).run P w = .ok V w' ∧ μ.le μ' ∧ RV μ' (.c (.sl (anew h n0 slot ⟨rows zero n, true⟩).1 0 n sz)) V ∧ Inv Γ μ' (anew h n0 slot ⟨rows zero n, true⟩).2 w' ∧ Keeps μ μ' h n0 slot := by
  have key : ∀ {v : Val} {V : Value} {m : Nat}, RV μ v V → nat? v = some m → V = .int .i64 m ∧ m ≤ 1073741824 := by
    intro v V m hv hm
    unfold nat? at hm
    split at hm
    · split at hm
      · cases hm
        rename_i k hk
        have : V = .int .i64 k := hv
        subst this
        exact ⟨by congr 1; omega, by omega⟩
      · cases hm
    · cases hm
  obtain ⟨rfl, hnb⟩ := key hx hn
  obtain ⟨rfl, hcb⟩ := key hy hcap
  have hcs := chkZero_ok (μ := μ) hc
  have hzl : z.cells.size = sz := by have := hcs.length; simp at this; omega
  have hrows := rows_eq hcs c (by omega)
  rw [hzl] at hrows
  have hrl : ∀ m, (rows zero m).length = m * sz := by intro m; simp [rows, hzs]
  have hsplit : rows zero c = rows zero n ++ rows zero (c - n) := by
    unfold rows
    rw [← List.flatten_append, List.replicate_append_replicate]
    congr 2; omega
  obtain ⟨info, hinfo, hib⟩ := run_bytes (P := P) (w := w) hby
  have hnn := new_ok (t := e) hi hsl (cs := rows zero n) (C := ((Array.range (c * sz)).map (z.cells[· % sz]!)).toList) (by
    have := hrows.take (rows zero n).length
    rw [hsplit, List.take_left] at this
    exact this)
  refine ⟨.slice (some ⟨w.heap.size, 0, none⟩) n c, _, _, ?_, Mu.le_add (anew_spec (r := ⟨rows zero n, true⟩) hsl hi.dom).1, .inl ⟨_, _, c, add_same _ _ _, hnc, ?_, rfl⟩, hnn, Keeps.new⟩
  · have w1 : IntKind.i64.wrap (n : Int) = n := IntWalk.i64_in _ (by omega)
    have w2 : IntKind.i64.wrap (c : Int) = c := IntWalk.i64_in _ (by omega)
    have hb : ¬ ((by_ : Int) * (c : Int) > 281474976710656) := by
      have : (by_ : Int) * c ≤ 65536 * 1073741824 := by
        have h1 : by_ * c ≤ 65536 * 1073741824 := Nat.mul_le_mul hbl hcb
        have h2 : ((by_ * c : Nat) : Int) ≤ ((65536 * 1073741824 : Nat) : Int) := Int.ofNat_le.2 h1
        rw [Int.natCast_mul] at h2
        exact h2
      omega
    by_cases h0 : c * sz = 0
    · simp [Instr.makeSlice, run_und (sliceB_und hs), asInt, asIntOf, hinfo, hib, w1, w2, run_size hsz, h0, run_newRow]
      have q1 : ¬ ((c : Int) < 0 ∨ 281474976710656 < (by_ : Int) * c) := by omega
      have q2 : ¬ ((n : Int) < 0) := by omega
      have q3 : ¬ (c < n) := by omega
      simp [q1, q2, q3]
      rw [show (Array.range 0).map (fun _ => (default : Value)) = #[] by simp]
    · simp [Instr.makeSlice, run_und (sliceB_und hs), asInt, asIntOf, hinfo, hib, w1, w2, run_size hsz, h0, run_zero hz, hzl, run_newRow]
      have q1 : ¬ ((c : Int) < 0 ∨ 281474976710656 < (by_ : Int) * c) := by omega
      have q2 : ¬ ((n : Int) < 0) := by omega
      have q3 : ¬ (c < n) := by omega
      simp [q1, q2, q3]
      exact congrArg (fun x => w.alloc (Obj.cells x e)) (by apply Array.ext'; simp)
  · simp

end
end Go.Esc
