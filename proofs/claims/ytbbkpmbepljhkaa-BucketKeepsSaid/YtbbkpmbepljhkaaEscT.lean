/- Arguments of a law, of any type whose leaves are numbers, texts and bools, and slices of such: what they are to the abstract evaluator. -/
import Derived.ProofKit
import Derived.OpenShut
import Derived.Deep.Slices
import Derived.Test.YtbbkpmbepljhkaaEscP
import Derived.Test.YtbbkpmbepljhkaaEscS
set_option linter.all false
namespace Go.Esc
open Go Go.ChangeShapes Go.WideShapes Go.ChangeAt Go.RowKit

/-- The leaves of a type, in order. -/
def fieldShapes (P : Program) (g : TypeId → Option (List Sh)) : List Field → Nat → Option (List Sh)
  | [], _ => some []
  | f :: r, off => if f.offset = off then (g f.type).bind fun l => if l.length = P.cellsOf f.type then (fieldShapes P g r (off + l.length)).map (l ++ ·) else none else none

def shapes (P : Program) : Nat → TypeId → Option (List Sh)
  | 0, _ => none
  | n + 1, t => match P.underlying t with
    | some .bool => some [.b]
    | some (.int k) => some [.i k]
    | some .string => some [.s]
    | some (.struct fs) => (fieldShapes P (shapes P n) fs.toList 0).bind fun l => if l.length = P.cellsOf t then some l else none
    | some (.array m e) => (shapes P n e).bind fun l => if l.length = P.cellsOf e ∧ P.cellsOf t = m * l.length then some (List.replicate m l).flatten else none
    | _ => none

def okCell : Sh → Cell → Prop
  | .b, .b _ => True
  | .i k, .i k' n => k' = k ∧ k.min ≤ n ∧ n ≤ k.max
  | .s, .s l => l.length ≤ maxLen
  | _, _ => False

theorem okCell.flat {s : Sh} {c : Cell} (h : okCell s c) : c.flat = true ∧ c.isX = false := by
  cases s <;> cases c <;> simp_all [okCell, Cell.flat, Cell.isX]

theorem okCells_flats : ∀ {l : List Sh} {cs : List Cell}, All2 okCell l cs → flats cs = true ∧ noX cs = true
  | [], [], _ => ⟨rfl, rfl⟩
  | s :: l, c :: cs, ⟨h1, h2⟩ => by
    have := okCells_flats h2
    have h3 := h1.flat
    simp [this.1, h3.1, noX, h3.2]
    have := this.2
    simpa [noX] using this
  | [], _ :: _, h => h.elim
  | _ :: _, [], h => h.elim

section
variable {H : Type} {enc : TypeId × Value → H} {P : Program} {w : World} {base : Nat} {spare : Nat → Bool} {held : Bool} {fuel : Nat} {t : TypeId} {cs : List Value} {x : DataW H × List MemPlace}

theorem trod_array {n : Nat} {e : TypeId} (ht : P.underlying t = some (.array n e)) (h : DataW.trod enc P w base spare held fuel t cs = some x) :
    ∃ (m : Nat) (xs : List (DataW H × List MemPlace)), cs.length = P.cellsOf t ∧ ∀ i, i < n → ∃ y, DataW.trod enc P w base spare held m e ((cs.drop (i * P.cellsOf e)).take (P.cellsOf e)) = some y := by
  cases fuel with
  | zero => simp [DataW.trod] at h
  | succ m =>
    unfold DataW.trod at h
    rw [ht] at h
    have h' : cs.length = P.cellsOf t ∧ ∃ xs, ((List.range n).mapM fun i => DataW.trod enc P w base spare held m e ((cs.drop (i * P.cellsOf e)).take (P.cellsOf e))) = some xs := by
      split at h <;> simp_all
      obtain ⟨hl, xs, hp, hd⟩ := h
      exact ⟨xs, hp⟩
    obtain ⟨hl, xs, hp⟩ := h'
    refine ⟨m, xs, hl, fun i hi => ?_⟩
    have := mapM_some_get hp i i (by simp [hi])
    rw [this]
    have hxl : xs.length = n := by simpa using mapM_some_length hp
    exact ⟨xs[i], List.getElem?_eq_getElem (by omega)⟩

/-- What is read of a type that is all leaves. -/
theorem open_leaves (μ : Mu) : ∀ (n : Nat) {t : TypeId} {fuel : Nat} {cs : List Value} {x : DataW H × List MemPlace} {sh : List Sh}, DataW.trod enc P w base spare held fuel t cs = some x → shapes P n t = some sh →
    ∃ cells, All2 (RC μ) cells cs ∧ All2 okCell sh cells
  | 0, _, _, _, _, _, _, hs => by simp [shapes] at hs
  | n + 1, t, fuel, cs, x, sh, h, hs => by
    unfold shapes at hs
    split at hs
    · rename_i ht
      cases hs
      obtain ⟨b, rfl, _⟩ := DataW.trod_bool ht h
      exact ⟨[.b b], ⟨rfl, trivial⟩, ⟨trivial, trivial⟩⟩
    · rename_i k ht
      cases hs
      obtain ⟨m, rfl, _, hw⟩ := DataW.trod_int ht h
      simp only [Lit.wf, Bool.and_eq_true, decide_eq_true_eq] at hw
      exact ⟨[.i k m], ⟨rfl, trivial⟩, ⟨⟨rfl, hw⟩, trivial⟩⟩
    · rename_i ht
      cases hs
      obtain ⟨s, rfl, _, hw⟩ := DataW.trod_string ht h
      exact ⟨[.s s.data.toList], ⟨by show Value.string s = .string ⟨s.data.toList.toArray⟩; simp, trivial⟩, ⟨by show s.data.toList.length ≤ maxLen; simpa using hw, trivial⟩⟩
    · rename_i fs ht
      simp only [Option.bind_eq_some_iff] at hs
      obtain ⟨l, hl, hs⟩ := hs
      split at hs
      · rename_i hlen
        cases hs
        obtain ⟨xs, m, _, _, hcl, hxl, hf⟩ := DataW.trod_struct ht h
        have key : ∀ (r : List Field) (off : Nat) (l : List Sh), fieldShapes P (shapes P n) r off = some l → (∀ f ∈ r, ∃ y, DataW.trod enc P w base spare held m f.type ((cs.drop f.offset).take (P.cellsOf f.type)) = some y) →
            ∃ cells, All2 (RC μ) cells ((cs.drop off).take l.length) ∧ All2 okCell l cells := by
          intro r
          induction r with
          | nil => intro off l hl _; simp only [fieldShapes, Option.some.injEq] at hl; subst hl; exact ⟨[], by simp, trivial⟩
          | cons f r ih =>
            intro off l hl hall
            simp only [fieldShapes] at hl
            split at hl
            · rename_i ho
              simp only [Option.bind_eq_some_iff] at hl
              obtain ⟨lf, hlf, hl⟩ := hl
              split at hl
              · rename_i hc
                simp only [Option.map_eq_some_iff] at hl
                obtain ⟨lr, hlr, rfl⟩ := hl
                obtain ⟨y, hy⟩ := hall f (by simp)
                obtain ⟨c1, g1, g2⟩ := open_leaves μ n hy hlf
                obtain ⟨c2, g3, g4⟩ := ih (off + lf.length) lr hlr fun f' hf' => hall f' (by simp [hf'])
                refine ⟨c1 ++ c2, ?_, g2.append g4⟩
                have e : (cs.drop off).take (lf ++ lr).length = (cs.drop off).take lf.length ++ (cs.drop (off + lf.length)).take lr.length := by
                  rw [List.length_append, List.take_add, List.drop_drop]
                rw [e]
                rw [ho, ← hc] at g1
                exact g1.append g3
              · cases hl
            · cases hl
        have h1 := key fs.toList 0 _ hl fun f hf' => by
          obtain ⟨i, hi⟩ := List.mem_iff_getElem?.1 hf'
          have hi2 : fs[i]? = some f := by simpa using hi
          rw [hf i f hi2]
          have : i < fs.size := (Array.getElem?_eq_some_iff.1 hi2).1
          exact ⟨xs[i], List.getElem?_eq_getElem (by omega)⟩
        rw [List.drop_zero, List.take_of_length_le (by omega)] at h1
        exact h1
      · cases hs
    · rename_i k e ht
      simp only [Option.bind_eq_some_iff] at hs
      obtain ⟨l, hl, hs⟩ := hs
      split at hs
      · rename_i hlen
        cases hs
        obtain ⟨m, xs, hcl, hall⟩ := trod_array ht h
        have key : ∀ d j, j + d = k → ∃ cells, All2 (RC μ) cells (cs.drop (j * l.length)) ∧ All2 okCell (List.replicate d l).flatten cells := by
          intro d
          induction d with
          | zero =>
            intro j hj
            have : cs.drop (j * l.length) = [] := List.drop_of_length_le (by rw [hcl, hlen.2]; have : j = k := by omega
                                                                             subst this; exact Nat.le_refl _)
            rw [this]
            exact ⟨[], trivial, trivial⟩
          | succ d ih =>
            intro j hj
            obtain ⟨y, hy⟩ := hall j (by omega)
            obtain ⟨c1, g1, g2⟩ := open_leaves μ n hy hl
            obtain ⟨c2, g3, g4⟩ := ih (j + 1) (by omega)
            refine ⟨c1 ++ c2, ?_, ?_⟩
            · rw [← hlen.1] at g1
              have e2 : cs.drop (j * l.length) = (cs.drop (j * l.length)).take l.length ++ cs.drop ((j + 1) * l.length) := by
                rw [Nat.add_mul, Nat.one_mul, ← List.drop_drop, List.take_append_drop]
              rw [e2]
              exact g1.append g3
            · rw [List.replicate_succ, List.flatten_cons]; exact g2.append g4
        have h1 := key k 0 (by omega)
        simpa using h1
      · cases hs
    · cases hs

/-- Is it an aggregate? -/
def aggTy (P : Program) (t : TypeId) : Bool :=
  match P.underlying t with
  | some (.struct _) => true
  | some (.array _ _) => true
  | _ => false

def oneVal : List Cell → Val
  | [c] => .c c
  | _ => .un

/-- A value that is all leaves. -/
def flatVal (P : Program) (t : TypeId) (cells : List Cell) : Val := if aggTy P t = true then .a cells else oneVal cells

theorem open_flat (μ : Mu) {r : Reach} {b0 : Nat} {n : Nat} {v : Value} {d : DataW H} {ps : List MemPlace} {sh : List Sh} (hval : Value.okWide P w r b0 t v) (hd : DataW.Trod enc P w base spare held t v d ps) (hs : shapes P n t = some sh) :
    ∃ cells, All2 okCell sh cells ∧ RV μ (flatVal P t cells) v := by
  obtain ⟨fuel, h⟩ := hd
  obtain ⟨cells, h1, h2⟩ := open_leaves μ n h hs
  refine ⟨cells, h2, ?_⟩
  unfold flatVal aggTy
  unfold Value.okWide at hval
  split at hval
  · rename_i ht
    obtain ⟨cs, rfl, _, _⟩ := hval
    rw [ht]
    simp only [if_true]
    exact ⟨cs.toList, by simp, by simpa [Value.cells] using h1⟩
  · rename_i ht
    obtain ⟨cs, rfl, _, _⟩ := hval
    rw [ht]
    simp only [if_true]
    exact ⟨cs.toList, by simp, by simpa [Value.cells] using h1⟩
  · rename_i hn1 hn2
    have e : (match P.underlying t with | some (.struct _) => true | some (.array _ _) => true | _ => false) = false := by
      split
      · rename_i hh; exact (hn1 _ hh).elim
      · rename_i hh; exact (hn2 _ _ hh).elim
      · rfl
    rw [e]
    simp only [Bool.false_eq_true, if_false]
    have one : ∀ V, v.cells.toList = [V] → v = V → ∃ c, cells = [c] ∧ RC μ c v := by
      intro V hV e2
      rw [hV] at h1
      cases cells with
      | nil => exact h1.elim
      | cons c r => cases r with
        | nil => exact ⟨c, rfl, e2 ▸ h1.1⟩
        | cons => exact h1.2.elim
    have fin : ∀ c, cells = [c] ∧ RC μ c v → RV μ (oneVal cells) v := by
      rintro c ⟨rfl, hc⟩
      exact hc
    unfold shapes at hs
    cases n with
    | zero => simp at hs
    | succ n =>
      simp only at hs
      split at hs
      · rename_i ht
        obtain ⟨b, hb, _⟩ := DataW.trod_bool ht h
        unfold Cell.okWide at hval
        rw [ht] at hval
        have : ∃ b, v = .bool b := by
          cases v <;> simp_all [Cell.ok]
        obtain ⟨b, rfl⟩ := this
        obtain ⟨c, hc⟩ := one (.bool b) (by simp [Value.cells]) rfl
        exact fin c hc
      · rename_i k ht
        obtain ⟨m, rfl⟩ := okWide_int (P := P) ht (by unfold Value.okWide; rw [ht]; exact hval)
        obtain ⟨c, hc⟩ := one (.int k m) (by simp [Value.cells]) rfl
        exact fin c hc
      · rename_i ht
        obtain ⟨b, hb, _⟩ := DataW.trod_string ht h
        unfold Cell.okWide at hval
        rw [ht] at hval
        have : ∃ b, v = .string b := by
          cases v <;> simp_all [Cell.ok]
        obtain ⟨b, rfl⟩ := this
        obtain ⟨c, hc⟩ := one (.string b) (by simp [Value.cells]) rfl
        exact fin c hc
      · rename_i fs ht; exact (hn1 _ ht).elim
      · rename_i k e ht; exact (hn2 _ _ ht).elim
      · cases hs
end

/-! ### Slices of leaves -/

def Mu.set (μ : Mu) (id : Nat) (y : Option (Nat × Nat)) : Mu := fun j => if j = id then y else μ j

theorem Mu.le_set {μ : Mu} {id : Nat} {y : Option (Nat × Nat)} (h : μ id = Option.none) : μ.le (μ.set id y) := by
  intro j x hj
  unfold Mu.set
  by_cases e : j = id
  · subst e; rw [h] at hj; cases hj
  · simp [e, hj]

theorem Inv.addRow {W : World} {h : Heap} {μ : Mu} (hi : Inv (ctxOf W) μ h W) (hro : ∀ id r, rd h id = some r → r.rw = false) {y : Option (Nat × Nat)} {cs : List Cell} (hrow : RowOk (μ.set h.length y) W h.length ⟨cs, false⟩) :
    Inv (ctxOf W) (μ.set h.length y) (h ++ [some ⟨cs, false⟩]) W ∧ ∀ id r, rd (h ++ [some ⟨cs, false⟩]) id = some r → r.rw = false := by
  have hm : μ h.length = Option.none := hi.dom _ (Nat.le_refl _)
  have get : ∀ id r, rd (h ++ [some ⟨cs, false⟩]) id = some r → (id < h.length ∧ rd h id = some r) ∨ (id = h.length ∧ r = ⟨cs, false⟩) := by
    intro id r hr
    by_cases hl : id < h.length
    · rw [rd_append_left hl] at hr; exact .inl ⟨hl, hr⟩
    · have hlt := rd_lt hr
      simp at hlt
      have : id = h.length := by omega
      subst this
      rw [rd_new] at hr
      cases hr
      exact .inr ⟨rfl, rfl⟩
  have ro' : ∀ id r, rd (h ++ [some ⟨cs, false⟩]) id = some r → r.rw = false := by
    intro id r hr
    rcases get id r hr with ⟨_, h1⟩ | ⟨_, rfl⟩
    · exact hro id r h1
    · rfl
  refine ⟨⟨?_, ?_, ?_, ?_, hi.ctx⟩, ro'⟩
  · intro id r hr
    rcases get id r hr with ⟨hl, h1⟩ | ⟨rfl, rfl⟩
    · exact (hi.rows id r h1).mono (Mu.le_set hm) (by simp [Mu.set]; omega) fun _ _ => rfl
    · exact hrow
  · intro id id' r r' x x' hr _ hw
    rw [ro' id r hr] at hw; cases hw
  · intro id r x hr hw
    rw [ro' id r hr] at hw; cases hw
  · intro id hl
    simp at hl
    have : id ≠ h.length := by omega
    simp only [Mu.set, this, if_false]
    exact hi.dom id (by omega)

/-- The arguments that are opened so far. -/
def Opened (W : World) (μ : Mu) (h : Heap) : Prop := Inv (ctxOf W) μ h W ∧ ∀ id r, rd h id = some r → r.rw = false

theorem Opened.none (W : World) : Opened W (fun _ => Option.none) [] := ⟨Inv.none W, fun id r h => by simp [rd] at h⟩

section
variable {H : Type} {enc : TypeId × Value → H} {P : Program} {W : World} {base : Nat} {held : Bool} {t : TypeId}

theorem cell_add {W : World} {a : Addr} {C : Array Value} {elem : TypeId} {fz : Nat × Nat} {k : Nat} (hC : W.heap[a.block]? = some (.cells C elem fz)) (hs : a.spot = none) : W.cell? (a.add k) = C[a.off + k]? := by
  have h1 : (a.add k).block = a.block := by unfold Addr.add; split <;> rfl
  have h2 : (a.add k).spot = none := by unfold Addr.add; split <;> simp_all
  have h3 : (a.add k).off = a.off + k := by unfold Addr.add; split <;> simp_all
  unfold World.cell?
  rw [h1, hC, h3]
  simp [h2]

theorem open_slice_arg {μ : Mu} {h : Heap} (ho : Opened W μ h) {r : Reach} {b0 n : Nat} {e : TypeId} {v : Value} {d : DataW H} {ps : List MemPlace} {sh : List Sh} (ht : P.underlying t = some (.slice e)) (hs : shapes P n e = some sh) (hsl : sh.length = P.cellsOf e) (hpos : 0 < sh.length)
    (hval : Value.okWide P W r b0 t v) (hd : DataW.Trod enc P W base (fun _ => true) held t v d ps) :
    ∃ v' μ' l len cells, μ.le μ' ∧ Opened W μ' (h ++ l) ∧ RV μ' v' v ∧ Has (h ++ l) v' sh.length len cells ∧ All2 okCell (List.replicate len sh).flatten cells ∧ len ≤ maxLen := by
  obtain ⟨fuel, hf⟩ := hd
  have hv : ∃ a len cap, v = .slice a len cap := by
    unfold Value.okWide at hval
    rw [ht] at hval
    unfold Cell.okWide at hval
    rw [ht] at hval
    cases v <;> simp_all [Cell.ok]
  obtain ⟨a0, len0, cap0, rfl⟩ := hv
  have hcells : (Value.slice a0 len0 cap0).cells.toList = [.slice a0 len0 cap0] := by simp [Value.cells]
  rw [hcells] at hf
  rcases Deep.open_slice ht hf with ⟨hc, _⟩ | ⟨a, len, cap, m, k, D, Pl, hc, hb, hl, hm, hmm, hx, hel⟩
  · simp only [List.cons.injEq, Value.slice.injEq, and_true] at hc
    obtain ⟨rfl, rfl, rfl⟩ := hc
    exact ⟨.c .ns, μ, [], 0, [], Mu.le_refl _, by simpa using ho, rfl, .inl ⟨rfl, rfl, rfl⟩, by simp, Nat.zero_le _⟩
  · simp only [List.cons.injEq, Value.slice.injEq, and_true] at hc
    obtain ⟨rfl, rfl, rfl⟩ := hc
    simp only [if_true] at hmm
    subst hmm
    rw [← hsl] at hel
    by_cases hm0 : m = 0
    · subst hm0
      have : len0 = 0 := by omega
      subst this
      obtain ⟨g1, g2⟩ := Inv.addRow ho.1 ho.2 (y := Option.none) (cs := []) (by unfold RowOk; simp [Mu.set])
      exact ⟨.c (.sl h.length 0 0 sh.length), _, [some ⟨[], false⟩], 0, [], Mu.le_set (ho.1.dom _ (Nat.le_refl _)), ⟨g1, g2⟩, .inr ⟨rfl, _, rfl⟩, .inr ⟨h.length, 0, ⟨[], false⟩, rfl, rd_new, by simp, by simp, by simp, rfl⟩, by simp, Nat.zero_le _⟩
    · obtain ⟨cs0, hc0, hr0⟩ := hel 0 (by omega)
      obtain ⟨_, hlen0, hcell0⟩ := World.cells?_some hc0
      have hget : ∃ C elem fz, W.heap[a.block]? = some (.cells C elem fz) ∧ a.spot = none := by
        have := hcell0 0 hpos
        rw [List.getElem?_eq_getElem (by omega)] at this
        unfold World.cell? at this
        have hb0 : ((a.add (0 * sh.length)).add 0) = a := by simp [Addr.add]
        rw [hb0] at this
        split at this
        · rename_i C elem fz hh
          refine ⟨C, elem, fz, hh, ?_⟩
          split at this
          · cases this
          · rename_i hs2; cases hsp : a.spot with
            | none => rfl
            | some s => simp [hsp] at hs2
        · cases this
      obtain ⟨C, elem, fz, hC, hsp⟩ := hget
      have ha : a = ⟨a.block, a.off, none⟩ := by cases a; simp_all
      have hcellC : ∀ i j, i < m → j < sh.length → W.cell? ((a.add (i * sh.length)).add j) = C[a.off + (i * sh.length + j)]? := by
        intro i j _ _
        rw [Deep.add_add]
        exact cell_add hC hsp
      have hsize : a.off + m * sh.length ≤ C.size := by
        obtain ⟨cs1, hc1, _⟩ := hel (m - 1) (by omega)
        obtain ⟨_, hlen1, hcell1⟩ := World.cells?_some hc1
        have h1 := hcell1 (sh.length - 1) (by omega)
        rw [hcellC _ _ (by omega) (by omega), List.getElem?_eq_getElem (by omega)] at h1
        have h2 := (Array.getElem?_eq_some_iff.1 h1).1
        have e : (m - 1) * sh.length + (sh.length - 1) + 1 = m * sh.length := by
          obtain ⟨q, rfl⟩ : ∃ q, m = q + 1 := ⟨m - 1, by omega⟩
          rw [Nat.add_sub_cancel, Nat.add_mul]; omega
        omega
      have key : ∀ d j, j + d = len0 → ∃ cells, All2 (RC μ) cells ((C.toList.drop (a.off + j * sh.length)).take (d * sh.length)) ∧ All2 okCell (List.replicate d sh).flatten cells := by
        intro d
        induction d with
        | zero => intro j _; exact ⟨[], by simp, trivial⟩
        | succ d ih =>
          intro j hj
          obtain ⟨cs1, hc1, hr1⟩ := hel j (by omega)
          obtain ⟨_, hlen1, hcell1⟩ := World.cells?_some hc1
          obtain ⟨c1, g1, g2⟩ := open_leaves μ n hr1 hs
          obtain ⟨c2, g3, g4⟩ := ih (j + 1) (by omega)
          refine ⟨c1 ++ c2, ?_, by rw [List.replicate_succ, List.flatten_cons]; exact g2.append g4⟩
          have e1 : (C.toList.drop (a.off + j * sh.length)).take sh.length = cs1 := by
            refine List.ext_getElem? fun i => ?_
            by_cases hi : i < sh.length
            · rw [List.getElem?_take_of_lt hi, List.getElem?_drop, ← hcell1 i hi, hcellC j i (by omega) hi]
              simp [Nat.add_assoc]
            · rw [List.getElem?_eq_none (by simp; omega), List.getElem?_eq_none (by omega)]
          have e2 : (C.toList.drop (a.off + j * sh.length)).take ((d + 1) * sh.length) = cs1 ++ (C.toList.drop (a.off + (j + 1) * sh.length)).take (d * sh.length) := by
            rw [Nat.add_mul d 1, Nat.one_mul, Nat.add_comm (d * sh.length), List.take_add, e1, List.drop_drop, Nat.add_mul, Nat.one_mul, Nat.add_assoc]
          rw [e2]
          exact g1.append g3
      obtain ⟨cells, k1, k2⟩ := key len0 0 (by omega)
      rw [Nat.zero_mul, Nat.add_zero] at k1
      have hcl : cells.length = len0 * sh.length := by
        have h1 := k1.length
        simp at h1
        have : len0 * sh.length ≤ m * sh.length := Nat.mul_le_mul_right _ hl
        omega
      have hmul : len0 * sh.length ≤ m * sh.length := Nat.mul_le_mul_right _ hl
      have hm' : μ h.length = none := ho.1.dom _ (Nat.le_refl _)
      obtain ⟨g1, g2⟩ := Inv.addRow ho.1 ho.2 (y := some (a.block, C.size)) (cs := List.replicate a.off .dark ++ cells) (by
        unfold RowOk
        simp only [Mu.set, if_true]
        refine ⟨C, elem, fz, hC, rfl, ?_, fun hf => by cases hf⟩
        have e3 : C.toList.take (List.replicate a.off Cell.dark ++ cells).length = C.toList.take a.off ++ (C.toList.drop a.off).take (len0 * sh.length) := by
          rw [List.length_append, List.length_replicate, List.take_add, hcl]
        rw [e3]
        refine All2.append ?_ (k1.mono fun c V hc => .inl (hc.mono (Mu.le_set hm')))
        refine All2.of_get (by simp; omega) fun i c V hc hV => .inr ⟨rfl, ?_⟩
        have := List.mem_of_getElem? hc
        rw [List.mem_replicate] at this
        rw [this.2]; rfl)
      refine ⟨.c (.sl h.length a.off len0 sh.length), _, [some ⟨List.replicate a.off .dark ++ cells, false⟩], len0, cells, Mu.le_set hm', ⟨g1, g2⟩, .inl ⟨a.block, C.size, m, by simp [Mu.set], hl, hsize, by rw [← ha]⟩, .inr ⟨h.length, a.off, _, rfl, rd_new, hcl, ?_, ?_, (okCells_flats k2).2⟩, k2, by omega⟩
      · simp [hcl]
      · rw [List.drop_left' (by simp), List.take_of_length_le (by omega)]
end

/-! ### Arguments by their kinds -/

theorem All2.flat' {μ μ' : Mu} {l : List Cell} {vs : List Value} (hf : flats l = true) (h : All2 (RC μ) l vs) : All2 (RC μ') l vs := All2.flat hf h

theorem RV.flatVal {μ μ' : Mu} {P : Program} {t : TypeId} {cells : List Cell} {v : Value} (hf : flats cells = true) (h : RV μ (flatVal P t cells) v) : RV μ' (flatVal P t cells) v := by
  unfold Go.Esc.flatVal at h ⊢
  split
  · rename_i ha
    rw [if_pos ha] at h
    obtain ⟨vs, e, h2⟩ := h
    exact ⟨vs, e, All2.flat hf h2⟩
  · rename_i ha
    rw [if_neg ha] at h
    unfold oneVal at h ⊢
    split
    · rename_i c
      simp only [flats_cons', flats_nil, Bool.and_true] at hf
      exact RC.flat hf h
    · trivial

def inKind (k : IntKind) (n : Int) : Prop := k.min ≤ n ∧ n ≤ k.max

theorem inKind_i64 {n : Int} : inKind .i64 n ↔ -9223372036854775808 ≤ n ∧ n ≤ 9223372036854775807 := Iff.rfl
theorem inKind_u64 {n : Int} : inKind .u64 n ↔ 0 ≤ n ∧ n ≤ 18446744073709551615 := Iff.rfl
theorem inKind_u32 {n : Int} : inKind .u32 n ↔ 0 ≤ n ∧ n ≤ 4294967295 := Iff.rfl
theorem inKind_u16 {n : Int} : inKind .u16 n ↔ 0 ≤ n ∧ n ≤ 65535 := Iff.rfl
theorem inKind_u8 {n : Int} : inKind .u8 n ↔ 0 ≤ n ∧ n ≤ 255 := Iff.rfl

theorem ok_bytes : ∀ {n : Nat} {cells : List Cell}, All2 okCell (List.replicate n (.i .u8)) cells → ∃ l : List UInt8, cells = encB l ∧ l.length = n
  | 0, [], _ => ⟨[], rfl, rfl⟩
  | n + 1, c :: cs, h => by
    rw [List.replicate_succ] at h
    obtain ⟨l, rfl, hl⟩ := ok_bytes h.2
    have h1 := h.1
    cases c with
    | i k m =>
      obtain ⟨rfl, h2⟩ := h1
      have h3 := inKind_u8.1 h2
      refine ⟨UInt8.ofNat m.toNat :: l, ?_, by simp [hl]⟩
      simp only [encB, List.map_cons, List.cons.injEq, Cell.i.injEq, true_and, and_true]
      rw [UInt8.toNat_ofNat']; omega
    | _ => exact h1.elim
  | 0, _ :: _, h => h.elim
  | n + 1, [], h => by rw [List.replicate_succ] at h; exact h.elim

theorem ok_ints {k : IntKind} : ∀ {n : Nat} {cells : List Cell}, All2 okCell (List.replicate n (.i k)) cells → ∃ l : List Int, cells = l.map (.i k) ∧ l.length = n ∧ ∀ x ∈ l, inKind k x
  | 0, [], _ => ⟨[], rfl, rfl, fun _ h => by cases h⟩
  | n + 1, c :: cs, h => by
    rw [List.replicate_succ] at h
    obtain ⟨l, rfl, hl, hx⟩ := ok_ints h.2
    have h1 := h.1
    cases c with
    | i k' m =>
      obtain ⟨rfl, h2⟩ := h1
      exact ⟨m :: l, rfl, by simp [hl], fun x hx' => by
        rcases List.mem_cons.1 hx' with rfl | hx'
        · exact h2
        · exact hx x hx'⟩
    | _ => exact h1.elim
  | 0, _ :: _, h => h.elim
  | n + 1, [], h => by rw [List.replicate_succ] at h; exact h.elim

theorem ok_strs : ∀ {n : Nat} {cells : List Cell}, All2 okCell (List.replicate n .s) cells → ∃ l : List (List UInt8), cells = encS l ∧ l.length = n ∧ ∀ x ∈ l, x.length ≤ maxLen
  | 0, [], _ => ⟨[], rfl, rfl, fun _ h => by cases h⟩
  | n + 1, c :: cs, h => by
    rw [List.replicate_succ] at h
    obtain ⟨l, rfl, hl, hx⟩ := ok_strs h.2
    have h1 := h.1
    cases c with
    | s m =>
      exact ⟨m :: l, rfl, by simp [hl], fun x hx' => by
        rcases List.mem_cons.1 hx' with rfl | hx'
        · exact h1
        · exact hx x hx'⟩
    | _ => exact h1.elim
  | 0, _ :: _, h => h.elim
  | n + 1, [], h => by rw [List.replicate_succ] at h; exact h.elim

section
variable {H : Type} {enc : TypeId × Value → H} {P : Program} {W : World} {base : Nat} {spare : Nat → Bool} {held : Bool} {t : TypeId} {r : Reach} {b0 n : Nat} {v : Value} {d : DataW H} {ps : List MemPlace}

theorem arg_cells {sh : List Sh} (hval : Value.okWide P W r b0 t v) (hd : DataW.Trod enc P W base spare held t v d ps) (hs : shapes P n t = some sh) (ha : aggTy P t = true) : ∃ cells, All2 okCell sh cells ∧ ∀ μ, RV μ (.a cells) v := by
  obtain ⟨cells, h1, h2⟩ := open_flat (fun _ => none) hval hd hs
  refine ⟨cells, h1, fun μ => ?_⟩
  have := RV.flatVal (μ' := μ) (okCells_flats h1).1 h2
  unfold flatVal at this
  rwa [if_pos ha] at this

theorem arg_bytes {k : Nat} (hval : Value.okWide P W r b0 t v) (hd : DataW.Trod enc P W base spare held t v d ps) (hs : shapes P n t = some (List.replicate k (.i .u8))) (ha : aggTy P t = true) : ∃ l : List UInt8, l.length = k ∧ ∀ μ, RV μ (.a (encB l)) v := by
  obtain ⟨cells, h1, h2⟩ := arg_cells hval hd hs ha
  obtain ⟨l, rfl, hl⟩ := ok_bytes h1
  exact ⟨l, hl, h2⟩

theorem arg_ints {k : Nat} (hval : Value.okWide P W r b0 t v) (hd : DataW.Trod enc P W base spare held t v d ps) (hs : shapes P n t = some (List.replicate k (.i .i64))) (ha : aggTy P t = true) : ∃ l : List Int, l.length = k ∧ (∀ x ∈ l, inKind .i64 x) ∧ ∀ μ, RV μ (.a (encI l)) v := by
  obtain ⟨cells, h1, h2⟩ := arg_cells hval hd hs ha
  obtain ⟨l, rfl, hl, hx⟩ := ok_ints h1
  exact ⟨l, hl, hx, h2⟩

theorem arg_one {s : Sh} (hval : Value.okWide P W r b0 t v) (hd : DataW.Trod enc P W base spare held t v d ps) (hs : shapes P n t = some [s]) (ha : aggTy P t = false) : ∃ c, okCell s c ∧ ∀ μ, RV μ (.c c) v := by
  obtain ⟨cells, h1, h2⟩ := open_flat (fun _ => none) hval hd hs
  cases cells with
  | nil => exact h1.elim
  | cons c l => cases l with
    | cons => exact h1.2.elim
    | nil =>
      refine ⟨c, h1.1, fun μ => ?_⟩
      have := RV.flatVal (μ' := μ) (okCells_flats h1).1 h2
      unfold flatVal at this
      rwa [if_neg (by rw [ha]; simp)] at this

theorem arg_int {k : IntKind} (hval : Value.okWide P W r b0 t v) (hd : DataW.Trod enc P W base spare held t v d ps) (hs : shapes P n t = some [.i k]) (ha : aggTy P t = false) : ∃ m, inKind k m ∧ ∀ μ, RV μ (.c (.i k m)) v := by
  obtain ⟨c, h1, h2⟩ := arg_one hval hd hs ha
  cases c with
  | i k' m => obtain ⟨rfl, h1⟩ := h1; exact ⟨m, h1, h2⟩
  | _ => exact h1.elim

theorem arg_str (hval : Value.okWide P W r b0 t v) (hd : DataW.Trod enc P W base spare held t v d ps) (hs : shapes P n t = some [.s]) (ha : aggTy P t = false) : ∃ l, l.length ≤ 9223372036854775807 ∧ ∀ μ, RV μ (.c (.s l)) v := by
  obtain ⟨c, h1, h2⟩ := arg_one hval hd hs ha
  cases c with
  | s m => exact ⟨m, h1, h2⟩
  | _ => exact h1.elim

theorem arg_sl {e : TypeId} {sh : List Sh} {μ : Mu} {h : Heap} (ho : Opened W μ h) (hval : Value.okWide P W r b0 t v) (hd : DataW.Trod enc P W base (fun _ => true) held t v d ps) (ht : P.underlying t = some (.slice e)) (hs : shapes P n e = some sh) (hsl : sh.length = P.cellsOf e) (hpos : 0 < sh.length) :
    ∃ v' μ' l len cells, μ.le μ' ∧ Opened W μ' (h ++ l) ∧ RV μ' v' v ∧ Has (h ++ l) v' sh.length len cells ∧ All2 okCell (List.replicate len sh).flatten cells ∧ len ≤ maxLen :=
  open_slice_arg ho ht hs hsl hpos hval hd

theorem arg_slB {e : TypeId} {μ : Mu} {h : Heap} (ho : Opened W μ h) (hval : Value.okWide P W r b0 t v) (hd : DataW.Trod enc P W base (fun _ => true) held t v d ps) (ht : P.underlying t = some (.slice e)) (hs : shapes P n e = some [.i .u8]) (hsl : P.cellsOf e = 1) :
    ∃ v' μ' l len data, μ.le μ' ∧ Opened W μ' (h ++ l) ∧ RV μ' v' v ∧ Has (h ++ l) v' 1 len (encB data) ∧ data.length ≤ 9223372036854775807 := by
  obtain ⟨v', μ', l, len, cells, h1, h2, h3, h4, h5, h6⟩ := arg_sl ho hval hd ht hs (by rw [hsl]; rfl) (by simp)
  have e : (List.replicate len [Sh.i .u8]).flatten = List.replicate len (.i .u8) := by
    clear h4 h5 h6
    induction len with
    | zero => rfl
    | succ n ih => rw [List.replicate_succ, List.flatten_cons, ih, List.replicate_succ]; rfl
  rw [e] at h5
  obtain ⟨data, rfl, hl⟩ := ok_bytes h5
  exact ⟨v', μ', l, len, data, h1, h2, h3, h4, by rw [hl]; exact h6⟩

theorem arg_slI {e : TypeId} {μ : Mu} {h : Heap} (ho : Opened W μ h) (hval : Value.okWide P W r b0 t v) (hd : DataW.Trod enc P W base (fun _ => true) held t v d ps) (ht : P.underlying t = some (.slice e)) (hs : shapes P n e = some [.i .i64]) (hsl : P.cellsOf e = 1) :
    ∃ v' μ' l len data, μ.le μ' ∧ Opened W μ' (h ++ l) ∧ RV μ' v' v ∧ Has (h ++ l) v' 1 len (encI data) ∧ data.length ≤ 9223372036854775807 ∧ ∀ x ∈ data, inKind .i64 x := by
  obtain ⟨v', μ', l, len, cells, h1, h2, h3, h4, h5, h6⟩ := arg_sl ho hval hd ht hs (by rw [hsl]; rfl) (by simp)
  have e : (List.replicate len [Sh.i .i64]).flatten = List.replicate len (.i .i64) := by
    clear h4 h5 h6
    induction len with
    | zero => rfl
    | succ n ih => rw [List.replicate_succ, List.flatten_cons, ih, List.replicate_succ]; rfl
  rw [e] at h5
  obtain ⟨data, rfl, hl, hx⟩ := ok_ints h5
  exact ⟨v', μ', l, len, data, h1, h2, h3, h4, by rw [hl]; exact h6, hx⟩

theorem arg_slS {e : TypeId} {μ : Mu} {h : Heap} (ho : Opened W μ h) (hval : Value.okWide P W r b0 t v) (hd : DataW.Trod enc P W base (fun _ => true) held t v d ps) (ht : P.underlying t = some (.slice e)) (hs : shapes P n e = some [.s]) (hsl : P.cellsOf e = 1) :
    ∃ v' μ' l len data, μ.le μ' ∧ Opened W μ' (h ++ l) ∧ RV μ' v' v ∧ Has (h ++ l) v' 1 len (encS data) ∧ data.length ≤ 9223372036854775807 ∧ ∀ x ∈ data, x.length ≤ 9223372036854775807 := by
  obtain ⟨v', μ', l, len, cells, h1, h2, h3, h4, h5, h6⟩ := arg_sl ho hval hd ht hs (by rw [hsl]; rfl) (by simp)
  have e : (List.replicate len [Sh.s]).flatten = List.replicate len .s := by
    clear h4 h5 h6
    induction len with
    | zero => rfl
    | succ n ih => rw [List.replicate_succ, List.flatten_cons, ih, List.replicate_succ]; rfl
  rw [e] at h5
  obtain ⟨data, rfl, hl, hx⟩ := ok_strs h5
  exact ⟨v', μ', l, len, data, h1, h2, h3, h4, by rw [hl]; exact h6, hx⟩
end

/-- A layout's cells. -/
theorem ok_layout {cells : List Cell} (h : All2 okCell [.i .i64, .i .i64, .i .u64] cells) : ∃ x y z, cells = [.i .i64 x, .i .i64 y, .i .u64 z] ∧ inKind .i64 x ∧ inKind .i64 y ∧ inKind .u64 z := by
  match cells, h with
  | [.i _ x, .i _ y, .i _ z], ⟨⟨rfl, h1⟩, ⟨rfl, h2⟩, ⟨rfl, h3⟩, _⟩ => exact ⟨x, y, z, rfl, h1, h2, h3⟩

/-- An entry's cells: a text and a number. -/
theorem ok_entry {cells : List Cell} (h : All2 okCell [.s, .i .i64] cells) : ∃ s x, cells = [.s s, .i .i64 x] ∧ s.length ≤ 9223372036854775807 ∧ inKind .i64 x := by
  match cells, h with
  | [.s s, .i _ x], ⟨h1, ⟨rfl, h2⟩, _⟩ => exact ⟨s, x, rfl, h1, h2⟩

theorem byte_of {n : Int} (h : inKind .u8 n) : ∃ x : UInt8, n = (x.toNat : Int) := by
  have := inKind_u8.1 h
  exact ⟨UInt8.ofNat n.toNat, by rw [UInt8.toNat_ofNat']; omega⟩

end Go.Esc
