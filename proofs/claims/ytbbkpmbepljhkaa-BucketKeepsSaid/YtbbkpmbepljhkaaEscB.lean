/- How the abstract evaluator's values and rows stand to the model's values and memory. -/
import Derived.Test.YtbbkpmbepljhkaaEscA
import Derived.Calls
import Derived.Orders
import Derived.Laws.Cells
import Derived.Laws.IdiomCopy
import Derived.Laws.World
set_option linter.all false
namespace Go.Esc
open Go

/-- Two lists of one length, each pair related. -/
def All2 {α β : Type} (R : α → β → Prop) : List α → List β → Prop
  | [], [] => True
  | a :: l, b :: m => R a b ∧ All2 R l m
  | _, _ => False

section
variable {α β : Type} {R S : α → β → Prop}
@[simp] theorem All2.nil_nil : All2 R [] [] = True := rfl
@[simp] theorem All2.cons_cons {a : α} {l : List α} {b : β} {m : List β} : All2 R (a :: l) (b :: m) = (R a b ∧ All2 R l m) := rfl
@[simp] theorem All2.nil_cons {b : β} {m : List β} : All2 R [] (b :: m) = False := rfl
@[simp] theorem All2.cons_nil {a : α} {l : List α} : All2 R (a :: l) [] = False := rfl
theorem All2.mono (h : ∀ a b, R a b → S a b) : ∀ {l : List α} {m : List β}, All2 R l m → All2 S l m
  | [], [], _ => trivial
  | _ :: _, _ :: _, ⟨h1, h2⟩ => ⟨h _ _ h1, All2.mono h h2⟩
  | [], _ :: _, h => h.elim
  | _ :: _, [], h => h.elim
theorem All2.length : ∀ {l : List α} {m : List β}, All2 R l m → l.length = m.length
  | [], [], _ => rfl
  | _ :: _, _ :: _, ⟨_, h2⟩ => by simp [All2.length h2]
  | [], _ :: _, h => h.elim
  | _ :: _, [], h => h.elim
theorem All2.get : ∀ {l : List α} {m : List β}, All2 R l m → ∀ (i : Nat) (a : α), l[i]? = some a → ∃ b, m[i]? = some b ∧ R a b
  | [], [], _, i, a, h => by simp at h
  | x :: l, y :: m, ⟨h1, h2⟩, 0, a, h => by simp at h; subst h; exact ⟨y, rfl, h1⟩
  | x :: l, y :: m, ⟨h1, h2⟩, i + 1, a, h => by simp at h; simpa using All2.get h2 i a h
  | [], _ :: _, h, _, _, _ => h.elim
  | _ :: _, [], h, _, _, _ => h.elim
theorem All2.of_get : ∀ {l : List α} {m : List β}, l.length = m.length → (∀ (i : Nat) (a : α) (b : β), l[i]? = some a → m[i]? = some b → R a b) → All2 R l m
  | [], [], _, _ => trivial
  | x :: l, y :: m, hl, h => ⟨h 0 x y rfl rfl, All2.of_get (by simpa using hl) fun i a b h1 h2 => h (i + 1) a b (by simpa using h1) (by simpa using h2)⟩
  | [], _ :: _, h, _ => by simp at h
  | _ :: _, [], h, _ => by simp at h
theorem All2.append : ∀ {l l' : List α} {m m' : List β}, All2 R l m → All2 R l' m' → All2 R (l ++ l') (m ++ m')
  | [], _, [], _, _, h => h
  | _ :: _, _, _ :: _, _, ⟨h1, h2⟩, h => ⟨h1, All2.append h2 h⟩
  | [], _, _ :: _, _, h, _ => h.elim
  | _ :: _, _, [], _, h, _ => h.elim
theorem All2.take : ∀ {l : List α} {m : List β} (n : Nat), All2 R l m → All2 R (l.take n) (m.take n)
  | [], [], n, _ => by simp
  | _ :: _, _ :: _, 0, _ => by simp
  | _ :: _, _ :: _, n + 1, ⟨h1, h2⟩ => by simpa using ⟨h1, All2.take n h2⟩
  | [], _ :: _, _, h => h.elim
  | _ :: _, [], _, h => h.elim
theorem All2.drop : ∀ {l : List α} {m : List β} (n : Nat), All2 R l m → All2 R (l.drop n) (m.drop n)
  | [], [], n, _ => by simp
  | _ :: _, _ :: _, 0, h => by simpa using h
  | _ :: _, _ :: _, n + 1, ⟨_, h2⟩ => by simpa using All2.drop n h2
  | [], _ :: _, _, h => h.elim
  | _ :: _, [], _, h => h.elim
theorem All2.set : ∀ {l : List α} {m : List β} (i : Nat) {a : α} {b : β}, All2 R l m → R a b → All2 R (l.set i a) (m.set i b)
  | [], [], _, _, _, _, _ => by simp
  | _ :: _, _ :: _, 0, _, _, ⟨_, h2⟩, h => by simpa using ⟨h, h2⟩
  | _ :: _, _ :: _, i + 1, _, _, ⟨h1, h2⟩, h => by simpa using ⟨h1, All2.set i h2 h⟩
  | [], _ :: _, _, _, _, h, _ => h.elim
  | _ :: _, [], _, _, _, h, _ => h.elim
theorem All2.replicate {a : α} {b : β} (h : R a b) : ∀ n, All2 R (List.replicate n a) (List.replicate n b)
  | 0 => trivial
  | n + 1 => ⟨h, All2.replicate h n⟩
theorem All2.map_left {γ : Type} {f : γ → α} : ∀ {l : List γ} {m : List β}, All2 (fun a b => R (f a) b) l m → All2 R (l.map f) m
  | [], [], _ => trivial
  | _ :: _, _ :: _, ⟨h1, h2⟩ => ⟨h1, All2.map_left h2⟩
  | [], _ :: _, h => h.elim
  | _ :: _, [], h => h.elim
theorem All2.map_both {γ δ : Type} {f : γ → α} {g : δ → β} {T : γ → δ → Prop} (h : ∀ a b, T a b → R (f a) (g b)) : ∀ {l : List γ} {m : List δ}, All2 T l m → All2 R (l.map f) (m.map g)
  | [], [], _ => trivial
  | _ :: _, _ :: _, ⟨h1, h2⟩ => ⟨h _ _ h1, All2.map_both h h2⟩
  | [], _ :: _, h => h.elim
  | _ :: _, [], h => h.elim
theorem All2.flatten_replicate {l : List α} {m : List β} (h : All2 R l m) : ∀ n, All2 R (List.replicate n l).flatten (List.replicate n m).flatten
  | 0 => trivial
  | n + 1 => by simpa [List.replicate_succ] using h.append (All2.flatten_replicate h n)
end

/-- Which block a row is, and how many cells the block has. -/
abbrev Mu := Nat → Option (Nat × Nat)

def Mu.le (m m' : Mu) : Prop := ∀ id x, m id = some x → m' id = some x
theorem Mu.le_refl (m : Mu) : m.le m := fun _ _ h => h
theorem Mu.le_trans {a b c : Mu} (h : a.le b) (k : b.le c) : a.le c := fun _ _ x => k _ _ (h _ _ x)

def RPtr (μ : Mu) (q : Nat × Nat) (V : Value) : Prop := ∃ b n, μ q.1 = some (b, n) ∧ V = .pointer (some ⟨b, q.2, none⟩)

def RC (μ : Mu) : Cell → Value → Prop
  | .b x, V => V = .bool x
  | .i k n, V => V = .int k n
  | .s x, V => V = .string ⟨x.toArray⟩
  | .p id off, V => RPtr μ (id, off) V
  | .np, V => V = .pointer none
  | .sl id off len sz, V => (∃ b n cap, μ id = some (b, n) ∧ len ≤ cap ∧ off + cap * sz ≤ n ∧ V = .slice (some ⟨b, off, none⟩) len cap) ∨ (len = 0 ∧ ∃ a, V = .slice a 0 0)
  | .ns, V => V = .slice none 0 0
  | .f fn caps, V => ∃ cs : List Value, V = .func (.func fn) #[] cs.toArray ∧ All2 (RPtr μ) caps cs
  | .nf, V => V = .nilFunc
  | .m id, V => ∃ b n, μ id = some (b, n) ∧ V = .map (some b)
  | .nm, V => V = .map none
  | .dark, _ => False

theorem RPtr.mono {μ μ' : Mu} (h : μ.le μ') {q : Nat × Nat} {V : Value} : RPtr μ q V → RPtr μ' q V :=
  fun ⟨b, n, h1, h2⟩ => ⟨b, n, h _ _ h1, h2⟩
theorem RC.mono {μ μ' : Mu} (h : μ.le μ') {c : Cell} {V : Value} (hc : RC μ c V) : RC μ' c V := by
  cases c with
  | p id off => exact RPtr.mono h hc
  | sl id off len sz =>
    rcases hc with ⟨b, n, cap, h1, h2⟩ | hc
    · exact .inl ⟨b, n, cap, h _ _ h1, h2⟩
    · exact .inr hc
  | f fn caps => obtain ⟨cs, h1, h2⟩ := hc; exact ⟨cs, h1, h2.mono fun _ _ => RPtr.mono h⟩
  | m id => obtain ⟨b, n, h1, h2⟩ := hc; exact ⟨b, n, h _ _ h1, h2⟩
  | _ => exact hc

theorem RC.one {μ : Mu} {c : Cell} {V : Value} (hc : RC μ c V) : V.oneCell' = true := by
  cases c with
  | sl id off len sz => rcases hc with ⟨b, n, cap, _, _, _, rfl⟩ | ⟨_, a, rfl⟩ <;> rfl
  | p id off => obtain ⟨b, n, _, rfl⟩ := hc; rfl
  | f fn caps => obtain ⟨cs, rfl, _⟩ := hc; rfl
  | m id => obtain ⟨b, n, _, rfl⟩ := hc; rfl
  | b x => cases hc; rfl
  | i k n => cases hc; rfl
  | s x => cases hc; rfl
  | np => cases hc; rfl
  | ns => cases hc; rfl
  | nf => cases hc; rfl
  | nm => cases hc; rfl
  | dark => exact hc.elim

theorem RC.cells {μ : Mu} {c : Cell} {V : Value} (hc : RC μ c V) : V.cells = #[V] := by
  have := hc.one
  cases V <;> simp_all [Value.oneCell', Value.cells]

def RP (μ : Mu) : Part → Value → Prop
  | .c x, V => RC μ x V
  | .a l, V => ∃ vs : List Value, V = .agg vs.toArray ∧ All2 (RC μ) l vs

def RV (μ : Mu) : Val → Value → Prop
  | .un, _ => True
  | .no, V => V = undef
  | .c x, V => RC μ x V
  | .a l, V => ∃ vs : List Value, V = .agg vs.toArray ∧ All2 (RC μ) l vs
  | .t l, V => ∃ vs : List Value, V = .tuple vs.toArray ∧ All2 (RP μ) l vs

theorem RP.mono {μ μ' : Mu} (h : μ.le μ') {c : Part} {V : Value} (hc : RP μ c V) : RP μ' c V := by
  cases c with
  | c x => exact RC.mono h hc
  | a l => obtain ⟨vs, h1, h2⟩ := hc; exact ⟨vs, h1, h2.mono fun _ _ => RC.mono h⟩

theorem RV.mono {μ μ' : Mu} (h : μ.le μ') {c : Val} {V : Value} (hc : RV μ c V) : RV μ' c V := by
  cases c with
  | un => trivial
  | no => exact hc
  | c x => exact RC.mono h hc
  | a l => obtain ⟨vs, h1, h2⟩ := hc; exact ⟨vs, h1, h2.mono fun _ _ => RC.mono h⟩
  | t l => obtain ⟨vs, h1, h2⟩ := hc; exact ⟨vs, h1, h2.mono fun _ _ => RP.mono h⟩

theorem RV.cells {μ : Mu} {v : Val} {V : Value} {cs : List Cell} (h : RV μ v V) (hc : cells? v = some cs) : All2 (RC μ) cs V.cells.toList := by
  cases v with
  | c x => simp [cells?] at hc; subst hc; rw [RC.cells h]; exact ⟨h, trivial⟩
  | a l => simp [cells?] at hc; subst hc; obtain ⟨vs, rfl, h2⟩ := h; simpa [Value.cells] using h2
  | un => simp [cells?] at hc
  | no => simp [cells?] at hc
  | t l => simp [cells?] at hc

theorem RV.ofPart {μ : Mu} {p : Part} {V : Value} (h : RP μ p V) : RV μ (ofPart p) V := by
  cases p <;> exact h
theorem RP.ofVal {μ : Mu} {v : Val} {p : Part} {V : Value} (h : RV μ v V) (hp : part? v = some p) : RP μ p V := by
  cases v <;> simp [part?] at hp <;> subst hp <;> exact h

/-- A row's cell and the cell in memory. -/
def RL (μ : Mu) (rw : Bool) (c : Cell) (V : Value) : Prop := RC μ c V ∨ (rw = false ∧ c.isX = true)

theorem RL.mono {μ μ' : Mu} (h : μ.le μ') {rw : Bool} {c : Cell} {V : Value} : RL μ rw c V → RL μ' rw c V
  | .inl k => .inl (k.mono h)
  | .inr k => .inr k
theorem RL.told {μ : Mu} {rw : Bool} {c : Cell} {V : Value} (h : RL μ rw c V) (hx : (rw || !c.isX) = true) : RC μ c V := by
  rcases h with h | ⟨h1, h2⟩
  · exact h
  · rw [h1, h2] at hx; cases hx
theorem RL.all {μ : Mu} {rw : Bool} : ∀ {l : List Cell} {vs : List Value}, All2 (RL μ rw) l vs → (rw || noX l) = true → All2 (RC μ) l vs
  | [], [], _, _ => trivial
  | c :: l, V :: vs, ⟨h1, h2⟩, hx => by
    have hx' : (rw || !c.isX) = true ∧ (rw || noX l) = true := by
      cases rw <;> simp_all [noX]
    exact ⟨h1.told hx'.1, RL.all h2 hx'.2⟩
  | [], _ :: _, h, _ => h.elim
  | _ :: _, [], h, _ => h.elim

/-- A row as it lies in memory. -/
def RowOk (μ : Mu) (w : World) (id : Nat) (r : Row) : Prop :=
  match μ id with
  | none => r.cells = []
  | some (b, n) => ∃ C elem fz, w.heap[b]? = some (.cells C elem fz) ∧ C.size = n ∧ All2 (RL μ r.rw) r.cells (C.toList.take r.cells.length) ∧ (r.rw = true → fz.1 = fz.2 ∨ n ≤ fz.1)

/-- What may not be touched. -/
structure Ctx where
  F : Nat → Option Obj
  os : Os
  tape : Nat → Question → Nat
  output : Array (Nat × ByteArray)

structure Ctx.ok (Γ : Ctx) (w : World) : Prop where
  os : w.os = Γ.os
  tape : w.tape = Γ.tape
  output : w.output = Γ.output
  block : ∀ b o, Γ.F b = some o → w.heap[b]? = some o

structure Inv (Γ : Ctx) (μ : Mu) (h : Heap) (w : World) : Prop where
  rows : ∀ id r, rd h id = some r → RowOk μ w id r
  sep : ∀ id id' r r' x x', rd h id = some r → rd h id' = some r' → r.rw = true → id ≠ id' → μ id = some x → μ id' = some x' → x.1 ≠ x'.1
  own : ∀ id r x, rd h id = some r → r.rw = true → μ id = some x → Γ.F x.1 = none
  dom : ∀ id, h.length ≤ id → μ id = none
  ctx : Γ.ok w

def SEnv (μ : Mu) (e : Env) (a : Act) : Prop := ∀ t, RV μ (e.get t) (a.tmps.getD t undef)

theorem SEnv.mono {μ μ' : Mu} (h : μ.le μ') {e : Env} {a : Act} (hs : SEnv μ e a) : SEnv μ' e a := fun t => (hs t).mono h

theorem Env.get_put_same (e : Env) (d : Nat) (v : Val) : (e.put (some d) v).get d = v := by simp [Env.put, Env.get]
theorem Env.get_put_other (e : Env) (d t : Nat) (v : Val) (h : d ≠ t) : (e.put (some d) v).get t = e.get t := by
  have : Nat.beq d t = false := by cases hb : Nat.beq d t with
    | false => rfl
    | true => exact absurd (Nat.eq_of_beq_eq_true hb) h
  simp [Env.put, Env.get, this]

theorem SEnv.put {μ : Mu} {e : Env} {a : Act} (hs : SEnv μ e a) {d : Option Nat} {v : Val} {V : Value} (hd : ∀ t, d = some t → t < a.tmps.size) (hv : RV μ v V) :
    SEnv μ (e.put d v) (a.put d V) := by
  cases d with
  | none => exact hs
  | some d =>
    intro t
    by_cases h : d = t
    · subst h
      rw [Env.get_put_same]
      have := hd d rfl
      simpa [Act.put, Array.getD, this] using hv
    · rw [Env.get_put_other _ _ _ _ h]
      have h1 : (a.put (some d) V).tmps.getD t undef = a.tmps.getD t undef := by
        simp [Act.put, Array.getElem?_setIfInBounds_ne h]
      rw [h1]; exact hs t

theorem Act.size_put (a : Act) (d : Option Nat) (V : Value) : (a.put d V).tmps.size = a.tmps.size := by
  cases d <;> simp [Act.put]

theorem Env.get_keep (e : Env) (l : List Nat) (t : Nat) : (e.keep l).get t = e.get t ∨ (e.keep l).get t = .un := by
  induction l with
  | nil => right; rfl
  | cons x r ih =>
    simp only [Env.keep, Env.get]
    by_cases h : x = t
    · subst h; left; simp
    · have : Nat.beq x t = false := by cases hb : Nat.beq x t with
        | false => rfl
        | true => exact absurd (Nat.eq_of_beq_eq_true hb) h
      simpa [this] using ih

theorem SEnv.keep {μ : Mu} {e : Env} {a : Act} (hs : SEnv μ e a) (l : List Nat) : SEnv μ (e.keep l) a := by
  intro t
  rcases Env.get_keep e l t with h | h
  · rw [h]; exact hs t
  · rw [h]; trivial

/-! ### Rows -/

theorem rd_some {h : Heap} {id : Nat} {r : Row} : rd h id = some r ↔ h[id]? = some (some r) := by
  unfold rd
  cases h[id]? <;> simp

theorem rd_lt {h : Heap} {id : Nat} {r : Row} (hr : rd h id = some r) : id < h.length := by
  rw [rd_some] at hr
  exact (List.getElem?_eq_some_iff.1 hr).1

theorem rd_append_left {h g : Heap} {id : Nat} (hl : id < h.length) : rd (h ++ g) id = rd h id := by
  unfold rd; rw [List.getElem?_append_left hl]

theorem rd_append {h g : Heap} {id : Nat} {r : Row} (hr : rd h id = some r) : rd (h ++ g) id = some r := by
  rw [rd_append_left (rd_lt hr)]; exact hr

theorem rd_set_same {h : Heap} {id : Nat} {x : Option Row} (hl : id < h.length) : rd (h.set id x) id = x := by
  unfold rd; rw [List.getElem?_set_self hl]; rfl
theorem rd_set_other {h : Heap} {id id' : Nat} {x : Option Row} (hne : id ≠ id') : rd (h.set id x) id' = rd h id' := by
  unfold rd; rw [List.getElem?_set_ne hne]

theorem RowOk.mono {μ μ' : Mu} {w w' : World} {id : Nat} {r : Row} (hr : RowOk μ w id r) (hle : μ.le μ') (hid : μ' id = μ id)
    (hb : ∀ x, μ id = some x → w'.heap[x.1]? = w.heap[x.1]?) : RowOk μ' w' id r := by
  unfold RowOk at *
  rw [hid]
  cases hm : μ id with
  | none => rw [hm] at hr; exact hr
  | some x =>
    obtain ⟨b, n⟩ := x
    rw [hm] at hr
    obtain ⟨C, elem, fz, h1, h2, h3, h4⟩ := hr
    exact ⟨C, elem, fz, by rw [hb _ hm]; exact h1, h2, h3.mono fun _ _ => RL.mono hle, h4⟩

/-- What a row's cell is in memory. -/
theorem RowOk.cell {μ : Mu} {w : World} {id : Nat} {r : Row} (hr : RowOk μ w id r) {b n : Nat} (hm : μ id = some (b, n)) {off : Nat} {c : Cell} (hc : r.cells[off]? = some c) (hx : (r.rw || !c.isX) = true) :
    ∃ V, w.cell? ⟨b, off, none⟩ = some V ∧ RC μ c V := by
  unfold RowOk at hr
  rw [hm] at hr
  obtain ⟨C, elem, fz, h1, h2, h3, h4⟩ := hr
  obtain ⟨V, hV, hR⟩ := h3.get off c hc
  refine ⟨V, ?_, hR.told hx⟩
  have hlt : off < r.cells.length := (List.getElem?_eq_some_iff.1 hc).1
  rw [List.getElem?_take_of_lt hlt] at hV
  simp only [World.cell?, h1]
  simpa using hV

theorem RowOk.cells {μ : Mu} {w : World} {id : Nat} {r : Row} (hr : RowOk μ w id r) {b n : Nat} (hm : μ id = some (b, n)) (off k : Nat) (hk : off + k ≤ r.cells.length) (hx : (r.rw || noX ((r.cells.drop off).take k)) = true) :
    ∃ vs : List Value, All2 (RC μ) ((r.cells.drop off).take k) vs ∧ vs.length = k ∧ ∀ j v, vs[j]? = some v → w.cell? ⟨b, off + j, none⟩ = some v := by
  unfold RowOk at hr
  rw [hm] at hr
  obtain ⟨C, elem, fz, h1, h2, h3, h4⟩ := hr
  refine ⟨((C.toList.take r.cells.length).drop off).take k, RL.all ((h3.drop off).take k) hx, ?_, ?_⟩
  · have := h3.length
    simp at this ⊢
    omega
  · intro j v hv
    have hj : j < k := by
      have := (List.getElem?_eq_some_iff.1 hv).1
      simp at this
      omega
    rw [List.getElem?_take_of_lt hj, List.getElem?_drop, List.getElem?_take_of_lt (by omega)] at hv
    simp only [World.cell?, h1]
    simpa using hv

/-- A block that is there is no new one. -/
theorem Inv.lt {Γ : Ctx} {μ : Mu} {h : Heap} {w : World} (hi : Inv Γ μ h w) {id : Nat} {r : Row} (hr : rd h id = some r) {x : Nat × Nat} (hx : μ id = some x) : x.1 < w.heap.size := by
  have := hi.rows id r hr
  unfold RowOk at this
  rw [hx] at this
  obtain ⟨C, elem, fz, h1, _⟩ := this
  exact (Array.getElem?_eq_some_iff.1 h1).1

def Mu.add (μ : Mu) (id : Nat) (x : Nat × Nat) : Mu := fun j => if j = id then some x else μ j

theorem Mu.le_add {μ : Mu} {id : Nat} {x : Nat × Nat} (h : μ id = none) : μ.le (μ.add id x) := by
  intro j y hj
  unfold Mu.add
  by_cases e : j = id
  · subst e; rw [h] at hj; cases hj
  · simp [e, hj]

/-- The same rows in a world that keeps their blocks. -/
theorem Inv.world {Γ : Ctx} {μ : Mu} {h : Heap} {w w' : World} (hi : Inv Γ μ h w) (hos : w'.os = w.os) (htape : w'.tape = w.tape) (hout : w'.output = w.output)
    (hb : ∀ b, b < w.heap.size → w'.heap[b]? = w.heap[b]?) : Inv Γ μ h w' where
  rows id r hr := (hi.rows id r hr).mono (Mu.le_refl _) rfl fun x hx => hb _ (hi.lt hr hx)
  sep := hi.sep
  own := hi.own
  dom := hi.dom
  ctx := ⟨hos.trans hi.ctx.os, htape.trans hi.ctx.tape, hout.trans hi.ctx.output, fun b o ho => by
    have h1 := hi.ctx.block b o ho
    rw [hb b (Array.getElem?_eq_some_iff.1 h1).1]; exact h1⟩

/-- A row that is new, in a new block. -/
theorem Inv.fresh {Γ : Ctx} {μ : Mu} {h : Heap} {w w' : World} (hi : Inv Γ μ h w) {id : Nat} {r : Row} {h' : Heap} {n : Nat}
    (hμ : μ id = none) (hos : w'.os = w.os) (htape : w'.tape = w.tape) (hout : w'.output = w.output)
    (hb : ∀ b, b < w.heap.size → w'.heap[b]? = w.heap[b]?)
    (hsame : ∀ j, j ≠ id → ∀ x, rd h' j = some x → rd h j = some x) (hnew : ∀ x, rd h' id = some x → x = r) (hlen : h.length ≤ h'.length) (hid : id < h'.length)
    (hrow : RowOk (μ.add id (w.heap.size, n)) w' id r) : Inv Γ (μ.add id (w.heap.size, n)) h' w' where
  rows j x hx := by
    by_cases e : j = id
    · subst e; rw [hnew x hx]; exact hrow
    · exact (hi.rows j x (hsame j e x hx)).mono (Mu.le_add hμ) (by simp [Mu.add, e]) fun y hy => hb _ (hi.lt (hsame j e x hx) hy)
  sep j j' x x' y y' hx hx' hrw hne hy hy' := by
    unfold Mu.add at hy hy'
    by_cases e : j = id
    · subst e
      have e' : j' ≠ j := fun h => hne h.symm
      simp at hy
      simp [e'] at hy'
      have := hi.lt (hsame j' e' x' hx') hy'
      subst hy; show w.heap.size ≠ y'.1; omega
    · simp [e] at hy
      by_cases e' : j' = id
      · subst e'
        simp at hy'
        have := hi.lt (hsame j e x hx) hy
        subst hy'; show y.1 ≠ w.heap.size; omega
      · simp [e'] at hy'
        exact hi.sep j j' x x' y y' (hsame j e x hx) (hsame j' e' x' hx') hrw hne hy hy'
  own j x y hx hrw hy := by
    unfold Mu.add at hy
    by_cases e : j = id
    · subst e
      simp at hy
      subst hy
      show Γ.F w.heap.size = none
      cases hF : Γ.F w.heap.size with
      | none => rfl
      | some o => have := (Array.getElem?_eq_some_iff.1 (hi.ctx.block _ _ hF)).1; omega
    · simp [e] at hy
      exact hi.own j x y (hsame j e x hx) hrw hy
  dom j hj := by
    have e : j ≠ id := by omega
    simp only [Mu.add, e, if_false]
    exact hi.dom j (by omega)
  ctx := ⟨hos.trans hi.ctx.os, htape.trans hi.ctx.tape, hout.trans hi.ctx.output, fun b o ho => by
    have h1 := hi.ctx.block b o ho
    rw [hb b (Array.getElem?_eq_some_iff.1 h1).1]; exact h1⟩

/-- A row's cells are written. -/
theorem Inv.write {Γ : Ctx} {μ : Mu} {h : Heap} {w w' : World} (hi : Inv Γ μ h w) {id : Nat} {r : Row} {b n : Nat} {cs : List Cell} (hr : rd h id = some r) (hrw : r.rw = true) (hμ : μ id = some (b, n))
    (hos : w'.os = w.os) (htape : w'.tape = w.tape) (hout : w'.output = w.output) (hb : ∀ b', b' ≠ b → w'.heap[b']? = w.heap[b']?)
    (hrow : RowOk μ w' id ⟨cs, true⟩) : Inv Γ μ (h.set id (some ⟨cs, true⟩)) w' where
  rows j x hx := by
    by_cases e : j = id
    · subst e; rw [rd_set_same (rd_lt hr)] at hx; cases hx; exact hrow
    · rw [rd_set_other (Ne.symm e)] at hx
      exact (hi.rows j x hx).mono (Mu.le_refl _) rfl fun y hy => hb _ (Ne.symm (hi.sep id j r x (b, n) y hr hx hrw (Ne.symm e) hμ hy))
  sep j j' x x' y y' hx hx' hxw hne hy hy' := by
    have get : ∀ i z, rd (h.set id (some ⟨cs, true⟩)) i = some z → z.rw = true → ∃ z', rd h i = some z' ∧ z'.rw = true := by
      intro i z hz hzw
      by_cases e : i = id
      · subst e; exact ⟨r, hr, hrw⟩
      · rw [rd_set_other (Ne.symm e)] at hz; exact ⟨z, hz, hzw⟩
    have get' : ∀ i z, rd (h.set id (some ⟨cs, true⟩)) i = some z → ∃ z', rd h i = some z' := by
      intro i z hz
      by_cases e : i = id
      · subst e; exact ⟨r, hr⟩
      · rw [rd_set_other (Ne.symm e)] at hz; exact ⟨z, hz⟩
    obtain ⟨z, hz, hzw⟩ := get j x hx hxw
    obtain ⟨z', hz'⟩ := get' j' x' hx'
    exact hi.sep j j' z z' y y' hz hz' hzw hne hy hy'
  own j x y hx hxw hy := by
    by_cases e : j = id
    · subst e; exact hi.own j r y hr hrw hy
    · rw [rd_set_other (Ne.symm e)] at hx; exact hi.own j x y hx hxw hy
  dom j hj := hi.dom j (by simpa using hj)
  ctx := ⟨hos.trans hi.ctx.os, htape.trans hi.ctx.tape, hout.trans hi.ctx.output, fun b' o ho => by
    have hne : b' ≠ b := by
      intro e; subst e
      have := hi.own id r (b', n) hr hrw hμ
      simp at this
      rw [ho] at this; cases this
    rw [hb b' hne]; exact hi.ctx.block b' o ho⟩

end Go.Esc
