/- Which abstract operation stands for which of the model's, asked by computation; and that each does what the model's does: values. -/
import Derived.Test.YtbbkpmbepljhkaaEscB
import Derived.Laws.Bits
import Derived.Laws.Strings
set_option linter.all false
namespace Go.Esc
open Go

/-! ### Types -/

def aggB (P : Program) (t : TypeId) : Option Bool :=
  match P.underlying t with
  | some (.struct _) => some true
  | some (.array _ _) => some true
  | some _ => some false
  | none => none

def sizeB (P : Program) (t : TypeId) : Option Nat := (P.info? t).map (·.size)
def bytesB (P : Program) (t : TypeId) : Option Nat := (P.info? t).map (·.bytes)
def zeroB (P : Program) (t : TypeId) : Option Value := (P.info? t).bind (·.zero)
def sliceB (P : Program) (t : TypeId) : Option TypeId := match P.underlying t with | some (.slice e) => some e | _ => none
def arrayB (P : Program) (t : TypeId) : Option (Nat × TypeId) := match P.underlying t with | some (.array n e) => some (n, e) | _ => none
def structB (P : Program) (t : TypeId) : Option (Array Field) := match P.underlying t with | some (.struct fs) => some fs | _ => none
def stringB (P : Program) (t : TypeId) : Bool := match P.underlying t with | some .string => true | _ => false
def intB (P : Program) (t : TypeId) : Option IntKind := match P.underlying t with | some (.int k) => some k | _ => none

section
variable {P : Program} {w : World} {t : TypeId}
theorem run_und {d : TypeDesc} (h : P.underlying t = some d) : (underlying t).run P w = .ok d w := by simp [underlying, h]
theorem run_size {n : Nat} (h : sizeB P t = some n) : (sizeOf t).run P w = .ok n w := by
  unfold sizeB at h
  cases hi : P.info? t with
  | none => simp [hi] at h
  | some i => simp [hi] at h; simp [sizeOf, typeInfo, hi, h]
theorem run_bytes {n : Nat} (h : bytesB P t = some n) : ∃ i : TypeInfo, (typeInfo t).run P w = .ok i w ∧ i.bytes = n := by
  unfold bytesB at h
  cases hi : P.info? t with
  | none => simp [hi] at h
  | some i => simp [hi] at h; exact ⟨i, by simp [typeInfo, hi], h⟩
theorem run_zero {v : Value} (h : zeroB P t = some v) : (zeroValue t).run P w = .ok v w := by
  unfold zeroB at h
  cases hi : P.info? t with
  | none => simp [hi] at h
  | some i => simp [hi] at h; simp [zeroValue, typeInfo, hi, h]
theorem run_agg {b : Bool} (h : aggB P t = some b) : (isAgg t).run P w = .ok b w := by
  unfold aggB at h
  cases hu : P.underlying t with
  | none => simp [hu] at h
  | some d => cases d <;> simp [hu] at h <;> subst h <;> simp [isAgg, run_und hu]
theorem sliceB_und {e : TypeId} (h : sliceB P t = some e) : P.underlying t = some (.slice e) := by
  unfold sliceB at h; cases hu : P.underlying t with
  | none => simp [hu] at h
  | some d => cases d <;> simp_all
theorem arrayB_und {n : Nat} {e : TypeId} (h : arrayB P t = some (n, e)) : P.underlying t = some (.array n e) := by
  unfold arrayB at h; cases hu : P.underlying t with
  | none => simp [hu] at h
  | some d => cases d <;> simp_all
theorem structB_und {fs : Array Field} (h : structB P t = some fs) : P.underlying t = some (.struct fs) := by
  unfold structB at h; cases hu : P.underlying t with
  | none => simp [hu] at h
  | some d => cases d <;> simp_all
theorem stringB_und (h : stringB P t = true) : P.underlying t = some .string := by
  unfold stringB at h; cases hu : P.underlying t with
  | none => simp [hu] at h
  | some d => cases d <;> simp_all
theorem intB_und {k : IntKind} (h : intB P t = some k) : P.underlying t = some (.int k) := by
  unfold intB at h; cases hu : P.underlying t with
  | none => simp [hu] at h
  | some d => cases d <;> simp_all
end

/-! ### Constants and operands -/

def chkCell : Value → Cell → Bool
  | .bool b, .b x => b == x
  | .int k n, .i k' n' => decide (k = k') && decide (n = n')
  | .string s, .s l => decide (s.data.toList = l)
  | .slice none 0 0, .ns => true
  | .nilFunc, .nf => true
  | .pointer none, .np => true
  | .map none, .nm => true
  | .func (.func f) _ cs, .f g l => decide (f = g) && l.isEmpty && cs.isEmpty
  | _, _ => false

def chkCells : List Value → List Cell → Bool
  | [], [] => true
  | v :: r, c :: l => chkCell v c && chkCells r l
  | _, _ => false

def chkConst : Value → Val → Bool
  | .agg vs, .a l => chkCells vs.toList l
  | .tuple vs, .un => vs.isEmpty
  | v, .c x => chkCell v x
  | _, _ => false

def firstEmpty : Value → Bool
  | .func _ f _ => f.isEmpty
  | _ => true

def chkOpd : Operand → Opd → Bool
  | .tmp t, .t n => decide (t = n)
  | .const v, .v x => chkConst v x && firstEmpty v
  | .func f, .v (.c (.f g [])) => decide (f = g)
  | _, _ => false

theorem chkCell_ok {μ : Mu} {v : Value} {c : Cell} (h : chkCell v c = true) (hf : firstEmpty v = true) : RC μ c v := by
  unfold chkCell at h
  split at h <;> simp_all [RC, firstEmpty]
  all_goals first
    | (obtain ⟨s⟩ := ‹ByteArray›; rename_i heq; simp [← heq]; done)
    | skip
  · subst h; rfl

theorem firstEmpty_of_notfunc {v : Value} (h : ∀ f a c, v ≠ .func f a c) : firstEmpty v = true := by
  cases v <;> simp_all [firstEmpty]

def noFunc : Value → Bool
  | .func .. => false
  | _ => true
theorem firstEmpty_of {v : Value} (h : noFunc v = true) : firstEmpty v = true := by cases v <;> simp_all [noFunc, firstEmpty]

theorem chkCells_ok {μ : Mu} : ∀ {vs : List Value} {l : List Cell}, chkCells vs l = true → vs.all noFunc = true → All2 (RC μ) l vs
  | [], [], _, _ => trivial
  | v :: r, c :: l, h, hn => by
    simp [chkCells] at h; simp at hn
    exact ⟨chkCell_ok h.1 (firstEmpty_of hn.1), chkCells_ok h.2 (by simpa using hn.2)⟩
  | [], _ :: _, h, _ => by simp [chkCells] at h
  | _ :: _, [], h, _ => by simp [chkCells] at h

/-- Cells that a type's zero value, or a constant, has. -/
def chkZero (v : Value) (l : List Cell) : Bool := chkCells v.cells.toList l && v.cells.toList.all noFunc

theorem chkZero_ok {μ : Mu} {v : Value} {l : List Cell} (h : chkZero v l = true) : All2 (RC μ) l v.cells.toList := by
  simp only [chkZero, Bool.and_eq_true] at h
  exact chkCells_ok h.1 h.2

def aggNoFunc : Value → Bool
  | .agg vs => vs.toList.all noFunc
  | _ => true

theorem chkConst_ok {μ : Mu} {v : Value} {x : Val} (h : chkConst v x = true) (hf : firstEmpty v = true) (ha : aggNoFunc v = true) : RV μ x v := by
  unfold chkConst at h
  split at h
  · rename_i vs l
    exact ⟨vs.toList, by simp, chkCells_ok h ha⟩
  · trivial
  · exact chkCell_ok h hf
  · cases h

def chkOpd' (x : Operand) (y : Opd) : Bool := chkOpd x y && (match x with | .const v => aggNoFunc v | _ => true)

theorem chkOpd_ok {μ : Mu} {e : Env} {a : Act} {x : Operand} {y : Opd} (h : chkOpd' x y = true) (hs : SEnv μ e a) : RV μ (e.ev y) (a.eval x) := by
  simp only [chkOpd', Bool.and_eq_true] at h
  obtain ⟨h, ha⟩ := h
  unfold chkOpd at h
  split at h
  · simp at h; subst h; exact hs _
  · simp at h; exact chkConst_ok h.1 h.2 ha
  · simp at h; subst h; exact ⟨[], rfl, trivial⟩
  · cases h

def chkOpds : List Operand → List Opd → Bool
  | [], [] => true
  | x :: r, y :: l => chkOpd' x y && chkOpds r l
  | _, _ => false

theorem chkOpds_ok {μ : Mu} {e : Env} {a : Act} (hs : SEnv μ e a) : ∀ {xs : List Operand} {ys : List Opd}, chkOpds xs ys = true → All2 (RV μ) (ys.map e.ev) (xs.map a.eval)
  | [], [], _ => trivial
  | x :: r, y :: l, h => by simp [chkOpds] at h; exact ⟨chkOpd_ok h.1 hs, chkOpds_ok hs h.2⟩
  | [], _ :: _, h => by simp [chkOpds] at h
  | _ :: _, [], h => by simp [chkOpds] at h

def chkOpt : Option Operand → Option Opd → Bool
  | none, none => true
  | some x, some y => chkOpd' x y
  | _, _ => false

end Go.Esc
