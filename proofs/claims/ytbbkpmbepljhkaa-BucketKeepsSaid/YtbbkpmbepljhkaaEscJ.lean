/- Each abstract operation that is asked to stand for one of the model's does what that does. -/
import Derived.Test.YtbbkpmbepljhkaaEscI
set_option linter.all false
namespace Go.Esc
open Go

def isNilSlice : Value → Bool
  | .slice none 0 0 => true
  | _ => false

/-- The parts of a built value: each at its place. -/
def chkParts (place : Nat → Option (Nat × Nat)) : List (Nat × Operand) → List (Nat × Nat × Opd) → Bool
  | [], [] => true
  | q :: qs, p :: ps => decide (place q.1 = some (p.1, p.2.1)) && chkOpd' q.2 p.2.2 && chkParts place qs ps
  | _, _ => false

def places (P : Program) (fs : Array Field) : List (Option (Nat × Nat)) := fs.toList.map fun f => (sizeB P f.type).map fun n => (f.offset, n)

def allSome {α : Type} : List (Option α) → Option (List α)
  | [] => some []
  | some a :: r => (allSome r).map fun l => a :: l
  | none :: _ => none

def chkField (P : Program) (s : TypeId) (j : Nat) : Option Field := (structB P s).bind fun fs => fs[j]?

def chkSizes (P : Program) (e : TypeId) : Bool :=
  match P.info? e with
  | some i => decide (i.bytes ≤ 65536) && decide (i.bytes ≠ 0) && decide (i.size ≠ 0) && (match i.zero with | some z => decide (z.cells.size = i.size) | none => false)
  | none => false

def chkY (P : Program) (t : TypeId) : Bool :=
  match P.underlying t with
  | some .string => true
  | some (.slice _) => true
  | _ => false

def chkO (P : Program) (o : Op) : AOp → Bool
  | .mv y => (match o with | .move x => chkOpd' x y | .assign x => chkOpd' x y | _ => false)
  | .nilrow _ => (match o with | .move (.const v) => isNilSlice v | .assign (.const v) => isNilSlice v | _ => false)
  | .pick c a b => (match o with | .pick c' a' b' => chkOpd' c' c && chkOpd' a' a && chkOpd' b' b | _ => false)
  | .alloc z => (match o with | .alloc t => (match zeroB P t with | some v => chkZero v z | none => false) | _ => false)
  | .box y => (match o with | .box _ x => chkOpd' x y | _ => false)
  | .build z ps => (match o with
      | .build t qs => (match zeroB P t with | some v => chkZero v z | none => false) &&
          (match structB P t with
           | some fs => (match allSome (places P fs) with | some pl => chkParts (pl[·]?) qs.toList ps | none => false)
           | none => (match arrayB P t with | some (_, e) => (match sizeB P e with | some sz => chkParts (fun i => some (i * sz, sz)) qs.toList ps | none => false) | none => false))
      | _ => false)
  | .buildSl sz len z ps => (match o with
      | .buildSlice t len' qs => decide (len = len') && (match sliceB P t with
          | some e => decide (sizeB P e = some sz) && decide (len * sz ≤ 2 ^ 24) && (match zeroB P e with
              | some v => chkZero (.agg ((Array.range (len * sz)).map (v.cells[· % v.cells.size]!))) z
              | none => false) && chkParts (fun i => some (i * sz, sz)) qs.toList ps
          | none => false)
      | _ => false)
  | .load1 y => (match o with | .load t x => decide (aggB P t = some false) && chkOpd' x y | _ => false)
  | .loadN n y => (match o with | .load t x => decide (aggB P t = some true) && decide (sizeB P t = some n) && chkOpd' x y | _ => false)
  | .store1 y z => (match o with | .store t x v => decide (sizeB P t = some 1) && chkOpd' x y && chkOpd' v z | _ => false)
  | .storeN n y z => (match o with | .store t x v => decide (sizeB P t = some n) && chkOpd' x y && chkOpd' v z | _ => false)
  | .bin op y z => (match o with | .binOp op' _ x v _ => decide (op = op') && chkOpd' x y && chkOpd' v z | _ => false)
  | .eqA neg sh y z => (match o with | .binOp op' t x v _ => decide ((bif neg then BinOp.neq else .eql) = op') && decide (aggB P t = some true) && decide (leafB P 100 t = some sh) && !P.eqGuardType P.depth t && chkOpd' x y && chkOpd' v z | _ => false)
  | .eqB neg y z => (match o with | .binOp op' t x v _ => decide ((bif neg then BinOp.neq else .eql) = op') && (match P.underlying t with | some .bool => true | _ => false) && chkOpd' x y && chkOpd' v z | _ => false)
  | .eqN fn neg y => (match o with | .binOp op' t x (.const c) _ => decide ((bif neg then BinOp.neq else .eql) = op') && isNilC P fn t c && chkOpd' x y | _ => false)
  | .nilc y => (match o with | .nilCheck x => chkOpd' x y | _ => false)
  | .un op y => (match o with | .unOp op' _ x => decide (op = op') && chkOpd' x y | _ => false)
  | .conv k y => (match o with | .convert s d x => (intB P s).isSome && decide (intB P d = some k) && chkOpd' x y | _ => false)
  | .convS y => (match o with | .convert s d x => stringB P s && stringB P d && chkOpd' x y | _ => false)
  | .s2b y => (match o with | .convert s d x => stringB P s && (match sliceB P d with | some e => decide (intB P e = some .u8) | none => false) && chkOpd' x y | _ => false)
  | .b2s y => (match o with | .convert s d x => stringB P d && (match sliceB P s with | some e => decide (intB P e = some .u8) | none => false) && chkOpd' x y | _ => false)
  | .b2sN _ y => (match o with | .convert s d x => stringB P d && (match sliceB P s with | some e => decide (intB P e = some .u8) | none => false) && chkOpd' x y | _ => false)
  | .mark y => (match o with | .convert s d x => decide (s = d) && (match sliceB P s with | some e => decide (intB P e = some .u8) | none => false) && chkOpd' x y | _ => false)
  | .mkf f caps => (match o with | .makeFunc (.func g) first cs => decide (f = g) && first.isEmpty && chkOpds cs.toList caps | _ => false)
  | .mkSl sz z y y2 => (match o with
      | .makeSlice t x x2 => chkOpd' x y && chkOpd' x2 y2 && (match sliceB P t with
          | some e => chkSizes P e && decide (sizeB P e = some sz) && decide (z.length = sz) && (match zeroB P e with | some v => chkZero v z | none => false)
          | none => false)
      | _ => false)
  | .slS y lo hi => (match o with | .slice t x l h none => stringB P t && chkOpd' x y && chkOpt l lo && chkOpt h hi | _ => false)
  | .slL sz y lo hi => (match o with | .slice t x l h none => (match sliceB P t with | some e => decide (sizeB P e = some sz) | none => false) && chkOpd' x y && chkOpt l lo && chkOpt h hi | _ => false)
  | .slA n sz y lo hi => (match o with | .slice t x l h none => (match arrayB P t with | some (m, e) => decide (m = n) && decide (sizeB P e = some sz) | none => false) && chkOpd' x y && chkOpt l lo && chkOpt h hi | _ => false)
  | .fAddr y off => (match o with | .fieldAddr s x j => (match chkField P s j with | some f => decide (f.offset = off) && (match sizeB P f.type with | some n => decide (n ≠ 0) | none => false) | none => false) && chkOpd' x y | _ => false)
  | .iAddrA n sz y z => (match o with | .indexAddr t x i => (match arrayB P t with | some (m, e) => decide (m = n) && decide (sizeB P e = some sz) | none => false) && chkOpd' x y && chkOpd' i z | _ => false)
  | .iAddrL sz y z => (match o with | .indexAddr t x i => (match sliceB P t with | some e => decide (sizeB P e = some sz) | none => false) && chkOpd' x y && chkOpd' i z | _ => false)
  | .fld1 y off => (match o with | .field s x j => (match chkField P s j with | some f => decide (f.offset = off) && decide (aggB P f.type = some false) | none => false) && chkOpd' x y | _ => false)
  | .fldN y off n => (match o with | .field s x j => (match chkField P s j with | some f => decide (f.offset = off) && decide (aggB P f.type = some true) && decide (sizeB P f.type = some n) | none => false) && chkOpd' x y | _ => false)
  | .idxA1 n y z => (match o with | .index t x i => (match arrayB P t with | some (m, e) => decide (m = n) && decide (aggB P e = some false) && decide (sizeB P e = some 1) | none => false) && chkOpd' x y && chkOpd' i z | _ => false)
  | .idxAN n sz y z => (match o with | .index t x i => (match arrayB P t with | some (m, e) => decide (m = n) && decide (aggB P e = some true) && decide (sizeB P e = some sz) | none => false) && chkOpd' x y && chkOpd' i z | _ => false)
  | .idxS y z => (match o with | .index t x i => stringB P t && chkOpd' x y && chkOpd' i z | _ => false)
  | .ext y k => (match o with | .extract x k' => decide (k = k') && chkOpd' x y | _ => false)
  | .call _ _ => false
  | .callV _ _ => false
  | .len y => (match o with | .call c => (match c.callee, c.args.toList, c.argTypes.toList with | .builtin .len, [x], [t] => (sliceB P t).isSome && chkOpd' x y | _, _, _ => false) | _ => false)
  | .lenS y => (match o with | .call c => (match c.callee, c.args.toList, c.argTypes.toList with | .builtin .len, [x], [t] => stringB P t && chkOpd' x y | _, _, _ => false) | _ => false)
  | .app sz y z => (match o with
      | .call c => (match c.callee, c.args.toList, c.argTypes.toList with
          | .builtin .append, [x, v], [s, yt] => (match sliceB P s with | some e => chkSizes P e && decide (sizeB P e = some sz) | none => false) && chkY P yt && chkOpd' x y && chkOpd' v z
          | _, _, _ => false)
      | _ => false)
  | .appZ sz zero y z => (match o with
      | .call c => (match c.callee, c.args.toList, c.argTypes.toList with
          | .builtin .append, [x, v], [s, yt] => (match sliceB P s with | some e => chkSizes P e && decide (sizeB P e = some sz) && (match zeroB P e with | some v => chkZero v zero | none => false) | none => false) && (intB P yt).isSome && chkOpd' x y && chkOpd' v z
          | _, _, _ => false)
      | _ => false)
  | .max y z => (match o with | .call c => (match c.callee, c.args.toList with | .builtin .max, [x, v] => chkOpd' x y && chkOpd' v z | _, _ => false) | _ => false)
  | .min y z => (match o with | .call c => (match c.callee, c.args.toList with | .builtin .min, [x, v] => chkOpd' x y && chkOpd' v z | _, _ => false) | _ => false)
  | .copy sz y z => (match o with
      | .call c => (match c.callee, c.args.toList, c.argTypes.toList with
          | .builtin .copy, [x, v], [s, yt] => (match sliceB P s with | some e => decide (sizeB P e = some sz) && decide (sz ≠ 0) | none => false) && chkOpd' x y && chkOpd' v z
          | _, _, _ => false)
      | _ => false)

/-- What an operation that is no call of a function comes to. -/
def Res (P : Program) (o : Oper) (a : Act) (w : World) (V : Value) (w' : World) : Prop :=
  (execOp a.eval o).run P w = .ok (.value V) w' ∨ ((execOp a.eval o).run P w = .ok .skip w' ∧ V = undef)

section
variable {P : Program} {μ : Mu} {w : World}

theorem chkOpt_ok {e : Env} {a : Act} {x : Option Operand} {y : Option Opd} (h : chkOpt x y = true) (hs : SEnv μ e a) : ROpt μ (y.map e.ev) (x.map a.eval) := by
  cases x <;> cases y <;> simp [chkOpt] at h
  · trivial
  · exact chkOpd_ok h hs

theorem chkParts_ok {e : Env} {a : Act} (hs : SEnv μ e a) {place : Nat → Option (Nat × Nat)} : ∀ {qs : List (Nat × Operand)} {ps : List (Nat × Nat × Opd)}, chkParts place qs ps = true →
    PartsR μ place (ps.map fun p => (p.1, p.2.1, e.ev p.2.2)) (qs.map fun (i, x) => (i, a.eval x))
  | [], [], _ => trivial
  | q :: qs, p :: ps, h => by
    simp [chkParts] at h
    exact ⟨⟨h.1.1, chkOpd_ok h.1.2 hs⟩, chkParts_ok hs h.2⟩
  | [], _ :: _, h => by simp [chkParts] at h
  | _ :: _, [], h => by simp [chkParts] at h

theorem allSome_ok {α : Type} : ∀ {l : List (Option α)} {m : List α}, allSome l = some m → l = m.map some
  | [], m, h => by simp [allSome] at h; subst h; rfl
  | some a :: r, m, h => by
    simp only [allSome, Option.map_eq_some_iff] at h
    obtain ⟨l, hl, rfl⟩ := h
    simp [allSome_ok hl]
  | none :: _, m, h => by simp [allSome] at h

theorem chkSizes_ok {e : TypeId} (h : chkSizes P e = true) : ∃ i z, P.info? e = some i ∧ i.bytes ≤ 65536 ∧ i.bytes ≠ 0 ∧ i.size ≠ 0 ∧ i.zero = some z ∧ z.cells.size = i.size := by
  unfold chkSizes at h
  split at h
  · rename_i i hi
    simp only [Bool.and_eq_true, decide_eq_true_eq] at h
    obtain ⟨⟨⟨h1, h2⟩, h3⟩, h4⟩ := h
    split at h4
    · rename_i z hz
      exact ⟨i, z, hi, h1, h2, h3, hz, by simpa using h4⟩
    · cases h4
  · cases h

theorem chkY_ok {t : TypeId} (h : chkY P t = true) : P.underlying t = some .string ∨ ∃ e', P.underlying t = some (.slice e') := by
  unfold chkY at h
  split at h
  · exact .inl ‹_›
  · exact .inr ⟨_, ‹_›⟩
  · cases h

theorem capsOf_ok : ∀ {l : List Val} {cs : List (Nat × Nat)} {Vs : List Value}, capsOf l = some cs → All2 (RV μ) l Vs → All2 (RPtr μ) cs Vs
  | [], cs, [], h, _ => by simp [capsOf] at h; subst h; trivial
  | v :: r, cs, V :: Vs, h, ⟨h1, h2⟩ => by
    unfold capsOf at h
    split at h
    · rename_i heq; cases heq
    · rename_i id off r' heq
      cases heq
      simp only [Option.map_eq_some_iff] at h
      obtain ⟨l, hl, rfl⟩ := h
      exact ⟨h1, capsOf_ok hl h2⟩
    · cases h
  | [], _, _ :: _, _, h => h.elim
  | _ :: _, _, [], _, h => h.elim

end
end Go.Esc
