/- Equality of structs and arrays of plain leaves. -/
import Derived.Test.YtbbkpmbepljhkaaEscH
set_option linter.all false
namespace Go.Esc
open Go

/-- The fields' leaves, one behind another. -/
def leafFs (leaf : TypeId → Option (List Sh)) (P : Program) : Nat → List Field → Option (List Sh)
  | _, [] => some []
  | off, f :: fs => (leaf f.type).bind fun l =>
      if f.name ≠ "_" ∧ f.offset = off ∧ sizeB P f.type = some l.length then (leafFs leaf P (off + l.length) fs).map fun r => l ++ r else none

/-- The leaves of a type. -/
def leafB (P : Program) : Nat → TypeId → Option (List Sh)
  | 0, _ => none
  | d + 1, t =>
    match P.underlying t with
    | some .bool => some [.b]
    | some (.int k) => some [.i k]
    | some .string => some [.s]
    | some (.struct fs) => if P.stoodInHeld t = false then leafFs (leafB P d) P 0 fs.toList else none
    | some (.array n e) => (leafB P d e).bind fun l => if sizeB P e = some l.length then some (List.replicate n l).flatten else none
    | _ => none

section
variable {P : Program} {μ : Mu} {w : World}

/-- A value of a type out of its cells. -/
def mkv (P : Program) (t : TypeId) (vs : List Value) : Value :=
  if aggB P t = some true then .agg vs.toArray else vs.headD undef

theorem shape_i {c : Cell} {k : IntKind} (h : c.sh = some (.i k)) : ∃ n, c = .i k n := by
  cases c <;> simp [Cell.sh] at h
  subst h; exact ⟨_, rfl⟩
theorem shape_b {c : Cell} (h : c.sh = some .b) : ∃ x, c = .b x := by
  cases c <;> simp [Cell.sh] at h
  exact ⟨_, rfl⟩
theorem shape_s {c : Cell} (h : c.sh = some .s) : ∃ x, c = .s x := by
  cases c <;> simp [Cell.sh] at h
  exact ⟨_, rfl⟩

theorem one_of {q : Sh} {xs : List Cell} {Xs : List Value} (h : xs.map Cell.sh = [q].map some) (hX : All2 (RC μ) xs Xs) : ∃ x X, xs = [x] ∧ Xs = [X] ∧ x.sh = some q ∧ RC μ x X := by
  cases xs with
  | nil => simp at h
  | cons x r =>
    cases r with
    | cons y r => simp at h
    | nil =>
      cases Xs with
      | nil => exact hX.elim
      | cons X R =>
        cases R with
        | nil => exact ⟨x, X, rfl, rfl, by simpa using h, hX.1⟩
        | cons Y R => exact hX.2.elim

theorem beq_dec {α : Type} [DecidableEq α] (a b : α) : (a == b) = decide (a = b) := by rw [Bool.eq_iff_iff]; simp

theorem decide_split {a b c d : List Cell} (h : a.length = c.length) : decide (a ++ b = c ++ d) = (decide (a = c) && decide (b = d)) := by
  rw [Bool.eq_iff_iff]
  simp only [Bool.and_eq_true, decide_eq_true_eq]
  exact ⟨fun k => List.append_inj k h, fun ⟨h, k⟩ => by rw [h, k]⟩

/-- The leaf functions speak the truth on one type. -/
def EqOk (P : Program) (D : Nat) (t : TypeId) (l : List Sh) : Prop :=
  ∀ (μ : Mu) (w : World) (xs ys : List Cell) (Xs Ys : List Value), xs.map Cell.sh = l.map some → ys.map Cell.sh = l.map some → All2 (RC μ) xs Xs → All2 (RC μ) ys Ys →
    (Op.equalIn D t (mkv P t Xs) (mkv P t Ys)).run P w = .ok (decide (xs = ys)) w

theorem part_mkv {t : TypeId} {l : List Sh} {xs : List Cell} {Xs : List Value} {off : Nat} (hsz : sizeB P t = some l.length) (hagg : aggB P t = some true ∨ (aggB P t = some false ∧ l.length = 1))
    (hX : All2 (RC μ) xs Xs) (hl : off + l.length ≤ xs.length) : (part t Xs.toArray off).run P w = .ok (mkv P t ((Xs.drop off).take l.length)) w := by
  have hlen := hX.length
  rcases hagg with h | ⟨h, h1⟩
  · simp [part, run_agg h, run_size hsz, mkv, h, List.take_drop]
  · have hlt : off < Xs.length := by omega
    have : ((Xs.drop off).take l.length).headD undef = Xs[off] := by
      rw [h1, List.drop_eq_getElem_cons hlt]
      rfl
    unfold mkv
    rw [if_neg (by rw [h]; simp), this]
    simp [part, run_agg h, hlt]

theorem agg_of {t : TypeId} {d : Nat} {l : List Sh} (h : leafB P d t = some l) : aggB P t = some true ∨ (aggB P t = some false ∧ l.length = 1) := by
  cases d with
  | zero => simp [leafB] at h
  | succ d =>
    unfold leafB at h
    unfold aggB
    split at h
    · rename_i hu; cases h; right; simp [hu]
    · rename_i hu; cases h; right; simp [hu]
    · rename_i hu; cases h; right; simp [hu]
    · rename_i hu; left; simp [hu]
    · rename_i hu; left; simp [hu]
    · cases h

theorem fields_ok {leaf : TypeId → Option (List Sh)} {D : Nat} (hok : ∀ t l, leaf t = some l → EqOk P D t l) (hagg : ∀ t l, leaf t = some l → aggB P t = some true ∨ (aggB P t = some false ∧ l.length = 1)) :
    ∀ (fs : List Field) (off : Nat) (l : List Sh) (μ : Mu) (w : World) (xs ys : List Cell) (Xs Ys : List Value), leafFs leaf P off fs = some l → xs.length = off + l.length → ys.length = off + l.length →
      (xs.drop off).map Cell.sh = l.map some → (ys.drop off).map Cell.sh = l.map some → All2 (RC μ) xs Xs → All2 (RC μ) ys Ys →
      (Op.eqFields D Xs.toArray Ys.toArray fs).run P w = .ok (decide (xs.drop off = ys.drop off)) w
  | [], off, l, μ, w, xs, ys, Xs, Ys, hl, h1, h2, hs1, hs2, hX, hY => by
    simp [leafFs] at hl
    subst hl
    simp at h1 h2
    rw [List.drop_of_length_le (by omega), List.drop_of_length_le (by omega)]
    simp [Op.eqFields]
  | f :: fs, off, l, μ, w, xs, ys, Xs, Ys, hl, h1, h2, hs1, hs2, hX, hY => by
    simp only [leafFs, Option.bind_eq_some_iff] at hl
    obtain ⟨lf, hlf, hl⟩ := hl
    split at hl
    · rename_i hc
      obtain ⟨hname, hoff, hsz⟩ := hc
      simp only [Option.map_eq_some_iff] at hl
      obtain ⟨r, hr, rfl⟩ := hl
      simp only [List.length_append] at h1 h2
      have e : ∀ zs : List Cell, (zs.drop off).map Cell.sh = (lf ++ r).map some → zs.length = off + (lf.length + r.length) → ((zs.drop off).take lf.length).map Cell.sh = lf.map some ∧ (zs.drop (off + lf.length)).map Cell.sh = r.map some := by
        intro zs hz hzl
        constructor
        · rw [List.map_take, hz, List.map_append, List.take_left' (by simp)]
        · rw [← List.drop_drop, List.map_drop, hz, List.map_append, List.drop_left' (by simp)]
      obtain ⟨a1, a2⟩ := e xs hs1 h1
      obtain ⟨b1, b2⟩ := e ys hs2 h2
      have hp1 := part_mkv (P := P) (w := w) (off := off) hsz (hagg _ _ hlf) hX (by omega)
      have hp2 := part_mkv (P := P) (w := w) (off := off) hsz (hagg _ _ hlf) hY (by omega)
      have heq := hok _ _ hlf μ w _ _ _ _ a1 b1 ((hX.drop off).take lf.length) ((hY.drop off).take lf.length)
      have ih := fields_ok hok hagg fs (off + lf.length) r μ w xs ys Xs Ys hr (by omega) (by omega) a2 b2 hX hY
      have split : ∀ zs : List Cell, zs.drop off = (zs.drop off).take lf.length ++ zs.drop (off + lf.length) := by
        intro zs; rw [← List.drop_drop]; exact (List.take_append_drop _ _).symm
      have hd : decide (xs.drop off = ys.drop off) = (decide ((xs.drop off).take lf.length = (ys.drop off).take lf.length) && decide (xs.drop (off + lf.length) = ys.drop (off + lf.length))) := by
        have hlen : ((xs.drop off).take lf.length).length = ((ys.drop off).take lf.length).length := by simp; omega
        conv => lhs; rw [split xs, split ys]
        exact decide_split hlen
      subst hoff
      simp only [Op.eqFields, hname, ne_eq, not_false_eq_true, if_true, Sem.run_bind, hp1, Result.andThen_ok, hp2, heq]
      rw [hd]
      cases decide ((xs.drop f.offset).take lf.length = (ys.drop f.offset).take lf.length) with
      | true => simpa using ih
      | false => simp
    · cases hl

/-- The elements of two arrays, from one on. -/
def eqElems (D : Nat) (e : TypeId) (n : Nat) (xs ys : Array Value) : List Nat → Sem Bool
  | [] => pure true
  | i :: r => do
    let a ← part e xs (i * n)
    let b ← part e ys (i * n)
    let q ← Op.equalIn D e a b
    if (!q) = true then pure false else eqElems D e n xs ys r

theorem run_equalIn_array {D : Nat} {t e : TypeId} {n sz : Nat} {xs ys : Array Value} (ha : arrayB P t = some (n, e)) (hsz : sizeB P e = some sz) :
    (Op.equalIn (D + 1) t (.agg xs) (.agg ys)).run P w = (eqElems D e sz xs ys (List.range n)).run P w := by
  simp only [Op.equalIn, Sem.run_bind, run_und (arrayB_und ha), Result.andThen_ok, run_size hsz]
  rw [Std.Legacy.Range.forIn_eq_forIn_range']
  have hr : List.range' (Std.Legacy.Range.start [0:n]) (Std.Legacy.Range.size [0:n]) (Std.Legacy.Range.step [0:n]) = List.range n := by
    simp [List.range_eq_range', Std.Legacy.Range.size]
  rw [hr]
  generalize List.range n = is
  induction is generalizing w with
  | nil => simp [eqElems]
  | cons i is ih =>
    simp only [List.forIn_cons, eqElems, Sem.run_bind]
    generalize (part e xs (i * sz)).run P w = r1
    cases r1 with
    | ok a w1 =>
      simp only [Result.andThen_ok]
      generalize (part e ys (i * sz)).run P w1 = r2
      cases r2 with
      | ok b w2 =>
        simp only [Result.andThen_ok]
        generalize (Op.equalIn D e a b).run P w2 = r3
        cases r3 with
        | ok r w3 =>
          cases r
          · simp
          · simpa using ih
        | halt x w3 => simp [Result.andThen]
      | halt x w2 => simp [Result.andThen]
    | halt x w1 => simp [Result.andThen]

theorem elems_ok {D : Nat} {e : TypeId} {l : List Sh} (hok : EqOk P D e l) (hagg : aggB P e = some true ∨ (aggB P e = some false ∧ l.length = 1)) (hsz : sizeB P e = some l.length) :
    ∀ (k i : Nat) (μ : Mu) (w : World) (xs ys : List Cell) (Xs Ys : List Value), xs.length = i * l.length + k * l.length → ys.length = i * l.length + k * l.length →
      (xs.drop (i * l.length)).map Cell.sh = (List.replicate k l).flatten.map some → (ys.drop (i * l.length)).map Cell.sh = (List.replicate k l).flatten.map some → All2 (RC μ) xs Xs → All2 (RC μ) ys Ys →
      (eqElems D e l.length Xs.toArray Ys.toArray (List.range' i k)).run P w = .ok (decide (xs.drop (i * l.length) = ys.drop (i * l.length))) w
  | 0, i, μ, w, xs, ys, Xs, Ys, h1, h2, hs1, hs2, hX, hY => by
    rw [List.drop_of_length_le (by omega), List.drop_of_length_le (by omega)]
    simp [eqElems]
  | k + 1, i, μ, w, xs, ys, Xs, Ys, h1, h2, hs1, hs2, hX, hY => by
    have hk : (k + 1) * l.length = l.length + k * l.length := by rw [Nat.add_mul]; omega
    have hi : (i + 1) * l.length = i * l.length + l.length := by rw [Nat.add_mul]; omega
    rw [hk] at h1 h2
    have e : ∀ zs : List Cell, (zs.drop (i * l.length)).map Cell.sh = (List.replicate (k + 1) l).flatten.map some → zs.length = i * l.length + (l.length + k * l.length) →
        ((zs.drop (i * l.length)).take l.length).map Cell.sh = l.map some ∧ (zs.drop ((i + 1) * l.length)).map Cell.sh = (List.replicate k l).flatten.map some := by
      intro zs hz hzl
      rw [List.replicate_succ, List.flatten_cons] at hz
      constructor
      · rw [List.map_take, hz, List.map_append, List.take_left' (by simp)]
      · rw [hi, ← List.drop_drop, List.map_drop, hz, List.map_append, List.drop_left' (by simp)]
    obtain ⟨a1, a2⟩ := e xs hs1 h1
    obtain ⟨b1, b2⟩ := e ys hs2 h2
    have hp1 := part_mkv (P := P) (w := w) (off := i * l.length) hsz hagg hX (by omega)
    have hp2 := part_mkv (P := P) (w := w) (off := i * l.length) hsz hagg hY (by omega)
    have heq := hok μ w _ _ _ _ a1 b1 ((hX.drop (i * l.length)).take l.length) ((hY.drop (i * l.length)).take l.length)
    have ih := elems_ok hok hagg hsz k (i + 1) μ w xs ys Xs Ys (by omega) (by omega) a2 b2 hX hY
    have split : ∀ zs : List Cell, zs.drop (i * l.length) = (zs.drop (i * l.length)).take l.length ++ zs.drop ((i + 1) * l.length) := by
      intro zs; rw [hi, ← List.drop_drop]; exact (List.take_append_drop _ _).symm
    have hd : decide (xs.drop (i * l.length) = ys.drop (i * l.length)) = (decide ((xs.drop (i * l.length)).take l.length = (ys.drop (i * l.length)).take l.length) && decide (xs.drop ((i + 1) * l.length) = ys.drop ((i + 1) * l.length))) := by
      have hlen : ((xs.drop (i * l.length)).take l.length).length = ((ys.drop (i * l.length)).take l.length).length := by simp; omega
      conv => lhs; rw [split xs, split ys]
      exact decide_split hlen
    rw [List.range'_succ]
    simp only [eqElems, Sem.run_bind, hp1, Result.andThen_ok, hp2, heq]
    rw [hd]
    cases decide ((xs.drop (i * l.length)).take l.length = (ys.drop (i * l.length)).take l.length) with
    | true => simpa using ih
    | false => simp

theorem leaf_ok : ∀ (d D : Nat) (t : TypeId) (l : List Sh), d ≤ D → leafB P d t = some l → EqOk P D t l
  | 0, _, _, _, _, h => by simp [leafB] at h
  | d + 1, 0, _, _, hD, _ => by omega
  | d + 1, D + 1, t, l, hD, h => by
    have ih := fun t' l' => leaf_ok d D t' l' (by omega)
    have hagg := agg_of h
    intro μ w xs ys Xs Ys hx hy hX hY
    unfold leafB at h
    split at h
    · rename_i hu
      cases h
      obtain ⟨x, X, rfl, rfl, h1, h2⟩ := one_of hx hX
      obtain ⟨y, Y, rfl, rfl, h3, h4⟩ := one_of hy hY
      obtain ⟨a, rfl⟩ := shape_b h1
      obtain ⟨b, rfl⟩ := shape_b h3
      cases h2; cases h4
      have hm : ∀ v : Value, mkv P t [v] = v := fun v => by simp [mkv, aggB, hu]
      rw [hm, hm, run_equalIn_bool' w D t a b hu, beq_dec]
      simp
    · rename_i k hu
      cases h
      obtain ⟨x, X, rfl, rfl, h1, h2⟩ := one_of hx hX
      obtain ⟨y, Y, rfl, rfl, h3, h4⟩ := one_of hy hY
      obtain ⟨a, rfl⟩ := shape_i h1
      obtain ⟨b, rfl⟩ := shape_i h3
      cases h2; cases h4
      have hm : ∀ v : Value, mkv P t [v] = v := fun v => by simp [mkv, aggB, hu]
      rw [hm, hm, run_equalIn_int w D t k k a b hu, beq_dec]
      simp
    · rename_i hu
      cases h
      obtain ⟨x, X, rfl, rfl, h1, h2⟩ := one_of hx hX
      obtain ⟨y, Y, rfl, rfl, h3, h4⟩ := one_of hy hY
      obtain ⟨a, rfl⟩ := shape_s h1
      obtain ⟨b, rfl⟩ := shape_s h3
      cases h2; cases h4
      have hm : ∀ v : Value, mkv P t [v] = v := fun v => by simp [mkv, aggB, hu]
      rw [hm, hm, run_equalIn_string w D t _ _ hu, ByteArray.toList_mk, ByteArray.toList_mk, show (a == b) = decide (a = b) by rw [Bool.eq_iff_iff]; simp]
      simp
    · rename_i fs hu
      split at h
      · rename_i hst
        have hm : ∀ vs : List Value, mkv P t vs = .agg vs.toArray := fun vs => by simp [mkv, aggB, hu]
        have hfo : P.fieldsOf t = fs := by simp [Program.fieldsOf, hu]
        rw [hm, hm, run_equalIn_struct w D t _ _ (by rw [hfo]; exact hu) hst, hfo]
        have hxl : xs.length = l.length := by have := congrArg List.length hx; simpa using this
        have hyl : ys.length = l.length := by have := congrArg List.length hy; simpa using this
        have := fields_ok (P := P) (leaf := leafB P d) (D := D) (fun t' l' h' => ih t' l' h') (fun t' l' h' => agg_of h') fs.toList 0 l μ w xs ys Xs Ys h (by omega) (by omega) (by simpa using hx) (by simpa using hy) hX hY
        simpa using this
      · cases h
    · rename_i n e hu
      simp only [Option.bind_eq_some_iff] at h
      obtain ⟨le, hle, h⟩ := h
      split at h
      · cases h
        rename_i hsz
        have hm : ∀ vs : List Value, mkv P t vs = .agg vs.toArray := fun vs => by simp [mkv, aggB, hu]
        have harr : arrayB P t = some (n, e) := by simp [arrayB, hu]
        rw [hm, hm, run_equalIn_array harr hsz]
        have hxl : xs.length = n * le.length := by have := congrArg List.length hx; simpa using this
        have hyl : ys.length = n * le.length := by have := congrArg List.length hy; simpa using this
        have := elems_ok (ih e le hle) (agg_of hle) hsz n 0 μ w xs ys Xs Ys (by omega) (by omega) (by simpa using hx) (by simpa using hy) hX hY
        rw [← List.range_eq_range'] at this
        simpa using this
      · cases h
    · cases h

theorem run_eqA {neg : Bool} {t : TypeId} {l : List Sh} {x y v : Val} {X Y : Value} (hagg : aggB P t = some true) (hl : leafB P 100 t = some l) (hx : RV μ x X) (hy : RV μ y Y) (h : aeq neg l x y = some v) :
    ∃ V, (binOp (bif neg then .neq else .eql) t X Y).run P w = .ok V w ∧ RV μ v V := by
  unfold aeq at h
  split at h
  · obtain ⟨Xs, rfl, hX⟩ := hx
    obtain ⟨Ys, rfl, hY⟩ := hy
    split at h
    · rename_i hc
      cases h
      have := leaf_ok (P := P) 100 10000 t l (by omega) hl μ w _ _ Xs Ys hc.1 hc.2 hX hY
      have hm : ∀ vs : List Value, mkv P t vs = .agg vs.toArray := fun vs => by simp [mkv, hagg]
      rw [hm, hm] at this
      cases neg
      · exact ⟨_, by rw [cond_false, run_eql_struct, this]; rfl, rfl⟩
      · exact ⟨_, by rw [cond_true, run_neq_struct, this]; rfl, rfl⟩
    · cases h
  · cases h

end
end Go.Esc
