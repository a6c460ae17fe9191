/- What each abstract operation does is what the model's does: parts, places, slices, conversions. -/
import Derived.Test.YtbbkpmbepljhkaaEscD
set_option linter.all false
namespace Go.Esc
open Go
section
variable {P : Program} {μ : Mu} {w : World}

theorem run_ext {x v : Val} {X : Value} {k : Nat} (hx : RV μ x X) (h : aext x k = some v) : ∃ V, (Instr.extract X k).run P w = .ok V w ∧ RV μ v V := by
  unfold aext at h
  split at h
  · rename_i l
    obtain ⟨vs, rfl, hvs⟩ := hx
    simp only [Option.map_eq_some_iff] at h
    obtain ⟨p, hp, rfl⟩ := h
    obtain ⟨V, hV, hR⟩ := hvs.get k p hp
    exact ⟨V, by simp [Instr.extract, hV], RV.ofPart hR⟩
  · cases h

theorem run_part1 {t : TypeId} {l : List Cell} {vs : List Value} {off : Nat} {c : Cell} (hagg : aggB P t = some false) (hvs : All2 (RC μ) l vs) (h : l[off]? = some c) :
    ∃ V, (part t vs.toArray off).run P w = .ok V w ∧ RC μ c V := by
  obtain ⟨V, hV, hR⟩ := hvs.get off c h
  exact ⟨V, by simp [part, run_agg hagg, hV], hR⟩

theorem run_partN {t : TypeId} {l : List Cell} {vs : List Value} {off n : Nat} (hagg : aggB P t = some true) (hsz : sizeB P t = some n) (hvs : All2 (RC μ) l vs) (h : off + n ≤ l.length) :
    ∃ V, (part t vs.toArray off).run P w = .ok V w ∧ RV μ (.a ((l.drop off).take n)) V := by
  refine ⟨.agg (vs.toArray.extract off (off + n)), by simp [part, run_agg hagg, run_size hsz], (vs.drop off).take n, ?_, (hvs.drop off).take n⟩
  congr 1
  apply Array.ext'
  simp [List.take_drop]

theorem run_fld1 {s : TypeId} {fs : Array Field} {f : Field} {j : Nat} {x v : Val} {X : Value} (hs : structB P s = some fs) (hf : fs[j]? = some f) (hagg : aggB P f.type = some false)
    (hx : RV μ x X) (h : afld1 x f.offset = some v) : ∃ V, (Instr.field s X j).run P w = .ok V w ∧ RV μ v V := by
  unfold afld1 at h
  split at h
  · rename_i l
    obtain ⟨vs, rfl, hvs⟩ := hx
    simp only [Option.map_eq_some_iff] at h
    obtain ⟨c, hc, rfl⟩ := h
    obtain ⟨V, hV, hR⟩ := run_part1 (P := P) (w := w) hagg hvs hc
    exact ⟨V, by simp [Instr.field, run_und (structB_und hs), hf, asAgg, hV], hR⟩
  · cases h

theorem run_fldN {s : TypeId} {fs : Array Field} {f : Field} {j n : Nat} {x v : Val} {X : Value} (hs : structB P s = some fs) (hf : fs[j]? = some f) (hagg : aggB P f.type = some true) (hsz : sizeB P f.type = some n)
    (hx : RV μ x X) (h : afldN x f.offset n = some v) : ∃ V, (Instr.field s X j).run P w = .ok V w ∧ RV μ v V := by
  unfold afldN at h
  split at h
  · rename_i l
    obtain ⟨vs, rfl, hvs⟩ := hx
    split at h
    · cases h
      rename_i hl
      obtain ⟨V, hV, hR⟩ := run_partN (P := P) (w := w) hagg hsz hvs hl
      exact ⟨V, by simp [Instr.field, run_und (structB_und hs), hf, asAgg, hV], hR⟩
    · cases h
  · cases h

theorem run_idxA1 {t e : TypeId} {n : Nat} {x i v : Val} {X I : Value} (ha : arrayB P t = some (n, e)) (hagg : aggB P e = some false) (hsz : sizeB P e = some 1)
    (hx : RV μ x X) (hi : RV μ i I) (h : aidxA1 n x i = some v) : ∃ V, (Instr.index t X I).run P w = .ok V w ∧ RV μ v V := by
  unfold aidxA1 at h
  split at h
  · rename_i l k j
    obtain ⟨vs, rfl, hvs⟩ := hx
    have hI : I = .int k j := hi
    subst hI
    split at h
    · rename_i hj
      simp only [Option.map_eq_some_iff] at h
      obtain ⟨c, hc, rfl⟩ := h
      obtain ⟨V, hV, hR⟩ := run_part1 (P := P) (w := w) hagg hvs hc
      exact ⟨V, by simp [Instr.index, run_und (arrayB_und ha), asIntOf, hj, run_size hsz, hV], hR⟩
    · cases h
  · cases h

theorem run_idxAN {t e : TypeId} {n sz : Nat} {x i v : Val} {X I : Value} (ha : arrayB P t = some (n, e)) (hagg : aggB P e = some true) (hsz : sizeB P e = some sz)
    (hx : RV μ x X) (hi : RV μ i I) (h : aidxAN n sz x i = some v) : ∃ V, (Instr.index t X I).run P w = .ok V w ∧ RV μ v V := by
  unfold aidxAN at h
  split at h
  · rename_i l k j
    obtain ⟨vs, rfl, hvs⟩ := hx
    have hI : I = .int k j := hi
    subst hI
    split at h
    · rename_i hj
      cases h
      obtain ⟨V, hV, hR⟩ := run_partN (P := P) (w := w) hagg hsz hvs hj.2.2
      exact ⟨V, by simp [Instr.index, run_und (arrayB_und ha), asIntOf, hj.1, hj.2.1, run_size hsz, hV], hR⟩
    · cases h
  · cases h

theorem run_idxS {t : TypeId} {x i v : Val} {X I : Value} (ht : stringB P t = true) (hx : RV μ x X) (hi : RV μ i I) (h : aidxS x i = some v) :
    ∃ V, (Instr.index t X I).run P w = .ok V w ∧ RV μ v V := by
  unfold aidxS at h
  split at h
  · rename_i s k j
    have hX : X = .string ⟨s.toArray⟩ := hx
    have hI : I = .int k j := hi
    subst hX hI
    split at h
    · rename_i hj
      simp only [Option.map_eq_some_iff] at h
      obtain ⟨b, hb, rfl⟩ := h
      refine ⟨.int .u8 b.toNat, ?_, rfl⟩
      have : (ByteArray.mk s.toArray)[j.toNat]? = some b := by
        have hlt := (List.getElem?_eq_some_iff.1 hb).1
        have hsz : j.toNat < (ByteArray.mk s.toArray).size := by show j.toNat < s.toArray.size; simpa using hlt
        rw [List.getElem?_eq_getElem hlt] at hb
        cases hb
        rw [getElem?_pos (ByteArray.mk s.toArray) j.toNat hsz]
        rfl
      simp [Instr.index, run_und (stringB_und ht), asIntOf, hj, this]
    · cases h
  · cases h

theorem run_fAddr {s : TypeId} {fs : Array Field} {f : Field} {j n off : Nat} {x v : Val} {X : Value} (hs : structB P s = some fs) (hf : fs[j]? = some f) (hsz : sizeB P f.type = some n) (hn : n ≠ 0) (ho : f.offset = off)
    (hx : RV μ x X) (h : afAddr x off = some v) : ∃ V, (Instr.fieldAt s X j).run P w = .ok V w ∧ RV μ v V := by
  unfold afAddr at h
  split at h
  · rename_i id o
    obtain ⟨b, m, hm, rfl⟩ := hx
    cases h
    refine ⟨.pointer (some ⟨b, o + off, none⟩), ?_, b, m, hm, rfl⟩
    simp [Instr.fieldAt, Instr.sureAddr, run_und (structB_und hs), hf, fieldPlace, run_size hsz, hn, add_none, ho]
  · cases h

theorem run_iAddrA {t e : TypeId} {n sz : Nat} {x i v : Val} {X I : Value} (ha : arrayB P t = some (n, e)) (hsz : sizeB P e = some sz) (hx : RV μ x X) (hi : RV μ i I) (h : aiAddrA n sz x i = some v) :
    ∃ V, (Instr.indexAt t X I).run P w = .ok V w ∧ RV μ v V := by
  unfold aiAddrA at h
  split at h
  · rename_i id o k j
    obtain ⟨b, m, hm, rfl⟩ := hx
    have hI : I = .int k j := hi
    subst hI
    split at h
    · rename_i hj
      cases h
      refine ⟨.pointer (some ⟨b, o + j.toNat * sz, none⟩), ?_, b, m, hm, rfl⟩
      simp [Instr.indexAt, Instr.sureAddr, asIntOf, run_und (arrayB_und ha), run_size hsz, hj, add_none]
    · cases h
  · cases h

theorem run_iAddrL {t e : TypeId} {sz : Nat} {x i v : Val} {X I : Value} (ha : sliceB P t = some e) (hsz : sizeB P e = some sz) (hx : RV μ x X) (hi : RV μ i I) (h : aiAddrL sz x i = some v) :
    ∃ V, (Instr.indexAt t X I).run P w = .ok V w ∧ RV μ v V := by
  unfold aiAddrL at h
  split at h
  · rename_i id o len sz' k j
    have hI : I = .int k j := hi
    subst hI
    split at h
    · rename_i hj
      cases h
      rcases hx with ⟨b, m, cap, hm, _, _, rfl⟩ | ⟨h0, _⟩
      · refine ⟨.pointer (some ⟨b, o + j.toNat * sz, none⟩), ?_, b, m, hm, rfl⟩
        simp [Instr.indexAt, asIntOf, run_und (sliceB_und ha), run_size hsz, hj, add_none]
      · omega
    · cases h
  · cases h

theorem run_lenS {t : TypeId} {x v : Val} {X : Value} {ty : TypeId} (ht : stringB P t = true) (hx : RV μ x X) (h : alenS x = some v) : ∃ V, (Builtin.len_ #[t] ty #[X]).run P w = .ok V w ∧ RV μ v V := by
  unfold alenS at h
  split at h <;> cases h
  rename_i s
  have hX : X = .string ⟨s.toArray⟩ := hx
  subst hX
  refine ⟨.int .i64 s.length, ?_, rfl⟩
  simp [Builtin.len_, run_und (stringB_und ht), goInt]
  show ((s.toArray.size : Nat) : Int) = _
  simp

theorem run_len {t e : TypeId} {x v : Val} {X : Value} {ty : TypeId} (he : sliceB P t = some e) (hx : RV μ x X) (h : alen x = some v) : ∃ V, (Builtin.len_ #[t] ty #[X]).run P w = .ok V w ∧ RV μ v V := by
  unfold alen at h
  split at h <;> cases h
  · rcases hx with ⟨b, m, cap, hm, _, _, rfl⟩ | ⟨h0, a, rfl⟩
    · exact ⟨_, by simp [Builtin.len_, run_und (sliceB_und he), goInt], rfl⟩
    · subst h0; exact ⟨_, by simp [Builtin.len_, run_und (sliceB_und he), goInt], rfl⟩
  · cases hx
    exact ⟨_, by simp [Builtin.len_, run_und (sliceB_und he), goInt], rfl⟩

theorem run_max {at_ : Array TypeId} {ty : TypeId} {x y v : Val} {X Y : Value} (hx : RV μ x X) (hy : RV μ y Y) (h : amax x y = some v) : ∃ V, (Builtin.max_ at_ ty #[X, Y]).run P w = .ok V w ∧ RV μ v V := by
  unfold amax at h
  split at h <;> cases h
  cases hx; cases hy
  exact ⟨_, rfl, rfl⟩

theorem run_min {at_ : Array TypeId} {ty : TypeId} {x y v : Val} {X Y : Value} (hx : RV μ x X) (hy : RV μ y Y) (h : amin x y = some v) : ∃ V, (Builtin.min_ at_ ty #[X, Y]).run P w = .ok V w ∧ RV μ v V := by
  unfold amin at h
  split at h <;> cases h
  cases hx; cases hy
  exact ⟨_, rfl, rfl⟩

theorem run_conv {s d : TypeId} {k ks : IntKind} {x v : Val} {X : Value} (hs : intB P s = some ks) (hd : intB P d = some k) (hx : RV μ x X) (h : aconv k x = some v) :
    ∃ V, (convert s d X).run P w = .ok V w ∧ RV μ v V := by
  unfold aconv at h
  split at h <;> cases h
  cases hx
  exact ⟨_, by simp [convert, run_und (intB_und hs), run_und (intB_und hd), Conv.intToInt], rfl⟩

theorem run_convS {s d : TypeId} {x v : Val} {X : Value} (hs : stringB P s = true) (hd : stringB P d = true) (hx : RV μ x X) (h : aconvS x = some v) :
    ∃ V, (convert s d X).run P w = .ok V w ∧ RV μ v V := by
  unfold aconvS at h
  split at h <;> cases h
  cases hx
  exact ⟨_, by simp [convert, run_und (stringB_und hs), run_und (stringB_und hd)], rfl⟩

/-! ### Slices -/

theorem run_bound {o : Option Val} {O : Option Value} {d n y : Nat} {code : BoundsCode} (hO : match o, O with | none, none => True | some v, some V => RV μ v V | _, _ => False) (hb : bound o d = some n) (hn : n ≤ y) :
    (match O with | some v => Instr.sliceBound v y code | none => (pure d : Sem Nat)).run P w = .ok n w := by
  unfold bound at hb
  cases o with
  | none =>
    cases O with
    | none => simp at hb; subst hb; rfl
    | some _ => exact hO.elim
  | some v =>
    cases O with
    | none => exact hO.elim
    | some V =>
      simp only at hO hb
      split at hb
      · rename_i heq; cases heq
      · rename_i k j heq
        cases heq
        cases hO
        split at hb
        · cases hb
          rename_i hj
          simp [Instr.sliceBound, asIntOf, hj]
          omega
        · cases hb
      · cases hb

def ROpt (μ : Mu) : Option Val → Option Value → Prop
  | none, none => True
  | some v, some V => RV μ v V
  | _, _ => False

theorem run_bounds {isSl : Bool} {len cap l h : Nat} {lo hi : Option Val} {Lo Hi : Option Value} (hlo : ROpt μ lo Lo) (hhi : ROpt μ hi Hi) (bl : bound lo 0 = some l) (bh : bound hi len = some h)
    (h1 : l ≤ h) (h2 : h ≤ cap) : (Instr.sliceBounds isSl len cap Lo Hi none).run P w = .ok (l, h, cap) w := by
  unfold Instr.sliceBounds
  have e1 := fun code => run_bound (P := P) (w := w) (μ := μ) (o := lo) (O := Lo) (d := 0) (n := l) (y := h) (code := code) (by cases lo <;> cases Lo <;> exact hlo) bl h1
  have e2 := fun code => run_bound (P := P) (w := w) (μ := μ) (o := hi) (O := Hi) (d := len) (n := h) (y := cap) (code := code) (by cases hi <;> cases Hi <;> exact hhi) bh h2
  cases Hi with
  | none =>
    cases Lo with
    | none => simp at e1 e2 ⊢; exact ⟨e1, e2⟩
    | some L =>
      simp at e1 e2 ⊢
      subst e2
      rw [e1 .sliceB]; rfl
  | some H =>
    cases Lo with
    | none => simp at e1 e2 ⊢; rw [e2]; simp [e1]
    | some L =>
      simp at e1 e2 ⊢
      rw [e2]
      simp [e1 .sliceB]

theorem run_slS {t : TypeId} {x v : Val} {lo hi : Option Val} {X : Value} {Lo Hi : Option Value} (ht : stringB P t = true) (hx : RV μ x X) (hlo : ROpt μ lo Lo) (hhi : ROpt μ hi Hi) (h : aslS x lo hi = some v) :
    ∃ V, (Instr.sliceAt t X Lo Hi none).run P w = .ok V w ∧ RV μ v V := by
  unfold aslS at h
  split at h
  · rename_i s
    have hX : X = .string ⟨s.toArray⟩ := hx
    subst hX
    simp only [Option.bind_eq_some_iff] at h
    obtain ⟨l, bl, hh, bh, h⟩ := h
    split at h
    · cases h
      rename_i hc
      have hsz : (ByteArray.mk s.toArray).size = s.length := by show s.toArray.size = _; simp
      have := run_bounds (P := P) (w := w) (μ := μ) (isSl := false) hlo hhi bl bh hc.1 hc.2
      refine ⟨.string ((ByteArray.mk s.toArray).extract l hh), ?_, ?_⟩
      · simp [Instr.sliceAt, Instr.slice, run_und (stringB_und ht), hsz, this]
      · show Value.string _ = Value.string _
        congr 1
        apply ByteArray.ext
        apply Array.ext'
        simp [List.drop_take]
    · cases h
  · cases h

theorem run_slL {t e : TypeId} {sz : Nat} {x v : Val} {lo hi : Option Val} {X : Value} {Lo Hi : Option Value} (ht : sliceB P t = some e) (hsz : sizeB P e = some sz) (hx : RV μ x X) (hlo : ROpt μ lo Lo) (hhi : ROpt μ hi Hi)
    (h : aslL sz x lo hi = some v) : ∃ V, (Instr.sliceAt t X Lo Hi none).run P w = .ok V w ∧ RV μ v V := by
  unfold aslL at h
  split at h
  · rename_i id off len sz'
    simp only [Option.bind_eq_some_iff] at h
    obtain ⟨l, bl, hh, bh, h⟩ := h
    split at h
    · cases h
      rename_i hc
      obtain ⟨hc1, hc2, rfl⟩ := hc
      rcases hx with ⟨b, m, cap, hm, hlc, hcap, rfl⟩ | ⟨h0, a, rfl⟩
      · have := run_bounds (P := P) (w := w) (μ := μ) (isSl := true) hlo hhi bl bh hc1 (by omega : hh ≤ cap)
        by_cases hcl : cap = l
        · subst hcl
          refine ⟨.slice (some ⟨b, off, none⟩) (hh - cap) (cap - cap), by simp [Instr.sliceAt, Instr.slice, run_und (sliceB_und ht), this, run_size hsz], .inr ?_⟩
          have h1 : hh - cap = 0 := by omega
          exact ⟨h1, some ⟨b, off, none⟩, by rw [h1, show cap - cap = 0 by omega]⟩
        · refine ⟨.slice (some ⟨b, off + l * sz, none⟩) (hh - l) (cap - l), by simp [Instr.sliceAt, Instr.slice, run_und (sliceB_und ht), this, run_size hsz, hcl, add_none], .inl ⟨b, m, cap - l, hm, by omega, ?_, rfl⟩⟩
          have : l * sz + (cap - l) * sz = cap * sz := by rw [← Nat.add_mul]; congr 1; omega
          omega
      · have := run_bounds (P := P) (w := w) (μ := μ) (isSl := true) (cap := 0) hlo hhi bl bh hc1 (by omega)
        have h1 : hh = 0 := by omega
        have h2 : l = 0 := by omega
        subst h0 h1 h2
        exact ⟨.slice a 0 0, by simp [Instr.sliceAt, Instr.slice, run_und (sliceB_und ht), this, run_size hsz], .inr ⟨rfl, a, rfl⟩⟩
    · cases h
  · simp only [Option.bind_eq_some_iff] at h
    obtain ⟨l, bl, hh, bh, h⟩ := h
    split at h
    · cases h
      rename_i hc
      obtain ⟨rfl, rfl⟩ := hc
      cases hx
      have := run_bounds (P := P) (w := w) (μ := μ) (isSl := true) (cap := 0) hlo hhi bl bh (Nat.le_refl _) (Nat.le_refl _)
      exact ⟨.slice none 0 0, by simp [Instr.sliceAt, Instr.slice, run_und (sliceB_und ht), this, run_size hsz], rfl⟩
    · cases h
  · cases h

theorem run_slA {t e : TypeId} {n sz : Nat} {hp : Heap} {x v : Val} {lo hi : Option Val} {X : Value} {Lo Hi : Option Value} (ht : arrayB P t = some (n, e)) (hsz : sizeB P e = some sz)
    (hrow : ∀ id r, rd hp id = some r → RowOk μ w id r) (hx : RV μ x X) (hlo : ROpt μ lo Lo) (hhi : ROpt μ hi Hi) (h : aslA hp n sz x lo hi = some v) :
    ∃ V, (Instr.sliceAt t X Lo Hi none).run P w = .ok V w ∧ RV μ v V := by
  unfold aslA at h
  split at h
  · rename_i id off
    obtain ⟨b, m, hm, rfl⟩ := hx
    simp only [Option.bind_eq_some_iff] at h
    obtain ⟨r, hr, l, bl, hh, bh, h⟩ := h
    split at h
    · cases h
      rename_i hc
      have hrw := hrow id r hr
      unfold RowOk at hrw
      simp at hm
      rw [hm] at hrw
      obtain ⟨C, elem, fz, h1, h2, h3, h4⟩ := hrw
      have hlen := h3.length
      simp at hlen
      have := run_bounds (P := P) (w := w) (μ := μ) (isSl := false) hlo hhi bl bh hc.1 hc.2.1
      by_cases hcl : n = l
      · subst hcl
        refine ⟨.slice (some ⟨b, off, none⟩) (hh - n) (n - n), by simp [Instr.sliceAt, Instr.sureAddr, run_und (arrayB_und ht), this, run_size hsz], .inr ?_⟩
        have h1 : hh - n = 0 := by omega
        exact ⟨h1, some ⟨b, off, none⟩, by rw [h1, show n - n = 0 by omega]⟩
      · refine ⟨.slice (some ⟨b, off + l * sz, none⟩) (hh - l) (n - l), by simp [Instr.sliceAt, Instr.sureAddr, run_und (arrayB_und ht), this, run_size hsz, hcl, add_none], .inl ⟨b, m, n - l, hm, by omega, ?_, rfl⟩⟩
        have : l * sz + (n - l) * sz = n * sz := by rw [← Nat.add_mul]; congr 1; omega
        omega
    · cases h
  · cases h

/-! ### The cells of a slice, and bytes -/

theorem slcells_ok {hp : Heap} {x : Val} {X : Value} {cs : List Cell} (hrow : ∀ id r, rd hp id = some r → RowOk μ w id r) (hx : RV μ x X) (h : slcells hp x = some cs) :
    ∃ len cap a vs, X = .slice a len cap ∧ All2 (RC μ) cs vs ∧ (∀ sz, (∀ id off l sz', x = .c (.sl id off l sz') → sz = sz') → vs.length = len * sz) ∧ (a = none → vs = []) ∧ (∀ b, a = some b → ∀ j v, vs[j]? = some v → w.cell? (b.add j) = some v) := by
  unfold slcells at h
  split at h
  · cases h; cases hx
    exact ⟨0, 0, none, [], rfl, trivial, fun _ _ => by simp, fun _ => rfl, fun b hb => (by cases hb)⟩
  · rename_i id off len sz
    simp only [Option.bind_eq_some_iff] at h
    obtain ⟨r, hr, h⟩ := h
    split at h
    · cases h
      rename_i hl
      rcases hx with ⟨b, m, cap, hm, hlc, hcap, rfl⟩ | ⟨h0, a, rfl⟩
      · obtain ⟨vs, h1, h2, h3⟩ := (hrow id r hr).cells hm off (len * sz) hl.1 hl.2
        refine ⟨len, cap, _, vs, rfl, h1, fun s hs => (by rw [h2, hs id off len sz rfl]), fun h => (by cases h), fun b' hb j v hv => ?_⟩
        cases hb
        rw [add_none]; exact h3 j v hv
      · subst h0
        exact ⟨0, 0, a, [], rfl, by simp, fun _ _ => by simp, fun _ => rfl, fun b hb j v hv => by simp at hv⟩
    · cases h
  · cases h

theorem byte?_ok {c : Cell} {b : UInt8} {V : Value} (h : byte? c = some b) (hr : RC μ c V) : V = .int .u8 b.toNat := by
  unfold byte? at h
  split at h
  · split at h
    · cases h
      rename_i n hn
      have hV : V = .int .u8 n := hr
      subst hV
      congr 1
      have : (UInt8.ofNat n.toNat).toNat = n.toNat := by simp [UInt8.toNat_ofNat']; omega
      rw [this]; omega
    · cases h
  · cases h

theorem bytes?_ok : ∀ {cs : List Cell} {s : List UInt8} {vs : List Value}, bytes? cs = some s → All2 (RC μ) cs vs → vs = s.map fun b => Value.int .u8 b.toNat
  | [], s, [], h, _ => by simp [bytes?] at h; subst h; rfl
  | c :: r, s, v :: vs, h, ⟨h1, h2⟩ => by
    simp only [bytes?, Option.bind_eq_some_iff, Option.map_eq_some_iff] at h
    obtain ⟨b, hb, l, hl, rfl⟩ := h
    rw [List.map_cons, byte?_ok hb h1, bytes?_ok hl h2]
  | [], _, _ :: _, _, h => h.elim
  | _ :: _, _, [], _, h => h.elim

theorem b2s_loop : ∀ (s : List UInt8) (acc : ByteArray), (forIn (s.map fun b => Value.int .u8 b.toNat) acc (fun c r => do
      let .int .u8 n := c | stuck "bytesToString: byte expected"
      let r := r.push (UInt8.ofNat n.toNat)
      pure PUnit.unit
      pure (ForInStep.yield r)) : Sem ByteArray).run P w = .ok ⟨acc.data ++ s.toArray⟩ w
  | [], acc => by simp
  | b :: s, acc => by
    simp only [List.map_cons, List.forIn_cons, Sem.run_bind]
    have := b2s_loop s (acc.push b)
    simp at this ⊢
    rw [this]

theorem ab2sN_some {h : Heap} {n0 : Nat} {own : Option Nat} {x v : Val} (hp : ab2sN h n0 own x = some v) : ab2s h x = some v := by
  unfold ab2sN at hp
  split at hp
  · exact hp
  · split at hp
    · split at hp
      · exact hp
      · cases hp
    · cases hp

theorem run_b2s {s d e : TypeId} {hp : Heap} {x : Val} {X : Value} {cs : List Cell} {l : List UInt8} (hs : sliceB P s = some e) (he : intB P e = some .u8) (hd : stringB P d = true)
    (hrow : ∀ id r, rd hp id = some r → RowOk μ w id r) (hx : RV μ x X) (h1 : slcells hp x = some cs) (h2 : bytes? cs = some l) (hone : ∀ id off l sz', x = .c (.sl id off l sz') → 1 = sz') :
    (convert s d X).run P w = .ok (.string ⟨l.toArray⟩) w := by
  obtain ⟨len, cap, a, vs, rfl, hvs, hlen, hnone, hcell⟩ := slcells_ok hrow hx h1
  have hl : vs.length = len := by simpa using hlen 1 hone
  have hv := bytes?_ok h2 hvs
  have hc : (convert s d (.slice a len cap)).run P w = (Conv.bytesToString (.slice a len cap)).run P w := by
    simp [convert, run_und (sliceB_und hs), run_und (stringB_und hd), run_und (intB_und he)]
  rw [hc]
  cases a with
  | none =>
    have : l = [] := by have := hnone rfl; rw [hv] at this; simpa using this
    subst this
    rfl
  | some b =>
    have hl2 := run_loadCells_list (P := P) w b vs (hcell b rfl)
    rw [hl] at hl2
    simp only [Conv.bytesToString, Sem.run_bind, hl2, Result.andThen_ok]
    rw [hv]
    have := b2s_loop (P := P) (w := w) l ByteArray.empty
    simp at this ⊢
    rw [this]

theorem run_ab2s {s d e : TypeId} {hp : Heap} {x v : Val} {X : Value} (hs : sliceB P s = some e) (he : intB P e = some .u8) (hd : stringB P d = true)
    (hrow : ∀ id r, rd hp id = some r → RowOk μ w id r) (hx : RV μ x X) (h : ab2s hp x = some v) : ∃ V, (convert s d X).run P w = .ok V w ∧ RV μ v V := by
  unfold ab2s at h
  split at h
  · split at h
    · rename_i id off len sz hsz
      simp only [Option.map_eq_some_iff, Option.bind_eq_some_iff] at h
      obtain ⟨l, ⟨cs, hcs, hl⟩, rfl⟩ := h
      exact ⟨_, run_b2s hs he hd hrow hx hcs hl (fun _ _ _ _ h => by cases h; exact hsz.symm), rfl⟩
    · cases h
  · cases h
    exact ⟨_, run_b2s (hp := hp) (cs := []) (l := []) hs he hd hrow hx rfl rfl (fun _ _ _ _ h => by cases h), rfl⟩
  · cases h

end
end Go.Esc
