/- What each abstract operation does is what the model's does. -/
import Derived.Test.YtbbkpmbepljhkaaEscC
import Derived.Laws.Strings
set_option linter.all false
namespace Go.Esc
open Go

/-! ### What each operation does -/

section
variable {P : Program} {μ : Mu} {w : World}

theorem run_asIntOf {k : IntKind} {n : Int} : (asIntOf (.int k n)).run P w = .ok (k, n) w := rfl
theorem run_asInt {k : IntKind} {n : Int} : (asInt (.int k n)).run P w = .ok n w := rfl

theorem bless_eq : ∀ (x y : List UInt8), Op.bytesLess x y = bless x y
  | _, [] => by cases ‹List UInt8› <;> rfl
  | [], _ :: _ => rfl
  | a :: x, b :: y => by simp [Op.bytesLess, bless, bless_eq x y]

/-- Scalars. -/
theorem run_bin {op : BinOp} {xt : TypeId} {x y v : Val} {X Y : Value} (hx : RV μ x X) (hy : RV μ y Y) (h : abin op x y = some v) :
    ∃ V, (binOp op xt X Y).run P w = .ok V w ∧ RV μ v V := by
  unfold abin at h
  split at h
  · rename_i k a k' b
    have hX : X = .int k a := hx
    have hY : Y = .int k' b := hy
    subst hX hY
    have key : ∀ o, o ≠ BinOp.shl → o ≠ BinOp.shr → ∀ v, (bif decide (k = k') then (ibin o k a b).map Val.c else none) = some v → ∃ V, (binOp o xt (.int k a) (.int k' b)).run P w = .ok V w ∧ RV μ v V := by
      intro o h1 h2 v hv
      by_cases hk : k = k'
      · subst hk
        simp at hv
        obtain ⟨c, hc, rfl⟩ := hv
        cases o <;> simp only [ibin] at hc <;> (try cases hc) <;>
          first
            | exact ⟨_, by simp [binOp, Op.intArith, Op.intBits, Op.intCmp], rfl⟩
            | (split at hc <;> cases hc; rename_i hb; exact ⟨_, by simp [binOp, Op.intDiv, hb], rfl⟩)
            | skip
      · simp [hk] at hv
    split at h
    · unfold ishl at h
      split at h
      · simp at h
      · simp at h; subst h; rename_i hb; refine ⟨.int k (k.wrap (a * 2 ^ (Nat.min b.toNat k.bits))), ?_, rfl⟩
        simp [binOp, Op.shift, hb, Nat.min_def]
    · unfold ishr at h
      split at h
      · simp at h
      · simp at h; subst h; rename_i hb; refine ⟨.int k (a.fdiv (2 ^ (Nat.min b.toNat k.bits))), ?_, rfl⟩
        simp [binOp, Op.shift, hb, Nat.min_def]
    · rename_i h1 h2
      exact key op h1 h2 v h
  · rename_i a b
    have hX : X = .string ⟨a.toArray⟩ := hx
    have hY : Y = .string ⟨b.toArray⟩ := hy
    subst hX hY
    simp only [Option.map_eq_some_iff] at h
    obtain ⟨c, hc, rfl⟩ := h
    cases op <;> simp only [sbin] at hc <;> (try cases hc)
    · split at hc <;> cases hc
      rename_i hl
      refine ⟨.string (⟨a.toArray⟩ ++ ⟨b.toArray⟩), ?_, ?_⟩
      · have : ¬ (((ByteArray.mk a.toArray).size + (ByteArray.mk b.toArray).size : Nat) : Int) > IntKind.i64.max := by
          show ¬ ((a.toArray.size + b.toArray.size : Nat) : Int) > 9223372036854775807
          simp; omega
        simp [binOp, Op.stringOp] at this ⊢
        exact this
      · show Value.string _ = Value.string _
        congr 1
    all_goals exact ⟨_, rfl, by simp [RV, RC, ByteArray.toList_mk, bless_eq]⟩
  · cases h

def isNilC (P : Program) (fn : Bool) (t : TypeId) (c : Value) : Bool :=
  match fn, P.underlying t, c with
  | true, some (.func ..), .nilFunc => true
  | false, some (.pointer _), .pointer none => true
  | _, _, _ => false

theorem isNilC_ok {fn : Bool} {t : TypeId} {c : Value} (h : isNilC P fn t c = true) : (fn = true ∧ (∃ a b d, P.underlying t = some (.func a b d)) ∧ c = .nilFunc) ∨ (fn = false ∧ (∃ a, P.underlying t = some (.pointer a)) ∧ c = .pointer none) := by
  unfold isNilC at h
  split at h
  · rename_i h2; exact .inl ⟨rfl, ⟨_, _, _, h2⟩, rfl⟩
  · rename_i h2; exact .inr ⟨rfl, ⟨_, h2⟩, rfl⟩
  · cases h

theorem equal_bool {xt : TypeId} {a b : Bool} (hu : P.underlying xt = some .bool) : (Op.equal xt (.bool a) (.bool b)).run P w = .ok (a == b) w := by
  unfold Op.equal
  rw [show Op.maxDepth = 9999 + 1 from rfl]
  unfold Op.equalIn
  simp only [Sem.run_bind, run_und hu, Result.andThen_ok]
  rfl

theorem run_eqB {neg : Bool} {xt : TypeId} {x y v : Val} {X Y : Value} (hu : P.underlying xt = some .bool) (hx : RV μ x X) (hy : RV μ y Y) (h : aeqB neg x y = some v) :
    ∃ V, (binOp (bif neg then .neq else .eql) xt X Y).run P w = .ok V w ∧ RV μ v V := by
  unfold aeqB at h
  split at h
  · rename_i a b
    have hX : X = .bool a := hx
    have hY : Y = .bool b := hy
    subst hX hY
    cases h
    cases neg
    · exact ⟨_, by show (Op.equal xt (.bool a) (.bool b) >>= fun r => pure (Value.bool r)).run P w = _; rw [Sem.run_bind, equal_bool hu]; rfl, rfl⟩
    · exact ⟨_, by show (Op.equal xt (.bool a) (.bool b) >>= fun r => pure (Value.bool !r)).run P w = _; rw [Sem.run_bind, equal_bool hu]; rfl, rfl⟩
  · cases h

theorem run_eqN {fn neg : Bool} {xt : TypeId} {x v : Val} {X c : Value} (hu : isNilC P fn xt c = true) (hx : RV μ x X) (h : aeqN fn neg x = some v) :
    ∃ V, (binOp (bif neg then .neq else .eql) xt X c).run P w = .ok V w ∧ RV μ v V := by
  unfold aeqN at h
  have one : ∀ (r : Bool), (binOp (bif neg then .neq else .eql) xt X c = (Op.equal xt X c >>= fun r => pure (Value.bool (bif neg then !r else r)))) → (Op.equal xt X c).run P w = .ok r w → (binOp (bif neg then .neq else .eql) xt X c).run P w = .ok (.bool (bif neg then !r else r)) w := by
    intro r e1 he
    rw [e1, Sem.run_bind, he]; rfl
  rcases isNilC_ok hu with ⟨rfl, ⟨a, b, d, h2⟩, rfl⟩ | ⟨rfl, ⟨a, h2⟩, rfl⟩
  · have eq : ∀ (r : Bool), ((X = .nilFunc ∧ r = true) ∨ (∃ g cs, X = .func (.func g) #[] cs ∧ r = false)) → (Op.equal xt X .nilFunc).run P w = .ok r w := by
      intro r h
      unfold Op.equal
      rw [show Op.maxDepth = 9999 + 1 from rfl]
      unfold Op.equalIn
      rcases h with ⟨rfl, rfl⟩ | ⟨g, cs, rfl, rfl⟩ <;> simp only [Sem.run_bind, run_und h2, Result.andThen_ok] <;> rfl
    split at h
    · cases h
      have hX : X = .nilFunc := hx
      subst hX
      exact ⟨_, one true (by cases neg <;> rfl) (eq true (.inl ⟨rfl, rfl⟩)), by cases neg <;> rfl⟩
    · cases h
      obtain ⟨cs, hX, _⟩ := hx
      subst hX
      exact ⟨_, one false (by cases neg <;> rfl) (eq false (.inr ⟨_, _, rfl, rfl⟩)), by cases neg <;> rfl⟩
    · rename_i h3; cases h3
    · rename_i h3; cases h3
    · cases h
  · have eq : ∀ (r : Bool), ((X = .pointer none ∧ r = true) ∨ (∃ q, X = .pointer (some q) ∧ r = false)) → (Op.equal xt X (.pointer none)).run P w = .ok r w := by
      intro r h
      unfold Op.equal
      rw [show Op.maxDepth = 9999 + 1 from rfl]
      unfold Op.equalIn
      rcases h with ⟨rfl, rfl⟩ | ⟨q, rfl, rfl⟩ <;> simp only [Sem.run_bind, run_und h2, Result.andThen_ok] <;> rfl
    split at h
    · rename_i h3; cases h3
    · rename_i h3; cases h3
    · cases h
      have hX : X = .pointer none := hx
      subst hX
      exact ⟨_, one true (by cases neg <;> rfl) (eq true (.inl ⟨rfl, rfl⟩)), by cases neg <;> rfl⟩
    · cases h
      obtain ⟨b, n, _, hX⟩ := hx
      subst hX
      exact ⟨_, one false (by cases neg <;> rfl) (eq false (.inr ⟨_, rfl, rfl⟩)), by cases neg <;> rfl⟩
    · cases h

theorem run_un {op : UnOp} {x v : Val} {X : Value} (hx : RV μ x X) (h : aun op x = some v) : ∃ V, (Op.unary op X).run P w = .ok V w ∧ RV μ v V := by
  unfold aun at h
  split at h <;> cases h <;> cases hx <;> exact ⟨_, rfl, rfl⟩

theorem add_none (b off k : Nat) : (⟨b, off, none⟩ : Addr).add k = ⟨b, off + k, none⟩ := by
  unfold Addr.add
  split <;> simp_all

/-! ### Loads -/

theorem run_load1 {t : TypeId} {hp : Heap} {a v : Val} {A : Value} (hagg : aggB P t = some false) (hrow : ∀ id r, rd hp id = some r → RowOk μ w id r)
    (ha : RV μ a A) (h : aload1 hp a = some v) : ∃ V, (Instr.loadAt t A).run P w = .ok V w ∧ RV μ v V := by
  unfold aload1 at h
  split at h
  · rename_i id off
    obtain ⟨b, n, hm, rfl⟩ := ha
    simp only [Option.bind_eq_some_iff] at h
    obtain ⟨r, hr, c, hc, h⟩ := h
    cases hx : (r.rw || !c.isX) with
    | false => rw [hx] at h; cases h
    | true =>
    rw [hx] at h; cases h
    obtain ⟨V, hV, hR⟩ := (hrow id r hr).cell hm hc hx
    refine ⟨V, ?_, hR⟩
    simp [Instr.loadAt, Instr.sureAddr, loadVar, run_agg hagg, hV]
  · cases h

theorem run_loadN {t : TypeId} {hp : Heap} {a v : Val} {A : Value} {k : Nat} (hagg : aggB P t = some true) (hsz : sizeB P t = some k) (hrow : ∀ id r, rd hp id = some r → RowOk μ w id r)
    (ha : RV μ a A) (h : aloadN hp k a = some v) : ∃ V, (Instr.loadAt t A).run P w = .ok V w ∧ RV μ v V := by
  unfold aloadN at h
  split at h
  · rename_i id off
    obtain ⟨b, n, hm, rfl⟩ := ha
    simp only [Option.bind_eq_some_iff] at h
    obtain ⟨r, hr, h⟩ := h
    split at h
    · cases h
      rename_i hk
      obtain ⟨vs, h1, h2, h3⟩ := (hrow id r hr).cells hm off k hk.1 hk.2
      refine ⟨.agg vs.toArray, ?_, vs, rfl, h1⟩
      have hl := run_loadCells_list (P := P) w ⟨b, off, none⟩ vs (fun j v hv => by rw [add_none]; exact h3 j v hv)
      rw [h2] at hl
      simp [Instr.loadAt, Instr.sureAddr, loadVar, run_agg hagg, run_size hsz, hl]
    · cases h
  · cases h

/-! ### Stores -/

theorem setCells_heap (b : Nat) : ∀ (vs : List Value) (o : Nat) (w : World) (C : Array Value) (t : TypeId) (fz : Nat × Nat), w.heap[b]? = some (.cells C t fz) → o + vs.length ≤ C.size →
    ∃ C' : Array Value, (w.setCells b o vs).heap[b]? = some (.cells C' t fz) ∧ C'.toList = C.toList.take o ++ (vs ++ C.toList.drop (o + vs.length))
  | [], o, w, C, t, fz, h, hl => ⟨C, h, by simp⟩
  | v :: r, o, w, C, t, fz, h, hl => by
    simp only [List.length_cons] at hl
    have h1 : (w.setCell ⟨b, o, none⟩ v).heap[b]? = some (.cells (C.setIfInBounds o v) t fz) := by
      simp only [World.setCell, Array.getElem?_modify, if_true, h, Option.map_some]
      simp
    obtain ⟨C', h2, h3⟩ := setCells_heap b r (o + 1) (w.setCell ⟨b, o, none⟩ v) (C.setIfInBounds o v) t fz h1 (by simp; omega)
    refine ⟨C', h2, ?_⟩
    rw [h3]
    have ho : o < C.toList.length := by simp; omega
    simp only [Array.toList_setIfInBounds]
    rw [List.drop_set_of_lt (by omega), List.length_cons, show o + 1 + r.length = o + (r.length + 1) by omega]
    rw [List.take_set, List.take_add_one, List.set_append]
    have hm : min o C.size = o := Nat.min_eq_left (by simp at ho; omega)
    simp [List.getElem?_eq_getElem ho, hm]

theorem setCells_other (b : Nat) : ∀ (vs : List Value) (o : Nat) (w : World) (b' : Nat), b' ≠ b → (w.setCells b o vs).heap[b']? = w.heap[b']?
  | [], _, _, _, _ => rfl
  | v :: r, o, w, b', h => by
    rw [World.setCells, setCells_other b r (o + 1) _ b' h]
    simp [World.setCell, Array.getElem?_modify, Ne.symm h]

theorem setCells_os (b : Nat) : ∀ (vs : List Value) (o : Nat) (w : World), (w.setCells b o vs).os = w.os ∧ (w.setCells b o vs).tape = w.tape ∧ (w.setCells b o vs).output = w.output
  | [], _, _ => ⟨rfl, rfl, rfl⟩
  | v :: r, o, w => by rw [World.setCells]; exact setCells_os b r (o + 1) _

theorem All2.lay {μ : Mu} {cs xs : List Cell} {off : Nat} {Cs vs : List Value} (h : All2 (RC μ) cs (Cs.take cs.length)) (hx : All2 (RC μ) xs vs) (hl : off + xs.length ≤ cs.length) :
    All2 (RC μ) (lay cs off xs) ((Cs.take off ++ (vs ++ Cs.drop (off + vs.length))).take (lay cs off xs).length) := by
  have hlen := h.length
  have hxl := hx.length
  have hL : (Esc.lay cs off xs).length = cs.length := by simp [Esc.lay]; omega
  rw [hL]
  have e : (Cs.take off ++ (vs ++ Cs.drop (off + vs.length))).take cs.length = (Cs.take cs.length).take off ++ (vs ++ (Cs.take cs.length).drop (off + vs.length)) := by
    have h1 : cs.length ≤ Cs.length := by simp at hlen; omega
    rw [List.take_append, List.take_append, List.take_take, List.take_take, List.length_take, List.drop_take, Nat.min_eq_left (by omega : off ≤ cs.length), Nat.min_eq_right (by omega : off ≤ cs.length), Nat.min_eq_left (by omega : off ≤ Cs.length)]
    rw [List.take_of_length_le (by omega : vs.length ≤ cs.length - off)]
    congr 3
    omega
  rw [e]
  unfold Esc.lay
  rw [← hxl]
  exact (h.take off).append (hx.append (h.drop _))

theorem store_ok {Γ : Ctx} {h : Heap} {id off b n : Nat} {r : Row} {xs : List Cell} {vs : List Value} (hi : Inv Γ μ h w) (hr : rd h id = some r) (hrw : r.rw = true) (hm : μ id = some (b, n))
    (hx : All2 (RC μ) xs vs) (hl : off + xs.length ≤ r.cells.length) :
    (storeCells ⟨b, off, none⟩ vs).run P w = .ok () (w.setCells b off vs) ∧ Inv Γ μ (h.set id (some ⟨lay r.cells off xs, true⟩)) (w.setCells b off vs) := by
  have hrow := hi.rows id r hr
  unfold RowOk at hrow
  rw [hm] at hrow
  obtain ⟨C, elem, fz, h1, h2, h3, h4⟩ := hrow
  replace h3 := RL.all h3 (by rw [hrw]; rfl)
  have hlen := h3.length
  have hxl := hx.length
  simp at hlen
  have hcell : ∀ j, j < vs.length → (w.cell? ⟨b, off + 0 + j, none⟩).isSome = true := by
    intro j hj
    simp only [World.cell?, h1]
    simp; omega
  have hfz : ∀ j, j < vs.length → w.frozen? ⟨b, off + 0 + j, none⟩ = false := by
    intro j hj
    simp only [World.frozen?, h1]
    obtain ⟨lo, hi'⟩ := fz
    rcases h4 hrw with h4 | h4 <;> simp at h4 ⊢ <;> omega
  have h1c : ∀ v ∈ vs, v.oneCell' = true := by
    intro v hv
    obtain ⟨i, hlt, rfl⟩ := List.getElem_of_mem hv
    have : i < xs.length := by omega
    obtain ⟨V, hV, hR⟩ := hx.get i xs[i] (by simp [this])
    rw [List.getElem?_eq_getElem hlt] at hV
    cases hV
    exact hR.one
  refine ⟨by simpa using run_storeCells_cells (P := P) b off vs 0 w hcell hfz h1c, ?_⟩
  obtain ⟨C', h5, h6⟩ := setCells_heap b vs off w C elem fz h1 (by omega)
  obtain ⟨ho, ht, hou⟩ := setCells_os b vs off w
  refine hi.write hr hrw hm ho ht hou (fun b' hb => setCells_other b vs off w b' hb) ?_
  unfold RowOk
  rw [hm]
  refine ⟨C', elem, fz, h5, ?_, ?_, fun _ => h4 hrw⟩
  · have := congrArg List.length h6
    simp at this
    omega
  · rw [h6]
    exact (All2.lay h3 hx hl).mono fun _ _ => .inl

theorem run_store1 {Γ : Ctx} {t : TypeId} {h h' : Heap} {a x : Val} {A X : Value} (hsz : sizeB P t = some 1) (hi : Inv Γ μ h w) (ha : RV μ a A) (hx : RV μ x X) (hh : astore1 h a x = some h') :
    ∃ w', (Instr.storeAt t A X).run P w = .ok () w' ∧ Inv Γ μ h' w' := by
  unfold astore1 at hh
  split at hh
  · rename_i id off c
    obtain ⟨b, n, hm, rfl⟩ := ha
    simp only [Option.bind_eq_some_iff] at hh
    obtain ⟨r, hr, hh⟩ := hh
    split at hh
    · cases hh
      rename_i hc
      have hone : X.cells = #[X] := RC.cells hx
      have := store_ok (P := P) hi hr hc.1 hm (off := off) (xs := [c]) (vs := [X]) ⟨hx, trivial⟩ (by simp; omega)
      refine ⟨w.setCells b off [X], ?_, ?_⟩
      · simp [Instr.storeAt, Instr.sureAddr, storeVar, hone, run_size hsz, this.1]
      · have e : lay r.cells off [c] = r.cells.set off c := by
          simp [lay, List.set_eq_take_append_cons_drop, hc.2]
        rw [← e]; exact this.2
    · cases hh
  · cases hh

theorem run_storeN {Γ : Ctx} {t : TypeId} {h h' : Heap} {a x : Val} {A X : Value} {k : Nat} (hsz : sizeB P t = some k) (hi : Inv Γ μ h w) (ha : RV μ a A) (hx : RV μ x X) (hh : astoreN h k a x = some h') :
    ∃ w', (Instr.storeAt t A X).run P w = .ok () w' ∧ Inv Γ μ h' w' := by
  unfold astoreN at hh
  split at hh
  · rename_i id off xs
    obtain ⟨b, n, hm, rfl⟩ := ha
    obtain ⟨vs, rfl, hvs⟩ := hx
    simp only [Option.bind_eq_some_iff] at hh
    obtain ⟨r, hr, hh⟩ := hh
    split at hh
    · cases hh
      rename_i hc
      have := store_ok (P := P) hi hr hc.1 hm (off := off) hvs (by omega)
      refine ⟨w.setCells b off vs, ?_, this.2⟩
      have hl := hvs.length
      have hk : vs.length = k := by omega
      simp [Instr.storeAt, Instr.sureAddr, storeVar, Value.cells, run_size hsz, hk, this.1]
    · cases hh
  · cases hh

end
end Go.Esc
