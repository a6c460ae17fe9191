/- Rows that stand behind others, read off by simp; slices that are read; slices that grow. -/
import Derived.Test.YtbbkpmbepljhkaaEscR
set_option linter.all false
namespace Go.Esc
open Go

section
variable {h : Heap} {l : List (Option Row)} {k id : Nat}
@[simp] theorem rd_at : rd (h ++ l) (h.length + k) = (l[k]?).join := by
  unfold rd; rw [List.getElem?_append_right (by omega), Nat.add_sub_cancel_left]
@[simp] theorem rd_at0 : rd (h ++ l) h.length = (l[0]?).join := rd_at (k := 0)
@[simp] theorem set_at {x : Option Row} : (h ++ l).set (h.length + k) x = h ++ l.set k x := by
  rw [List.set_append_right _ _ (by omega), Nat.add_sub_cancel_left]
@[simp] theorem set_at0 {x : Option Row} : (h ++ l).set h.length x = h ++ l.set 0 x := set_at (k := 0)
theorem rd_old (hl : id < h.length) : rd (h ++ l) id = rd h id := rd_append_left hl
end

section
variable {h : Heap} {id off n sz : Nat} {cs xs : List Cell} {x : Cell} {k : IntKind} {rw : Bool}
theorem load1_ok (hr : rd h id = some ⟨cs, true⟩) (hl : off < cs.length) : aload1 h (.c (.p id off)) = some (.c cs[off]) := load1_of hr (List.getElem?_eq_getElem hl) rfl
theorem addr_A {j : Int} (h0 : 0 ≤ j) (h1 : j < n) : aiAddrA n sz (.c (.p id off)) (.c (.i k j)) = some (.c (.p id (off + j.toNat * sz))) := by
  simp only [aiAddrA]; rw [if_pos ⟨h0, h1⟩]
theorem addr_L {len : Nat} {j : Int} (h0 : 0 ≤ j) (h1 : j < len) : aiAddrL sz (.c (.sl id off len sz)) (.c (.i k j)) = some (.c (.p id (off + j.toNat * sz))) := by
  simp only [aiAddrL]; rw [if_pos ⟨h0, h1, trivial⟩]
theorem idx_A1 {l : List Cell} {j : Int} (h0 : 0 ≤ j) (h1 : j < n) (hl : l.length = n) : aidxA1 n (.a l) (.c (.i k j)) = some (.c (l[j.toNat]'(by omega))) := by
  simp only [aidxA1]; rw [if_pos ⟨h0, h1⟩, List.getElem?_eq_getElem (by omega)]; rfl
end

theorem take_append {l m : List Cell} {n : Nat} (hn : l.length = n) : (l ++ m).take n = l := by subst hn; simp

/-! ### Slices that are read -/

def Has (h : Heap) (v : Val) (sz n : Nat) (cs : List Cell) : Prop :=
  (v = .c .ns ∧ n = 0 ∧ cs = []) ∨ ∃ id off r, v = .c (.sl id off n sz) ∧ rd h id = some r ∧ cs.length = n * sz ∧ off + n * sz ≤ r.cells.length ∧ (r.cells.drop off).take (n * sz) = cs ∧ noX cs = true

section
variable {h : Heap} {v : Val} {sz n : Nat} {cs : List Cell}

theorem Has.length (hv : Has h v sz n cs) : cs.length = n * sz := by
  rcases hv with ⟨_, rfl, rfl⟩ | ⟨_, _, _, _, _, hl, _⟩
  · simp
  · exact hl
theorem Has.ro (hv : Has h v sz n cs) : Has (ro h) v sz n cs := by
  rcases hv with hv | ⟨id, off, r, rfl, hr, h1, h2, h3, h4⟩
  · exact .inl hv
  · exact .inr ⟨id, off, ⟨r.cells, false⟩, rfl, by rw [rd_ro, hr]; rfl, h1, h2, h3, h4⟩
theorem Has.more (hv : Has h v sz n cs) (l : Heap) : Has (h ++ l) v sz n cs := by
  rcases hv with hv | ⟨id, off, r, rfl, hr, h1, h2, h3, h4⟩
  · exact .inl hv
  · exact .inr ⟨id, off, r, rfl, rd_append hr, h1, h2, h3, h4⟩
theorem Has.grows {h' : Heap} (hv : Has h v sz n cs) (hg : Grows h h') : Has h' v sz n cs := by
  rcases hv with hv | ⟨id, off, r, rfl, hr, h1, h2, h3, h4⟩
  · exact .inl hv
  · exact .inr ⟨id, off, r, rfl, hg.rd hr, h1, h2, h3, h4⟩
theorem Has.len (hv : Has h v sz n cs) : alen v = some (.c (.i .i64 n)) := by
  rcases hv with ⟨rfl, rfl, rfl⟩ | ⟨id, off, r, rfl, _⟩ <;> rfl
theorem Has.cells (hv : Has h v sz n cs) : slcells h v = some cs := by
  rcases hv with ⟨rfl, rfl, rfl⟩ | ⟨id, off, r, rfl, hr, h1, h2, h3, h4⟩
  · rfl
  · simp only [slcells, hr, Option.bind_some]
    rw [if_pos ⟨h2, by rw [h3, h4]; simp⟩, h3]
theorem Has.add (hv : Has h v sz n cs) : addcells h sz v = some cs := by
  have := hv.cells
  rcases hv with ⟨rfl, rfl, rfl⟩ | ⟨id, off, r, rfl, _⟩
  · rfl
  · simp only [addcells, if_true]; exact this
theorem bytes?_encB : ∀ l : List UInt8, bytes? (encB l) = some l
  | [] => rfl
  | x :: l => by
    have h1 := x.toNat_lt
    have e : byte? (.i .u8 x.toNat) = some x := by
      simp only [byte?]
      rw [if_pos ⟨by omega, by omega⟩]; simp
    change (byte? (.i .u8 x.toNat)).bind (fun y => (bytes? (encB l)).map fun l => y :: l) = _
    rw [e, bytes?_encB l]; rfl
theorem Has.str {l : List UInt8} (hv : Has h v 1 n (encB l)) : ab2s h v = some (.c (.s l)) := by
  have := hv.cells
  rcases hv with ⟨rfl, rfl, e⟩ | ⟨id, off, r, rfl, _⟩
  · have : l = [] := by simpa [encB] using e
    subst this; rfl
  · simp only [ab2s, if_true, this, Option.bind_some, bytes?_encB, Option.map_some]
/-- One that has elements: where they stand. -/
theorem Has.sl (hv : Has h v sz n cs) (hn : 0 < n) : ∃ id off, v = .c (.sl id off n sz) ∧ id < h.length ∧
    (∀ j c, cs[j]? = some c → aload1 h (.c (.p id (off + j))) = some (.c c)) ∧ ∀ j m, j + m ≤ cs.length → aloadN h m (.c (.p id (off + j))) = some (.a ((cs.drop j).take m)) := by
  rcases hv with ⟨rfl, rfl, rfl⟩ | ⟨id, off, r, rfl, hr, h1, h2, h3, h4⟩
  · omega
  · refine ⟨id, off, rfl, rd_lt hr, fun j c hc => ?_, fun j m hj => ?_⟩
    · have hlt : j < cs.length := (List.getElem?_eq_some_iff.1 hc).1
      have hx : c.isX = false := by
        have := List.all_eq_true.1 h4 c (List.mem_of_getElem? hc)
        simpa using this
      refine load1_of (cs := r.cells) (rw := r.rw) hr ?_ (by simp [hx])
      rw [← h3, List.getElem?_take_of_lt (by omega), List.getElem?_drop] at hc
      exact hc
    · have e : ((cs.drop j).take m) = (r.cells.drop (off + j)).take m := by
        rw [← h3, List.drop_take, List.take_take, List.drop_drop]
        congr 1
        omega
      rw [e]
      refine loadN_of (cs := r.cells) (rw := r.rw) hr (by omega) ?_
      rw [← e]
      have : noX ((cs.drop j).take m) = true := by
        refine List.all_eq_true.2 fun c hc => List.all_eq_true.1 h4 c ?_
        exact List.mem_of_mem_drop (List.mem_of_mem_take hc)
      simp [this]
end

/-- A row that stands for a slice as a whole. -/
theorem Has.row {h : Heap} {id sz n : Nat} {cs : List Cell} {rw : Bool} (hr : rd h id = some ⟨cs, rw⟩) (hl : cs.length = n * sz) (hx : noX cs = true) : Has h (.c (.sl id 0 n sz)) sz n cs :=
  .inr ⟨id, 0, _, rfl, hr, hl, by simp [hl], by simp [← hl], hx⟩

/-! ### Slices that grow -/

/-- A slice that was made since, as a whole. -/
def Out (b : Nat) (h : Heap) (v : Val) (sz n : Nat) (cs : List Cell) : Prop :=
  cs.length = n * sz ∧ ∃ id, v = .c (.sl id 0 n sz) ∧ b ≤ id ∧ rd h id = some ⟨cs, true⟩

theorem Out.more {b : Nat} {h : Heap} {v : Val} {sz n : Nat} {cs : List Cell} (ho : Out b h v sz n cs) (l : Heap) : Out b (h ++ l) v sz n cs := by
  obtain ⟨hl, id, rfl, hb, hr⟩ := ho
  exact ⟨hl, id, rfl, hb, rd_append hr⟩

theorem Out.has {b : Nat} {h : Heap} {v : Val} {sz n : Nat} {cs : List Cell} (ho : Out b h v sz n cs) (hx : noX cs = true) : Has h v sz n cs := by
  obtain ⟨hl, id, rfl, hb, hr⟩ := ho
  exact Has.row hr hl hx

/-- All rows below b are as they were. -/
def Low (b : Nat) (h h' : Heap) : Prop := b ≤ h.length ∧ h.length ≤ h'.length ∧ ∀ id, id < b → rd h' id = rd h id

theorem Low.refl {b : Nat} {h : Heap} (hb : b ≤ h.length) : Low b h h := ⟨hb, Nat.le_refl _, fun _ _ => rfl⟩
theorem Low.trans {b : Nat} {h h' h'' : Heap} (h1 : Low b h h') (h2 : Low b h' h'') : Low b h h'' :=
  ⟨h1.1, Nat.le_trans h1.2.1 h2.2.1, fun id hid => (h2.2.2 id hid).trans (h1.2.2 id hid)⟩
theorem Low.new {b : Nat} {h h' : Heap} (h1 : Low b h h') (l : Heap) : Low b h (h' ++ l) :=
  ⟨h1.1, by have := h1.2.1; simp; omega, fun id hid => by rw [rd_append_left (by have := h1.1; have := h1.2.1; omega)]; exact h1.2.2 id hid⟩
theorem Low.set {b : Nat} {h h' : Heap} (h1 : Low b h h') {id : Nat} (hid : b ≤ id) (x : Option Row) : Low b h (h'.set id x) :=
  ⟨h1.1, by simpa using h1.2.1, fun j hj => by rw [rd_set_other (by omega)]; exact h1.2.2 j hj⟩
theorem Has.low {b : Nat} {h h' : Heap} {v : Val} {sz n : Nat} {cs : List Cell} (h1 : Low b h h') (hv : Has h v sz n cs) (hb : ∀ id off m, v = .c (.sl id off m sz) → id < b) : Has h' v sz n cs := by
  rcases hv with hv | ⟨id, off, r, rfl, hr, h2⟩
  · exact .inl hv
  · exact .inr ⟨id, off, r, rfl, by rw [h1.2.2 id (hb id off n rfl)]; exact hr, h2⟩

/-- It grows: only its own row is gone. -/
theorem Out.app {b : Nat} {h : Heap} {v y : Val} {sz n m : Nat} {cs ys : List Cell} (ho : Out b h v sz n cs) (hsz : 0 < sz) (hy : addcells h sz y = some ys) (hm : ys.length = m * sz) (hn : n + m ≤ 1073741824) :
    ∃ id v' h', v = .c (.sl id 0 n sz) ∧ aapp h sz v y = some (v', h') ∧ Out b h' v' sz (n + m) (cs ++ ys) ∧ Low b h h' ∧ (∀ i r, rd h i = some r → i ≠ id → rd h' i = some r) := by
  have hd : ys.length / sz = m := by rw [hm]; exact Nat.mul_div_cancel m hsz
  obtain ⟨hl, id, rfl, hbid, hr⟩ := ho
  have hlt := rd_lt hr
  refine ⟨id, _, h.set id none ++ [some ⟨cs ++ ys, true⟩], rfl, by simp only [aapp, hy, hr, Option.bind_some, hd]; rw [if_pos ⟨trivial, trivial, hl.symm, trivial, hn⟩], ⟨by simp [hl, hm, Nat.add_mul], h.length, rfl, by omega, ?_⟩, ((Low.refl (by omega)).set hbid none).new _, fun i r hi hne => ?_⟩
  · have := rd_new (h := h.set id none) (r := ⟨cs ++ ys, true⟩)
    rwa [List.length_set] at this
  · have hlt := rd_lt hi
    rw [rd_append_left (by simpa using hlt), rd_set_other (Ne.symm hne)]
    exact hi

theorem newRow_of {h : Heap} {id : Nat} {cs : List Cell} (hr : rd h id = some ⟨cs, true⟩) (hf : flats cs = true) : newRow h id = true := by simp [newRow, hr, hf]

theorem canon_sl {h : Heap} {b id off n sz : Nat} {cs : List Cell} (hb : b ≤ id) (hr : rd h id = some ⟨cs, true⟩) (hf : flats cs = true) : canonV h b (.c (.sl id off n sz)) = some (.c (.sl b off n sz), [id]) := by
  have : ¬ id < b := by omega
  simp [canonV, canonC, hb, this, newRow_of hr hf]

theorem tidy_out {F : List Val → Heap → Option (Val × Heap)} {args : List Val} {h h' : Heap} {v : Val} {sz n : Nat} {cs : List Cell} (he : F args (ro h) = some (v, h')) (ho : Out h.length h' v sz n cs) (hf : flats cs = true) :
    tidy F args h = some (.c (.sl h.length 0 n sz), h ++ [some ⟨cs, true⟩]) := by
  obtain ⟨hl, id, rfl, hb, hr⟩ := ho
  rw [tidy_of he (canon_sl hb hr hf)]
  simp [hr]

theorem tidy_out2 {F : List Val → Heap → Option (Val × Heap)} {args : List Val} {h h' : Heap} {v' : Nat} {c : Cell} {sz n : Nat} {cs : List Cell} (he : F args (ro h) = some (.t [.c (.sl v' 0 n sz), .c c], h')) (ho : Out h.length h' (.c (.sl v' 0 n sz)) sz n cs) (hf : flats cs = true) (hc : c.flat = true) :
    tidy F args h = some (.t [.c (.sl h.length 0 n sz), .c c], h ++ [some ⟨cs, true⟩]) := by
  obtain ⟨hl, id, e, hb, hr⟩ := ho
  cases e
  have e2 : canonC h' h.length [v'] [c] = some ([c], [v']) := canonC_flat (by simp [hc])
  rw [tidy_of he (v2 := .t [.c (.sl h.length 0 n sz), .c c]) (ids := [v']) (by simp [canonV, canonP, canonC, hb, show ¬ v' < h.length by omega, newRow_of hr hf, e2, hc, Cell.low_of_flat hc])]
  simp [hr]

/-! ### Numbers in cells -/

def encI (l : List Int) : List Cell := l.map fun n => .i .i64 n
theorem encI_length (l : List Int) : (encI l).length = l.length := by simp [encI]
theorem encI_set (l : List Int) (i : Nat) (x : Int) : (encI l).set i (.i .i64 x) = encI (l.set i x) := by simp [encI, List.map_set]
theorem encI_get (l : List Int) (i : Nat) : (encI l)[i]? = (l[i]?).map fun x => .i .i64 x := by simp [encI]
theorem encI_append (l m : List Int) : encI (l ++ m) = encI l ++ encI m := by simp [encI]
theorem noX_encI (l : List Int) : noX (encI l) = true := by simp [noX, encI, Cell.isX]
@[simp] theorem flats_encI {l : List Int} : flats (encI l) = true := by simp [flats, encI, Cell.flat]
theorem encI_inj {l m : List Int} : encI l = encI m ↔ l = m := by
  constructor
  · intro h
    exact List.map_inj_right (fun x y e => by simpa using e) |>.1 h
  · rintro rfl; rfl

def encS (l : List (List UInt8)) : List Cell := l.map .s
theorem encS_length (l : List (List UInt8)) : (encS l).length = l.length := by simp [encS]
theorem noX_encS (l : List (List UInt8)) : noX (encS l) = true := by simp [noX, encS, Cell.isX]
@[simp] theorem flats_encS {l : List (List UInt8)} : flats (encS l) = true := by simp [flats, encS, Cell.flat]

/-! ### What is known of a function -/

abbrev Fun := List Val → Heap → Option (Val × Heap)
abbrev SmV := Sm (Val × Heap)
abbrev OptV := Option (Val × Heap)

def SOk (P : Program) (f : FuncId) (S : Fun) : Prop := ∀ args h v h2, S args h = some (v, h2) → Callable P f ∧ CallOk P f args h v h2 ∧ h.length ≤ h2.length

/-- The functions that one calls. -/
def disp (g : Nat) (S : Fun) (E : Sums) : Sums := fun f args h => bif Nat.beq f g then S args h else E f args h
def disp0 : Sums := fun _ _ _ => none
theorem sound0 {P : Program} : Sound P disp0 := fun _ _ _ _ _ h => by cases h
theorem sound1 {P : Program} {g : Nat} {S : Fun} {E : Sums} (hs : SOk P g S) (hE : Sound P E) : Sound P (disp g S E) := by
  intro f args h v h2 he
  unfold disp at he
  cases hb : Nat.beq f g with
  | true => rw [hb] at he; have e := Nat.eq_of_beq_eq_true hb; subst e; exact hs args h v h2 he
  | false => rw [hb] at he; exact hE f args h v h2 he

structure FnK (P : Program) (f : FuncId) (A : AFn) (E : Sums) (R : Nat → Fun) : Prop where
  run : ∀ n args h, A.run E n args h = R n args h
  ok : SOk P f (Lim A E)

theorem FnK.mk' {P : Program} {f : FuncId} {fn : Func} {A : AFn} {E : Sums} {R : Nat → Fun} (hE : Sound P E) (hf : P.funcs[f]? = some fn) (hc : chkFn P fn A = true) (hr : ∀ n args h, A.run E n args h = R n args h) : FnK P f A E R :=
  ⟨hr, fun _ _ _ _ he => (Lim_run he).elim fun _ e => fn_ok hE hf hc e⟩

section
variable {P : Program} {f : FuncId} {A : AFn} {E : Sums} {R : Nat → Fun}

theorem FnK.of (K : FnK P f A E R) {n : Nat} {args : List Val} {h : Heap} {p : Val × Heap} (he : R n args h = some p) : Lim A E args h = some p := Lim_of ((K.run ..).trans he)
theorem FnK.sok (K : FnK P f A E R) : SOk P f (tidy (Lim A E)) := fun args h v h2 he => tidy_ok K.ok args h v h2 he
theorem FnK.flat (K : FnK P f A E R) {n : Nat} {args : List Val} {h h2 : Heap} {v : Val} (he : R n args (ro h) = some (v, h2)) (hf : v.flat = true) : tidy (Lim A E) args h = some (v, h) := tidy_flat (K.of he) hf
theorem FnK.low (K : FnK P f A E R) {n : Nat} {args : List Val} {h h2 : Heap} {v : Val} (he : R n args (ro h) = some (v, h2)) (hf : v.low h.length = true) : tidy (Lim A E) args h = some (v, h) := tidy_low (K.of he) hf
theorem FnK.out (K : FnK P f A E R) {n : Nat} {args : List Val} {h h2 : Heap} {v : Val} {sz k : Nat} {cs : List Cell} (he : R n args (ro h) = some (v, h2)) (ho : Out h.length h2 v sz k cs) (hf : flats cs = true) : tidy (Lim A E) args h = some (.c (.sl h.length 0 k sz), h ++ [some ⟨cs, true⟩]) := tidy_out (K.of he) ho hf
theorem FnK.out2 (K : FnK P f A E R) {n : Nat} {args : List Val} {h h2 : Heap} {i : Nat} {c : Cell} {sz k : Nat} {cs : List Cell} (he : R n args (ro h) = some (.t [.c (.sl i 0 k sz), .c c], h2)) (ho : Out h.length h2 (.c (.sl i 0 k sz)) sz k cs) (hf : flats cs = true) (hc : c.flat = true) : Esc.tidy (Lim A E) args h = some (.t [.c (.sl h.length 0 k sz), .c c], h ++ [some ⟨cs, true⟩]) := tidy_out2 (K.of he) ho hf hc
theorem FnK.tidy (K : FnK P f A E R) {n : Nat} {args : List Val} {h h2 : Heap} {v v2 : Val} {ids : List Nat} (he : R n args (ro h) = some (v, h2)) (hc : canonV h2 h.length v = some (v2, ids)) : Esc.tidy (Lim A E) args h = some (v2, h ++ ids.map (rd h2)) := tidy_of (K.of he) hc
end

end Go.Esc
