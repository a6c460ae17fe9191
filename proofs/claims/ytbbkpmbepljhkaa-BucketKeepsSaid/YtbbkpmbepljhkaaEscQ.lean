/- What each operation of the abstract evaluator computes at values that are told: rules for simp. -/
import Derived.Test.YtbbkpmbepljhkaaEscO
set_option linter.all false
namespace Go.Esc
open Go

/-- Steps one behind another (a name of its own: the rules for it are no definitions, so that no check has to compute). -/
def bnd {α β : Type} (x : Option α) (f : α → Option β) : Option β := x.bind f
def mp {α β : Type} (x : Option α) (f : α → β) : Option β := x.map f

@[congr] theorem bnd_cg {α β : Type} {x x' : Option α} {f : α → Option β} (h : x = x') : bnd x f = bnd x' f := by rw [h]
@[congr] theorem mp_cg {α β : Type} {x x' : Option α} {f : α → β} (h : x = x') : mp x f = mp x' f := by rw [h]
@[congr] theorem cnd_cg {R : Type} {v v' : Val} {a b : Option R} (h : v = v') : cnd v a b = cnd v' a b := by rw [h]
@[congr] theorem gd_cg {v v' : Val} {w : Bool} {a b : Option (Val × Heap)} (h : v = v') : gd v w a b = gd v' w a b := by rw [h]
@[congr] theorem agn_cg {R : Type} {x x' : Option Val} {v v' : Val} {k : Option R} (h : x = x') (h2 : v = v') : agn x v k = agn x' v' k := by rw [h, h2]
theorem agn_some {R : Type} {v : Val} {k : Option R} : agn (some v) v k = k := Eq.trans (if_pos rfl) rfl
@[simp] theorem bnd_some {α β : Type} {a : α} {f : α → Option β} : bnd (some a) f = f a := Eq.trans rfl rfl
@[simp] theorem mp_some {α β : Type} {a : α} {f : α → β} : mp (some a) f = some (f a) := Eq.trans rfl rfl

section
variable {R : Type} {k : IntKind} {a b : Int} {s t : List UInt8} {h : Heap}

@[simp] theorem alenS_s : alenS (.c (.s s)) = some (.c (.i .i64 s.length)) := rfl
@[simp] theorem alen_sl {id off len sz : Nat} : alen (.c (.sl id off len sz)) = some (.c (.i .i64 len)) := rfl
@[simp] theorem alen_ns : alen (.c .ns) = some (.c (.i .i64 0)) := rfl
@[simp] theorem abin_add : abin .add (.c (.i k a)) (.c (.i k b)) = some (.c (.i k (k.wrap (a + b)))) := by simp [abin, ibin]
@[simp] theorem abin_sub : abin .sub (.c (.i k a)) (.c (.i k b)) = some (.c (.i k (k.wrap (a - b)))) := by simp [abin, ibin]
@[simp] theorem abin_mul : abin .mul (.c (.i k a)) (.c (.i k b)) = some (.c (.i k (k.wrap (a * b)))) := by simp [abin, ibin]
@[simp] theorem abin_quo (hb : b ≠ 0) : abin .quo (.c (.i k a)) (.c (.i k b)) = some (.c (.i k (k.wrap (a.tdiv b)))) := by simp [abin, ibin, hb]
@[simp] theorem abin_rem (hb : b ≠ 0) : abin .rem (.c (.i k a)) (.c (.i k b)) = some (.c (.i k (a.tmod b))) := by simp [abin, ibin, hb]
theorem abin_and : abin .and (.c (.i k a)) (.c (.i k b)) = some (.c (.i k (k.wrap (BitVec.ofInt k.bits a &&& BitVec.ofInt k.bits b).toNat))) := by simp [abin, ibin]
theorem abin_or : abin .or (.c (.i k a)) (.c (.i k b)) = some (.c (.i k (k.wrap (BitVec.ofInt k.bits a ||| BitVec.ofInt k.bits b).toNat))) := by simp [abin, ibin]
theorem abin_xor : abin .xor (.c (.i k a)) (.c (.i k b)) = some (.c (.i k (k.wrap (BitVec.ofInt k.bits a ^^^ BitVec.ofInt k.bits b).toNat))) := by simp [abin, ibin]
@[simp] theorem abin_eql : abin .eql (.c (.i k a)) (.c (.i k b)) = some (.c (.b (decide (a = b)))) := by simp [abin, ibin]; rfl
@[simp] theorem abin_neq : abin .neq (.c (.i k a)) (.c (.i k b)) = some (.c (.b (decide (a ≠ b)))) := by simp [abin, ibin]; by_cases h : a = b <;> simp [h]
@[simp] theorem abin_lss : abin .lss (.c (.i k a)) (.c (.i k b)) = some (.c (.b (decide (a < b)))) := by simp [abin, ibin]
@[simp] theorem abin_leq : abin .leq (.c (.i k a)) (.c (.i k b)) = some (.c (.b (decide (a ≤ b)))) := by simp [abin, ibin]
@[simp] theorem abin_gtr : abin .gtr (.c (.i k a)) (.c (.i k b)) = some (.c (.b (decide (b < a)))) := by simp [abin, ibin]
@[simp] theorem abin_geq : abin .geq (.c (.i k a)) (.c (.i k b)) = some (.c (.b (decide (b ≤ a)))) := by simp [abin, ibin]
@[simp] theorem abin_seql : abin .eql (.c (.s s)) (.c (.s t)) = some (.c (.b (decide (s = t)))) := by simp [abin, sbin]; by_cases h : s = t <;> simp [h]
@[simp] theorem abin_sneq : abin .neq (.c (.s s)) (.c (.s t)) = some (.c (.b (decide (s ≠ t)))) := by simp [abin, sbin]; by_cases h : s = t <;> simp [h]
@[simp] theorem abin_slss : abin .lss (.c (.s s)) (.c (.s t)) = some (.c (.b (bless s t))) := by simp [abin, sbin]
@[simp] theorem aun_not {x : Bool} : aun .not (.c (.b x)) = some (.c (.b (!x))) := rfl
@[simp] theorem aeqN_nf {n : Bool} : aeqN true n (.c .nf) = some (.c (.b (!n))) := Eq.trans rfl rfl
@[simp] theorem aeqN_f {n : Bool} {f : Nat} {cs : List (Nat × Nat)} : aeqN true n (.c (.f f cs)) = some (.c (.b n)) := Eq.trans rfl rfl
@[simp] theorem aeqN_np {n : Bool} : aeqN false n (.c .np) = some (.c (.b (!n))) := Eq.trans rfl rfl
@[simp] theorem aeqN_p {n : Bool} {id off : Nat} : aeqN false n (.c (.p id off)) = some (.c (.b n)) := Eq.trans rfl rfl
@[simp] theorem anilc_p {id off : Nat} : anilc (.c (.p id off)) = some (.c (.p id off)) := Eq.trans rfl rfl
@[simp] theorem aun_neg : aun .neg (.c (.i k a)) = some (.c (.i k (k.wrap (0 - a)))) := rfl
@[simp] theorem aeqB_t {x y : Bool} : aeqB false (.c (.b x)) (.c (.b y)) = some (.c (.b (x == y))) := rfl
@[simp] theorem aeqB_f {x y : Bool} : aeqB true (.c (.b x)) (.c (.b y)) = some (.c (.b (!(x == y)))) := rfl
@[simp] theorem aconv_i {k' : IntKind} : aconv k (.c (.i k' a)) = some (.c (.i k (k.wrap a))) := rfl
@[simp] theorem apick_b {x : Bool} {u v : Val} : apick (.c (.b x)) u v = some (bif x then u else v) := rfl
@[simp] theorem gd_no {w : Bool} {u v : Option (Val × Heap)} : gd .no w u v = v := Eq.trans rfl rfl
@[simp] theorem gd_tt {u v : Option (Val × Heap)} : gd (.c (.b true)) true u v = u := Eq.trans rfl rfl
@[simp] theorem gd_tf {u v : Option (Val × Heap)} : gd (.c (.b true)) false u v = v := Eq.trans rfl rfl
@[simp] theorem gd_ft {u v : Option (Val × Heap)} : gd (.c (.b false)) true u v = v := Eq.trans rfl rfl
@[simp] theorem gd_ff {u v : Option (Val × Heap)} : gd (.c (.b false)) false u v = u := Eq.trans rfl rfl
@[simp] theorem cnd_t {u v : Option R} : cnd (.c (.b true)) u v = u := Eq.trans rfl rfl
@[simp] theorem cnd_f {u v : Option R} : cnd (.c (.b false)) u v = v := Eq.trans rfl rfl
@[simp] theorem aidxS_s {i : Nat} : aidxS (.c (.s s)) (.c (.i k i)) = (s[i]?).map fun b => .c (.i .u8 b.toNat) := by simp [aidxS]
@[simp] theorem aext_t {l : List Part} {i : Nat} : aext (.t l) i = (l[i]?).map ofPart := rfl
@[simp] theorem ofPart_c {x : Cell} : ofPart (.c x) = .c x := rfl
@[simp] theorem ofPart_a {l : List Cell} : ofPart (.a l) = .a l := rfl
@[simp] theorem part?_c {x : Cell} : part? (.c x) = some (.c x) := rfl
@[simp] theorem part?_a {l : List Cell} : part? (.a l) = some (.a l) := rfl
@[simp] theorem cells?_c {x : Cell} : cells? (.c x) = some [x] := rfl
@[simp] theorem cells?_a {l : List Cell} : cells? (.a l) = some l := rfl
@[simp] theorem tupN_2 {u v : Option Val} : tupN [u, v] h = bnd u fun u => bnd (part? u) fun p => bnd v fun v => bnd (part? v) fun q => some (.t [p, q], h) := by
  cases u with
  | none => rfl
  | some u => cases v with
    | none => cases hu : part? u <;> simp [tupN, tupgo, hu] <;> rfl
    | some v => cases hu : part? u <;> cases hv : part? v <;> simp [tupN, tupgo, hu, hv] <;> rfl
@[simp] theorem tupN_3 {u v w : Option Val} : tupN [u, v, w] h = bnd u fun u => bnd (part? u) fun p => bnd v fun v => bnd (part? v) fun q => bnd w fun w => bnd (part? w) fun r => some (.t [p, q, r], h) := by
  cases u with
  | none => rfl
  | some u => cases v with
    | none => cases hu : part? u <;> simp [tupN, tupgo, hu] <;> rfl
    | some v => cases w with
      | none => cases hu : part? u <;> cases hv : part? v <;> simp [tupN, tupgo, hu, hv] <;> rfl
      | some w => cases hu : part? u <;> cases hv : part? v <;> cases hw : part? w <;> simp [tupN, tupgo, hu, hv, hw] <;> rfl

theorem wrap_i64 (h1 : -9223372036854775808 ≤ a) (h2 : a < 9223372036854775808) : IntKind.wrap .i64 a = a := by
  change (if (true && decide (a % 18446744073709551616 ≥ 9223372036854775808)) = true then a % 18446744073709551616 - 18446744073709551616 else a % 18446744073709551616) = a
  by_cases h : a % 18446744073709551616 ≥ 9223372036854775808
  · simp only [h, decide_true, Bool.true_and, if_true]; omega
  · simp only [h, decide_false, Bool.and_false, Bool.false_eq_true, if_false]; omega
theorem wrap_u64 (h1 : 0 ≤ a) (h2 : a < 18446744073709551616) : IntKind.wrap .u64 a = a := by
  simp only [IntKind.wrap, IntKind.bits, IntKind.signed, Bool.false_and]
  have e1 : (2 : Int) ^ 64 = 18446744073709551616 := rfl
  rw [e1]
  simp only [Bool.false_eq_true, if_false]
  omega
theorem wrap_u32 (h1 : 0 ≤ a) (h2 : a < 4294967296) : IntKind.wrap .u32 a = a := by
  simp only [IntKind.wrap, IntKind.bits, IntKind.signed, Bool.false_and]
  have e1 : (2 : Int) ^ 32 = 4294967296 := rfl
  rw [e1]
  simp only [Bool.false_eq_true, if_false]
  omega
theorem wrap_u8 (h1 : 0 ≤ a) (h2 : a < 256) : IntKind.wrap .u8 a = a := by
  simp only [IntKind.wrap, IntKind.bits, IntKind.signed, Bool.false_and]
  have e1 : (2 : Int) ^ 8 = 256 := rfl
  rw [e1]
  simp only [Bool.false_eq_true, if_false]
  omega
end

/-! ### Rows -/

/-- New rows alone, all of which may be written. -/
theorem Grows.rfl' {h : Heap} : Grows h h := ⟨List.prefix_refl _, fun id x hid hx => by have := rd_lt hx; omega⟩

theorem Grows.trans' {a b c : Heap} (h1 : Grows a b) (h2 : Grows b c) : Grows a c := by
  refine ⟨h1.1.trans h2.1, fun id x hid hx => ?_⟩
  by_cases hb : b.length ≤ id
  · exact h2.2 id x hb hx
  · refine h1.2 id x hid ?_
    obtain ⟨t, rfl⟩ := h2.1
    rw [← hx]
    unfold rd
    rw [List.getElem?_append_left (by omega)]

theorem Grows.rd {a b : Heap} (h1 : Grows a b) {id : Nat} {r : Row} (hr : rd a id = some r) : rd b id = some r := by
  obtain ⟨t, rfl⟩ := h1.1
  rw [rd_append_left (rd_lt hr)]; exact hr

theorem Grows.len {a b : Heap} (h1 : Grows a b) : a.length ≤ b.length := h1.1.length_le

theorem Grows.new {a b : Heap} (h1 : Grows a b) (cs : List Cell) : Grows a (b ++ [some ⟨cs, true⟩]) := by
  refine h1.trans' ⟨List.prefix_append _ _, fun id x hid hx => ?_⟩
  unfold Go.Esc.rd at hx
  rw [List.getElem?_append_right hid] at hx
  cases hj : id - b.length with
  | zero => rw [hj] at hx; simp at hx; subst hx; rfl
  | succ j => rw [hj] at hx; simp at hx

/-- A new row is written: still but new rows. -/
theorem Grows.set {a b : Heap} (h1 : Grows a b) {id : Nat} (hid : a.length ≤ id) (cs : List Cell) : Grows a (b.set id (some ⟨cs, true⟩)) := by
  obtain ⟨⟨t, rfl⟩, h2⟩ := h1
  refine ⟨⟨t.set (id - a.length) (some ⟨cs, true⟩), by rw [List.set_append_right _ _ hid]⟩, fun i x hi hx => ?_⟩
  by_cases e : id = i
  · subst e
    have hl := rd_lt hx
    simp at hl
    rw [rd_set_same (by simpa using hl)] at hx
    cases hx; rfl
  · rw [rd_set_other e] at hx; exact h2 i x hi hx

theorem quiet_grows {h h' : Heap} {v : Val} (hg : Grows h h') : quiet h (some (v, h')) = some (v, h') := by
  unfold quiet
  simp only [Option.bind_some]
  rw [if_pos]
  exact hg

theorem rd_new {h : Heap} {r : Row} : rd (h ++ [some r]) h.length = some r := by
  unfold rd; simp

theorem rd_more {h : Heap} {r : Row} {id : Nat} {x : Option Row} (hr : rd h id = some r) : rd (h ++ [x]) id = some r := by
  rw [rd_append_left (rd_lt hr)]; exact hr

section
variable {h : Heap} {id off n sz : Nat} {cs xs : List Cell} {x : Cell} {k : IntKind} {rw : Bool}

theorem load1_of (hr : rd h id = some ⟨cs, rw⟩) {c : Cell} (hc : cs[off]? = some c) (hd : (rw || !c.isX) = true) : aload1 h (.c (.p id off)) = some (.c c) := by
  simp [aload1, hr, hc, hd]
theorem loadN_of (hr : rd h id = some ⟨cs, rw⟩) (hl : off + n ≤ cs.length) (hd : (rw || noX ((cs.drop off).take n)) = true) : aloadN h n (.c (.p id off)) = some (.a ((cs.drop off).take n)) := by
  simp only [aloadN, hr, Option.bind_some]
  rw [if_pos ⟨hl, hd⟩]
theorem loadAll (hr : rd h id = some ⟨cs, true⟩) (hl : cs.length = n) : aloadN h n (.c (.p id 0)) = some (.a cs) := by
  rw [loadN_of hr (by omega) rfl, List.drop_zero, List.take_of_length_le (by omega)]
theorem store1_of (hr : rd h id = some ⟨cs, true⟩) (hl : off < cs.length) : astore1 h (.c (.p id off)) (.c x) = some (h.set id (some ⟨cs.set off x, true⟩)) := by
  simp [astore1, hr, hl]
theorem storeN_of (hr : rd h id = some ⟨cs, true⟩) (hx : xs.length = n) (hl : off + n ≤ cs.length) : astoreN h n (.c (.p id off)) (.a xs) = some (h.set id (some ⟨lay cs off xs, true⟩)) := by
  simp [astoreN, hr, hl, hx]
theorem lay_all (hx : xs.length = cs.length) : lay cs 0 xs = xs := by simp [lay, hx]
theorem storeAll (hr : rd h id = some ⟨cs, true⟩) (hl : cs.length = n) (hx : xs.length = n) : astoreN h n (.c (.p id 0)) (.a xs) = some (h.set id (some ⟨xs, true⟩)) := by
  rw [storeN_of hr hx (by omega), lay_all (by omega)]
theorem iAddrA_of {j : Nat} (hj : j < n) : aiAddrA n sz (.c (.p id off)) (.c (.i k j)) = some (.c (.p id (off + j * sz))) := by
  simp only [aiAddrA]
  rw [if_pos ⟨by omega, by omega⟩]; simp
theorem iAddrL_of {len j : Nat} (hj : j < len) : aiAddrL sz (.c (.sl id off len sz)) (.c (.i k j)) = some (.c (.p id (off + j * sz))) := by
  simp only [aiAddrL]
  rw [if_pos ⟨by omega, by omega, trivial⟩]; simp
theorem idxA1_of {l : List Cell} {j : Nat} (hj : j < n) : aidxA1 n (.a l) (.c (.i k j)) = (l[j]?).map .c := by
  simp only [aidxA1]
  rw [if_pos ⟨by omega, by omega⟩]; simp
end

theorem encB_set (l : List UInt8) (i : Nat) (x : UInt8) : (encB l).set i (.i .u8 x.toNat) = encB (l.set i x) := by simp [encB, List.map_set]
theorem encB_get (l : List UInt8) (i : Nat) : (encB l)[i]? = (l[i]?).map fun x => .i .u8 x.toNat := by simp [encB]
theorem encB_append (l m : List UInt8) : encB (l ++ m) = encB l ++ encB m := by simp [encB]
theorem encB_replicate (n : Nat) (x : UInt8) : encB (List.replicate n x) = List.replicate n (.i .u8 x.toNat) := by simp [encB]
theorem encB_drop (l : List UInt8) (n : Nat) : (encB l).drop n = encB (l.drop n) := by simp [encB]
theorem encB_take (l : List UInt8) (n : Nat) : (encB l).take n = encB (l.take n) := by simp [encB]
/-- Bytes that are nought. -/
def zeros (n : Nat) : List UInt8 := List.replicate n 0
@[simp] theorem zeros_length {n : Nat} : (zeros n).length = n := by simp [zeros]
theorem zeros_enc (n : Nat) : List.replicate n (Cell.i .u8 0) = encB (zeros n) := by simp [encB, zeros]
theorem noX_encB (l : List UInt8) : noX (encB l) = true := by simp [noX, encB, Cell.isX]
theorem encB_inj {l m : List UInt8} : encB l = encB m ↔ l = m := by
  constructor
  · intro h
    refine List.map_inj_right (fun x y e => ?_) |>.1 h
    simp at e
    exact UInt8.toNat_inj.1 (by omega)
  · rintro rfl; rfl

theorem rd_set_new {h : Heap} {id : Nat} {x : Option Row} (hr : id < h.length) : rd (h.set id x) id = x := rd_set_same hr

end Go.Esc
