/- Bits and bytes of numbers. -/
import Derived.Test.YtbbkpmbepljhkaaEscS
set_option linter.all false
namespace Go.Esc
open Go

theorem Has.tr {h : Heap} {id sz n : Nat} {cs : List Cell} (hr : rd h id = some ⟨cs, true⟩) (hl : cs.length = n * sz) (hx : noX cs = true) : Has h (.c (.sl id 0 n sz)) sz n cs := Has.row hr hl hx

/-! ### Loops that append -/

theorem Has.since {g h : Heap} {v : Val} {sz n : Nat} {cs : List Cell} (hv : Has g v sz n cs) (h1 : Low g.length g h) : Has h v sz n cs := by
  rcases hv with hv | ⟨id, off, r, rfl, hr, h2⟩
  · exact .inl hv
  · exact .inr ⟨id, off, r, rfl, by rw [h1.2.2 id (rd_lt hr)]; exact hr, h2⟩

theorem Low.rd {g h : Heap} (h1 : Low g.length g h) {id : Nat} {r : Row} (hr : rd g id = some r) : rd h id = some r := by
  rw [h1.2.2 id (rd_lt hr)]; exact hr

theorem push {g h : Heap} {id n sz : Nat} {cs ys : List Cell} (hlow : Low g.length g h) (hr : rd h id = some ⟨cs, true⟩) (hl : cs.length = n * sz) (hb : g.length ≤ id) (hy : ys.length = sz) (hsz : 0 < sz) (hn : n + 1 ≤ 1073741824) :
    ∃ h', aapp (h ++ [some ⟨ys, true⟩]) sz (.c (.sl id 0 n sz)) (.c (.sl h.length 0 1 sz)) = some (.c (.sl (h.length + 1) 0 (n + 1) sz), h') ∧ rd h' (h.length + 1) = some ⟨cs ++ ys, true⟩ ∧ Low g.length g h' ∧ g.length ≤ h.length + 1 ∧ (cs ++ ys).length = (n + 1) * sz := by
  have hlt := rd_lt hr
  have h1 : rd (h ++ [some ⟨ys, true⟩]) id = some ⟨cs, true⟩ := rd_append hr
  have h2 : addcells (h ++ [some ⟨ys, true⟩]) sz (.c (.sl h.length 0 1 sz)) = some ys := by
    have := (Has.row (h := h ++ [some ⟨ys, true⟩]) (id := h.length) (sz := sz) (n := 1) (cs := ys) (rw := true) (by simp) (by omega))
    simp [addcells, slcells, hy, List.take_of_length_le (Nat.le_of_eq hy)]
  refine ⟨(h ++ [some (Row.mk ys true)]).set id none ++ [some (Row.mk (cs ++ ys) true)], ?_, ?_, ((hlow.new _).set hb none).new _, by have := hlow.2.1; omega, by simp [hl, hy, Nat.add_mul]⟩
  · simp only [aapp, h2, h1, Option.bind_some, hy, Nat.div_self hsz]
    rw [if_pos ⟨trivial, trivial, hl.symm, trivial, hn⟩]
    simp
  · have := rd_new (h := (h ++ [some (Row.mk ys true)]).set id none) (r := Row.mk (cs ++ ys) true)
    rw [List.length_set] at this
    simpa using this

/-! ### Rows behind others, as simp reads and writes them -/

def ldN (r : Option Row) (off n : Nat) : Option Val := r.bind fun r => if off + n ≤ r.cells.length ∧ (r.rw || noX ((r.cells.drop off).take n)) = true then some (.a ((r.cells.drop off).take n)) else none
def ld1 (r : Option Row) (off : Nat) : Option Val := r.bind fun r => (r.cells[off]?).bind fun c => bif r.rw || !c.isX then some (.c c) else none
def stN (r : Option Row) (off n : Nat) (xs : List Cell) : Option Row := r.bind fun r => if r.rw = true ∧ xs.length = n ∧ off + n ≤ r.cells.length then some ⟨lay r.cells off xs, true⟩ else none
def st1 (r : Option Row) (off : Nat) (x : Cell) : Option Row := r.bind fun r => if r.rw = true ∧ off < r.cells.length then some ⟨r.cells.set off x, true⟩ else none
def slr (r : Option Row) (id off n sz : Nat) : Option Val := r.bind fun r => if off + n * sz ≤ r.cells.length then some (.c (.sl id off n sz)) else none

section
variable {h : Heap} {l : List (Option Row)} {k off n sz : Nat} {cs xs : List Cell} {x : Cell} {kd : IntKind}
theorem aloadN_at : aloadN (h ++ l) n (.c (.p (h.length + k) off)) = ldN (l[k]?).join off n := by simp [aloadN, ldN]
theorem aloadN_at0 : aloadN (h ++ l) n (.c (.p h.length off)) = ldN (l[0]?).join off n := by simp [aloadN, ldN]
theorem aload1_at : aload1 (h ++ l) (.c (.p (h.length + k) off)) = ld1 (l[k]?).join off := by simp [aload1, ld1]
theorem aload1_at0 : aload1 (h ++ l) (.c (.p h.length off)) = ld1 (l[0]?).join off := by simp [aload1, ld1]
theorem astoreN_at : astoreN (h ++ l) n (.c (.p (h.length + k) off)) (.a xs) = mp (stN (l[k]?).join off n xs) fun r => h ++ l.set k (some r) := by
  simp only [astoreN, stN, rd_at]
  cases (l[k]?).join with
  | none => rfl
  | some r => simp only [Option.bind_some]; split <;> simp [mp]
theorem astoreN_at0 : astoreN (h ++ l) n (.c (.p h.length off)) (.a xs) = mp (stN (l[0]?).join off n xs) fun r => h ++ l.set 0 (some r) := astoreN_at (k := 0)
theorem astore1_at : astore1 (h ++ l) (.c (.p (h.length + k) off)) (.c x) = mp (st1 (l[k]?).join off x) fun r => h ++ l.set k (some r) := by
  simp only [astore1, st1, rd_at]
  cases (l[k]?).join with
  | none => rfl
  | some r => simp only [Option.bind_some]; split <;> simp [mp]
theorem astore1_at0 : astore1 (h ++ l) (.c (.p h.length off)) (.c x) = mp (st1 (l[0]?).join off x) fun r => h ++ l.set 0 (some r) := astore1_at (k := 0)
theorem aslA_at : aslA (h ++ l) n sz (.c (.p (h.length + k) off)) none none = slr (l[k]?).join (h.length + k) off n sz := by
  simp [aslA, slr, bound]
theorem aslA_at0 : aslA (h ++ l) n sz (.c (.p h.length off)) none none = slr (l[0]?).join h.length off n sz := aslA_at (k := 0)
theorem ldN_all (hl : cs.length = n) : ldN (some ⟨cs, true⟩) 0 n = some (.a cs) := by
  subst hl; simp [ldN]
theorem ld1_row : ld1 (some ⟨cs, true⟩) off = (cs[off]?).map .c := by
  simp only [ld1, Option.bind_some, Bool.true_or, cond_true]
  cases cs[off]? <;> rfl
theorem stN_all (hl : cs.length = n) (hx : xs.length = n) : stN (some ⟨cs, true⟩) 0 n xs = some ⟨xs, true⟩ := by
  simp only [stN, Option.bind_some]
  rw [if_pos ⟨trivial, hx, by omega⟩, lay_all (by omega)]
theorem st1_row (ho : off < cs.length) : st1 (some ⟨cs, true⟩) off x = some ⟨cs.set off x, true⟩ := by
  simp only [st1, Option.bind_some]
  rw [if_pos ⟨trivial, ho⟩]
theorem slr_all (hl : cs.length = n) {id : Nat} {rw : Bool} : slr (some ⟨cs, rw⟩) id 0 n 1 = some (.c (.sl id 0 n 1)) := by
  simp only [slr, Option.bind_some]
  rw [if_pos (by omega)]
theorem addr_lit {id : Nat} {j : Nat} : aiAddrA n sz (.c (.p id off)) (.c (.i kd (OfNat.ofNat j))) = if j < n then some (.c (.p id (off + j * sz))) else none := by
  simp only [aiAddrA]
  have e : (OfNat.ofNat j : Int) = (j : Int) := rfl
  rw [e]
  by_cases h : j < n
  · rw [if_pos ⟨by omega, by omega⟩, if_pos h]; simp
  · rw [if_neg (by omega), if_neg h]
end

section
variable {k : IntKind} {a b : Int}
theorem abin_shl {k' : IntKind} (hb : 0 ≤ b) : abin .shl (.c (.i k a)) (.c (.i k' b)) = some (.c (.i k (k.wrap (a * 2 ^ (Nat.min b.toNat k.bits))))) := by
  simp only [abin, ishl]; rw [if_neg (by omega)]; rfl
theorem abin_shr {k' : IntKind} (hb : 0 ≤ b) : abin .shr (.c (.i k a)) (.c (.i k' b)) = some (.c (.i k (a / (2 ^ (Nat.min b.toNat k.bits))))) := by
  simp only [abin, ishr]; rw [if_neg (by omega), Int.fdiv_eq_ediv_of_nonneg _ (Int.pow_nonneg (by omega))]; rfl
end

theorem or_u64 {a b : Nat} (ha : a < 18446744073709551616) (hb : b < 18446744073709551616) : abin .or (.c (.i .u64 a)) (.c (.i .u64 b)) = some (.c (.i .u64 ((a ||| b : Nat) : Int))) := by
  rw [abin_or]
  congr 3
  have h1 : (IntKind.u64).bits = 64 := rfl
  have h2 : (a ||| b) < 2 ^ 64 := Nat.or_lt_two_pow (by simpa using ha) (by simpa using hb)
  rw [h1]
  simp only [BitVec.ofInt_natCast, BitVec.toNat_or, BitVec.toNat_ofNat]
  rw [Nat.mod_eq_of_lt (by simpa using ha), Nat.mod_eq_of_lt (by simpa using hb)]
  exact wrap_u64 (by omega) (by omega)

theorem or_i64 {a b : Nat} (ha : a < 9223372036854775808) (hb : b < 9223372036854775808) : abin .or (.c (.i .i64 a)) (.c (.i .i64 b)) = some (.c (.i .i64 ((a ||| b : Nat) : Int))) := by
  rw [abin_or]
  congr 3
  have h1 : (IntKind.i64).bits = 64 := rfl
  have h2 : (a ||| b) < 2 ^ 63 := Nat.or_lt_two_pow (by simpa using ha) (by simpa using hb)
  rw [h1]
  simp only [BitVec.ofInt_natCast, BitVec.toNat_or, BitVec.toNat_ofNat]
  rw [Nat.mod_eq_of_lt (by omega), Nat.mod_eq_of_lt (by omega)]
  exact wrap_i64 (by omega) (by omega)

theorem xor_u32 {a b : Nat} (ha : a < 4294967296) (hb : b < 4294967296) : abin .xor (.c (.i .u32 a)) (.c (.i .u32 b)) = some (.c (.i .u32 ((a ^^^ b : Nat) : Int))) := by
  rw [abin_xor]
  congr 3
  have h1 : (IntKind.u32).bits = 32 := rfl
  have h2 : (a ^^^ b) < 2 ^ 32 := Nat.xor_lt_two_pow (by simpa using ha) (by simpa using hb)
  rw [h1]
  simp only [BitVec.ofInt_natCast, BitVec.toNat_xor, BitVec.toNat_ofNat]
  rw [Nat.mod_eq_of_lt (by omega), Nat.mod_eq_of_lt (by omega)]
  exact wrap_u32 (by omega) (by omega)

theorem and_u32 {a b : Nat} (ha : a < 4294967296) (hb : b < 4294967296) : abin .and (.c (.i .u32 a)) (.c (.i .u32 b)) = some (.c (.i .u32 ((a &&& b : Nat) : Int))) := by
  rw [abin_and]
  congr 3
  have h1 : (IntKind.u32).bits = 32 := rfl
  have h2 : (a &&& b) ≤ a := Nat.and_le_left
  rw [h1]
  simp only [BitVec.ofInt_natCast, BitVec.toNat_and, BitVec.toNat_ofNat]
  rw [Nat.mod_eq_of_lt (by omega), Nat.mod_eq_of_lt (by omega)]
  exact wrap_u32 (by omega) (by omega)

theorem wrap_u8_mod {a : Int} : IntKind.wrap .u8 a = a % 256 := by
  simp only [IntKind.wrap, IntKind.bits, IntKind.signed, Bool.false_and]
  rfl

theorem or_add {a b i : Nat} (ha : a < 2 ^ i) : (a ||| b * 2 ^ i) = a + b * 2 ^ i := by
  rw [Nat.mul_comm b, Nat.or_comm, ← Nat.two_pow_add_eq_or_of_lt ha]; omega

/-! ### Numbers that need no wrapping -/

theorem wi_add {a b : Nat} (h : a + b < 9223372036854775808) : IntKind.wrap .i64 ((a : Int) + b) = ((a + b : Nat) : Int) := by rw [wrap_i64 (by omega) (by omega)]; omega
theorem wi_succ {a : Nat} (h : a + 1 < 9223372036854775808) : IntKind.wrap .i64 ((a : Int) + 1) = ((a + 1 : Nat) : Int) := by rw [wrap_i64 (by omega) (by omega)]; omega
theorem wi_mul {a b : Nat} (h : a * b < 9223372036854775808) : IntKind.wrap .i64 ((a : Int) * b) = ((a * b : Nat) : Int) := by
  have e : (a : Int) * b = ((a * b : Nat) : Int) := by simp
  rw [e, wrap_i64 (by omega) (by omega)]

/-- A byte is put in its place in a number. -/
theorem shl_step {k : IntKind} {x : UInt8} {i : Nat} (hi : i < 8) (hk : IntKind.wrap k ((x.toNat * 256 ^ i : Nat) : Int) = ((x.toNat * 256 ^ i : Nat) : Int)) (hb : k.bits = 64) :
    abin .shl (.c (.i k x.toNat)) (.c (.i .u64 (8 * (i : Int)))) = some (.c (.i k ((x.toNat * 256 ^ i : Nat) : Int))) := by
  rw [abin_shl (by omega), hb]
  have : Nat.min (8 * (i : Int)).toNat 64 = 8 * i := by
    have : (8 * (i : Int)).toNat = 8 * i := by omega
    rw [this]; exact Nat.min_eq_left (by omega)
  rw [this]
  have hp : (256 : Nat) ^ i = 2 ^ (8 * i) := by rw [Nat.pow_mul]
  have e : (x.toNat : Int) * 2 ^ (8 * i) = ((x.toNat * 256 ^ i : Nat) : Int) := by rw [hp]; simp
  rw [e, hk]

theorem pow256_le {i n : Nat} (h : i ≤ n) : 256 ^ i ≤ 256 ^ n := Nat.pow_le_pow_right (by omega) h
theorem byte_pow_lt {x : UInt8} {i n : Nat} (h : i < n) : x.toNat * 256 ^ i < 256 ^ n := by
  have h1 := x.toNat_lt
  have h2 : x.toNat * 256 ^ i ≤ 255 * 256 ^ i := Nat.mul_le_mul_right _ (by omega)
  have h3 : 256 ^ (i + 1) ≤ 256 ^ n := pow256_le h
  have h4 : 0 < 256 ^ i := Nat.pow_pos (by omega)
  rw [Nat.pow_succ] at h3
  omega
/-! ### Bytes -/

/-- A number's byte. -/
def byI (v : Int) (i : Nat) : UInt8 := UInt8.ofNat ((v / 256 ^ i) % 256).toNat

theorem byI_int (v : Int) (i : Nat) : ((byI v i).toNat : Int) = v / 256 ^ i % 256 := by
  have h1 : 0 ≤ v / 256 ^ i % 256 := Int.emod_nonneg _ (by omega)
  have h2 : v / 256 ^ i % 256 < 256 := Int.emod_lt_of_pos _ (by omega)
  unfold byI
  rw [UInt8.toNat_ofNat']
  omega

def bytesI (w : Nat) (v : Int) : List UInt8 := (List.range w).map (byI v)
@[simp] theorem bytesI_length {w : Nat} {v : Int} : (bytesI w v).length = w := by simp [bytesI]
theorem bytesI_succ {w : Nat} {v : Int} : bytesI (w + 1) v = bytesI w v ++ [byI v w] := by simp [bytesI, List.range_succ]

/-- The number that bytes are, the least part ahead. -/
def le : List UInt8 → Nat
  | [] => 0
  | x :: r => x.toNat + 256 * le r

theorem le_lt : ∀ l : List UInt8, le l < 256 ^ l.length
  | [] => by simp [le]
  | x :: r => by
    have h1 := le_lt r
    have h2 := x.toNat_lt
    simp only [le, List.length_cons, Nat.pow_succ]
    omega

theorem le_append (l m : List UInt8) : le (l ++ m) = le l + 256 ^ l.length * le m := by
  induction l with
  | nil => simp [le]
  | cons x r ih =>
    simp only [List.cons_append, le, ih, List.length_cons, Nat.pow_succ, Nat.mul_add]
    rw [Nat.mul_comm (256 ^ r.length) 256, Nat.mul_assoc]
    omega

theorem le_snoc (l : List UInt8) (x : UInt8) : le (l ++ [x]) = le l + x.toNat * 256 ^ l.length := by
  rw [le_append]; simp [le, Nat.mul_comm]

theorem or_step {l : List UInt8} {x : UInt8} : (le l ||| x.toNat * 256 ^ l.length) = le (l ++ [x]) := by
  have hp : (256 : Nat) ^ l.length = 2 ^ (8 * l.length) := by rw [Nat.pow_mul]
  rw [le_snoc, hp, or_add (by rw [← hp]; exact le_lt l)]

/-- The byte of a number, as the code takes it. -/
theorem byte_step {v : Int} {i : Nat} (hi : i < 8) : IntKind.wrap .u8 (v / 2 ^ (Nat.min (8 * (i : Int)).toNat 64)) = ((byI v i).toNat : Int) := by
  have : Nat.min (8 * (i : Int)).toNat 64 = 8 * i := by
    have : (8 * (i : Int)).toNat = 8 * i := by omega
    rw [this]; exact Nat.min_eq_left (by omega)
  rw [this, wrap_u8_mod, byI_int]
  congr 2
  rw [Int.pow_mul]; rfl

theorem take_succ_get {α : Type} {l : List α} {a i : Nat} (h : a + i < l.length) : (l.drop a).take (i + 1) = (l.drop a).take i ++ [l[a + i]] := by
  have h2 : i < (l.drop a).length := by simp; omega
  rw [List.take_succ_eq_append_getElem h2]
  simp

theorem le_bytesI (w : Nat) (v : Int) : (le (bytesI w v) : Int) = v % 256 ^ w := by
  induction w with
  | zero => simp [bytesI, le, Int.emod_one]
  | succ w ih =>
    rw [bytesI_succ, le_snoc]
    simp only [bytesI_length, Int.natCast_add, Int.natCast_mul, byI_int, ih]
    have h1 : (((256 : Nat) ^ w : Nat) : Int) = (256 : Int) ^ w := by simp
    rw [h1]
    have hp : (0 : Int) < 256 ^ w := Int.pow_pos (by omega)
    have h2 := Int.mul_ediv_add_emod v (256 ^ w)
    have h3 := Int.mul_ediv_add_emod (v / 256 ^ w) 256
    have h4 : v % 256 ^ w + v / 256 ^ w % 256 * 256 ^ w = v - (256 ^ (w + 1)) * (v / 256 ^ w / 256) := by
      rw [Int.pow_succ, Int.mul_assoc]
      have e : 256 ^ w * (256 * (v / 256 ^ w / 256)) + v / 256 ^ w % 256 * 256 ^ w = 256 ^ w * (v / 256 ^ w) := by
        rw [Int.mul_comm (v / 256 ^ w % 256), ← Int.mul_add, h3]
      omega
    have h5 : v / 256 ^ w / 256 = v / 256 ^ (w + 1) := by rw [Int.ediv_ediv_of_nonneg (Int.le_of_lt hp), Int.pow_succ]
    rw [h4, h5]
    have := Int.mul_ediv_add_emod v (256 ^ (w + 1))
    omega

/-- Bytes with others laid over them. -/
def layB (l : List UInt8) (a : Nat) (xs : List UInt8) : List UInt8 := l.take a ++ (xs ++ l.drop (a + xs.length))

theorem layB_length {l xs : List UInt8} {a : Nat} (h : a + xs.length ≤ l.length) : (layB l a xs).length = l.length := by
  simp [layB]; omega
theorem layB_nil {l : List UInt8} {a : Nat} : layB l a [] = l := by simp [layB]
theorem layB_snoc {l xs : List UInt8} {a : Nat} {x : UInt8} (h : a + xs.length < l.length) : (layB l a xs).set (a + xs.length) x = layB l a (xs ++ [x]) := by
  unfold layB
  have h1 : (l.take a).length = a := by simp; omega
  rw [List.set_append_right _ _ (by rw [h1]; omega), h1, Nat.add_sub_cancel_left, List.set_append_right _ _ (Nat.le_refl _), Nat.sub_self, List.append_assoc]
  congr 2
  rw [List.drop_eq_getElem_cons (by omega)]
  simp [Nat.add_assoc]
theorem layB_get {l xs : List UInt8} {a j : Nat} (h : a + xs.length ≤ l.length) : (layB l a xs)[j]? = if a ≤ j ∧ j < a + xs.length then xs[j - a]? else l[j]? := by
  unfold layB
  have h1 : (l.take a).length = a := by simp; omega
  by_cases h2 : j < a
  · rw [List.getElem?_append_left (by omega), if_neg (by omega), List.getElem?_take_of_lt h2]
  · rw [List.getElem?_append_right (by omega), h1]
    by_cases h3 : j < a + xs.length
    · rw [if_pos ⟨by omega, h3⟩, List.getElem?_append_left (by omega)]
    · rw [if_neg (by omega), List.getElem?_append_right (by omega), List.getElem?_drop]
      congr 1; omega
theorem layB_cut {l xs : List UInt8} {a : Nat} (h : a + xs.length ≤ l.length) : ((layB l a xs).drop a).take xs.length = xs := by
  unfold layB
  have h1 : (l.take a).length = a := by simp; omega
  rw [List.drop_left' h1, List.take_left' rfl]

/-! ### Texts and arrays -/

theorem idxS_of {s : List UInt8} {i : Nat} (hi : i < s.length) {k : IntKind} : aidxS (.c (.s s)) (.c (.i k i)) = some (.c (.i .u8 s[i].toNat)) := by
  rw [aidxS_s, List.getElem?_eq_getElem hi]; rfl

theorem encB_sh (l : List UInt8) : (encB l).map Cell.sh = (List.replicate l.length (Sh.i .u8)).map some := by
  induction l with
  | nil => rfl
  | cons x l ih => simp only [encB, List.map_cons, List.length_cons, List.replicate_succ] at ih ⊢; rw [ih]; rfl
theorem encI_sh (l : List Int) : (encI l).map Cell.sh = (List.replicate l.length (Sh.i .i64)).map some := by
  induction l with
  | nil => rfl
  | cons x l ih => simp only [encI, List.map_cons, List.length_cons, List.replicate_succ] at ih ⊢; rw [ih]; rfl

theorem aeq_t {l m : List UInt8} {n : Nat} (hl : l.length = n) (hm : m.length = n) : aeq true (List.replicate n (.i .u8)) (.a (encB l)) (.a (encB m)) = some (.c (.b (!decide (l = m)))) := by
  simp only [aeq]
  rw [if_pos ⟨by rw [encB_sh, hl], by rw [encB_sh, hm]⟩]
  simp [encB_inj]
theorem aeq_f {l m : List UInt8} {n : Nat} (hl : l.length = n) (hm : m.length = n) : aeq false (List.replicate n (.i .u8)) (.a (encB l)) (.a (encB m)) = some (.c (.b (decide (l = m)))) := by
  simp only [aeq]
  rw [if_pos ⟨by rw [encB_sh, hl], by rw [encB_sh, hm]⟩]
  simp [encB_inj]
theorem aeqI_t {l m : List Int} {n : Nat} (hl : l.length = n) (hm : m.length = n) : aeq true (List.replicate n (.i .i64)) (.a (encI l)) (.a (encI m)) = some (.c (.b (!decide (l = m)))) := by
  simp only [aeq]
  rw [if_pos ⟨by rw [encI_sh, hl], by rw [encI_sh, hm]⟩]
  simp [encI_inj]
theorem aeqI_f {l m : List Int} {n : Nat} (hl : l.length = n) (hm : m.length = n) : aeq false (List.replicate n (.i .i64)) (.a (encI l)) (.a (encI m)) = some (.c (.b (decide (l = m)))) := by
  simp only [aeq]
  rw [if_pos ⟨by rw [encI_sh, hl], by rw [encI_sh, hm]⟩]
  simp [encI_inj]

theorem slA_of {h : Heap} {l : List (Option Row)} {k n a b : Nat} {cs : List Cell} (hk : (l[k]?).join = some ⟨cs, true⟩) (hl : cs.length = n) (hab : a ≤ b) (hb : b ≤ n) :
    aslA (h ++ l) n 1 (.c (.p (h.length + k) 0)) (some (.c (.i .i64 (a : Int)))) (some (.c (.i .i64 (b : Int)))) = some (.c (.sl (h.length + k) a (b - a) 1)) := by
  simp only [aslA, rd_at, hk, Option.bind_some, bound]
  rw [if_pos (by omega), if_pos (by omega)]
  simp only [Option.bind_some, Int.toNat_natCast]
  rw [if_pos ⟨hab, hb, by omega⟩]
  simp
theorem Has.part {h : Heap} {id sz off n : Nat} {cs xs : List Cell} {rw : Bool} (hr : rd h id = some ⟨cs, rw⟩) (ho : off + n * sz ≤ cs.length) (he : (cs.drop off).take (n * sz) = xs) (hx : noX xs = true) : Has h (.c (.sl id off n sz)) sz n xs :=
  .inr ⟨id, off, _, rfl, hr, by rw [← he]; simp; omega, ho, he, hx⟩

theorem slL_of {id off n sz a b : Nat} (hab : a ≤ b) (hb : b ≤ n) : aslL sz (.c (.sl id off n sz)) (some (.c (.i .i64 (a : Int)))) (some (.c (.i .i64 (b : Int)))) = some (.c (.sl id (off + a * sz) (b - a) sz)) := by
  simp only [aslL, bound]
  rw [if_pos (by omega), if_pos (by omega)]
  simp only [Option.bind_some, Int.toNat_natCast]
  rw [if_pos ⟨hab, hb, trivial⟩]

def newOk : Option Row → Bool
  | some r => r.rw
  | none => true
theorem newOk_some {cs : List Cell} : newOk (some ⟨cs, true⟩) = true := rfl

theorem quiet_ext {g l l' : Heap} {v : Val} (hp : l <+: l') (hn : (l'.drop l.length).all newOk = true) : quiet (g ++ l) (some (v, g ++ l')) = some (v, g ++ l') := by
  obtain ⟨t, rfl⟩ := hp
  rw [List.drop_left] at hn
  refine quiet_grows ⟨⟨t, by rw [List.append_assoc]⟩, fun id x hid hx => ?_⟩
  have hx := rd_some.1 hx
  rw [← List.append_assoc, List.getElem?_append_right hid] at hx
  exact List.all_eq_true.1 hn _ (List.mem_of_getElem? hx)

theorem afAddr_p {id o off : Nat} : afAddr (.c (.p id o)) off = some (.c (.p id (o + off))) := Eq.trans rfl rfl

theorem rem_i {a b : Int} {k : IntKind} (ha : 0 ≤ a) (hb : 0 < b) : abin .rem (.c (.i k a)) (.c (.i k b)) = some (.c (.i k (a % b))) := by
  rw [abin_rem (by omega), Int.tmod_eq_emod_of_nonneg ha]
theorem quo_i64 {a b : Int} (ha : 0 ≤ a) (ha2 : a < 9223372036854775808) (hb : 0 < b) : abin .quo (.c (.i .i64 a)) (.c (.i .i64 b)) = some (.c (.i .i64 (a / b))) := by
  have h1 : 0 ≤ a / b := Int.ediv_nonneg ha (by omega)
  have h2 : a / b ≤ a := Int.ediv_le_self _ ha
  rw [abin_quo (by omega), Int.tdiv_eq_ediv_of_nonneg ha, wrap_i64 (by omega) (by omega)]

/-! ### Appends of more -/

theorem app_of {h : Heap} {id jd n m sz : Nat} {cs ys : List Cell} {rw : Bool} (hr : rd h id = some ⟨cs, true⟩) (hl : cs.length = n * sz) (hy : rd h jd = some ⟨ys, rw⟩) (hyl : ys.length = m * sz) (hx : (rw || noX ys) = true) (hsz : 0 < sz) (hn : n + m ≤ 1073741824) :
    aapp h sz (.c (.sl id 0 n sz)) (.c (.sl jd 0 m sz)) = some (.c (.sl h.length 0 (n + m) sz), h.set id none ++ [some ⟨cs ++ ys, true⟩]) := by
  have h2 : addcells h sz (.c (.sl jd 0 m sz)) = some ys := by
    simp only [addcells, if_true, slcells, hy, Option.bind_some, List.drop_zero, Nat.zero_add]
    rw [← hyl, List.take_length, if_pos ⟨Nat.le_refl _, hx⟩]
  have hd : ys.length / sz = m := by rw [hyl]; exact Nat.mul_div_cancel m hsz
  simp only [aapp, h2, hr, Option.bind_some, hd]
  rw [if_pos ⟨trivial, trivial, hl.symm, trivial, hn⟩]

theorem pushN {g h : Heap} {id n m sz : Nat} {cs ys : List Cell} (hlow : Low g.length g h) (hr : rd h id = some ⟨cs, true⟩) (hl : cs.length = n * sz) (hb : g.length ≤ id) (hy : ys.length = m * sz) (hsz : 0 < sz) (hn : n + m ≤ 1073741824) :
    ∃ h', aapp (h ++ [some ⟨ys, true⟩]) sz (.c (.sl id 0 n sz)) (.c (.sl h.length 0 m sz)) = some (.c (.sl (h.length + 1) 0 (n + m) sz), h') ∧ rd h' (h.length + 1) = some ⟨cs ++ ys, true⟩ ∧ Low g.length g h' ∧ g.length ≤ h.length + 1 ∧ (cs ++ ys).length = (n + m) * sz := by
  have hlt := rd_lt hr
  refine ⟨(h ++ [some (Row.mk ys true)]).set id none ++ [some (Row.mk (cs ++ ys) true)], ?_, ?_, ((hlow.new _).set hb none).new _, by have := hlow.2.1; omega, by simp [hl, hy, Nat.add_mul]⟩
  · rw [app_of (h := h ++ [some ⟨ys, true⟩]) (rd_append hr) hl rd_new hy rfl hsz hn]
    simp
  · have := rd_new (h := (h ++ [some (Row.mk ys true)]).set id none) (r := Row.mk (cs ++ ys) true)
    rw [List.length_set] at this
    simpa using this

/-- Zeros are appended. -/
theorem pushZ {g h : Heap} {id n m : Nat} {cs : List Cell} (hlow : Low g.length g h) (hr : rd h id = some ⟨cs, true⟩) (hl : cs.length = n) (hb : g.length ≤ id) (hn : n + m ≤ 1073741824) :
    ∃ h', aappZ h 1 [.i .u8 0] (.c (.sl id 0 n 1)) (.c (.i .i64 (m : Int))) = some (.c (.sl h.length 0 (n + m) 1), h') ∧ rd h' h.length = some ⟨cs ++ encB (zeros m), true⟩ ∧ Low g.length g h' ∧ g.length ≤ h.length := by
  have hlt := rd_lt hr
  have hm : nat? (.c (.i .i64 (m : Int))) = some m := by simp only [nat?]; rw [if_pos (by omega)]; simp
  have hz : rows [Cell.i .u8 0] m = encB (zeros m) := by
    unfold rows zeros
    clear hm hn
    induction m with
    | zero => rfl
    | succ n ih => rw [List.replicate_succ, List.flatten_cons, ih, List.replicate_succ]; rfl
  refine ⟨h.set id none ++ [some (Row.mk (cs ++ encB (zeros m)) true)], ?_, ?_, (hlow.set hb none).new _, by have := hlow.2.1; omega⟩
  · simp only [aappZ, hm, Option.bind_some, hr, hz]
    rw [if_pos ⟨trivial, trivial, by omega, trivial, hn⟩]
  · have := rd_new (h := h.set id none) (r := Row.mk (cs ++ encB (zeros m)) true)
    rw [List.length_set] at this
    exact this

end Go.Esc
