/- What each abstract operation does is what the model's does: bytes of a string, marks, copy, equality of aggregates. -/
import Derived.Test.YtbbkpmbepljhkaaEscG
import Derived.Laws.StructEq
set_option linter.all false
namespace Go.Esc
open Go
section
variable {P : Program} {μ : Mu} {w : World}

/-- A mark on a block of a row that may be written. -/
theorem Inv.marked {Γ : Ctx} {h : Heap} {id b n : Nat} {r : Row} (hi : Inv Γ μ h w) (hr : rd h id = some r) (hrw : r.rw = true) (hm : μ id = some (b, n)) :
    ∃ w', (markStringish ⟨b, 0, none⟩).run P w = .ok () w' ∧ Inv Γ μ h w' ∧ ∀ off, (markStringish ⟨b, off, none⟩).run P w = .ok () w' := by
  have hrow := hi.rows id r hr
  unfold RowOk at hrow
  rw [hm] at hrow
  obtain ⟨C, elem, fz, h1, h2, h3, h4⟩ := hrow
  have hsh : w.shape? b = some (elem, n) := by simp [World.shape?, h1, h2]
  have hrun : ∀ off, (markStringish ⟨b, off, none⟩).run P w = .ok () (w.freeze ⟨b, n, none⟩ 1) := by
    intro off
    simp [markStringish, hsh]
  refine ⟨w.freeze ⟨b, n, none⟩ 1, hrun 0, ?_, hrun⟩
  have hheap : ∀ b', (w.freeze ⟨b, n, none⟩ 1).heap[b']? = if b = b' then some (.cells C elem (if fz.1 == fz.2 then (n, n + 1) else (min fz.1 n, max fz.2 (n + 1)))) else w.heap[b']? := by
    intro b'
    simp only [World.freeze, if_neg (show ¬ (1 : Nat) = 0 by omega), Array.getElem?_modify]
    split
    · rename_i e; subst e; rw [h1]; simp
    · rfl
  have hother : ∀ b', b' ≠ b → (w.freeze ⟨b, n, none⟩ 1).heap[b']? = w.heap[b']? := fun b' hb => by rw [hheap, if_neg (Ne.symm hb)]
  have := hi.write hr hrw hm (w' := w.freeze ⟨b, n, none⟩ 1) (cs := r.cells) rfl rfl rfl hother (by
    unfold RowOk
    rw [hm]
    refine ⟨C, elem, _, by rw [hheap, if_pos rfl], h2, (hrw ▸ h3 : All2 (RL μ true) _ _), fun _ => .inr ?_⟩
    have h5 := h4 hrw
    split
    · exact Nat.le_refl _
    · rename_i hne
      rcases h5 with h5 | h5
      · simp [h5] at hne
      · show n ≤ min fz.1 n; omega)
  have e : h.set id (some ⟨r.cells, true⟩) = h := by
    apply List.ext_getElem?
    intro j
    by_cases hj : id = j
    · subst hj
      rw [List.getElem?_set_self (rd_lt hr)]
      rw [rd_some] at hr
      rw [hr, ← hrw]
    · rw [List.getElem?_set_ne hj]
  rwa [e] at this

theorem run_mark {Γ : Ctx} {s e : TypeId} {h : Heap} {x v : Val} {X : Value} (hi : Inv Γ μ h w) (hs : sliceB P s = some e) (he : intB P e = some .u8) (hx : RV μ x X) (hc : amark h x = some v) :
    ∃ w', (convert s s X).run P w = .ok X w' ∧ v = x ∧ Inv Γ μ h w' := by
  unfold amark at hc
  split at hc
  · rename_i id off len sz
    simp only [Option.bind_eq_some_iff] at hc
    obtain ⟨r, hr, hc⟩ := hc
    split at hc
    · cases hc
      rename_i hcond
      rcases hx with ⟨b, m, cap, hm, hlc, hcap, rfl⟩ | ⟨h0, a, rfl⟩
      · obtain ⟨w', h1, h2, h3⟩ := hi.marked (P := P) hr hcond.1 hm
        exact ⟨w', by simp [convert, run_und (sliceB_und hs), run_und (intB_und he), h3 off], rfl, h2⟩
      · omega
    · cases hc
  · cases hc

theorem run_s2b {Γ : Ctx} {h : Heap} {n0 : Nat} {slot : Option Nat} {s d e : TypeId} {l : List UInt8} (hi : Inv Γ μ h w) (hsl : SlotOk μ h n0 slot) (hs : stringB P s = true) (hd : sliceB P d = some e) (he : intB P e = some .u8) (hl : l.length ≤ 1073741824) :
    ∃ V w' μ', (convert s d (.string ⟨l.toArray⟩)).run P w = .ok V w' ∧ μ.le μ' ∧ RV μ' (.c (.sl (anew h n0 slot ⟨encB l, true⟩).1 0 l.length 1)) V ∧ Inv Γ μ' (anew h n0 slot ⟨encB l, true⟩).2 w' ∧ Keeps μ μ' h n0 slot := by
  have hsz : (ByteArray.mk l.toArray).size = l.length := by show l.toArray.size = _; simp
  have hcap : l.length ≤ (Question.appendCap l.length 0 e).cut (w.tape w.drawn (.appendCap l.length 0 e)) := by show l.length ≤ l.length + _ % _; omega
  generalize hk : (Question.appendCap l.length 0 e).cut (w.tape w.drawn (.appendCap l.length 0 e)) = cap at hcap
  have hC : ((l.toArray.map fun (b : UInt8) => Value.int .u8 b.toNat) ++ Array.replicate (cap - l.length) (Value.int .u8 0)).toList = (l.map fun (b : UInt8) => Value.int .u8 b.toNat) ++ List.replicate (cap - l.length) (Value.int .u8 0) := by simp
  have hw : Inv Γ μ h w.drew := hi.world rfl rfl rfl fun _ _ => rfl
  have hn := new_ok (t := e) hw hsl (cs := encB l) (C := (l.map fun (b : UInt8) => Value.int .u8 b.toNat) ++ List.replicate (cap - l.length) (Value.int .u8 0)) (by
    rw [show (encB l).length = (l.map fun (b : UInt8) => Value.int .u8 b.toNat).length by simp [encB], List.take_left]
    exact encB_ok l)
  have hsp := anew_spec (r := ⟨encB l, true⟩) hsl hi.dom
  obtain ⟨w', h1, h2, h3⟩ := hn.marked (P := P) hsp.2.2.2.2.2 rfl (add_same _ _ _)
  refine ⟨.slice (some ⟨w.heap.size, 0, none⟩) l.length cap, w', _, ?_, Mu.le_add hsp.1, .inl ⟨_, _, cap, add_same _ _ _, hcap, by simp; omega, rfl⟩, h2, Keeps.new⟩
  have h1 : (markStringish ⟨w.heap.size, 0, none⟩).run P (w.drew.alloc (.cells ((l.map fun (b : UInt8) => Value.int .u8 b.toNat) ++ List.replicate (cap - l.length) (Value.int .u8 0)).toArray e)) = .ok () w' := h1
  rw [← hC, Array.toArray_toList] at h1
  have hfo : (Question.appendCap l.length 0 e).forced = false := rfl
  simp only [convert, Sem.run_bind, run_und (stringB_und hs), Result.andThen_ok, run_und (sliceB_und hd), run_und (intB_und he), Conv.stringToBytes, run_choose, hsz, hfo, Bool.false_eq_true, if_false, hk, run_newRow]
  have hdr : ({ w with drawn := w.drawn + 1 } : World) = w.drew := rfl
  rw [hdr, h1]
  rfl

theorem run_copy {Γ : Ctx} {h h' : Heap} {s e yt ty : TypeId} {sz : Nat} {x y v : Val} {X Y : Value} (hi : Inv Γ μ h w) (hs : sliceB P s = some e) (hsz : sizeB P e = some sz) (hpos : sz ≠ 0) (hx : RV μ x X) (hy : RV μ y Y) (hc : acopy h sz x y = some (v, h')) :
    ∃ V w', (Builtin.copy_ #[s, yt] ty #[X, Y]).run P w = .ok V w' ∧ RV μ v V ∧ Inv Γ μ h' w' := by
  unfold acopy at hc
  split at hc
  · cases hc
  rename_i hnot
  simp only [Option.bind_eq_some_iff] at hc
  obtain ⟨ys, hys, hc⟩ := hc
  split at hc
  · rename_i id off len sz'
    simp only [Option.bind_eq_some_iff] at hc
    obtain ⟨r, hr, hc⟩ := hc
    split at hc
    · cases hc
      rename_i hcond
      obtain ⟨hrw, hfit, rfl⟩ := hcond
      -- the source
      have src : ∃ n vs, (Builtin.lenOf Y).run P w = .ok n w ∧ All2 (RC μ) ys vs ∧ vs.length = n * sz ∧ ∀ m, m ≤ n → (Builtin.firstCells sz m Y).run P w = .ok (vs.take (m * sz)).toArray w := by
        cases y with
        | c c =>
          cases c with
          | sl id2 off2 len2 sz2 =>
            simp only [addcells] at hys
            split at hys
            · rename_i hs2
              subst hs2
              obtain ⟨len', cap, a, vs, rfl, hvs, hlen, hnone, hcell⟩ := slcells_ok hi.rows hy hys
              have hl := hlen sz (fun _ _ _ _ h => by cases h; rfl)
              refine ⟨len', vs, rfl, hvs, hl, fun m hm => ?_⟩
              cases a with
              | none => have := hnone rfl; subst this; simp [Builtin.firstCells]
              | some b =>
                have hml : (vs.take (m * sz)).length = m * sz := by
                  have := Nat.mul_le_mul_right sz hm
                  simp; omega
                have := run_loadCells_list (P := P) w b (vs.take (m * sz)) (fun j v hv => hcell b rfl j v (by
                  have hj := (List.getElem?_eq_some_iff.1 hv).1
                  rw [List.getElem?_take_of_lt (by omega)] at hv; exact hv))
                rw [hml] at this
                simpa [Builtin.firstCells] using this
            · cases hys
          | ns =>
            simp only [addcells] at hys
            cases hys
            cases hy
            exact ⟨0, [], rfl, trivial, by simp, fun m hm => by simp [Builtin.firstCells]⟩
          | s l => exact absurd rfl (hnot l)
          | _ => simp [addcells] at hys
        | _ => simp [addcells] at hys
      obtain ⟨n, vs, hlen, hvs, hvl, hfirst⟩ := src
      have hyl : ys.length / sz = n := by rw [hvs.length, hvl]; exact Nat.mul_div_cancel _ (by omega)
      rw [hyl]
      have hf := hfirst (Nat.min n len) (Nat.min_le_left _ _)
      have hml : (ys.take (Nat.min n len * sz)).length = Nat.min n len * sz := by
        have h1 := hvs.length
        have h2 : Nat.min n len * sz ≤ n * sz := Nat.mul_le_mul_right sz (Nat.min_le_left n len)
        rw [List.length_take]; omega
      have hfit2 : off + (ys.take (Nat.min n len * sz)).length ≤ r.cells.length := by
        have h2 : Nat.min n len * sz ≤ len * sz := Nat.mul_le_mul_right sz (Nat.min_le_right n len)
        omega
      rcases hx with ⟨b, m, cap, hm, hlc, hcap, rfl⟩ | ⟨h0, a, rfl⟩
      · have hst := store_ok (P := P) hi hr hrw hm (off := off) (hvs.take (Nat.min n len * sz)) hfit2
        refine ⟨_, _, ?_, rfl, hst.2⟩
        simp [Builtin.copy_, run_und (sliceB_und hs), hlen, run_size hsz, hf, hst.1, goInt]
      · subst h0
        refine ⟨_, w, ?_, rfl, ?_⟩
        · have hz : (Builtin.firstCells sz 0 Y).run P w = .ok #[] w := by simpa using hfirst 0 (Nat.zero_le _)
          cases a <;> simp [Builtin.copy_, run_und (sliceB_und hs), hlen, run_size hsz, hz, goInt, storeCells]
        · have e0 : lay r.cells off (ys.take (Nat.min n 0 * sz)) = r.cells := by simp [lay]
          rw [e0]
          have e : h.set id (some ⟨r.cells, true⟩) = h := by
            apply List.ext_getElem?
            intro j
            by_cases hj : id = j
            · subst hj
              rw [List.getElem?_set_self (rd_lt hr)]
              rw [rd_some] at hr
              rw [hr, ← hrw]
            · rw [List.getElem?_set_ne hj]
          rw [e]; exact hi
    · cases hc
  · cases hc

end
end Go.Esc
