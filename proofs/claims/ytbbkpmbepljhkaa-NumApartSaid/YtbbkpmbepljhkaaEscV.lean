/- Arguments that are arrays of slices. -/
import Derived.Test.YtbbkpmbepljhkaaEscT
import Derived.SizedLaws
set_option linter.all false
namespace Go.Esc
open Go Go.ChangeShapes Go.WideShapes Go.ChangeAt Go.RowKit

section
variable {H : Type} {enc : TypeId × Value → H} {P : Program} {W : World} {base : Nat} {held : Bool} {t : TypeId}

theorem open_slice_cell {μ : Mu} {h : Heap} (ho : Opened W μ h) {n : Nat} {e : TypeId} {v : Value} {fuel : Nat} {x0 : DataW H × List MemPlace} {sh : List Sh} (ht : P.underlying t = some (.slice e)) (hs : shapes P n e = some sh) (hsl : sh.length = P.cellsOf e) (hpos : 0 < sh.length)
    (hf : DataW.trod enc P W base (fun _ => true) held fuel t [v] = some x0) :
    ∃ x μ' l len cells, μ.le μ' ∧ Opened W μ' (h ++ l) ∧ RC μ' x v ∧ Has (h ++ l) (.c x) sh.length len cells ∧ All2 okCell (List.replicate len sh).flatten cells ∧ len ≤ maxLen := by
  rcases Deep.open_slice ht hf with ⟨hc, _⟩ | ⟨a, len, cap, m, k, D, Pl, hc, hb, hl, hm, hmm, hx, hel⟩
  · simp only [List.cons.injEq, and_true] at hc
    subst hc
    exact ⟨.ns, μ, [], 0, [], Mu.le_refl _, by simpa using ho, rfl, .inl ⟨rfl, rfl, rfl⟩, by simp, Nat.zero_le _⟩
  · simp only [List.cons.injEq, and_true] at hc
    subst hc
    simp only [if_true] at hmm
    subst hmm
    rw [← hsl] at hel
    by_cases hm0 : m = 0
    · subst hm0
      have : len = 0 := by omega
      subst this
      obtain ⟨g1, g2⟩ := Inv.addRow ho.1 ho.2 (y := Option.none) (cs := []) (by unfold RowOk; simp [Mu.set])
      exact ⟨(.sl h.length 0 0 sh.length), _, [some ⟨[], false⟩], 0, [], Mu.le_set (ho.1.dom _ (Nat.le_refl _)), ⟨g1, g2⟩, .inr ⟨rfl, _, rfl⟩, .inr ⟨h.length, 0, ⟨[], false⟩, rfl, rd_new, by simp, by simp, by simp, rfl⟩, by simp, Nat.zero_le _⟩
    · obtain ⟨cs0, hc0, hr0⟩ := hel 0 (by omega)
      obtain ⟨_, hlen, hcell0⟩ := World.cells?_some hc0
      have hget : ∃ C elem fz, W.heap[a.block]? = some (.cells C elem fz) ∧ a.spot = none := by
        have := hcell0 0 hpos
        rw [List.getElem?_eq_getElem (by omega)] at this
        unfold World.cell? at this
        have hb0 : ((a.add (0 * sh.length)).add 0) = a := by simp [Addr.add]
        rw [hb0] at this
        split at this
        · rename_i C elem fz hh
          refine ⟨C, elem, fz, hh, ?_⟩
          split at this
          · cases this
          · rename_i hs2; cases hsp : a.spot with
            | none => rfl
            | some s => simp [hsp] at hs2
        · cases this
      obtain ⟨C, elem, fz, hC, hsp⟩ := hget
      have ha : a = ⟨a.block, a.off, none⟩ := by cases a; simp_all
      have hcellC : ∀ i j, i < m → j < sh.length → W.cell? ((a.add (i * sh.length)).add j) = C[a.off + (i * sh.length + j)]? := by
        intro i j _ _
        rw [Deep.add_add]
        exact cell_add hC hsp
      have hsize : a.off + m * sh.length ≤ C.size := by
        obtain ⟨cs1, hc1, _⟩ := hel (m - 1) (by omega)
        obtain ⟨_, hlen1, hcell1⟩ := World.cells?_some hc1
        have h1 := hcell1 (sh.length - 1) (by omega)
        rw [hcellC _ _ (by omega) (by omega), List.getElem?_eq_getElem (by omega)] at h1
        have h2 := (Array.getElem?_eq_some_iff.1 h1).1
        have e : (m - 1) * sh.length + (sh.length - 1) + 1 = m * sh.length := by
          obtain ⟨q, rfl⟩ : ∃ q, m = q + 1 := ⟨m - 1, by omega⟩
          rw [Nat.add_sub_cancel, Nat.add_mul]; omega
        omega
      have key : ∀ d j, j + d = len → ∃ cells, All2 (RC μ) cells ((C.toList.drop (a.off + j * sh.length)).take (d * sh.length)) ∧ All2 okCell (List.replicate d sh).flatten cells := by
        intro d
        induction d with
        | zero => intro j _; exact ⟨[], by simp, trivial⟩
        | succ d ih =>
          intro j hj
          obtain ⟨cs1, hc1, hr1⟩ := hel j (by omega)
          obtain ⟨_, hlen1, hcell1⟩ := World.cells?_some hc1
          obtain ⟨c1, g1, g2⟩ := open_leaves μ n hr1 hs
          obtain ⟨c2, g3, g4⟩ := ih (j + 1) (by omega)
          refine ⟨c1 ++ c2, ?_, by rw [List.replicate_succ, List.flatten_cons]; exact g2.append g4⟩
          have e1 : (C.toList.drop (a.off + j * sh.length)).take sh.length = cs1 := by
            refine List.ext_getElem? fun i => ?_
            by_cases hi : i < sh.length
            · rw [List.getElem?_take_of_lt hi, List.getElem?_drop, ← hcell1 i hi, hcellC j i (by omega) hi]
              simp [Nat.add_assoc]
            · rw [List.getElem?_eq_none (by simp; omega), List.getElem?_eq_none (by omega)]
          have e2 : (C.toList.drop (a.off + j * sh.length)).take ((d + 1) * sh.length) = cs1 ++ (C.toList.drop (a.off + (j + 1) * sh.length)).take (d * sh.length) := by
            rw [Nat.add_mul d 1, Nat.one_mul, Nat.add_comm (d * sh.length), List.take_add, e1, List.drop_drop, Nat.add_mul, Nat.one_mul, Nat.add_assoc]
          rw [e2]
          exact g1.append g3
      obtain ⟨cells, k1, k2⟩ := key len 0 (by omega)
      rw [Nat.zero_mul, Nat.add_zero] at k1
      have hcl : cells.length = len * sh.length := by
        have h1 := k1.length
        simp at h1
        have : len * sh.length ≤ m * sh.length := Nat.mul_le_mul_right _ hl
        omega
      have hmul : len * sh.length ≤ m * sh.length := Nat.mul_le_mul_right _ hl
      have hm' : μ h.length = none := ho.1.dom _ (Nat.le_refl _)
      obtain ⟨g1, g2⟩ := Inv.addRow ho.1 ho.2 (y := some (a.block, C.size)) (cs := List.replicate a.off .dark ++ cells) (by
        unfold RowOk
        simp only [Mu.set, if_true]
        refine ⟨C, elem, fz, hC, rfl, ?_, fun hf => by cases hf⟩
        have e3 : C.toList.take (List.replicate a.off Cell.dark ++ cells).length = C.toList.take a.off ++ (C.toList.drop a.off).take (len * sh.length) := by
          rw [List.length_append, List.length_replicate, List.take_add, hcl]
        rw [e3]
        refine All2.append ?_ (k1.mono fun c V hc => .inl (hc.mono (Mu.le_set hm')))
        refine All2.of_get (by simp; omega) fun i c V hc hV => .inr ⟨rfl, ?_⟩
        have := List.mem_of_getElem? hc
        rw [List.mem_replicate] at this
        rw [this.2]; rfl)
      refine ⟨(.sl h.length a.off len sh.length), _, [some ⟨List.replicate a.off .dark ++ cells, false⟩], len, cells, Mu.le_set hm', ⟨g1, g2⟩, .inl ⟨a.block, C.size, m, by simp [Mu.set], hl, hsize, by rw [← ha]⟩, .inr ⟨h.length, a.off, _, rfl, rd_new, hcl, ?_, ?_, (okCells_flats k2).2⟩, k2, by omega⟩
      · simp [hcl]
      · rw [List.drop_left' (by simp), List.take_of_length_le (by omega)]

theorem weightsAll_mem {e : TypeId} : ∀ {l : List (DataW H)} {y : DataW H} {z : Nat}, y ∈ l → z ∈ y.weights P e → z ∈ DataW.weightsAll P e l
  | x :: r, y, z, h, hz => by
    unfold DataW.weightsAll
    rcases List.mem_cons.1 h with rfl | h
    · exact List.mem_append_left _ hz
    · exact List.mem_append_right _ (weightsAll_mem h hz)

theorem slice_weight {e : TypeId} {v : Value} {fuel : Nat} {x0 : DataW H × List MemPlace} (ht : P.underlying t = some (.slice e)) (hf : DataW.trod enc P W base (fun _ => true) held fuel t [v] = some x0) {a : Option Addr} {len cap B : Nat} (hv : v = .slice a len cap) (hB : ∀ w ∈ x0.1.weights P t, w ≤ B) : len * P.bytesOf e ≤ B := by
  subst hv
  rcases Deep.open_slice ht hf with ⟨hc, _⟩ | ⟨a', len', cap', m, k, D, Pl, hc, hb, hl, hm, hmm, hx, hel⟩
  · simp only [List.cons.injEq, Value.slice.injEq, and_true] at hc
    obtain ⟨_, rfl, _⟩ := hc
    omega
  · simp only [List.cons.injEq, Value.slice.injEq, and_true] at hc
    obtain ⟨_, rfl, _⟩ := hc
    subst hx
    have := hB ((((List.range len).map D).length + ((List.range (m - len)).map fun j => D (len + j)).length) * P.bytesOf e) (by unfold DataW.weights; rw [ht]; exact List.mem_cons_self ..)
    simp only [List.length_map, List.length_range] at this
    have h2 : len * P.bytesOf e ≤ (len + (m - len)) * P.bytesOf e := Nat.mul_le_mul_right _ (by omega)
    omega

theorem trod_array_d {n : Nat} {e : TypeId} {fuel : Nat} {cs : List Value} {x : DataW H × List MemPlace} (ht : P.underlying t = some (.array n e)) (h : DataW.trod enc P W base (fun _ => true) held fuel t cs = some x) :
    ∃ (m : Nat) (xs : List (DataW H × List MemPlace)), cs.length = P.cellsOf t ∧ x.1 = .agg (xs.map (·.1)) ∧ ∀ i, i < n → ∃ y, DataW.trod enc P W base (fun _ => true) held m e ((cs.drop (i * P.cellsOf e)).take (P.cellsOf e)) = some y ∧ xs[i]? = some y := by
  cases fuel with
  | zero => simp [DataW.trod] at h
  | succ m =>
    unfold DataW.trod at h
    rw [ht] at h
    have h' : cs.length = P.cellsOf t ∧ ∃ xs, ((List.range n).mapM fun i => DataW.trod enc P W base (fun _ => true) held m e ((cs.drop (i * P.cellsOf e)).take (P.cellsOf e))) = some xs ∧ x.1 = .agg (xs.map (·.1)) := by
      split at h <;> simp_all
      obtain ⟨hl, xs, hp, hd⟩ := h
      exact ⟨xs, hp, by rw [← hd]⟩
    obtain ⟨hl, xs, hp, hd⟩ := h'
    refine ⟨m, xs, hl, hd, fun i hi => ?_⟩
    have := mapM_some_get hp i i (by simp [hi])
    rw [this]
    have hxl : xs.length = n := by simpa using mapM_some_length hp
    exact ⟨xs[i], List.getElem?_eq_getElem (by omega), List.getElem?_eq_getElem (by omega)⟩

theorem arg_twoB {μ : Mu} {h : Heap} (ho : Opened W μ h) {r : Reach} {b0 n : Nat} {s e : TypeId} {v : Value} {d : DataW H} {ps : List MemPlace} (hval : Value.okWide P W r b0 t v) (hd : DataW.Trod enc P W base (fun _ => true) held t v d ps)
    (ht : P.underlying t = some (.array 2 s)) (hct : P.cellsOf t = 2) (hts : P.underlying s = some (.slice e)) (hcs : P.cellsOf s = 1) (hs : shapes P n e = some [.i .u8]) (hsl : P.cellsOf e = 1) (hbe : P.bytesOf e = 1) (hW : ∀ w ∈ d.weights P t, w ≤ reachBytes) :
    ∃ x1 x2 μ' l n1 n2 p q, μ.le μ' ∧ Opened W μ' (h ++ l) ∧ RV μ' (.a [x1, x2]) v ∧ Has (h ++ l) (.c x1) 1 n1 (encB p) ∧ Has (h ++ l) (.c x2) 1 n2 (encB q) ∧ n1 ≤ reachBytes ∧ n2 ≤ reachBytes := by
  have hb : ∀ (len : Nat) (cells : List Cell), All2 okCell (List.replicate len [Sh.i .u8]).flatten cells → ∃ l : List UInt8, cells = encB l ∧ l.length = len := by
    intro len cells h5
    have e : (List.replicate len [Sh.i .u8]).flatten = List.replicate len (.i .u8) := by
      clear h5
      induction len with
      | zero => rfl
      | succ n ih => rw [List.replicate_succ, List.flatten_cons, ih, List.replicate_succ]; rfl
    rw [e] at h5
    exact ok_bytes h5
  obtain ⟨fuel, hf⟩ := hd
  obtain ⟨m, xs, hl, hd, hi⟩ := trod_array_d ht hf
  have hv : ∃ cs : Array Value, v = .agg cs := by
    unfold Value.okWide at hval
    rw [ht] at hval
    obtain ⟨cs, rfl, _, _⟩ := hval
    exact ⟨cs, rfl⟩
  obtain ⟨cs, rfl⟩ := hv
  have hc : (Value.agg cs).cells.toList = cs.toList := by simp [Value.cells]
  rw [hc] at hl hi
  rw [hct] at hl
  rw [hcs] at hi
  obtain ⟨v1, v2, hcs2⟩ : ∃ v1 v2, cs.toList = [v1, v2] := by
    match cs.toList, hl with
    | [v1, v2], _ => exact ⟨v1, v2, rfl⟩
  rw [hcs2] at hi
  obtain ⟨y1, f1, g1⟩ := hi 0 (by omega)
  obtain ⟨y2, f2, g2⟩ := hi 1 (by omega)
  obtain ⟨x1, μ1, l1, n1, cells1, a1, a2, a3, a4, a5, a6⟩ := open_slice_cell ho hts hs (by rw [hsl]; rfl) (by simp) (v := v1) f1
  obtain ⟨x2, μ2, l2, n2, cells2, b1, b2, b3, b4, b5, b6⟩ := open_slice_cell a2 hts hs (by rw [hsl]; rfl) (by simp) (v := v2) f2
  obtain ⟨p, rfl, _⟩ := hb _ _ a5
  obtain ⟨q, rfl, _⟩ := hb _ _ b5
  have wl : ∀ {y : DataW H × List MemPlace} {k : Nat} {w : Value} {x : Cell} {n : Nat} {cs : List Cell} {μ : Mu} {h : Heap}, xs[k]? = some y → DataW.trod enc P W base (fun _ => true) held m s [w] = some y → RC μ x w → Has h (.c x) 1 n cs → n ≤ reachBytes := by
    intro y k w x n cs μ h hk hy hx hh
    have hw : ∀ z ∈ y.1.weights P s, z ≤ reachBytes := by
      intro z hz
      refine hW z ?_
      simp only at hd
      rw [hd]
      unfold DataW.weights
      rw [ht]
      exact weightsAll_mem (List.mem_map.2 ⟨y, List.mem_of_getElem? hk, rfl⟩) hz
    rcases hh with ⟨ex, e0, _⟩ | ⟨id, off, r, ex, _⟩
    · omega
    · cases ex
      rcases hx with ⟨b, n', cap, _, _, _, ev⟩ | ⟨e0, _⟩
      · have := slice_weight hts hy ev hw
        rw [hbe] at this
        omega
      · omega
  refine ⟨x1, x2, μ2, l1 ++ l2, n1, n2, p, q, fun i y hy => b1 i y (a1 i y hy), by rw [← List.append_assoc]; exact b2, ⟨[v1, v2], by rw [← hcs2], ⟨RC.mono b1 a3, b3, trivial⟩⟩, by rw [← List.append_assoc]; exact a4.more l2, by rw [← List.append_assoc]; exact b4, wl g1 f1 a3 a4, wl g2 f2 b3 b4⟩
end

/-- A law's row, where the arguments' weights count. -/
theorem row_sized {C : Checked} {os : Os} {H : Type} {enc : TypeId × Value → H} {f : FuncId} {fn : Func} {s : ChangeSpec} {conds : List PathCond} {tb : TypeId}
    (own : ownKnob C.prog.godebug = none) (started : os.Started) (noInit : C.prog.inits.idxOf? f = none) (hfn : C.prog.funcs[f]? = some fn)
    (witness : ∃ (w : World) (tape : Tape) (i : Input), w.os = os ∧ (w.forCall tape i).Shaped C.prog ∧ i.vars = [] ∧ Input.okWide C.prog (w.forCall tape i) .any w.heap.size f i ∧
      s.pre6 enc C.prog fn conds false (w.forCall tape i).memory i.args ∧ Assume.holds {} C.prog (lone (Frame.enter C.prog f i.args .normal) [] (w.forCall tape i)))
    (hl : laidOutB C.prog = true) (hts : ∀ t ∈ fn.params.toList, C.prog.readableRec t = true ∧ t < C.prog.types.size) (hr : fn.resultTypes = #[tb]) (hb : C.prog.underlying tb = some .bool) (hv : s.vars = [])
    (hs : ∀ ds : List (DataW H), ds.length = fn.params.toList.length → s.fn H ds = { results := [.lit (.bool true)], args := ds })
    (walk : ∀ (W : World) (base : Nat) (args : Array Value) (ds gs : List (DataW H)) (ps : List MemPlace),
      (∀ (j : Nat) t v, fn.params[j]? = some t → args[j]? = some v → Value.okWide C.prog W .any base t v) →
      (DataW.weightsEach C.prog (fn.params.toList ++ s.plain.varTypes C.prog) (ds ++ gs)).all (· ≤ reachBytes) = true →
      DataW.TrodAll enc C.prog W 0 (fun _ => true) true fn.params.toList args.toList ds ps →
      ∃ vals h μ h', Inv (ctxOf W) μ h W ∧ All2 (RV μ) vals args.toList ∧ CallOk C.prog f vals h (.c (.b true)) h') :
    ReturnsInHanded {} C os f .any (s.pre6 enc C.prog fn conds false) (s.post enc C.prog fn false true false false) := by
  refine returnsInHanded_of_change_sized own started noInit hfn witness ?_
  intro W base args ds gs before hval hW _ hz _
  obtain ⟨p, q, hA, _⟩ := id hW
  obtain ⟨vals, h, μ, h', hi, hv2, hc⟩ := walk W base args ds gs p (fun j t v h1 h2 => hval j t v h1 h2) hz hA
  refine (hc (ctxOf W) μ W args.toList hi hv2).mono fun e W' ⟨V', μ', he, _, hV, hi', _⟩ => ?_
  have : V' = .bool true := hV
  subst this
  exact ⟨_, he, post_true hl hts hr hb hv hs hW (below_of_ctx hi'.ctx)⟩

end Go.Esc
