/- Lists that rise: the plain law of sorting (no program in sight). -/
set_option linter.all false
namespace Go.Proofs.Ytbbkpmbepljhkaa

section
variable {α : Type} {lt : α → α → Prop}

theorem rise_ext (irr : ∀ a, ¬ lt a a) (tr : ∀ a b c, lt a b → lt b c → lt a c) : ∀ {l m : List α}, l.Pairwise lt → m.Pairwise lt → (∀ x, x ∈ l ↔ x ∈ m) → l = m
  | [], [], _, _, _ => rfl
  | [], y :: m, _, _, h => absurd ((h y).2 (List.mem_cons_self ..)) (by simp)
  | x :: l, [], _, _, h => absurd ((h x).1 (List.mem_cons_self ..)) (by simp)
  | x :: l, y :: m, hl, hm, h => by
    rw [List.pairwise_cons] at hl hm
    have e : x = y := by
      rcases List.mem_cons.1 ((h x).1 (List.mem_cons_self ..)) with e | h1
      · exact e
      · rcases List.mem_cons.1 ((h y).2 (List.mem_cons_self ..)) with e | h2
        · exact e.symm
        · exact absurd (tr _ _ _ (hm.1 x h1) (hl.1 y h2)) (irr y)
    subst e
    rw [rise_ext irr tr hl.2 hm.2 fun z => ?_]
    constructor
    · intro hz
      rcases List.mem_cons.1 ((h z).1 (List.mem_cons_of_mem _ hz)) with e | h1
      · subst e; exact absurd (hl.1 z hz) (irr z)
      · exact h1
    · intro hz
      rcases List.mem_cons.1 ((h z).2 (List.mem_cons_of_mem _ hz)) with e | h1
      · subst e; exact absurd (hm.1 z hz) (irr z)
      · exact h1

/-- A place in a list: all ahead are less, none from there on is. -/
theorem rise_insert (tr : ∀ a b c, lt a b → lt b c → lt a c) (tot : ∀ a b, lt a b ∨ a = b ∨ lt b a) {l : List α} {x : α} {p : Nat} (hl : l.Pairwise lt) (hx : x ∉ l) (h1 : ∀ y ∈ l.take p, lt y x) (h2 : ∀ y ∈ l.drop p, ¬ lt y x) :
    (l.take p ++ x :: l.drop p).Pairwise lt := by
  have hl' := hl
  rw [← List.take_append_drop p l] at hl'
  rw [List.pairwise_append] at hl'
  obtain ⟨k1, k2, k3⟩ := hl'
  rw [List.pairwise_append]
  refine ⟨k1, ?_, ?_⟩
  · rw [List.pairwise_cons]
    refine ⟨fun y hy => ?_, k2⟩
    rcases tot x y with h | h | h
    · exact h
    · subst h; exact absurd (List.mem_of_mem_drop hy) hx
    · exact absurd h (h2 y hy)
  · intro a ha b hb
    rcases List.mem_cons.1 hb with e | hb
    · subst e; exact h1 a ha
    · exact k3 a ha b hb

theorem mem_insert {l : List α} {x y : α} {p : Nat} : y ∈ l.take p ++ x :: l.drop p ↔ y = x ∨ y ∈ l := by
  have e : y ∈ l ↔ y ∈ l.take p ∨ y ∈ l.drop p := by rw [← List.mem_append, List.take_append_drop]
  rw [List.mem_append, List.mem_cons, e]
  constructor
  · rintro (h | h | h)
    · exact .inr (.inl h)
    · exact .inl h
    · exact .inr (.inr h)
  · rintro (h | h | h)
    · exact .inr (.inl h)
    · exact .inl h
    · exact .inr (.inr h)

end

end Go.Proofs.Ytbbkpmbepljhkaa
