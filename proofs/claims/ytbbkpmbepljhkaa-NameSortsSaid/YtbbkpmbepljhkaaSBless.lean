/- The order of texts is one: of two unlike texts just one is less, and it goes on. -/
import Derived.Test.YtbbkpmbepljhkaaEscU
import Derived.Test.YtbbkpmbepljhkaaSRise
set_option linter.all false
namespace Go.Proofs.Ytbbkpmbepljhkaa
open Go Go.Esc

theorem bless_irr : ∀ a : List UInt8, bless a a = false
  | [] => rfl
  | x :: a => by simp [bless, bless_irr a, UInt8.lt_irrefl]
theorem bless_tr : ∀ {a b c : List UInt8}, bless a b = true → bless b c = true → bless a c = true
  | [], [], _, h, _ => by simp [bless] at h
  | [], _ :: _, [], _, h => by simp [bless] at h
  | [], _ :: _, _ :: _, _, _ => rfl
  | _ :: _, [], _, h, _ => by simp [bless] at h
  | _ :: _, _ :: _, [], _, h => by simp [bless] at h
  | x :: a, y :: b, z :: c, h1, h2 => by
    simp only [bless, Bool.or_eq_true, Bool.and_eq_true, decide_eq_true_eq, beq_iff_eq] at h1 h2 ⊢
    rcases h1 with h1 | ⟨rfl, h1⟩
    · rcases h2 with h2 | ⟨rfl, h2⟩
      · exact .inl (UInt8.lt_trans h1 h2)
      · exact .inl h1
    · rcases h2 with h2 | ⟨rfl, h2⟩
      · exact .inl h2
      · exact .inr ⟨rfl, bless_tr h1 h2⟩
theorem bless_tot : ∀ a b : List UInt8, bless a b = true ∨ a = b ∨ bless b a = true
  | [], [] => .inr (.inl rfl)
  | [], _ :: _ => .inl rfl
  | _ :: _, [] => .inr (.inr rfl)
  | x :: a, y :: b => by
    simp only [bless, Bool.or_eq_true, Bool.and_eq_true, decide_eq_true_eq, beq_iff_eq, List.cons.injEq]
    rcases Nat.lt_trichotomy x.toNat y.toNat with h | h | h
    · exact .inl (.inl (UInt8.lt_iff_toNat_lt.2 h))
    · have e := UInt8.toNat_inj.1 h
      subst e
      rcases bless_tot a b with h | h | h
      · exact .inl (.inr ⟨rfl, h⟩)
      · exact .inr (.inl ⟨rfl, h⟩)
      · exact .inr (.inr (.inr ⟨rfl, h⟩))
    · exact .inr (.inr (.inl (UInt8.lt_iff_toNat_lt.2 h)))

/-- The number of a list's texts that are less than one. -/
def fewS (l : List (List UInt8)) (s : List UInt8) : Nat := (l.filter fun x => bless x s).length

end Go.Proofs.Ytbbkpmbepljhkaa
