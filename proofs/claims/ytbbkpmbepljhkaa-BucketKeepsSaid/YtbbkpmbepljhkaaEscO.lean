/- More rounds change nothing: what a function answers at some number of rounds is its answer. -/
import Derived.Test.YtbbkpmbepljhkaaEscN
set_option linter.all false
namespace Go.Esc
open Go

variable {R : Type} {E : Sums}

theorem aop_mono {q : Bool} {hr : Heap} {n0 : Nat} {slot : Option Nat} {o : AOp} {e : Env} {h : Heap} {k k' : Val → Heap → Option R} (hk : ∀ v h p, k v h = some p → k' v h = some p) {p : R}
    (hp : aop E q hr n0 slot o e h k = some p) : aop E q hr n0 slot o e h k' = some p := by
  cases o <;> simp only [aop, Option.bind_eq_some_iff] at hp ⊢ <;> first | exact hk _ _ _ hp | (obtain ⟨x, hx, hp⟩ := hp; exact ⟨x, hx, hk _ _ _ hp⟩)

theorem aoper_mono {q : Bool} {hr : Heap} {n0 : Nat} {o : AOper} {e : Env} {h : Heap} {k k' : Val → Heap → Option R} (hk : ∀ v h p, k v h = some p → k' v h = some p) {p : R}
    (hp : aoper E q hr n0 o e h k = some p) : aoper E q hr n0 o e h k' = some p := by
  unfold aoper at hp ⊢
  cases hg : o.guard with
  | none => rw [hg] at hp; exact aop_mono hk hp
  | some g =>
    rw [hg] at hp
    simp only [Option.bind_eq_some_iff] at hp ⊢
    obtain ⟨x, hx, hp⟩ := hp
    exact ⟨x, hx, hk _ _ _ hp⟩

theorem aops_mono {k k' : Env → Heap → Option R} (hk : ∀ e h p, k e h = some p → k' e h = some p) : ∀ {l : List AOper} {e : Env} {h : Heap} {p : R}, aops E l e h k = some p → aops E l e h k' = some p
  | [], _, _, _, hp => hk _ _ _ hp
  | o :: l, e, h, p, hp => by
    rw [aops_cons] at hp ⊢
    exact aoper_mono (fun v h p => aops_mono hk) hp

theorem adraw_mono {hr : Heap} {n0 : Nat} {k k' : Env → Heap → Option R} (hk : ∀ e h p, k e h = some p → k' e h = some p) : ∀ {l : List AOper} {e : Env} {h : Heap} {p : R}, adraw E hr n0 l e h k = some p → adraw E hr n0 l e h k' = some p
  | [], _, _, _, hp => hk _ _ _ hp
  | o :: l, e, h, p, hp => by
    rw [adraw_cons] at hp ⊢
    exact aoper_mono (fun v h p => adraw_mono hk) hp

def KLe (k k' : Kont R) : Prop := ∀ x e h p, k x e h = some p → k' x e h = some p
def SmLe (s s' : Sm R) : Prop := ∀ k k' : Kont R, KLe k k' → ∀ e h p, s k e h = some p → s' k' e h = some p

theorem around_le {c c' : Sm R} (hc : SmLe c c') {keep : List Nat} {k k' : Kont R} (hk : KLe k k') : ∀ {n n' : Nat}, n ≤ n' → ∀ e h p, around c keep k n e h = some p → around c' keep k' n' e h = some p
  | 0, _, _, e, h, p, hp => by rw [around_zero] at hp; cases hp
  | n + 1, 0, hn, e, h, p, hp => by omega
  | n + 1, n' + 1, hn, e, h, p, hp => by
    rw [around_succ] at hp ⊢
    refine hc _ _ (fun x e h p hp => ?_) e h p hp
    cases x with
    | normal => exact around_le hc hk (by omega) _ _ _ hp
    | exit id => exact hk _ _ _ _ hp
    | ret => exact hk _ _ _ _ hp

theorem again_mono {e : Env} {h : Heap} {k k' : Option R} {p : R} (hk : k = some p → k' = some p) : ∀ {l : List (Nat × AOp)}, again l e h k = some p → again l e h k' = some p
  | [], hp => hk hp
  | c :: l, hp => by
    rw [again_cons] at hp ⊢
    unfold agn at hp ⊢
    split at hp
    · rename_i hc
      rw [if_pos hc]; exact again_mono hk hp
    · cases hp

theorem aex_le {n n' : Nat} (hn : n ≤ n') : ∀ c : ACode, SmLe (R := R) (aex E n c) (aex E n' c)
  | .skip => fun k k' hk e h p hp => hk _ _ _ _ hp
  | .ops l => fun k k' hk e h p hp => aops_mono (fun e h p hp => hk _ _ _ _ hp) hp
  | .draw m l r => fun k k' hk e h p hp => adraw_mono (fun e h p hp => aops_mono (fun e h p hp => hk _ _ _ _ hp) hp) hp
  | .drawS m l s chk r => fun k k' hk e h p hp => adraw_mono (fun e h p hp => aoper_mono (fun v h p hp => again_mono (fun hp => aops_mono (fun e h p hp => hk _ _ _ _ hp) hp) hp) hp) hp
  | .seq keep a b => fun k k' hk e h p hp => by
    refine aex_le hn a _ _ (fun x e h p hp => ?_) e h p hp
    cases x with
    | normal => exact aex_le hn b k k' hk _ _ _ hp
    | exit id => exact hk _ _ _ _ hp
    | ret => exact hk _ _ _ _ hp
  | .cond c a b => fun k k' hk e h p hp => by
    change cnd (e.ev c) (aex E n a k e h) (aex E n b k e h) = some p at hp
    change cnd (e.ev c) (aex E n' a k' e h) (aex E n' b k' e h) = some p
    unfold cnd at hp ⊢
    split at hp
    · rename_i x _
      cases x
      · exact aex_le hn b k k' hk _ _ _ hp
      · exact aex_le hn a k k' hk _ _ _ hp
    · cases hp
  | .block id a => fun k k' hk e h p hp => by
    refine aex_le hn a _ _ (fun x e h p hp => ?_) e h p hp
    cases x with
    | normal => exact hk _ _ _ _ hp
    | ret => exact hk _ _ _ _ hp
    | exit i =>
      cases hb : Nat.beq i id with
      | true => simp only [hb, cond_true] at hp ⊢; exact hk _ _ _ _ hp
      | false => simp only [hb, cond_false] at hp ⊢; exact hk _ _ _ _ hp
  | .loop keep a => fun k k' hk e h p hp => around_le (aex_le hn a) hk hn _ _ _ hp
  | .exit id => fun k k' hk e h p hp => hk _ _ _ _ hp
  | .ret => fun k k' hk e h p hp => hk _ _ _ _ hp

theorem run_le {f : AFn} {n n' : Nat} (hn : n ≤ n') {args : List Val} {h : Heap} {p : Val × Heap} (hp : f.run E n args h = some p) : f.run E n' args h = some p :=
  aex_le hn f.code _ _ (fun _ _ _ _ h => h) _ _ _ hp

open Classical in
/-- What a function answers, at however many rounds. -/
noncomputable def Lim (f : AFn) (E : Sums) (args : List Val) (h : Heap) : Option (Val × Heap) :=
  if H : ∃ p n, f.run E n args h = some p then some H.choose else none

theorem Lim_of {f : AFn} {n : Nat} {args : List Val} {h : Heap} {p : Val × Heap} (hp : f.run E n args h = some p) : Lim f E args h = some p := by
  have H : ∃ p n, f.run E n args h = some p := ⟨p, n, hp⟩
  unfold Lim
  rw [dif_pos H]
  obtain ⟨m, hm⟩ := H.choose_spec
  have h1 := run_le (Nat.le_max_left n m) hp
  have h2 := run_le (Nat.le_max_right n m) hm
  rw [h1] at h2
  exact h2.symm

theorem Lim_run {f : AFn} {args : List Val} {h : Heap} {p : Val × Heap} (hp : Lim f E args h = some p) : ∃ n, f.run E n args h = some p := by
  unfold Lim at hp
  split at hp
  · rename_i H
    cases hp
    exact H.choose_spec
  · cases hp

end Go.Esc
