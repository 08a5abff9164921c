/- Handing out what is left, one by one to the greatest rest (of equals the first one), is the stable order: plain Lean. -/
import Derived.Test.YtcccijljnjhkbaaGreatDoorShL
namespace Go.Proofs.YtcccijljnjhkbaaGreatDoor
open Go.Sort Go.Lib

/-- The first k of the order are struck. -/
def shMark {N : Nat} (d : Array (Fin (N + 1))) (f : Nat → Int) : Nat → Nat → Int
  | 0 => f
  | k + 1 => fun j => if j = (d[k]!).val then -1 else shMark d f k j
theorem shMark_or {N : Nat} (d : Array (Fin (N + 1))) (f : Nat → Int) (k j : Nat) :
    ((∃ a, a < k ∧ (d[a]!).val = j) ∧ shMark d f k j = -1) ∨ ((∀ a, a < k → (d[a]!).val ≠ j) ∧ shMark d f k j = f j) := by
  induction k with
  | zero => exact .inr ⟨fun a h => by omega, rfl⟩
  | succ k ih =>
    have e : shMark d f (k + 1) j = if j = (d[k]!).val then -1 else shMark d f k j := rfl
    rw [e]
    by_cases h : j = (d[k]!).val
    · rw [if_pos h]; exact .inl ⟨⟨k, by omega, h.symm⟩, rfl⟩
    · rw [if_neg h]
      rcases ih with ⟨⟨a, ha, h1⟩, h2⟩ | ⟨h1, h2⟩
      · exact .inl ⟨⟨a, by omega, h1⟩, h2⟩
      · refine .inr ⟨fun a ha => ?_, h2⟩
        by_cases hk : a = k
        · rw [hk]; exact fun h' => h h'.symm
        · exact h1 a (by omega)

/-- The first place of the greatest rest is the next of the order. -/
theorem shBest (N T S : Nat) (w : Nat → Nat) (t best : Nat) (ht : t < N + 1) (hb : best < N + 1)
    (h : ∀ j, j < N + 1 → shMark (shOrd N T S w) (fun i => (shR T S w i : Int)) t j ≤ shMark (shOrd N T S w) (fun i => (shR T S w i : Int)) t best ∧
      (shMark (shOrd N T S w) (fun i => (shR T S w i : Int)) t j = shMark (shOrd N T S w) (fun i => (shR T S w i : Int)) t best → best ≤ j)) :
    best = ((shOrd N T S w)[t]!).val := by
  obtain ⟨σ, τ, h1, h2, h3⟩ := shOrd_facts N T S w
  obtain ⟨a1, a2, a3⟩ := h1 t ht
  rw [a3]
  have hc := h (σ t) a1
  obtain ⟨b1, b2⟩ := h2 best hb
  rcases shMark_or (shOrd N T S w) (fun i => (shR T S w i : Int)) t (σ t) with ⟨⟨a, ha, e⟩, _⟩ | ⟨_, mc⟩
  · have := h1 a (by omega)
    rw [this.2.2] at e
    have e2 := this.2.1
    rw [e, a2] at e2
    omega
  rcases shMark_or (shOrd N T S w) (fun i => (shR T S w i : Int)) t best with ⟨_, mb⟩ | ⟨nb, mb⟩
  · rw [mc, mb] at hc
    omega
  have hge : t ≤ τ best := by
    rcases Nat.lt_or_ge (τ best) t with hlt | hge
    · exact absurd (by rw [(h1 _ b1).2.2, b2]) (nb _ hlt)
    · exact hge
  have ho := h3 t (τ best) hge b1
  rw [b2] at ho
  rw [mc, mb] at hc
  omega
end Go.Proofs.YtcccijljnjhkbaaGreatDoor
