/- The stable sort's plain functions are a stable sort: plain Lean. -/
import Derived.Test.YtcccijljnjhkbaaGreatDoorStP
import Derived.Sort.Lot0
namespace Go.Proofs.YtcccijljnjhkbaaGreatDoor
open Go.Sort
variable {α : Type} [Inhabited α]

theorem get_swp (d : Array α) (i j k : Nat) (hi : i < d.size) (hj : j < d.size) : (swp d i j)[k]! = if k = j then d[i]! else if k = i then d[j]! else d[k]! := by
  by_cases h1 : k = j
  · rw [if_pos h1, h1]; exact swp_right d i j hj
  · rw [if_neg h1]
    by_cases h2 : k = i
    · rw [if_pos h2, h2]; exact swp_left d i j hi (by omega)
    · rw [if_neg h2]; exact swp_other d i j k h2 h1

theorem idx {d : Array α} {i j : Nat} (h : i = j) : d[i]! = d[j]! := by rw [h]

theorem get_swpRange (d : Array α) (a b : Nat) (n : Nat) (hab : a + n ≤ b) (hb : b + n ≤ d.size) : ∀ k,
    (swpRange d a b n)[k]! = if a ≤ k ∧ k < a + n then d[k - a + b]! else if b ≤ k ∧ k < b + n then d[k - b + a]! else d[k]! := by
  induction n with
  | zero => intro k; rw [if_neg (by omega), if_neg (by omega)]; rfl
  | succ n ih =>
    have ih := ih (by omega) (by omega)
    intro k
    unfold swpRange
    rw [get_swp _ _ _ _ (by rw [size_swpRange]; omega) (by rw [size_swpRange]; omega), ih, ih, ih]
    repeat' split
    all_goals first | (exfalso; omega) | exact idx (by omega)

theorem get_upSwp (d : Array α) (lo n : Nat) (h : lo + n < d.size) : ∀ k,
    (upSwp lo n d)[k]! = if lo ≤ k ∧ k < lo + n then d[k + 1]! else if k = lo + n then d[lo]! else d[k]! := by
  induction n with
  | zero => intro k; rw [if_neg (by omega)]; unfold upSwp; split <;> first | exact idx (by omega) | rfl
  | succ n ih =>
    have ih := ih (by omega)
    intro k
    unfold upSwp
    rw [get_swp _ _ _ _ (by rw [size_upSwp]; omega) (by rw [size_upSwp]; omega), ih, ih, ih]
    repeat' split
    all_goals first | (exfalso; omega) | exact idx (by omega)

theorem get_downSwp (d : Array α) (hi n : Nat) (h : hi < d.size) (hn : n ≤ hi) : ∀ k,
    (downSwp hi n d)[k]! = if hi - n < k ∧ k ≤ hi then d[k - 1]! else if k = hi - n then d[hi]! else d[k]! := by
  induction n with
  | zero => intro k; rw [if_neg (by omega)]; unfold downSwp; split <;> first | exact idx (by omega) | rfl
  | succ n ih =>
    have ih := ih (by omega)
    intro k
    unfold downSwp
    rw [get_swp _ _ _ _ (by rw [size_downSwp]; omega) (by rw [size_downSwp]; omega), ih, ih, ih]
    repeat' split
    all_goals first | (exfalso; omega) | exact idx (by omega)

theorem get_rot (m k : Nat) : ∀ (i j : Nat) (d : Array α), 0 < i → 0 < j → i + j ≤ k → i ≤ m → m + j ≤ d.size → ∀ p,
    (rot m k i j d)[p]! = if m - i ≤ p ∧ p < m - i + j then d[p + i]! else if m - i + j ≤ p ∧ p < m + j then d[p - j]! else d[p]! := by
  induction k with
  | zero => intro i j d h1 h2 h3; omega
  | succ k ih =>
    intro i j d hi hj hk him hjs p
    unfold rot
    by_cases hij : i = j
    · rw [if_pos hij, get_swpRange _ _ _ _ (by omega) (by omega)]
      repeat' split
      all_goals first | (exfalso; omega) | exact idx (by omega)
    · rw [if_neg hij]
      by_cases hji : j < i
      · rw [if_pos hji, ih _ _ _ (by omega) hj (by omega) (by omega) (by rw [size_swpRange]; omega)]
        have hs := get_swpRange d (m - i) m j (by omega) (by omega)
        rw [hs, hs, hs]
        repeat' split
        all_goals first | (exfalso; omega) | exact idx (by omega)
      · rw [if_neg hji, ih _ _ _ hi (by omega) (by omega) (by omega) (by rw [size_swpRange]; omega)]
        have hs := get_swpRange d (m - i) (m + j - i) i (by omega) (by omega)
        rw [hs, hs, hs]
        repeat' split
        all_goals first | (exfalso; omega) | exact idx (by omega)

/-- d' is d with the places of [a, b) put in another order. -/
def SP (a b : Nat) (d d' : Array α) : Prop :=
  d'.size = d.size ∧ (∀ k, k < a ∨ b ≤ k → d'[k]! = d[k]!) ∧
    ∃ σ τ : Nat → Nat, (∀ i, a ≤ i → i < b → a ≤ σ i ∧ σ i < b ∧ τ (σ i) = i ∧ d'[i]! = d[σ i]!) ∧ (∀ i, a ≤ i → i < b → a ≤ τ i ∧ τ i < b ∧ σ (τ i) = i)

theorem SP.refl (a b : Nat) (d : Array α) : SP a b d d := ⟨rfl, fun _ _ => rfl, id, id, fun _ h1 h2 => ⟨h1, h2, rfl, rfl⟩, fun _ h1 h2 => ⟨h1, h2, rfl⟩⟩
theorem SP.trans {a b : Nat} {d d1 d2 : Array α} (h : SP a b d d1) (h' : SP a b d1 d2) : SP a b d d2 := by
  obtain ⟨s, o, σ, τ, p, q⟩ := h
  obtain ⟨s', o', σ', τ', p', q'⟩ := h'
  refine ⟨s'.trans s, fun k hk => (o' k hk).trans (o k hk), fun i => σ (σ' i), fun i => τ' (τ i), fun i h1 h2 => ?_, fun i h1 h2 => ?_⟩
  · obtain ⟨a1, a2, a3, a4⟩ := p' i h1 h2
    obtain ⟨b1, b2, b3, b4⟩ := p _ a1 a2
    exact ⟨b1, b2, by dsimp only; rw [b3, a3], a4.trans b4⟩
  · obtain ⟨a1, a2, a3⟩ := q i h1 h2
    obtain ⟨b1, b2, b3⟩ := q' _ a1 a2
    exact ⟨b1, b2, by dsimp only; rw [b3, a3]⟩
theorem SP.wide {a b a' b' : Nat} {d d1 : Array α} (h : SP a b d d1) (ha : a' ≤ a) (hb : b ≤ b') : SP a' b' d d1 := by
  obtain ⟨s, o, σ, τ, p, q⟩ := h
  refine ⟨s, fun k hk => o k (by omega), fun i => if a ≤ i ∧ i < b then σ i else i, fun i => if a ≤ i ∧ i < b then τ i else i, fun i h1 h2 => ?_, fun i h1 h2 => ?_⟩
  · by_cases hi : a ≤ i ∧ i < b
    · obtain ⟨a1, a2, a3, a4⟩ := p i hi.1 hi.2
      dsimp only
      rw [if_pos hi, if_pos ⟨a1, a2⟩]
      exact ⟨by omega, by omega, a3, a4⟩
    · dsimp only
      rw [if_neg hi, if_neg hi]
      exact ⟨h1, h2, rfl, o i (by omega)⟩
  · by_cases hi : a ≤ i ∧ i < b
    · obtain ⟨a1, a2, a3⟩ := q i hi.1 hi.2
      dsimp only
      rw [if_pos hi, if_pos ⟨a1, a2⟩]
      exact ⟨by omega, by omega, a3⟩
    · dsimp only
      rw [if_neg hi, if_neg hi]
      exact ⟨h1, h2, rfl⟩

theorem SP.rot {m k i j : Nat} {d : Array α} (hi : 0 < i) (hj : 0 < j) (hk : i + j ≤ k) (him : i ≤ m) (hs : m + j ≤ d.size) : SP (m - i) (m + j) d (rot m k i j d) := by
  have g := get_rot m k i j d hi hj hk him hs
  refine ⟨size_rot _ _ _ _ _, fun p hp => by rw [g, if_neg (by omega), if_neg (by omega)], fun p => if p < m - i + j then p + i else p - j, fun p => if p < m then p + j else p - i, fun p h1 h2 => ?_, fun p h1 h2 => ?_⟩
  · dsimp only
    by_cases h : p < m - i + j
    · rw [if_pos h, if_neg (by omega), g, if_pos ⟨h1, h⟩]
      exact ⟨by omega, by omega, by omega, rfl⟩
    · rw [if_neg h, if_pos (by omega), g, if_neg (by omega), if_pos ⟨by omega, h2⟩]
      exact ⟨by omega, by omega, by omega, rfl⟩
  · dsimp only
    by_cases h : p < m
    · rw [if_pos h, if_neg (by omega)]
      exact ⟨by omega, by omega, by omega⟩
    · rw [if_neg h, if_pos (by omega)]
      exact ⟨by omega, by omega, by omega⟩

theorem SP.up {lo n : Nat} {d : Array α} (hs : lo + n < d.size) : SP lo (lo + n + 1) d (upSwp lo n d) := by
  have g := get_upSwp d lo n hs
  refine ⟨size_upSwp _ _ _, fun p hp => by rw [g, if_neg (by omega), if_neg (by omega)], fun p => if p < lo + n then p + 1 else lo, fun p => if p = lo then lo + n else p - 1, fun p h1 h2 => ?_, fun p h1 h2 => ?_⟩
  · dsimp only
    by_cases h : p < lo + n
    · rw [if_pos h, if_neg (by omega), g, if_pos ⟨h1, h⟩]
      exact ⟨by omega, by omega, by omega, rfl⟩
    · rw [if_neg h, if_pos rfl, g, if_neg (by omega), if_pos (by omega)]
      exact ⟨by omega, by omega, by omega, rfl⟩
  · dsimp only
    by_cases h : p = lo
    · rw [if_pos h, if_neg (by omega)]
      exact ⟨by omega, by omega, by omega⟩
    · rw [if_neg h, if_pos (by omega)]
      exact ⟨by omega, by omega, by omega⟩

theorem SP.down {hi n : Nat} {d : Array α} (hs : hi < d.size) (hn : n ≤ hi) : SP (hi - n) (hi + 1) d (downSwp hi n d) := by
  have g := get_downSwp d hi n hs hn
  refine ⟨size_downSwp _ _ _, fun p hp => by rw [g, if_neg (by omega), if_neg (by omega)], fun p => if p = hi - n then hi else p - 1, fun p => if p = hi then hi - n else p + 1, fun p h1 h2 => ?_, fun p h1 h2 => ?_⟩
  · dsimp only
    by_cases h : p = hi - n
    · rw [if_pos h, if_pos rfl, g, if_neg (by omega), if_pos h]
      exact ⟨by omega, by omega, by omega, rfl⟩
    · rw [if_neg h, if_neg (by omega), g, if_pos (by omega)]
      exact ⟨by omega, by omega, by omega, rfl⟩
  · dsimp only
    by_cases h : p = hi
    · rw [if_pos h, if_pos rfl]
      exact ⟨by omega, by omega, by omega⟩
    · rw [if_neg h, if_neg (by omega)]
      exact ⟨by omega, by omega, by omega⟩
end Go.Proofs.YtcccijljnjhkbaaGreatDoor
