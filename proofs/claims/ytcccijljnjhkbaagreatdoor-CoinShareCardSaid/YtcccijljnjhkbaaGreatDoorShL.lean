/- What coin.Share hands back comes to the total, and keeps the quota: plain Lean. -/
import Derived.Test.YtcccijljnjhkbaaGreatDoorSh5
import Derived.Test.YtcccijljnjhkbaaGreatDoorStS
namespace Go.Proofs.YtcccijljnjhkbaaGreatDoor
open Go.Sort Go.Lib

def isum (f : Nat → Int) : Nat → Int
  | 0 => 0
  | k + 1 => isum f k + f k
theorem isum_congr {f g : Nat → Int} (n : Nat) (h : ∀ j, j < n → f j = g j) : isum f n = isum g n := by
  induction n with
  | zero => rfl
  | succ n ih => unfold isum; rw [ih fun j hj => h j (by omega), h n (by omega)]
theorem isum_bump (f : Nat → Int) (i n : Nat) (hi : i < n) : isum (fun j => if j = i then f j + 1 else f j) n = isum f n + 1 := by
  induction n with
  | zero => omega
  | succ n ih =>
    unfold isum
    by_cases h : i = n
    · subst h
      rw [if_pos rfl, isum_congr (g := f) i fun j hj => by rw [if_neg (by omega)]]
      omega
    · rw [ih (by omega)]
      rw [if_neg (by omega)]
      omega
theorem isum_nat (f : Nat → Nat) (n : Nat) : isum (fun j => (f j : Int)) n = (sumTo f n : Int) := by
  induction n with
  | zero => rfl
  | succ n ih => unfold isum; rw [ih]; show _ = ((sumTo f n + f n : Nat) : Int); omega

theorem isum_shBump {N : Nat} (d : Array (Fin (N + 1))) (f : Nat → Int) (k : Nat) : isum (shBump d f k) (N + 1) = isum f (N + 1) + k := by
  induction k with
  | zero => simp [shBump]
  | succ k ih =>
    have := isum_bump (shBump d f k) (d[k]!).val (N + 1) (d[k]!).isLt
    show isum (fun j => if j = (d[k]!).val then shBump d f k j + 1 else shBump d f k j) (N + 1) = _
    rw [this, ih]
    omega

theorem shBump_or {N : Nat} (d : Array (Fin (N + 1))) (f : Nat → Int) (k : Nat) (inj : ∀ a b, a < k → b < k → (d[a]!).val = (d[b]!).val → a = b) (j : Nat) :
    ((∀ a, a < k → (d[a]!).val ≠ j) ∧ shBump d f k j = f j) ∨ ((∃ a, a < k ∧ (d[a]!).val = j) ∧ shBump d f k j = f j + 1) := by
  induction k with
  | zero => exact .inl ⟨fun a h => by omega, rfl⟩
  | succ k ih =>
    have ih := ih fun a b ha hb => inj a b (by omega) (by omega)
    by_cases e : j = (d[k]!).val
    · refine .inr ⟨⟨k, by omega, e.symm⟩, ?_⟩
      show (if j = (d[k]!).val then shBump d f k j + 1 else shBump d f k j) = _
      rw [if_pos e]
      rcases ih with ⟨_, h⟩ | ⟨⟨a, ha, h⟩, _⟩
      · rw [h]
      · have := inj a k (by omega) (by omega) (h.trans e); omega
    · have s : shBump d f (k + 1) j = shBump d f k j := by
        show (if j = (d[k]!).val then shBump d f k j + 1 else shBump d f k j) = _
        rw [if_neg e]
      rw [s]
      rcases ih with ⟨h1, h⟩ | ⟨⟨a, ha, h1⟩, h⟩
      · refine .inl ⟨fun a ha => ?_, h⟩
        by_cases hk : a = k
        · rw [hk]; exact fun h => e h.symm
        · exact h1 a (by omega)
      · exact .inr ⟨⟨a, by omega, h1⟩, h⟩

theorem sumTo_eq_sum (f : Nat → Nat) (n : Nat) : sumTo f n = ((List.range n).map f).sum := by
  induction n with
  | zero => rfl
  | succ n ih => rw [List.range_succ, List.map_append, List.sum_append]; simp [sumTo, ih]

theorem sumTo_perm (f σ τ : Nat → Nat) (n : Nat) (h1 : ∀ i, i < n → σ i < n ∧ τ (σ i) = i) (h2 : ∀ i, i < n → τ i < n ∧ σ (τ i) = i) : sumTo (fun i => f (σ i)) n = sumTo f n := by
  rw [sumTo_eq_sum, sumTo_eq_sum]
  have hp : ((List.range n).map σ).Perm (List.range n) := by
    refine (List.perm_ext_iff_of_nodup ?_ List.nodup_range).2 fun a => ?_
    · rw [List.nodup_iff_pairwise_ne, List.pairwise_map]
      refine (List.nodup_range (n := n)).imp_of_mem fun {a b} ha hb hne he => hne ?_
      have := (h1 a (List.mem_range.1 ha)).2
      rw [he, (h1 b (List.mem_range.1 hb)).2] at this
      exact this.symm
    · rw [List.mem_map, List.mem_range]
      constructor
      · rintro ⟨b, hb, rfl⟩; exact (h1 b (List.mem_range.1 hb)).1
      · intro ha; exact ⟨τ a, List.mem_range.2 (h2 a ha).1, (h2 a ha).2⟩
  have := (hp.map f).sum_nat
  rw [List.map_map] at this
  exact this

/-- The order in which what is left is handed out: every place once; who has more left over, first; of equals the first one. -/
theorem shOrd_facts (N T S : Nat) (w : Nat → Nat) : ∃ σ τ : Nat → Nat, (∀ i, i < N + 1 → σ i < N + 1 ∧ τ (σ i) = i ∧ ((shOrd N T S w)[i]!).val = σ i) ∧ (∀ i, i < N + 1 → τ i < N + 1 ∧ σ (τ i) = i) ∧
    ∀ p q, p ≤ q → q < N + 1 → shR T S w (σ q) < shR T S w (σ p) ∨ (shR T S w (σ q) = shR T S w (σ p) ∧ σ p ≤ σ q) := by
  let le : Fin (N + 1) → Fin (N + 1) → Prop := fun x y => shR T S w y.val < shR T S w x.val ∨ (shR T S w y.val = shR T S w x.val ∧ x.val ≤ y.val)
  have tot : ∀ x y, le x y ∨ le y x := fun x y => by show (_ ∨ _) ∨ (_ ∨ _); omega
  have tr : ∀ x y z, le x y → le y z → le x z := fun x y z h1 h2 => by
    have h1 : _ ∨ _ := h1
    have h2 : _ ∨ _ := h2
    show _ ∨ _
    omega
  have O : ∀ p q, p < q → q < (shIdx N).size → (ltOf (shCmp T S w) (shIdx N)[q]! (shIdx N)[p]! = true ↔ ¬ le (shIdx N)[p]! (shIdx N)[q]!) := fun p q h1 h2 => by
    rw [size_shIdx] at h2
    have e1 := get_shIdx N p (by omega)
    have e2 := get_shIdx N q h2
    show (decide (_ < 0) = true) ↔ ¬ (_ ∨ _)
    rw [decide_eq_true_iff]
    unfold shCmp
    rw [e1, e2]
    omega
  obtain ⟨⟨_, _, σ, τ, h1, h2⟩, hs⟩ := stable_ok tot tr (shIdx N) O
  rw [size_shIdx] at h1 h2 hs
  have hv : ∀ i, i < N + 1 → ((shOrd N T S w)[i]!).val = σ i := fun i hi => by
    obtain ⟨_, a2, _, a4⟩ := h1 i (Nat.zero_le _) hi
    have : (shOrd N T S w)[i]! = (shIdx N)[σ i]! := a4
    rw [this, get_shIdx N _ a2]
  refine ⟨σ, τ, fun i hi => ⟨(h1 i (Nat.zero_le _) hi).2.1, (h1 i (Nat.zero_le _) hi).2.2.1, hv i hi⟩, fun i hi => (h2 i (Nat.zero_le _) hi).2, fun p q hpq hq => ?_⟩
  have := hs p q (Nat.zero_le _) hpq hq
  have h3 : _ ∨ _ := this
  have e1 : ((stable (ltOf (shCmp T S w)) (shIdx N))[p]!).val = σ p := hv p (by omega)
  have e2 : ((stable (ltOf (shCmp T S w)) (shIdx N))[q]!).val = σ q := hv q hq
  rw [e1, e2] at h3
  exact h3

theorem sumTo_zero {f : Nat → Nat} (n : Nat) (h : ∀ i, i < n → f i = 0) : sumTo f n = 0 := by
  induction n with
  | zero => rfl
  | succ n ih => show sumTo f n + f n = 0; rw [ih fun i hi => h i (by omega), h n (by omega)]
theorem sumTo_tail {f : Nat → Nat} (k n : Nat) (hk : k ≤ n) (h : ∀ i, k ≤ i → i < n → f i = 0) : sumTo f n = sumTo f k := by
  induction n with
  | zero => rw [show k = 0 by omega]
  | succ n ih =>
    by_cases e : k = n + 1
    · rw [e]
    · show sumTo f n + f n = _
      rw [ih (by omega) fun i h1 h2 => h i h1 (by omega), h n (by omega) (by omega)]
      omega

/-- THE QUOTA, and what has no weight has nothing. -/
theorem shOut_quota (N T S : Nat) (w : Nat → Nat) (hS : S = sumTo w (N + 1)) (h0 : 0 < S) (j : Nat) (_hj : j < N + 1) :
    (shOut N T S w false j = (shQ T S w j : Int) ∨ shOut N T S w false j = (shQ T S w j : Int) + 1) ∧ (w j = 0 → shOut N T S w false j = 0) := by
  obtain ⟨hl1, hl2, hl3⟩ := left_facts (N + 1) T S w hS h0
  obtain ⟨σ, τ, h1, h2, h3⟩ := shOrd_facts N T S w
  have hor := shBump_or (shOrd N T S w) (fun i => (shQ T S w i : Int)) (shLeft (N + 1) T S w) (fun a b ha hb he => by
    have ha' : a < N + 1 := Nat.lt_trans ha hl3
    have hb' : b < N + 1 := Nat.lt_trans hb hl3
    rw [(h1 a ha').2.2, (h1 b hb').2.2] at he
    rw [← (h1 a ha').2.1, he, (h1 b hb').2.1]) j
  have e : shOut N T S w false j = shBump (shOrd N T S w) (fun i => (shQ T S w i : Int)) (shLeft (N + 1) T S w) j := by simp [shOut]
  rw [e]
  refine ⟨?_, fun hw => ?_⟩
  · rcases hor with ⟨_, h⟩ | ⟨_, h⟩
    · exact .inl h
    · exact .inr h
  · have hq : shQ T S w j = 0 := by simp [shQ, hw]
    have hr : shR T S w j = 0 := by simp [shR, hw]
    rcases hor with ⟨_, h⟩ | ⟨⟨a, ha, hv⟩, _⟩
    · rw [h]; simp [hq]
    · exfalso
      have hL : shLeft (N + 1) T S w = T - sumTo (shQ T S w) (N + 1) := rfl
      rw [← hL] at hl2 hl3
      have ha' : a < N + 1 := by omega
      rw [(h1 a ha').2.2] at hv
      have z : ∀ i, a ≤ i → i < N + 1 → shR T S w (σ i) = 0 := fun i hi hi2 => by
        have := h3 a i hi hi2
        rw [hv, hr] at this
        omega
      have p := sumTo_perm (shR T S w) σ τ (N + 1) (fun i hi => ⟨(h1 i hi).1, (h1 i hi).2.1⟩) h2
      rw [sumTo_tail a (N + 1) (by omega) z] at p
      have b : sumTo (fun i => shR T S w (σ i)) a ≤ a * S := sumTo_le a fun i _ => Nat.le_of_lt (Nat.mod_lt _ h0)
      have c : a * S < shLeft (N + 1) T S w * S := Nat.mul_lt_mul_of_pos_right ha h0
      omega

/-- NOTHING IS LOST. -/
theorem shOut_total (N T S : Nat) (w : Nat → Nat) (hS : S = sumTo w (N + 1)) (h0 : 0 < S) : isum (shOut N T S w false) (N + 1) = T := by
  obtain ⟨hl1, _, _⟩ := left_facts (N + 1) T S w hS h0
  rw [isum_congr (g := shBump (shOrd N T S w) (fun i => (shQ T S w i : Int)) (shLeft (N + 1) T S w)) (N + 1) fun j _ => by simp [shOut]]
  rw [isum_shBump, isum_nat]
  unfold shLeft
  omega
end Go.Proofs.YtcccijljnjhkbaaGreatDoor
