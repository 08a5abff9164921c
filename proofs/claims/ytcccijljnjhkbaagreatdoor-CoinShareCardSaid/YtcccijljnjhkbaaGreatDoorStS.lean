/- The stable sort is one: plain Lean. -/
import Derived.Test.YtcccijljnjhkbaaGreatDoorStR
import Derived.Sort.WalkA
namespace Go.Proofs.YtcccijljnjhkbaaGreatDoor
open Go.Sort
variable {α : Type} [Inhabited α]

theorem downSwp_succ (hi n : Nat) (d : Array α) : downSwp hi (n + 1) d = swp (downSwp hi n d) (hi - n) (hi - n - 1) := rfl

/-- How the inner loop of the insertion sort ends: the element at i has gone t places down. -/
theorem insInner_down {lt : α → α → Bool} (d : Array α) (a i : Nat) (hi : i < d.size) (hai : a ≤ i) : ∀ (s t : Nat), s + t = i - a → (∀ x, x < t → lt d[i]! d[i - x - 1]! = true) →
    ∃ t', t' ≤ i - a ∧ insInner lt a (i - t) (downSwp i t d) = downSwp i t' d ∧ (t' = i - a ∨ lt d[i]! d[i - t' - 1]! = false) ∧ (∀ x, x < t' → lt d[i]! d[i - x - 1]! = true) := by
  intro s
  induction s with
  | zero =>
    intro t ht hx
    exact ⟨t, by omega, insInner_stop _ _ _ _ (.inl (by omega)), .inl (by omega), hx⟩
  | succ s ih =>
    intro t ht hx
    have g := get_downSwp d i t hi (by omega)
    have e1 : (downSwp i t d)[i - t]! = d[i]! := by rw [g, if_neg (by omega), if_pos rfl]
    have e2 : (downSwp i t d)[i - t - 1]! = d[i - t - 1]! := by rw [g, if_neg (by omega), if_neg (by omega)]
    cases hl : lt d[i]! d[i - t - 1]! with
    | true =>
      rw [insInner_go _ _ _ _ (by omega) (by rw [e1, e2]; exact hl), ← downSwp_succ, show i - t - 1 = i - (t + 1) by omega]
      refine ih (t + 1) (by omega) fun x h => ?_
      by_cases hxt : x = t
      · rw [hxt]; exact hl
      · exact hx x (by omega)
    | false =>
      exact ⟨t, by omega, insInner_stop _ _ _ _ (.inr (by rw [e1, e2]; exact hl)), .inr hl, hx⟩

variable {lt : α → α → Bool} {le : α → α → Prop} (tot : ∀ x y, le x y ∨ le y x) (tr : ∀ x y z, le x y → le y z → le x z)
include tot tr

theorem insOuter_ok (d0 : Array α) (a b : Nat) (hb : b ≤ d0.size) (O : ∀ p q, a ≤ p → p < q → q < b → (lt d0[q]! d0[p]! = true ↔ ¬ le d0[p]! d0[q]!)) : ∀ (n i : Nat) (d : Array α), b - i ≤ n → a < i → i ≤ b → SP a i d0 d → Srt le a i d →
    SP a b d0 (insOuter lt a b i d) ∧ Srt le a b (insOuter lt a b i d) := by
  intro n
  induction n with
  | zero =>
    intro i d h1 h2 h3 P S
    obtain rfl : i = b := by omega
    rw [insOuter_stop _ _ _ _ _ (by omega)]
    exact ⟨P, S⟩
  | succ n ih =>
    intro i d h1 h2 h3 P S
    by_cases hi : i < b
    · rw [insOuter_go _ _ _ _ _ hi]
      have hsz : d.size = d0.size := P.1
      have key : ∀ p, a ≤ p → p < i → (lt d[i]! d[p]! = true ↔ ¬ le d[p]! d[i]!) := fun p h4 h5 => by
        obtain ⟨_, o, σ, _, w, _⟩ := P
        obtain ⟨c1, c2, _, c3⟩ := w p h4 h5
        rw [c3, o i (.inr (Nat.le_refl _))]
        exact O _ _ c1 c2 hi
      obtain ⟨t, ht, he, h4, h5⟩ := insInner_down (lt := lt) d a i (by omega) (by omega) (i - a) 0 (by omega) (fun x h => by omega)
      have he' : insInner lt a i d = downSwp i t d := he
      rw [he']
      have g := get_downSwp d i t (by omega) (by omega)
      refine ih (i + 1) _ (by omega) (by omega) (by omega) ((P.wide (Nat.le_refl _) (by omega)).trans ((SP.down (by omega) (by omega)).wide (by omega) (Nat.le_refl _))) fun p q h6 h7 h8 => ?_
      have up : ∀ x, i - t ≤ x → x < i → le d[i]! d[x]! := fun x h9 h10 => by
        have := h5 (i - x - 1) (by omega)
        rw [show i - (i - x - 1) - 1 = x by omega, key x (by omega) h10] at this
        exact (tot _ _).resolve_right this
      have dn : ∀ x, a ≤ x → x < i - t → le d[x]! d[i]! := fun x h9 h10 => by
        rcases h4 with h4 | h4
        · omega
        · have h11 : le d[i - t - 1]! d[i]! := Classical.byContradiction fun hc => by rw [(key (i - t - 1) (by omega) (by omega)).2 hc] at h4; cases h4
          exact tr _ _ _ (S x (i - t - 1) h9 (by omega) (by omega)) h11
      have rf : ∀ x, le x x := fun x => (tot x x).elim id id
      rw [g, g]
      by_cases hp : i - t < p
      · rw [if_pos ⟨hp, by omega⟩, if_pos ⟨by omega, by omega⟩]; exact S _ _ (by omega) (by omega) (by omega)
      · rw [if_neg (by omega)]
        by_cases hp2 : p = i - t
        · rw [if_pos hp2]
          by_cases hq : i - t < q
          · rw [if_pos ⟨hq, by omega⟩]; exact up _ (by omega) (by omega)
          · rw [if_neg (by omega), if_pos (by omega)]; exact rf _
        · rw [if_neg hp2]
          by_cases hq : i - t < q
          · rw [if_pos ⟨hq, by omega⟩]; exact S _ _ (by omega) (by omega) (by omega)
          · rw [if_neg (by omega)]
            by_cases hq2 : q = i - t
            · rw [if_pos hq2]; exact dn _ h6 (by omega)
            · rw [if_neg hq2]; exact S _ _ h6 h7 (by omega)
    · obtain rfl : i = b := by omega
      rw [insOuter_stop _ _ _ _ _ (by omega)]
      exact ⟨P, S⟩

theorem insertion_ok (d0 : Array α) (a b : Nat) (hb : b ≤ d0.size) (O : ∀ p q, a ≤ p → p < q → q < b → (lt d0[q]! d0[p]! = true ↔ ¬ le d0[p]! d0[q]!)) :
    SP a b d0 (insertionSort lt d0 a b) ∧ Srt le a b (insertionSort lt d0 a b) := by
  have rf : ∀ x, le x x := fun x => (tot x x).elim id id
  unfold insertionSort
  by_cases hab : a + 1 ≤ b
  · exact insOuter_ok tot tr d0 a b hb O b (a + 1) d0 (by omega) (by omega) hab (SP.refl _ _ _) (fun p q h1 h2 h3 => by rw [show q = p by omega]; exact rf _)
  · rw [insOuter_stop _ _ _ _ _ (by omega)]
    exact ⟨SP.refl _ _ _, fun p q h1 h2 h3 => by omega⟩

omit tot tr in
/-- A stretch that is sorted, and holds what it held at first. -/
def IB (le : α → α → Prop) (d0 : Array α) (u v : Nat) (d : Array α) : Prop := Srt le u v d ∧ ∀ i, u ≤ i → i < v → ∃ j, u ≤ j ∧ j < v ∧ d[i]! = d0[j]!
omit tot tr in
theorem IB.same {d0 d d' : Array α} {u v : Nat} (h : IB le d0 u v d) (e : ∀ i, u ≤ i → i < v → d'[i]! = d[i]!) : IB le d0 u v d' :=
  ⟨fun p q h1 h2 h3 => by rw [e p h1 (by omega), e q (by omega) h3]; exact h.1 p q h1 h2 h3, fun i h1 h2 => by rw [e i h1 h2]; exact h.2 i h1 h2⟩
omit tot tr in
theorem IB.empty {d0 d : Array α} {u v : Nat} (h : v ≤ u) : IB le d0 u v d := ⟨fun p q h1 h2 h3 => by omega, fun i h1 h2 => by omega⟩

variable (d0 : Array α) (O : ∀ p q, p < q → q < d0.size → (lt d0[q]! d0[p]! = true ↔ ¬ le d0[p]! d0[q]!))
include O

theorem blocks_ok (k : Nat) : ∀ (s : Nat) (d : Array α), s * 20 ≤ d0.size → d0.size - s * 20 < k → SP 0 d0.size d0 d → (∀ t, t < s → IB le d0 (t * 20) (min ((t + 1) * 20) d0.size) d) → (∀ i, s * 20 ≤ i → d[i]! = d0[i]!) →
    SP 0 d0.size d0 (blocks lt d0.size k (s * 20) d) ∧ ∀ t, IB le d0 (t * 20) (min ((t + 1) * 20) d0.size) (blocks lt d0.size k (s * 20) d) := by
  induction k with
  | zero => intro s d h1 h2; omega
  | succ k ih =>
    intro s d hs hk P B U
    have step : ∀ v, s * 20 ≤ v → v ≤ d0.size → v ≤ s * 20 + 20 → SP 0 d0.size d0 (insertionSort lt d (s * 20) v) ∧ (∀ t, t < s → IB le d0 (t * 20) (min ((t + 1) * 20) d0.size) (insertionSort lt d (s * 20) v)) ∧ IB le d0 (s * 20) v (insertionSort lt d (s * 20) v) ∧ (∀ i, v ≤ i → (insertionSort lt d (s * 20) v)[i]! = d0[i]!) := by
      intro v h1 h2 h3
      obtain ⟨Q, S⟩ := insertion_ok tot tr d (s * 20) v (by rw [P.1]; exact h2) (fun p q h4 h5 h6 => by rw [U q (by omega), U p (by omega)]; exact O p q h5 (by omega))
      refine ⟨P.trans (Q.wide (Nat.zero_le _) h2), fun t ht => (B t ht).same fun i h4 h5 => Q.2.1 i (.inl (by omega)), ⟨S, fun i h4 h5 => ?_⟩, fun i h4 => by rw [Q.2.1 i (.inr h4)]; exact U i (by omega)⟩
      obtain ⟨_, _, σ, _, w, _⟩ := Q
      obtain ⟨c1, c2, _, c3⟩ := w i h4 h5
      exact ⟨σ i, c1, c2, by rw [c3]; exact U _ c1⟩
    unfold blocks
    by_cases hc : s * 20 + 20 ≤ d0.size
    · rw [if_pos hc]
      obtain ⟨P', B', I', U'⟩ := step (s * 20 + 20) (by omega) hc (Nat.le_refl _)
      have := ih (s + 1) _ (by omega) (by omega) P' (fun t ht => by
        by_cases hts : t = s
        · subst hts
          rw [show min ((t + 1) * 20) d0.size = t * 20 + 20 by omega]; exact I'
        · exact B' t (by omega)) (fun i h => U' i (by omega))
      rw [show (s + 1) * 20 = s * 20 + 20 by omega] at this
      exact this
    · rw [if_neg hc]
      obtain ⟨P', B', I', _⟩ := step d0.size hs (Nat.le_refl _) (by omega)
      refine ⟨P', fun t => ?_⟩
      by_cases hts : t < s
      · exact B' t hts
      · by_cases hts2 : t = s
        · subst hts2
          rw [show min ((t + 1) * 20) d0.size = d0.size by omega]; exact I'
        · exact IB.empty (by omega)

theorem mergeRow_ok (bs : Nat) (hbs : 0 < bs) (k : Nat) : ∀ (s : Nat) (d : Array α), s * (2 * bs) ≤ d0.size → d0.size - s * (2 * bs) < k → SP 0 d0.size d0 d → (∀ t, t < s → IB le d0 (t * (2 * bs)) (min ((t + 1) * (2 * bs)) d0.size) d) → (∀ t, 2 * s ≤ t → IB le d0 (t * bs) (min ((t + 1) * bs) d0.size) d) →
    SP 0 d0.size d0 (mergeRow lt d0.size bs k (s * (2 * bs)) d) ∧ ∀ t, IB le d0 (t * (2 * bs)) (min ((t + 1) * (2 * bs)) d0.size) (mergeRow lt d0.size bs k (s * (2 * bs)) d) := by
  induction k with
  | zero => intro s d h1 h2; omega
  | succ k ih =>
    intro s d hs hk P B U
    obtain ⟨a, ha⟩ : ∃ a, a = s * (2 * bs) := ⟨_, rfl⟩
    have e1 : 2 * s * bs = a := by rw [ha]; rw [Nat.mul_comm 2 s, Nat.mul_assoc]
    have e2 : (2 * s + 1) * bs = a + bs := by rw [Nat.succ_mul, e1]
    have e3 : (2 * s + 1 + 1) * bs = a + 2 * bs := by rw [Nat.succ_mul, e2]; omega
    have e4 : (s + 1) * (2 * bs) = a + 2 * bs := by rw [Nat.succ_mul, ← ha]
    have I0 := U (2 * s) (Nat.le_refl _)
    have I1 := U (2 * s + 1) (by omega)
    rw [e1, e2] at I0
    rw [e2, e3] at I1
    have lowt : ∀ t, t < s → (t + 1) * (2 * bs) ≤ a := fun t ht => by rw [ha]; exact Nat.mul_le_mul_right _ (by omega)
    have hight : ∀ t, 2 * s + 2 ≤ t → a + 2 * bs ≤ t * bs := fun t ht => by rw [← e3]; exact Nat.mul_le_mul_right _ (by omega)
    have hight2 : ∀ t, s + 1 ≤ t → a + 2 * bs ≤ t * (2 * bs) := fun t ht => by rw [← e4]; exact Nat.mul_le_mul_right _ ht
    rw [← ha] at hs hk ⊢
    have step : ∀ v K, a + bs < v → v ≤ d0.size → v ≤ a + 2 * bs → v - a ≤ K → (v = a + 2 * bs ∨ v = d0.size) → SP 0 d0.size d0 (symM lt K d a (a + bs) v) ∧ (∀ t, t < s → IB le d0 (t * (2 * bs)) (min ((t + 1) * (2 * bs)) d0.size) (symM lt K d a (a + bs) v)) ∧ IB le d0 a v (symM lt K d a (a + bs) v) ∧ (∀ i, v ≤ i → (symM lt K d a (a + bs) v)[i]! = d[i]!) := by
      intro v K h1 h2 h3 h4 h5
      have m0 : min (a + bs) d0.size = a + bs := by omega
      have m1 : min (a + 2 * bs) d0.size = v := by omega
      rw [m0] at I0
      rw [m1] at I1
      obtain ⟨Q, S⟩ := symM_ok tot tr K d a (a + bs) v (by omega) h1 (by rw [P.1]; exact h2) h4 I0.1 I1.1 (fun p q h6 h7 h8 h9 => by
        obtain ⟨j, j1, j2, j3⟩ := I0.2 p h6 h7
        obtain ⟨l, l1, l2, l3⟩ := I1.2 q h8 h9
        rw [j3, l3]
        exact O j l (by omega) (by omega))
      refine ⟨P.trans (Q.wide (Nat.zero_le _) h2), fun t ht => (B t ht).same fun i h6 h7 => Q.2.1 i (.inl (by have := lowt t ht; omega)), ⟨S, fun i h6 h7 => ?_⟩, fun i h6 => Q.2.1 i (.inr h6)⟩
      obtain ⟨_, _, σ, _, w, _⟩ := Q
      obtain ⟨c1, c2, _, c3⟩ := w i h6 h7
      rw [c3]
      by_cases hm : σ i < a + bs
      · obtain ⟨j, j1, j2, j3⟩ := I0.2 _ c1 hm; exact ⟨j, j1, by omega, j3⟩
      · obtain ⟨j, j1, j2, j3⟩ := I1.2 _ (by omega) c2; exact ⟨j, by omega, j2, j3⟩
    unfold mergeRow
    by_cases hc : a + 2 * bs ≤ d0.size
    · rw [if_pos hc]
      obtain ⟨P', B', I', U'⟩ := step (a + 2 * bs) (2 * bs) (by omega) hc (Nat.le_refl _) (by omega) (.inl rfl)
      have := ih (s + 1) _ (by rw [e4]; exact hc) (by rw [e4]; omega) P' (fun t ht => by
        by_cases hts : t = s
        · rw [hts, e4, ← ha, show min (a + 2 * bs) d0.size = a + 2 * bs by omega]; exact I'
        · exact B' t (by omega)) (fun t ht => (U t (by omega)).same fun i h6 h7 => U' i (by have := hight t (by omega); omega))
      rw [e4] at this
      exact this
    · rw [if_neg hc]
      have fin : ∀ e : Array α, (∀ t, t < s → IB le d0 (t * (2 * bs)) (min ((t + 1) * (2 * bs)) d0.size) e) → IB le d0 a d0.size e → ∀ t, IB le d0 (t * (2 * bs)) (min ((t + 1) * (2 * bs)) d0.size) e := fun e h1 h2 t => by
        by_cases hts : t < s
        · exact h1 t hts
        · by_cases hts2 : t = s
          · rw [hts2, e4, ← ha, show min (a + 2 * bs) d0.size = d0.size by omega]; exact h2
          · exact IB.empty (by have := hight2 t (by omega); omega)
      by_cases hm : a + bs < d0.size
      · rw [if_pos hm]
        obtain ⟨P', B', I', _⟩ := step d0.size (d0.size - a) hm (Nat.le_refl _) (by omega) (Nat.le_refl _) (.inr rfl)
        exact ⟨P', fin _ B' I'⟩
      · rw [if_neg hm]
        rw [show min (a + bs) d0.size = d0.size by omega] at I0
        exact ⟨P, fin _ B I0⟩

theorem merges_ok (k : Nat) : ∀ (bs : Nat) (d : Array α), 0 < bs → d0.size - bs < k → SP 0 d0.size d0 d → (∀ t, IB le d0 (t * bs) (min ((t + 1) * bs) d0.size) d) →
    SP 0 d0.size d0 (merges lt d0.size k bs d) ∧ Srt le 0 d0.size (merges lt d0.size k bs d) := by
  induction k with
  | zero => intro bs d h1 h2; omega
  | succ k ih =>
    intro bs d hbs hk P B
    unfold merges
    by_cases h : bs < d0.size
    · rw [if_pos h]
      have := mergeRow_ok tot tr d0 O bs hbs (d0.size + 1) 0 d (by omega) (by omega) P (fun t ht => by omega) (fun t _ => B t)
      rw [Nat.zero_mul] at this
      exact ih (2 * bs) _ (by omega) (by omega) this.1 this.2
    · rw [if_neg h]
      have := B 0
      rw [Nat.zero_mul, Nat.zero_add, Nat.one_mul, show min bs d0.size = d0.size by omega] at this
      exact ⟨P, this.1⟩

/-- THE STABLE SORT. -/
theorem stable_ok : SP 0 d0.size d0 (stable lt d0) ∧ Srt le 0 d0.size (stable lt d0) := by
  unfold stable
  have := blocks_ok tot tr d0 O (d0.size + 1) 0 d0 (by omega) (by omega) (SP.refl _ _ _) (fun t ht => by omega) (fun i _ => rfl)
  rw [Nat.zero_mul] at this
  exact merges_ok tot tr d0 O (d0.size + 1) 20 _ (by omega) (by omega) this.1 this.2
end Go.Proofs.YtcccijljnjhkbaaGreatDoor
