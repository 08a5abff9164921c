/- The stable sort's merge keeps the order and merges: plain Lean. -/
import Derived.Test.YtcccijljnjhkbaaGreatDoorStQ
namespace Go.Proofs.YtcccijljnjhkbaaGreatDoor
open Go.Sort
variable {α : Type} [Inhabited α]

def Srt (le : α → α → Prop) (a b : Nat) (d : Array α) : Prop := ∀ p q, a ≤ p → p ≤ q → q < b → le d[p]! d[q]!
def Agr (lt : α → α → Bool) (le : α → α → Prop) (d : Array α) (a m b : Nat) : Prop := ∀ p q, a ≤ p → p < m → m ≤ q → q < b → (lt d[q]! d[p]! = true ↔ ¬ le d[p]! d[q]!)

theorem bin_spec (p : Nat → Bool) (k : Nat) : ∀ lo hi, lo ≤ hi → hi - lo < k → (∀ x y, lo ≤ x → x ≤ y → y < hi → p y = true → p x = true) →
    lo ≤ bin p k lo hi ∧ bin p k lo hi ≤ hi ∧ (∀ x, lo ≤ x → x < bin p k lo hi → p x = true) ∧ (∀ x, bin p k lo hi ≤ x → x < hi → p x = false) := by
  induction k with
  | zero => intro lo hi _ h; omega
  | succ k ih =>
    intro lo hi hl hk hm
    by_cases h : lo < hi
    · cases hp : p ((lo + hi) / 2) with
      | true =>
        rw [bin_yes h hp]
        obtain ⟨h1, h2, h3, h4⟩ := ih ((lo + hi) / 2 + 1) hi (by omega) (by omega) (fun x y a b c d => hm x y (by omega) b c d)
        refine ⟨by omega, h2, fun x a b => ?_, h4⟩
        by_cases hx : x ≤ (lo + hi) / 2
        · exact hm x _ a hx (by omega) hp
        · exact h3 x (by omega) b
      | false =>
        rw [bin_no h hp]
        obtain ⟨h1, h2, h3, h4⟩ := ih lo ((lo + hi) / 2) (by omega) (by omega) (fun x y a b c d => hm x y a b (by omega) d)
        refine ⟨h1, by omega, h3, fun x a b => ?_⟩
        by_cases hx : x < (lo + hi) / 2
        · exact h4 x a hx
        · cases hpx : p x with
          | false => rfl
          | true => have := hm ((lo + hi) / 2) x (by omega) (by omega) b hpx; rw [hp] at this; cases this
    · rw [bin_end h]
      exact ⟨Nat.le_refl _, hl, fun x a b => by omega, fun x a b => by omega⟩

variable {lt : α → α → Bool} {le : α → α → Prop} (tot : ∀ x y, le x y ∨ le y x) (tr : ∀ x y z, le x y → le y z → le x z)
include tot tr

theorem symM_left_ok {d : Array α} {a m b i : Nat} (ham : m = a + 1) (hmb : m < b) (hb : b ≤ d.size) (S2 : Srt le m b d) (A : Agr lt le d a m b)
    (hi : i = bin (fun h => lt d[h]! d[a]!) (b - m + 1) m b) : SP a b d (upSwp a (i - 1 - a) d) ∧ Srt le a b (upSwp a (i - 1 - a) d) := by
  subst ham
  have key : ∀ h, a + 1 ≤ h → h < b → (lt d[h]! d[a]! = true ↔ ¬ le d[a]! d[h]!) := fun h h1 h2 => A a h (Nat.le_refl _) (by omega) h1 h2
  obtain ⟨b1, b2, b3, b4⟩ := bin_spec (fun h => lt d[h]! d[a]!) (b - (a + 1) + 1) (a + 1) b (by omega) (by omega) (fun x y h1 h2 h3 h4 => by
    rw [key x h1 (by omega)]
    rw [key y (by omega) h3] at h4
    exact fun hc => h4 (tr _ _ _ hc (S2 x y h1 h2 h3)))
  rw [← hi] at b1 b2 b3 b4
  have lo : ∀ x, a + 1 ≤ x → x < i → le d[x]! d[a]! := fun x h1 h2 => by
    have := (key x h1 (by omega)).1 (b3 x h1 h2)
    exact (tot _ _).resolve_right this
  have hi2 : ∀ x, i ≤ x → x < b → le d[a]! d[x]! := fun x h1 h2 => by
    have h3 := b4 x h1 h2
    exact Classical.byContradiction fun hc => by rw [(key x (by omega) h2).2 hc] at h3; cases h3
  have g := get_upSwp d a (i - 1 - a) (by omega)
  refine ⟨(SP.up (by omega)).wide (Nat.le_refl _) (by omega), fun p q h1 h2 h3 => ?_⟩
  rw [g, g]
  have rf : ∀ x, le x x := fun x => (tot x x).elim id id
  by_cases hp : p < i - 1
  · rw [if_pos ⟨h1, by omega⟩]
    by_cases hq : q < i - 1
    · rw [if_pos ⟨by omega, by omega⟩]; exact S2 _ _ (by omega) (by omega) (by omega)
    · rw [if_neg (by omega)]
      by_cases hq2 : q = i - 1
      · rw [if_pos (by omega)]; exact lo _ (by omega) (by omega)
      · rw [if_neg (by omega)]; exact S2 _ _ (by omega) (by omega) (by omega)
  · rw [if_neg (by omega)]
    by_cases hp2 : p = i - 1
    · rw [if_pos (by omega), if_neg (by omega)]
      by_cases hq2 : q = i - 1
      · rw [if_pos (by omega)]; exact rf _
      · rw [if_neg (by omega)]; exact hi2 _ (by omega) (by omega)
    · rw [if_neg (by omega), if_neg (by omega), if_neg (by omega)]
      exact S2 _ _ (by omega) (by omega) (by omega)

theorem symM_right_ok {d : Array α} {a m b i : Nat} (ham : a < m) (hmb : b = m + 1) (hb : b ≤ d.size) (S1 : Srt le a m d) (A : Agr lt le d a m b)
    (hi : i = bin (fun h => !lt d[m]! d[h]!) (m - a + 1) a m) : SP a b d (downSwp m (m - i) d) ∧ Srt le a b (downSwp m (m - i) d) := by
  subst hmb
  have key : ∀ h, a ≤ h → h < m → (lt d[m]! d[h]! = true ↔ ¬ le d[h]! d[m]!) := fun h h1 h2 => A h m h1 h2 (Nat.le_refl _) (by omega)
  have key2 : ∀ h, a ≤ h → h < m → ((!lt d[m]! d[h]!) = true ↔ le d[h]! d[m]!) := fun h h1 h2 => by
    have := key h h1 h2
    cases hl : lt d[m]! d[h]! with
    | true => rw [hl] at this; simp only [Bool.not_true, Bool.false_eq_true, false_iff]; exact this.1 rfl
    | false => rw [hl] at this; simp only [Bool.not_false, true_iff]; exact Classical.byContradiction fun hc => by have := this.2 hc; cases this
  obtain ⟨b1, b2, b3, b4⟩ := bin_spec (fun h => !lt d[m]! d[h]!) (m - a + 1) a m (by omega) (by omega) (fun x y h1 h2 h3 h4 => by
    rw [key2 x h1 (by omega)]
    rw [key2 y (by omega) h3] at h4
    exact tr _ _ _ (S1 x y h1 h2 h3) h4)
  rw [← hi] at b1 b2 b3 b4
  have lo : ∀ x, a ≤ x → x < i → le d[x]! d[m]! := fun x h1 h2 => (key2 x h1 (by omega)).1 (b3 x h1 h2)
  have hi2 : ∀ x, i ≤ x → x < m → le d[m]! d[x]! := fun x h1 h2 => by
    have h3 := b4 x h1 h2
    refine (tot _ _).resolve_right fun hc => ?_
    rw [(key2 x (by omega) h2).2 hc] at h3; cases h3
  have g := get_downSwp d m (m - i) (by omega) (by omega)
  refine ⟨(SP.down (by omega) (by omega)).wide (by omega) (by omega), fun p q h1 h2 h3 => ?_⟩
  rw [g, g]
  have rf : ∀ x, le x x := fun x => (tot x x).elim id id
  by_cases hp : i < p
  · rw [if_pos ⟨by omega, by omega⟩, if_pos ⟨by omega, by omega⟩]
    exact S1 _ _ (by omega) (by omega) (by omega)
  · rw [if_neg (by omega)]
    by_cases hp2 : p = i
    · rw [if_pos (by omega)]
      by_cases hq : i < q
      · rw [if_pos ⟨by omega, by omega⟩]; exact hi2 _ (by omega) (by omega)
      · rw [if_neg (by omega), if_pos (by omega)]; exact rf _
    · rw [if_neg (by omega)]
      by_cases hq : i < q
      · rw [if_pos ⟨by omega, by omega⟩]; exact S1 _ _ (by omega) (by omega) (by omega)
      · rw [if_neg (by omega)]
        by_cases hq2 : q = i
        · rw [if_pos (by omega)]; exact lo _ (by omega) (by omega)
        · rw [if_neg (by omega)]; exact S1 _ _ (by omega) (by omega) (by omega)

theorem symM_ok (k : Nat) : ∀ (d : Array α) (a m b : Nat), a < m → m < b → b ≤ d.size → b - a ≤ k → Srt le a m d → Srt le m b d → Agr lt le d a m b →
    SP a b d (symM lt k d a m b) ∧ Srt le a b (symM lt k d a m b) := by
  induction k with
  | zero => intro d a m b h1 h2 _ h3; omega
  | succ k ih =>
    intro d a m b ham hmb hb hk S1 S2 A
    unfold symM
    by_cases h1 : m - a = 1
    · rw [if_pos h1]
      exact symM_left_ok tot tr (by omega) hmb hb S2 A rfl
    rw [if_neg h1]
    by_cases h2 : b - m = 1
    · rw [if_pos h2]
      exact symM_right_ok tot tr ham (by omega) hb S1 A rfl
    rw [if_neg h2]
    dsimp only
    obtain ⟨mid, hmid⟩ : ∃ q, q = (a + b) / 2 := ⟨_, rfl⟩
    rw [← hmid]
    obtain ⟨s0, hs0⟩ : ∃ q, q = (if mid < m then mid + m - b else a) := ⟨_, rfl⟩
    obtain ⟨r0, hr0⟩ : ∃ q, q = (if mid < m then mid else m) := ⟨_, rfl⟩
    rw [← hs0, ← hr0]
    have hsr : (mid < m ∧ s0 + b = mid + m ∧ r0 = mid) ∨ (m ≤ mid ∧ s0 = a ∧ r0 = m) := by
      by_cases hq : mid < m
      · rw [if_pos hq] at hs0 hr0; exact .inl ⟨hq, by omega, hr0⟩
      · rw [if_neg hq] at hs0 hr0; exact .inr ⟨by omega, hs0, hr0⟩
    clear hs0 hr0
    obtain ⟨st, hst⟩ : ∃ q, q = bin (fun c => !lt d[mid + m - 1 - c]! d[c]!) (r0 - s0 + 1) s0 r0 := ⟨_, rfl⟩
    rw [← hst]
    have e0 : a ≤ s0 ∧ s0 ≤ r0 ∧ r0 ≤ m ∧ r0 ≤ mid ∧ a < mid ∧ mid < b ∧ mid + m ≤ s0 + b := by omega
    obtain ⟨g1, g2, g3, g4, g5, g6, g7⟩ := e0
    have key : ∀ c, s0 ≤ c → c < r0 → (lt d[mid + m - 1 - c]! d[c]! = true ↔ ¬ le d[c]! d[mid + m - 1 - c]!) := fun c h3 h4 => A c _ (by omega) (by omega) (by omega) (by omega)
    have key2 : ∀ c, s0 ≤ c → c < r0 → ((!lt d[mid + m - 1 - c]! d[c]!) = true ↔ le d[c]! d[mid + m - 1 - c]!) := fun c h3 h4 => by
      have := key c h3 h4
      cases hl : lt d[mid + m - 1 - c]! d[c]! with
      | true => rw [hl] at this; simp only [Bool.not_true, Bool.false_eq_true, false_iff]; exact this.1 rfl
      | false => rw [hl] at this; simp only [Bool.not_false, true_iff]; exact Classical.byContradiction fun hc => by have := this.2 hc; cases this
    obtain ⟨b1, b2, b3, b4⟩ := bin_spec (fun c => !lt d[mid + m - 1 - c]! d[c]!) (r0 - s0 + 1) s0 r0 (by omega) (by omega) (fun x y h3 h4 h5 h6 => by
      rw [key2 x h3 (by omega)]
      rw [key2 y (by omega) h5] at h6
      exact tr _ _ _ (S1 x y (by omega) h4 (by omega)) (tr _ _ _ h6 (S2 _ _ (by omega) (by omega) (by omega))))
    rw [← hst] at b1 b2 b3 b4
    have lo : ∀ x, s0 ≤ x → x < st → le d[x]! d[mid + m - 1 - x]! := fun x h3 h4 => (key2 x h3 (by omega)).1 (b3 x h3 h4)
    have hi : ∀ x, st ≤ x → x < r0 → le d[mid + m - 1 - x]! d[x]! := fun x h3 h4 => by
      have h5 := b4 x h3 h4
      refine (tot _ _).resolve_right fun hc => ?_
      rw [(key2 x (by omega) h4).2 hc] at h5; cases h5
    obtain ⟨fin, hfin⟩ : ∃ q, q = mid + m - st := ⟨_, rfl⟩
    rw [← hfin]
    obtain ⟨d1, hd1⟩ : ∃ q, q = (if st < m ∧ m < fin then rot m (fin - st + 1) (m - st) (fin - m) d else d) := ⟨_, rfl⟩
    rw [← hd1]
    have G : ∀ p, d1[p]! = if st ≤ p ∧ p < mid then d[p + m - st]! else if mid ≤ p ∧ p < fin then d[p - (fin - m)]! else d[p]! := by
      intro p
      by_cases hc : st < m ∧ m < fin
      · rw [if_pos hc] at hd1
        rw [hd1, get_rot _ _ _ _ _ (by omega) (by omega) (by omega) (by omega) (by omega)]
        repeat' split
        all_goals first | (exfalso; omega) | exact idx (by omega)
      · rw [if_neg hc] at hd1
        rw [hd1]
        repeat' split
        all_goals first | (exfalso; omega) | exact idx (by omega) | rfl
    have P1 : SP a b d d1 := by
      by_cases hc : st < m ∧ m < fin
      · rw [if_pos hc] at hd1
        rw [hd1]
        have := SP.rot (m := m) (k := fin - st + 1) (i := m - st) (j := fin - m) (d := d) (by omega) (by omega) (by omega) (by omega) (by omega)
        exact this.wide (by omega) (by omega)
      · rw [if_neg hc] at hd1; rw [hd1]; exact SP.refl _ _ _
    -- the four parts of d1
    have q1 : ∀ p, p < st → d1[p]! = d[p]! := fun p h => by rw [G, if_neg (by omega), if_neg (by omega)]
    have q2 : ∀ p, st ≤ p → p < mid → d1[p]! = d[p + m - st]! := fun p h h' => by rw [G, if_pos ⟨h, h'⟩]
    have q3 : ∀ p, mid ≤ p → p < fin → d1[p]! = d[p - (fin - m)]! := fun p h h' => by rw [G, if_neg (by omega), if_pos ⟨h, h'⟩]
    have q4 : ∀ p, fin ≤ p → d1[p]! = d[p]! := fun p h => by rw [G, if_neg (by omega), if_neg (by omega)]
    have X : ∀ p q, a ≤ p → p < mid → mid ≤ q → q < b → le d1[p]! d1[q]! := by
      intro p q h3 h4 h5 h6
      by_cases hp : p < st
      · rw [q1 p hp]
        by_cases hq : q < fin
        · rw [q3 q h5 hq]; exact S1 _ _ h3 (by omega) (by omega)
        · rw [q4 q (by omega)]
          have l1 := lo (st - 1) (by omega) (by omega)
          exact tr _ _ _ (S1 p (st - 1) h3 (by omega) (by omega)) (tr _ _ _ l1 (S2 _ _ (by omega) (by omega) (by omega)))
      · rw [q2 p (by omega) h4]
        by_cases hq : q < fin
        · rw [q3 q h5 hq]
          have l1 := hi st (Nat.le_refl _) (by omega)
          exact tr _ _ _ (S2 _ (mid + m - 1 - st) (by omega) (by omega) (by omega)) (tr _ _ _ l1 (S1 _ _ (by omega) (by omega) (by omega)))
        · rw [q4 q (by omega)]; exact S2 _ _ (by omega) (by omega) (by omega)
    obtain ⟨d2, hd2⟩ : ∃ q, q = (if a < st ∧ st < mid then symM lt k d1 a st mid else d1) := ⟨_, rfl⟩
    rw [← hd2]
    have P2 : SP a mid d1 d2 ∧ Srt le a mid d2 := by
      by_cases hc : a < st ∧ st < mid
      · rw [if_pos hc] at hd2
        rw [hd2]
        refine ih d1 a st mid hc.1 hc.2 (by rw [P1.1]; omega) (by omega) (fun p q h3 h4 h5 => ?_) (fun p q h3 h4 h5 => ?_) (fun p q h3 h4 h5 h6 => ?_)
        · rw [q1 p (by omega), q1 q h5]; exact S1 _ _ h3 h4 (by omega)
        · rw [q2 p h3 (by omega), q2 q (by omega) h5]; exact S2 _ _ (by omega) (by omega) (by omega)
        · rw [q1 p h4, q2 q h5 h6]; exact A _ _ h3 (by omega) (by omega) (by omega)
      · rw [if_neg hc] at hd2
        rw [hd2]
        refine ⟨SP.refl _ _ _, fun p q h3 h4 h5 => ?_⟩
        by_cases hs : a < st
        · rw [q1 p (by omega), q1 q (by omega)]; exact S1 _ _ h3 h4 (by omega)
        · rw [q2 p (by omega) (by omega), q2 q (by omega) h5]; exact S2 _ _ (by omega) (by omega) (by omega)
    obtain ⟨P2, Q2⟩ := P2
    obtain ⟨d3, hd3⟩ : ∃ q, q = (if mid < fin ∧ fin < b then symM lt k d2 mid fin b else d2) := ⟨_, rfl⟩
    rw [← hd3]
    have o2 : ∀ p, mid ≤ p → d2[p]! = d1[p]! := fun p h => P2.2.1 p (.inr h)
    have P3 : SP mid b d2 d3 ∧ Srt le mid b d3 := by
      by_cases hc : mid < fin ∧ fin < b
      · rw [if_pos hc] at hd3
        rw [hd3]
        refine ih d2 mid fin b hc.1 hc.2 (by rw [P2.1, P1.1]; omega) (by omega) (fun p q h3 h4 h5 => ?_) (fun p q h3 h4 h5 => ?_) (fun p q h3 h4 h5 h6 => ?_)
        · rw [o2 p h3, o2 q (by omega), q3 p h3 (by omega), q3 q (by omega) h5]; exact S1 _ _ (by omega) (by omega) (by omega)
        · rw [o2 p (by omega), o2 q (by omega), q4 p h3, q4 q (by omega)]; exact S2 _ _ (by omega) (by omega) (by omega)
        · rw [o2 p h3, o2 q (by omega), q3 p h3 h4, q4 q h5]; exact A _ _ (by omega) (by omega) (by omega) (by omega)
      · rw [if_neg hc] at hd3
        rw [hd3]
        refine ⟨SP.refl _ _ _, fun p q h3 h4 h5 => ?_⟩
        rw [o2 p h3, o2 q (by omega)]
        by_cases hs : mid < fin
        · rw [q3 p h3 (by omega), q3 q (by omega) (by omega)]; exact S1 _ _ (by omega) (by omega) (by omega)
        · rw [q4 p (by omega), q4 q (by omega)]; exact S2 _ _ (by omega) (by omega) (by omega)
    obtain ⟨P3, Q3⟩ := P3
    refine ⟨(P1.trans (P2.wide (Nat.le_refl _) (by omega))).trans (P3.wide (by omega) (Nat.le_refl _)), fun p q h3 h4 h5 => ?_⟩
    have o3 : ∀ p, p < mid → d3[p]! = d2[p]! := fun p h => P3.2.1 p (.inl h)
    by_cases hq : q < mid
    · rw [o3 p (by omega), o3 q hq]; exact Q2 p q h3 h4 hq
    · by_cases hp : p < mid
      · rw [o3 p hp]
        obtain ⟨_, _, σ, _, w, _⟩ := P2
        obtain ⟨_, _, σ', _, w', _⟩ := P3
        obtain ⟨a1, a2, _, a3⟩ := w p h3 hp
        obtain ⟨c1, c2, _, c3⟩ := w' q (by omega) h5
        rw [a3, c3, o2 _ c1]
        exact X _ _ a1 a2 c1 c2
      · exact Q3 p q (by omega) h4 h5
end Go.Proofs.YtcccijljnjhkbaaGreatDoor
