/- The stable sort's plain functions, as Go's text has them: swapRange, rotate, symMerge, stable. -/
import Derived.Sort.Defs
namespace Go.Proofs.YtcccijljnjhkbaaGreatDoor
open Go.Sort
variable {α : Type} [Inhabited α]

def swpRange (d : Array α) (a b : Nat) : Nat → Array α
  | 0 => d
  | n + 1 => swp (swpRange d a b n) (a + n) (b + n)

def rot (m : Nat) : Nat → Nat → Nat → Array α → Array α
  | 0, _, _, d => d
  | k + 1, i, j, d =>
    if i = j then swpRange d (m - i) m i
    else if j < i then rot m k (i - j) j (swpRange d (m - i) m j)
    else rot m k i (j - i) (swpRange d (m - i) (m + j - i) i)

/-- The least c of [lo, hi) (or hi) from which on p holds no more: the binary search as Go's text goes. -/
def bin (p : Nat → Bool) : Nat → Nat → Nat → Nat
  | 0, lo, _ => lo
  | k + 1, lo, hi => if lo < hi then (if p ((lo + hi) / 2) then bin p k ((lo + hi) / 2 + 1) hi else bin p k lo ((lo + hi) / 2)) else lo

theorem bin_yes {p : Nat → Bool} {k lo hi : Nat} (h : lo < hi) (hp : p ((lo + hi) / 2) = true) : bin p (k + 1) lo hi = bin p k ((lo + hi) / 2 + 1) hi := by
  conv => lhs; unfold bin
  rw [if_pos h, if_pos hp]
theorem bin_no {p : Nat → Bool} {k lo hi : Nat} (h : lo < hi) (hp : p ((lo + hi) / 2) = false) : bin p (k + 1) lo hi = bin p k lo ((lo + hi) / 2) := by
  conv => lhs; unfold bin
  rw [if_pos h, if_neg (by rw [hp]; simp)]
theorem bin_end {p : Nat → Bool} {k lo hi : Nat} (h : ¬ lo < hi) : bin p (k + 1) lo hi = lo := by
  unfold bin
  rw [if_neg h]

/-- data[k], data[k+1] = data[k+1], data[k] for k from lo, n times. -/
def upSwp (lo : Nat) : Nat → Array α → Array α
  | 0, d => d
  | n + 1, d => swp (upSwp lo n d) (lo + n) (lo + n + 1)

/-- data[k], data[k-1] = data[k-1], data[k] for k from hi downwards, n times. -/
def downSwp (hi : Nat) : Nat → Array α → Array α
  | 0, d => d
  | n + 1, d => swp (downSwp hi n d) (hi - n) (hi - n - 1)

def symM (lt : α → α → Bool) : Nat → Array α → Nat → Nat → Nat → Array α
  | 0, d, _, _, _ => d
  | k + 1, d, a, m, b =>
    if m - a = 1 then
      let i := bin (fun h => lt d[h]! d[a]!) (b - m + 1) m b
      upSwp a (i - 1 - a) d
    else if b - m = 1 then
      let i := bin (fun h => !lt d[m]! d[h]!) (m - a + 1) a m
      downSwp m (m - i) d
    else
      let mid := (a + b) / 2
      let n := mid + m
      let start0 := if mid < m then n - b else a
      let r0 := if mid < m then mid else m
      let start := bin (fun c => !lt d[n - 1 - c]! d[c]!) (r0 - start0 + 1) start0 r0
      let fin := n - start
      let d1 := if start < m ∧ m < fin then rot m (fin - start + 1) (m - start) (fin - m) d else d
      let d2 := if a < start ∧ start < mid then symM lt k d1 a start mid else d1
      if mid < fin ∧ fin < b then symM lt k d2 mid fin b else d2

/-- stableCmpFunc's first loop: insertion sort of blocks of 20. -/
def blocks (lt : α → α → Bool) (n : Nat) : Nat → Nat → Array α → Array α
  | 0, _, d => d
  | k + 1, a, d => if a + 20 ≤ n then blocks lt n k (a + 20) (insertionSort lt d a (a + 20)) else insertionSort lt d a n

def mergeRow (lt : α → α → Bool) (n bs : Nat) : Nat → Nat → Array α → Array α
  | 0, _, d => d
  | k + 1, a, d =>
    if a + 2 * bs ≤ n then mergeRow lt n bs k (a + 2 * bs) (symM lt (2 * bs) d a (a + bs) (a + 2 * bs))
    else if a + bs < n then symM lt (n - a) d a (a + bs) n else d

def merges (lt : α → α → Bool) (n : Nat) : Nat → Nat → Array α → Array α
  | 0, _, d => d
  | k + 1, bs, d => if bs < n then merges lt n k (2 * bs) (mergeRow lt n bs (n + 1) 0 d) else d

def stable (lt : α → α → Bool) (d : Array α) : Array α := merges lt d.size (d.size + 1) 20 (blocks lt d.size (d.size + 1) 0 d)

theorem size_swp' (d : Array α) (i j : Nat) : (swp d i j).size = d.size := by simp [swp]
theorem size_swpRange (d : Array α) (a b n : Nat) : (swpRange d a b n).size = d.size := by
  induction n with
  | zero => rfl
  | succ n ih => simp [swpRange, size_swp', ih]
theorem size_upSwp (lo n : Nat) (d : Array α) : (upSwp lo n d).size = d.size := by
  induction n with
  | zero => rfl
  | succ n ih => simp [upSwp, size_swp', ih]
theorem size_downSwp (hi n : Nat) (d : Array α) : (downSwp hi n d).size = d.size := by
  induction n with
  | zero => rfl
  | succ n ih => simp [downSwp, size_swp', ih]
theorem size_rot (m k : Nat) : ∀ (i j : Nat) (d : Array α), (rot m k i j d).size = d.size := by
  induction k with
  | zero => intros; rfl
  | succ k ih =>
    intro i j d
    unfold rot
    split
    · exact size_swpRange _ _ _ _
    · split
      · rw [ih, size_swpRange]
      · rw [ih, size_swpRange]
theorem size_symM (lt : α → α → Bool) (k : Nat) : ∀ (d : Array α) (a m b : Nat), (symM lt k d a m b).size = d.size := by
  induction k with
  | zero => intros; rfl
  | succ k ih =>
    intro d a m b
    unfold symM
    split
    · exact size_upSwp _ _ _
    · split
      · exact size_downSwp _ _ _
      · dsimp only
        repeat' (first | (split; skip) | rfl | rw [ih] | rw [size_rot])
end Go.Proofs.YtcccijljnjhkbaaGreatDoor
