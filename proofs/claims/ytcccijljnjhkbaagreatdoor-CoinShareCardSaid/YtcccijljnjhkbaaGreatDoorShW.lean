/- A row of ints in memory, told cell by cell; plain words for coin.Share. -/
import Derived.Below
import Derived.Laws.NewBlocks
import Derived.Deep.OwnRows
import Derived.Deep.Draws
namespace Go.Proofs.YtcccijljnjhkbaaGreatDoor
open Go.RowKit

/-- Block g holds the ints f 0 .. f (n-1), and they may be written. -/
structure FRow (W : World) (g n : Nat) (f : Nat → Int) : Prop where
  lt : g < W.heap.size
  cell : ∀ j, j < n → W.cell? ⟨g, j, none⟩ = some (.int .i64 (f j))
  free : ∀ j, j < n → W.frozen? ⟨g, j, none⟩ = false

variable {W W' : World} {g n : Nat} {f : Nat → Int}
theorem FRow.congr {f' : Nat → Int} (h : FRow W g n f) (e : ∀ j, j < n → f j = f' j) : FRow W g n f' := ⟨h.lt, fun j hj => by rw [← e j hj]; exact h.cell j hj, h.free⟩
theorem FRow.drewN (h : FRow W g n f) (k : Nat) : FRow (W.drewN k) g n f := ⟨h.lt, h.cell, h.free⟩
theorem FRow.drew (h : FRow W g n f) : FRow W.drew g n f := ⟨h.lt, h.cell, h.free⟩
theorem FRow.alloc (h : FRow W g n f) (o : Obj) : FRow (W.alloc o) g n f :=
  ⟨by simp; have := h.lt; omega, fun j hj => by rw [World.cell?_alloc_lt _ _ _ h.lt]; exact h.cell j hj, fun j hj => by rw [World.frozen?_alloc_old _ _ _ (Nat.ne_of_lt h.lt)]; exact h.free j hj⟩
theorem FRow.far (h : FRow W g n f) {b o : Nat} (hb : b ≠ g) (v : Value) : FRow (W.setCell ⟨b, o, none⟩ v) g n f :=
  ⟨by simpa using h.lt, fun j hj => by rw [World.cell?_setCell_other _ _ _ _ (by intro e; simp only [Addr.mk.injEq] at e; exact hb e.1)]; exact h.cell j hj, fun j hj => by rw [World.frozen?_setCell]; exact h.free j hj⟩
theorem FRow.put (h : FRow W g n f) (i : Nat) (hi : i < n) (v : Int) : FRow (W.setCell ⟨g, i, none⟩ (.int .i64 v)) g n (fun j => if j = i then v else f j) :=
  ⟨by simpa using h.lt, fun j hj => by
    by_cases e : j = i
    · subst e; rw [if_pos rfl]; exact World.cell?_setCell_same _ _ _ (h.cell j hj)
    · rw [if_neg e, World.cell?_setCell_other _ _ _ _ (by intro e'; simp only [Addr.mk.injEq] at e'; omega)]; exact h.cell j hj, fun j hj => by rw [World.frozen?_setCell]; exact h.free j hj⟩
theorem FRow.made (W : World) (n e : Nat) : FRow (W.alloc (.cells (madeCells #[.int .i64 0] n) e)) W.heap.size n (fun _ => 0) := by
  refine ⟨by simp, fun j hj => ?_, fun j hj => ?_⟩
  · rw [World.cell?_alloc_at _ _ _ _ rfl, ← Array.getElem?_toList, toList_madeCells_one, List.getElem?_replicate, if_pos hj]
  · simp
theorem FRow.below {B : Nat} (h : FRow W g n f) (hb : Below B W W') (hg : g < B) : FRow W' g n f :=
  ⟨by have := hb.size; have := h.lt; omega, fun j hj => by rw [hb.cell (p := ⟨g, j, none⟩) hg]; exact h.cell j hj, fun j hj => by rw [hb.frozen (p := ⟨g, j, none⟩) hg]; exact h.free j hj⟩

theorem sz_alloc (w : World) (o : Obj) : (w.alloc o).heap.size = w.heap.size + 1 := by simp

/-- The sum of the first k. -/
def sumTo (f : Nat → Nat) : Nat → Nat
  | 0 => 0
  | k + 1 => sumTo f k + f k
theorem sumTo_le {f : Nat → Nat} {b : Nat} (k : Nat) (h : ∀ i, i < k → f i ≤ b) : sumTo f k ≤ k * b := by
  induction k with
  | zero => simp [sumTo]
  | succ k ih =>
    have := ih fun i hi => h i (by omega)
    have := h k (by omega)
    show sumTo f k + f k ≤ _
    rw [Nat.succ_mul]
    omega
theorem sumTo_mono {f : Nat → Nat} {a b : Nat} (h : a ≤ b) : sumTo f a ≤ sumTo f b := by
  induction b with
  | zero => obtain rfl : a = 0 := by omega
            exact Nat.le_refl _
  | succ b ih =>
    by_cases e : a = b + 1
    · rw [e]; exact Nat.le_refl _
    · have := ih (by omega)
      show _ ≤ sumTo f b + f b
      omega
theorem le_sumTo {f : Nat → Nat} {i k : Nat} (h : i < k) : f i ≤ sumTo f k := by
  have := sumTo_mono (f := f) (show i + 1 ≤ k by omega)
  have e : sumTo f (i + 1) = sumTo f i + f i := rfl
  omega
end Go.Proofs.YtcccijljnjhkbaaGreatDoor
