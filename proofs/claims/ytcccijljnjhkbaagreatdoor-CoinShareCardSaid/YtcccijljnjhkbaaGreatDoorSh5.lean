/- coin.Share: the call of the sort. -/
import Derived.Test.YtcccijljnjhkbaaGreatDoorSh3
namespace Go.Proofs.YtcccijljnjhkbaaGreatDoor
open Go.Shelf Go.RowKit Go.Lib Go.Sort
variable {N : Nat}

theorem size_shIdx (N : Nat) : (shIdx N).size = N + 1 := by simp [shIdx]
theorem get_shIdx (N j : Nat) (h : j < N + 1) : ((shIdx N)[j]!).val = j := by
  have h2 : j < (shIdx N).size := by rw [size_shIdx]; exact h
  rw [getElem!_pos (shIdx N) j h2]
  simp [shIdx]

theorem share_eg : ∀ args w, (callFunc 104 args).run Tryz.prog w = .ok (.enter 104 args) w := fun _ _ => by kernel_rfl

theorem oneF {N : Nat} : OneCell (eF (N := N)) := fun _ => rfl

theorem share_holds {w W : World} {N T S : Nat} {wn : Nat → Nat} (h : ShSt w N T S wn (N + 1) W) : Holds eF W (w.heap.size + 1 + 1 + 1) 0 (shIdx N) := fun j hj => by
  rw [size_shIdx] at hj
  rw [Nat.zero_add]
  refine ⟨(h.d.cell j hj).trans ?_, h.d.free j hj⟩
  rw [if_pos hj]
  show some (Value.int .i64 (j : Int)) = some (Value.int .i64 _)
  rw [get_shIdx N j hj]

theorem size_blocks (lt : Fin (N + 1) → Fin (N + 1) → Bool) (n k : Nat) : ∀ (a : Nat) (d : Array (Fin (N + 1))), (blocks lt n k a d).size = d.size := by
  induction k with
  | zero => intros; rfl
  | succ k ih => intro a d; unfold blocks; split <;> simp [ih, size_insertion]
theorem size_mergeRow (lt : Fin (N + 1) → Fin (N + 1) → Bool) (n bs k : Nat) : ∀ (a : Nat) (d : Array (Fin (N + 1))), (mergeRow lt n bs k a d).size = d.size := by
  induction k with
  | zero => intros; rfl
  | succ k ih => intro a d; unfold mergeRow; (repeat' split) <;> simp [ih, size_symM]
theorem size_merges (lt : Fin (N + 1) → Fin (N + 1) → Bool) (n k : Nat) : ∀ (bs : Nat) (d : Array (Fin (N + 1))), (merges lt n k bs d).size = d.size := by
  induction k with
  | zero => intros; rfl
  | succ k ih => intro bs d; unfold merges; split <;> simp [ih, size_mergeRow]
theorem size_shOrd' (N T S : Nat) (wn : Nat → Nat) : (shOrd N T S wn).size = N + 1 := by
  unfold shOrd stable
  rw [size_merges, size_blocks, size_shIdx]
theorem size_shOrd (N T S : Nat) (wn : Nat → Nat) : (shOrd N T S wn).size = (shIdx N).size := by rw [size_shOrd', size_shIdx]

theorem share_sort {w W : World} {N T S : Nat} {wn : Nat → Nat} (hN : N < 60) (hS : 0 < S) (hS2 : S ≤ 60000000) (h : ShSt w N T S wn (N + 1) W) :
    Calls Tryz.prog 103 #[.slice (some ⟨w.heap.size + 1 + 1 + 1, 0, none⟩) (N + 1) (N + 1), .func (.func 104) #[] #[.pointer (some ⟨w.heap.size + 1 + 1, 0, none⟩)]] W fun e w' => e = .returned (.tuple #[]) ∧ SW eF W (w.heap.size + 1 + 1 + 1) 0 (shOrd N T S wn) w' := by
  have hH := share_holds h
  have hz := h.z
  refine sortStable_calls (shCmp T S wn) _ _ _ 0 _ (shIdx N) W share_eg ?_ ⟨oneF, hH, by omega⟩ (by rw [size_shIdx]; omega) hH _ (size_shIdx N).symm
  intro m os dk hdk x y
  have keep : ∀ (k o : Nat), k < W.heap.size → k ≠ w.heap.size + 1 + 1 + 1 → (sortWorld eF W (w.heap.size + 1 + 1 + 1) 0 m dk os).cell? ⟨k, o, none⟩ = W.cell? ⟨k, o, none⟩ := fun k o h1 h2 =>
    World.cell?_of_block (w := W) (a := ⟨k, o, none⟩) (heap_sortWorld _ _ _ _ _ _ _ _ h1 h2)
  have hr : ∀ j, shR T S wn j < 60000000 := fun j => by
    have : shR T S wn j < S := Nat.mod_lt _ hS
    omega
  have c0 := (keep (w.heap.size + 1 + 1) 0 (by omega) (by omega)).trans h.c
  have cx := (keep (w.heap.size + 1) x.val (by omega) (by omega)).trans (h.r.cell x.val x.isLt)
  have cy := (keep (w.heap.size + 1) y.val (by omega) (by omega)).trans (h.r.cell y.val y.isLt)
  rw [if_pos x.isLt] at cx
  rw [if_pos y.isLt] at cy
  have hx := hr x.val
  have hy := hr y.val
  exact shareCmp_calls x.val y.val (N + 1) _ _ _ _ _ x.isLt y.isLt (by omega) c0 cx cy (by omega) (by omega) (by omega) (by omega)

theorem shBump_le {d : Array (Fin (N + 1))} {f : Nat → Int} {B : Int} (h : ∀ j, j < N + 1 → 0 ≤ f j ∧ f j ≤ B) (k : Nat) : ∀ j, j < N + 1 → 0 ≤ shBump d f k j ∧ shBump d f k j ≤ B + k := by
  induction k with
  | zero => intro j hj; have := h j hj; simpa [shBump] using this
  | succ k ih =>
    intro j hj
    have := ih j hj
    unfold shBump
    split <;> omega
end Go.Proofs.YtcccijljnjhkbaaGreatDoor
