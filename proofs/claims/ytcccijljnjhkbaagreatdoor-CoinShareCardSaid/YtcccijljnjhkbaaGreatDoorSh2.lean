/- bits.Div64 where the high word is 0; what the sort leaves of the world. -/
import Derived.Test.YtcccijljnjhkbaaGreatDoorSo6
import Derived.Test.YtcccijljnjhkbaaGreatDoorSh1
import Derived.Test.YtcccijljnjhkbaaGreatDoorShW
namespace Go.Proofs.YtcccijljnjhkbaaGreatDoor
open Go.Shelf Go.RowKit Go.Lib Go.Sort

set_option maxHeartbeats 1000000 in
theorem div64_low (lo y : Nat) (w : World) (hy : 0 < y) (hy2 : y < 18446744073709551616) (hl : lo < 18446744073709551616) :
    Calls Tryz.prog 102 #[.int .u64 0, .int .u64 lo, .int .u64 y] w fun e w' => e = .returned (.tuple #[.int .u64 ((lo / y : Nat) : Int), .int .u64 ((lo % y : Nat) : Int)]) ∧ ∃ q, w' = w.drewN q := by
  have t0 : ((y : Int) == 0) = false := by simp; omega
  have t0' : ¬ (y : Int) = 0 := by omega
  have t1 : (1 : Int) ≤ (y : Int) := by omega
  have t2 : ¬ (y : Int) ≤ 0 := by omega
  have t3 : decide ((y : Int) ≤ 0) = false := decide_eq_false t2
  have t4 : (0 : Int) ≤ (lo : Int) := by omega
  go_enter Tryz.func102, Tryz.ntmps102
  go_wp2
  go_quiet (fail)
  go_wp2
  go_ret2
  refine ⟨?_, _, rfl⟩
  have hq : lo / y < 18446744073709551616 := Nat.lt_of_le_of_lt (Nat.div_le_self _ _) hl
  have ew : IntKind.u64.wrap ((lo : Int) / (y : Int)) = ((lo / y : Nat) : Int) := by
    rw [← Int.natCast_ediv, IntKind.wrap_u64]; exact Int.emod_eq_of_lt (Int.natCast_nonneg _) (Int.ofNat_lt.2 hq)
  show Ending.returned (.tuple #[.int .u64 (IntKind.u64.wrap ((lo : Int) / (y : Int))), .int .u64 ((lo : Int) % (y : Int))]) = _
  rw [ew, Int.natCast_emod]

theorem heap_sortWorld {α : Type} [Inhabited α] (enc : α → Value) (w : World) (blk off m : Nat) (d : Array α) (os : Array Obj) (k : Nat) (hk : k < w.heap.size) (hb : k ≠ blk) : (sortWorld enc w blk off m d os).heap[k]? = w.heap[k]? := by
  unfold sortWorld
  rw [heap_grow_old _ _ (by rw [size_putRow]; exact hk)]
  show (w.heap.modify blk _)[k]? = _
  rw [Array.getElem?_modify, if_neg (fun e => hb e.symm)]

theorem sw_kept {α : Type} [Inhabited α] {enc : α → Value} {w W : World} {blk off : Nat} {d : Array α} (h : SW enc w blk off d W) : W.os = w.os ∧ W.tape = w.tape ∧ W.output = w.output ∧ w.heap.size ≤ W.heap.size ∧ ∀ k, k < w.heap.size → k ≠ blk → W.heap[k]? = w.heap[k]? := by
  have hle := h.le
  obtain ⟨n, os, rfl⟩ := h
  exact ⟨rfl, rfl, rfl, hle, fun k hk hb => heap_sortWorld _ _ _ _ _ _ _ _ hk hb⟩

theorem sw_below {α : Type} [Inhabited α] {enc : α → Value} {w W : World} {blk off B : Nat} {d : Array α} (h : SW enc w blk off d W) (hB : B ≤ blk) (hB2 : B ≤ w.heap.size) : Below B w W := by
  obtain ⟨a, b, c, e, f⟩ := sw_kept h
  exact ⟨a, b, c, e, fun k hk => f k (by omega) (by omega)⟩

theorem FRow.sorted {α : Type} [Inhabited α] {enc : α → Value} {w W : World} {blk off g n : Nat} {d : Array α} {f : Nat → Int} (h : FRow w g n f) (s : SW enc w blk off d W) (hg : g ≠ blk) : FRow W g n f := by
  obtain ⟨_, _, _, e, k⟩ := sw_kept s
  have hb := k g h.lt hg
  exact ⟨by have := h.lt; omega, fun j hj => (World.cell?_of_block (w := w) (a := ⟨g, j, none⟩) hb).trans (h.cell j hj), fun j hj => (World.frozen?_of_block (w := w) (a := ⟨g, j, none⟩) hb).trans (h.free j hj)⟩
end Go.Proofs.YtcccijljnjhkbaaGreatDoor
