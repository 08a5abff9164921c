/- plain.Code: the number of an error, for the errors that this program makes: nil, one of its eleven error variables, a *api.Fault that holds one. -/
import Derived.Test.YtcccijljnjhkbaaGreatDoorEi
import Derived.Below
import Derived.Lib.Hide
import Derived.Outline
import Derived.Deep.LoopGhost
namespace Go.Proofs.YtcccijljnjhkbaaGreatDoor
open Go.RowKit

/-- The error variables' cells, in the order of plain.Code's list: a k is the place that the k-th one points to. -/
structure Errs (W : World) (a : Nat → Addr) : Prop where
  h : W.cell? ⟨11, 0, none⟩ = some (.iface 303 (.agg #[.pointer (some ⟨22, 32, none⟩)]))
  c0 : W.cell? ⟨1, 0, none⟩ = some (.iface 380 (.pointer (some (a 0))))
  c1 : W.cell? ⟨0, 0, none⟩ = some (.iface 380 (.pointer (some (a 1))))
  c2 : W.cell? ⟨2, 0, none⟩ = some (.iface 380 (.pointer (some (a 2))))
  c3 : W.cell? ⟨3, 0, none⟩ = some (.iface 380 (.pointer (some (a 3))))
  c4 : W.cell? ⟨4, 0, none⟩ = some (.iface 380 (.pointer (some (a 4))))
  c5 : W.cell? ⟨5, 0, none⟩ = some (.iface 380 (.pointer (some (a 5))))
  c6 : W.cell? ⟨6, 0, none⟩ = some (.iface 380 (.pointer (some (a 6))))
  c7 : W.cell? ⟨7, 0, none⟩ = some (.iface 380 (.pointer (some (a 7))))
  c8 : W.cell? ⟨8, 0, none⟩ = some (.iface 380 (.pointer (some (a 8))))
  c9 : W.cell? ⟨9, 0, none⟩ = some (.iface 380 (.pointer (some (a 9))))
  c10 : W.cell? ⟨10, 0, none⟩ = some (.iface 380 (.pointer (some (a 10))))
  o : ∀ k, k < 11 → ∃ cs t, W.heap[(a k).block]? = some (.cells cs t (0, 0))
  d : ∀ i k, i < 11 → k < 11 → a i = a k → i = k

theorem Errs.below {W W' : World} {a : Nat → Addr} (E : Errs W a) {B : Nat} (hb : Below B W W') (hB : W.heap.size ≤ B) : Errs W' a := by
  have up : ∀ (g : Nat) (v : Value), W.cell? ⟨g, 0, none⟩ = some v → W'.cell? ⟨g, 0, none⟩ = some v := fun g v h => by
    rw [hb.cell (p := ⟨g, 0, none⟩) (Nat.lt_of_lt_of_le (World.block_lt_of_cell? _ _ h) hB)]; exact h
  refine ⟨up _ _ E.h, up _ _ E.c0, up _ _ E.c1, up _ _ E.c2, up _ _ E.c3, up _ _ E.c4, up _ _ E.c5, up _ _ E.c6, up _ _ E.c7, up _ _ E.c8, up _ _ E.c9, up _ _ E.c10, fun k hk => ?_, E.d⟩
  obtain ⟨cs, t, h⟩ := E.o k hk
  refine ⟨cs, t, ?_⟩
  rw [hb.block _ (Nat.lt_of_lt_of_le (by
    rcases Nat.lt_or_ge (a k).block W.heap.size with h' | h'
    · exact h'
    · rw [Array.getElem?_eq_none h'] at h; cases h) hB)]
  exact h

theorem code_nil (w : World) : Calls Tryz.prog 16 #[.nilIface] w fun e w' => e = .returned (.tuple #[.int .i64 0, .int .i64 (-1)]) ∧ w = w' := by
  go_enter Tryz.func16, Tryz.ntmps16
  go_wp2
  go_ret2
  exact ⟨rfl, rfl⟩

/-- The eleven, as a list in memory. -/
theorem errs_row (w : World) (e : TypeId) (i : Nat) (hi : i < 11) (f : Nat → Value) (B : Nat) (hB : B = w.heap.size) :
    (w.alloc (.cells #[f 0, f 1, f 2, f 3, f 4, f 5, f 6, f 7, f 8, f 9, f 10] e)).cell? ⟨B, i, none⟩ = some (f i) := by
  subst hB
  rw [World.cell?_alloc_at _ _ _ _ rfl]
  match i, hi with
  | 0, _ | 1, _ | 2, _ | 3, _ | 4, _ | 5, _ | 6, _ | 7, _ | 8, _ | 9, _ | 10, _ => rfl

set_option maxHeartbeats 4000000 in
theorem code_sent (a : Nat → Addr) (k : Nat) (hk : k < 11) (w : World) (E : Errs w a) :
    Calls Tryz.prog 16 #[.iface 380 (.pointer (some (a k)))] w fun e w' => e = .returned (.tuple #[.int .i64 ((k : Int) + 1), .int .i64 (-1)]) ∧ Below w.heap.size w w' := by
  have EE : Aside _ := E
  clear E
  go_enter Tryz.func16, Tryz.ntmps16
  go_wp2_with fail
  have B1 : Below w.heap.size w (w.alloc (.cells #[.pointer none] 105)) := (Below.refl _ _).alloc (Nat.le_refl _) _
  refine (as_miss _ _ _ (EE.out.below B1 (Nat.le_refl _)).h).mono ?_
  rintro e w1 ⟨rfl, hw1⟩
  have B2 : Below w.heap.size w w1 := by
    rw [hw1]
    exact ((B1.alloc (by simp) _).alloc (by simp; omega) _).alloc (by simp; omega) _
  clear hw1 B1
  have E1 := EE.out.below B2 (Nat.le_refl _)
  have z1 := B2.size
  have BB : Aside _ := B2
  clear B2
  have k0 := E1.c0
  have k1 := E1.c1
  have k2 := E1.c2
  have k3 := E1.c3
  have k4 := E1.c4
  have k5 := E1.c5
  have k6 := E1.c6
  have k7 := E1.c7
  have k8 := E1.c8
  have k9 := E1.c9
  have k10 := E1.c10
  have E1' : Aside _ := E1
  clear E1
  have R : ∀ i, i < 11 → (w1.alloc (.cells #[.iface 380 (.pointer (some (a 0))), .iface 380 (.pointer (some (a 1))), .iface 380 (.pointer (some (a 2))), .iface 380 (.pointer (some (a 3))), .iface 380 (.pointer (some (a 4))), .iface 380 (.pointer (some (a 5))), .iface 380 (.pointer (some (a 6))), .iface 380 (.pointer (some (a 7))), .iface 380 (.pointer (some (a 8))), .iface 380 (.pointer (some (a 9))), .iface 380 (.pointer (some (a 10)))] 32)).cell? ⟨w1.heap.size, i, none⟩ = some (.iface 380 (.pointer (some (a i)))) := fun i hi => errs_row w1 32 i hi (fun j => .iface 380 (.pointer (some (a j)))) _ rfl
  have B3 : Below w.heap.size w (w1.alloc (.cells #[.iface 380 (.pointer (some (a 0))), .iface 380 (.pointer (some (a 1))), .iface 380 (.pointer (some (a 2))), .iface 380 (.pointer (some (a 3))), .iface 380 (.pointer (some (a 4))), .iface 380 (.pointer (some (a 5))), .iface 380 (.pointer (some (a 6))), .iface 380 (.pointer (some (a 7))), .iface 380 (.pointer (some (a 8))), .iface 380 (.pointer (some (a 9))), .iface 380 (.pointer (some (a 10)))] 32)) := BB.out.alloc z1 _
  go_wp2_with fail
  generalize w1.alloc (.cells #[.iface 380 (.pointer (some (a 0))), .iface 380 (.pointer (some (a 1))), .iface 380 (.pointer (some (a 2))), .iface 380 (.pointer (some (a 3))), .iface 380 (.pointer (some (a 4))), .iface 380 (.pointer (some (a 5))), .iface 380 (.pointer (some (a 6))), .iface 380 (.pointer (some (a 7))), .iface 380 (.pointer (some (a 8))), .iface 380 (.pointer (some (a 9))), .iface 380 (.pointer (some (a 10)))] 32) = w2 at R B3 ⊢
  clear k0 k1 k2 k3 k4 k5 k6 k7 k8 k9 k10 E1'
  generalize w1.heap.size = b2 at R ⊢
  clear z1 BB
  have E2 := EE.out.below B3 (Nat.le_refl _)
  have RR : Aside _ := R
  have B3' : Aside _ := B3
  have E2' : Aside _ := E2
  clear R B3 E2
  go_loopg [3, 29] 11 (fun g1 va vi wr => ∃ i : Nat, vi = .int .i64 i ∧ va = .int .i64 (-1) ∧ i ≤ k ∧ 11 - i ≤ g1 ∧ Hid (w2 = wr))
  case atStart => exact ⟨0, by go_num, rfl, by omega, by omega, rfl⟩
  case round =>
    obtain ⟨i, rfl, rfl, hi, hg1, HW⟩ := hrel
    obtain rfl := HW.out
    clear HW
    have hi11 : i < 11 := by omega
    have hiz : (i : Int) < 11 := by omega
    have c1 := RR.out i hi11
    go_wp2_with fail
    by_cases hik : i = k
    · subst hik
      refine (is_same _ _).mono ?_
      rintro e w9 ⟨rfl, rfl⟩
      go_wp2
      go_ret2
      exact ⟨rfl, B3'.out⟩
    · obtain ⟨ca, ta, ha⟩ := E2'.out.o k hk
      obtain ⟨cb, tb, hb⟩ := E2'.out.o i hi11
      have HA : Aside _ := ha
      have HB : Aside _ := hb
      have HD : Aside (a k ≠ a i) := fun h => hik (E2'.out.d k i hk hi11 h).symm
      clear ha hb
      refine (is_other _ _ _ _ _ _ _ HD.out HA.out HB.out).mono ?_
      rintro e w9 ⟨rfl, rfl⟩
      go_wp2
      go_roundg (gk - 1)
      case measure => omega
      case rel => exact ⟨i + 1, by go_num, rfl, by omega, by omega, rfl⟩

set_option maxHeartbeats 4000000 in
theorem code_fault (a : Nat → Addr) (k : Nat) (hk : k < 11) (at_ : Int) (pb po : Nat) (w : World) (E : Errs w a)
    (p0 : w.cell? ⟨pb, po, none⟩ = some (.int .i64 at_)) (p1 : w.cell? ⟨pb, po + 1, none⟩ = some (.iface 380 (.pointer (some (a k))))) :
    Calls Tryz.prog 16 #[.iface 105 (.pointer (some ⟨pb, po, none⟩))] w fun e w' => e = .returned (.tuple #[.int .i64 ((k : Int) + 1), .int .i64 at_]) ∧ Below w.heap.size w w' := by
  have EE : Aside _ := E
  clear E
  have hpb : pb < w.heap.size := World.block_lt_of_cell? _ _ p0
  have P0 : Aside _ := p0
  have P1 : Aside _ := p1
  clear p0 p1
  go_enter Tryz.func16, Tryz.ntmps16
  go_wp2_with fail
  have B1 : Below w.heap.size w (w.alloc (.cells #[.pointer none] 105)) := (Below.refl _ _).alloc (Nat.le_refl _) _
  refine (as_hit ⟨pb, po, none⟩ _ (.pointer none) _ (EE.out.below B1 (Nat.le_refl _)).h (by simp) (by simp)).mono ?_
  rintro e w1 ⟨rfl, hw1⟩
  have B2 : Below w.heap.size w w1 := by
    rw [hw1]
    exact (((((B1.alloc (by simp) _).alloc (by simp; omega) _).alloc (by simp; omega) _).alloc (by simp; omega) _).setCell (Nat.le_refl _) _)
  have t0 : w1.cell? ⟨w.heap.size, 0, none⟩ = some (.pointer (some ⟨pb, po, none⟩)) := by
    rw [hw1]
    exact World.cell?_setCell_same (u := .pointer none) _ _ _ (by rw [World.cell?_alloc_lt _ _ _ (by simp; omega), World.cell?_alloc_lt _ _ _ (by simp; omega), World.cell?_alloc_lt _ _ _ (by simp; omega), World.cell?_alloc_lt _ _ _ (by simp)]; simp)
  have q0 : w1.cell? ⟨pb, po, none⟩ = some (.int .i64 at_) := by rw [B2.cell (p := ⟨pb, po, none⟩) hpb]; exact P0.out
  clear hw1 B1
  have E1 := EE.out.below B2 (Nat.le_refl _)
  have z1 := B2.size
  have BB : Aside _ := B2
  clear B2
  have k0 := E1.c0
  have k1 := E1.c1
  have k2 := E1.c2
  have k3 := E1.c3
  have k4 := E1.c4
  have k5 := E1.c5
  have k6 := E1.c6
  have k7 := E1.c7
  have k8 := E1.c8
  have k9 := E1.c9
  have k10 := E1.c10
  have E1' : Aside _ := E1
  clear E1
  have R : ∀ i, i < 11 → (w1.alloc (.cells #[.iface 380 (.pointer (some (a 0))), .iface 380 (.pointer (some (a 1))), .iface 380 (.pointer (some (a 2))), .iface 380 (.pointer (some (a 3))), .iface 380 (.pointer (some (a 4))), .iface 380 (.pointer (some (a 5))), .iface 380 (.pointer (some (a 6))), .iface 380 (.pointer (some (a 7))), .iface 380 (.pointer (some (a 8))), .iface 380 (.pointer (some (a 9))), .iface 380 (.pointer (some (a 10)))] 32)).cell? ⟨w1.heap.size, i, none⟩ = some (.iface 380 (.pointer (some (a i)))) := fun i hi => errs_row w1 32 i hi (fun j => .iface 380 (.pointer (some (a j)))) _ rfl
  have B3 : Below w.heap.size w (w1.alloc (.cells #[.iface 380 (.pointer (some (a 0))), .iface 380 (.pointer (some (a 1))), .iface 380 (.pointer (some (a 2))), .iface 380 (.pointer (some (a 3))), .iface 380 (.pointer (some (a 4))), .iface 380 (.pointer (some (a 5))), .iface 380 (.pointer (some (a 6))), .iface 380 (.pointer (some (a 7))), .iface 380 (.pointer (some (a 8))), .iface 380 (.pointer (some (a 9))), .iface 380 (.pointer (some (a 10)))] 32)) := BB.out.alloc z1 _
  go_wp2_with fail
  generalize w1.alloc (.cells #[.iface 380 (.pointer (some (a 0))), .iface 380 (.pointer (some (a 1))), .iface 380 (.pointer (some (a 2))), .iface 380 (.pointer (some (a 3))), .iface 380 (.pointer (some (a 4))), .iface 380 (.pointer (some (a 5))), .iface 380 (.pointer (some (a 6))), .iface 380 (.pointer (some (a 7))), .iface 380 (.pointer (some (a 8))), .iface 380 (.pointer (some (a 9))), .iface 380 (.pointer (some (a 10)))] 32) = w2 at R B3 ⊢
  clear k0 k1 k2 k3 k4 k5 k6 k7 k8 k9 k10 E1'
  generalize w1.heap.size = b2 at R ⊢
  clear z1 BB
  have E2 := EE.out.below B3 (Nat.le_refl _)
  have q1 : w2.cell? ⟨pb, po + 1, none⟩ = some (.iface 380 (.pointer (some (a k)))) := by rw [B3.cell (p := ⟨pb, po + 1, none⟩) hpb]; exact P1.out
  have Q1 : Aside _ := q1
  clear q0 q1 t0
  have RR : Aside _ := R
  have B3' : Aside _ := B3
  have E2' : Aside _ := E2
  clear R B3 E2
  go_loopg [3, 29] 11 (fun g1 va vi wr => ∃ i : Nat, vi = .int .i64 i ∧ va = .int .i64 at_ ∧ i ≤ k ∧ 11 - i ≤ g1 ∧ Hid (w2 = wr))
  case atStart => exact ⟨0, by go_num, rfl, by omega, by omega, rfl⟩
  case round =>
    obtain ⟨i, rfl, rfl, hi, hg1, HW⟩ := hrel
    obtain rfl := HW.out
    clear HW
    have hi11 : i < 11 := by omega
    have hiz : (i : Int) < 11 := by omega
    have c1 := RR.out i hi11
    go_wp2_with fail
    by_cases hik : i = k
    · subst hik
      refine (is_fault_same _ _ _ _ Q1.out).mono ?_
      rintro e w9 ⟨rfl, rfl⟩
      go_wp2
      go_ret2
      exact ⟨rfl, B3'.out⟩
    · obtain ⟨ca, ta, ha⟩ := E2'.out.o k hk
      obtain ⟨cb, tb, hb⟩ := E2'.out.o i hi11
      have HA : Aside _ := ha
      have HB : Aside _ := hb
      have HD : Aside (a k ≠ a i) := fun h => hik (E2'.out.d k i hk hi11 h).symm
      clear ha hb
      refine (is_fault_other _ _ _ _ _ _ _ _ _ HD.out HA.out HB.out Q1.out).mono ?_
      rintro e w9 ⟨rfl, rfl⟩
      go_wp2
      go_roundg (gk - 1)
      case measure => omega
      case rel => exact ⟨i + 1, by go_num, rfl, by omega, by omega, rfl⟩

end Go.Proofs.YtcccijljnjhkbaaGreatDoor
