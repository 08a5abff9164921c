/- The sort family at the closure of coin.Share: insertionSortCmpFunc over a row of ints: what it makes of the row. -/
import Derived.Test.YtcccijljnjhkbaaGreatDoorProg
import Derived.Shelf.SlSortCmp.Kit1
import Derived.WalkKit
import Derived.Lib.Hide
import Derived.Outline
import Derived.BigQuiet
import Derived.BigRegion
import Derived.Deep.LoopGhost
import Derived.Sort.WalkA
namespace Go.Proofs.YtcccijljnjhkbaaGreatDoor
open Go.Shelf Go.RowKit Go.Lib Go.Sort
variable {N : Nat}

abbrev eF {N : Nat} : Fin (N + 1) → Value := fun x => Value.int .i64 (x.val : Int)

set_option maxHeartbeats 4000000 in
set_option maxRecDepth 100000 in
theorem insertion_calls (cf : Fin (N + 1) → Fin (N + 1) → Int) (g : Nat) (cb : Array Value) (blk off cap a b : Nat) (d0 d : Array (Fin (N + 1))) (w0 w : World)
    (eg : ∀ args w, (callFunc g args).run Tryz.prog w = .ok (.enter g args) w) (hcmp : CmpReads Tryz.prog g cb eF cf blk off d0.size w0) (R : Row1 eF w0 blk off d0) (hs : d0.size = d.size) (S : SW eF w0 blk off d w) (hab : a ≤ b) (hb : b ≤ d.size) (hsz : d.size < 4611686018427387904) :
    Calls Tryz.prog 255 #[.slice (some ⟨blk, off, none⟩) d.size cap, .int .i64 a, .int .i64 b, .func (.func g) #[] cb] w fun e w' => e = .returned (.tuple #[]) ∧ SW eF w0 blk off (Sort.insertionSort (ltOf cf) d a b) w' := by
  have HC : Aside _ := hcmp.lays
  have S0 : Aside (SW eF w0 blk off d w) := S
  clear S hcmp
  have mixed : Tryz.prog.follows .mixedOrders = true := by kernel_rfl
  go_enter Tryz.func255, Tryz.ntmps255
  go_wp2
  go_loopg [8] (b - a) (fun g1 vi wr => ∃ (i : Nat) (dk : Array (Fin (N + 1))), vi = .int .i64 i ∧ a < i ∧ i ≤ b + 1 ∧ b + 1 - i ≤ g1 + 1 ∧ dk.size = d.size ∧ Aside (SW eF w0 blk off dk wr) ∧ Hid (insOuter (ltOf cf) a b i dk = insOuter (ltOf cf) a b (a + 1) d))
  case atStart => exact ⟨a + 1, d, by go_num, by omega, by omega, by omega, rfl, S0, rfl⟩
  case round =>
    clear S0
    obtain ⟨i, dk, rfl, hai, hib, hg1, hsk, S1, HO⟩ := hrel
    by_cases hlt : i < b
    · have hltz : (i : Int) < (b : Int) := by omega
      go_wp2
      go_loopg [9] i (fun g2 vj wr2 => ∃ (j : Nat) (dj : Array (Fin (N + 1))), vj = .int .i64 j ∧ a ≤ j ∧ j ≤ i ∧ j ≤ g2 ∧ dj.size = d.size ∧ Aside (SW eF w0 blk off dj wr2) ∧ Hid (insInner (ltOf cf) a j dj = insInner (ltOf cf) a i dk))
      case atStart => exact ⟨i, dk, rfl, by omega, Nat.le_refl _, Nat.le_refl _, hsk, S1, rfl⟩
      case round =>
        clear S1
        obtain ⟨j, dj, rfl, haj, hji, hg2, hsj, SJ, HI⟩ := hrel
        have out : (j ≤ a ∨ (ltOf cf) dj[j]! dj[j - 1]! = false) → Hid (insOuter (ltOf cf) a b (i + 1) dj = insOuter (ltOf cf) a b (a + 1) d) := fun hs => by
          show _ = _
          rw [← HO.out, insOuter_go _ _ _ _ _ hlt, ← HI.out, insInner_stop _ _ _ _ hs]
        have OUT : Aside _ := out
        clear out
        by_cases hja : a < j
        · have hjaz : (a : Int) < (j : Int) := by omega
          obtain ⟨jp, rfl⟩ : ∃ q, j = q + 1 := ⟨j - 1, by omega⟩
          have hjad : decide ((a : Int) < (jp : Int) + 1) = true := decide_eq_true (by omega)
          have hjaz' : (a : Int) < (jp : Int) + 1 := by omega
          have p0 : (0 : Int) ≤ (jp : Int) + 1 := by omega
          have jz : (jp : Int) + 1 < (d.size : Int) := by omega
          have jz1 : (jp : Int) < (d.size : Int) := by omega
          obtain ⟨x, hx⟩ : ∃ x, x = dj[jp + 1]! := ⟨_, rfl⟩
          obtain ⟨y, hy⟩ : ∃ y, y = dj[jp]! := ⟨_, rfl⟩
          have hwp : IntKind.i64.wrap (jp : Int) = (jp : Int) := by rw [IntKind.wrap_i64]; omega
          have hwp1 : IntKind.i64.wrap ((jp : Int) + 1) = (jp : Int) + 1 := by rw [IntKind.wrap_i64]; omega
          have la := SJ.out.cl R (by omega) (jp + 1) (by omega)
          have lb := SJ.out.cl R (by omega) jp (by omega)
          rw [← hx] at la
          rw [← hy] at lb
          have hc := SJ.out.cmp HC.out (by omega) x y
          have HX := Lib.hid hx
          have HY := Lib.hid hy
          clear hx hy
          cases hlv : decide (cf x y < 0) with
          | true =>
            go_wp2_with fail
            go_quiet_grown (first | (go_at_fn g; refine Calls.grown_of (hc _ _)))
            have S2 : Aside (SW eF w0 blk off dj (grow (wr.drewN nq) osq)) := SJ.out.grown nq osq
            clear la lb hc SJ
            generalize grow (wr.drewN nq) osq = w2 at S2 ⊢
            clear nq osq
            go_wp2_with fail
            have S3 : Aside (SW eF w0 blk off (swp dj (jp + 1) jp) ((w2.setCell ⟨blk, off + (jp + 1), none⟩ (eF y)).setCell ⟨blk, off + jp, none⟩ (eF x)).drew) := by rw [HX.out, HY.out]; exact S2.out.swapped R (jp + 1) jp (by omega) (by omega)
            have c1 := S2.out.c1 R (by omega) (jp + 1) (by omega)
            have c2 := S2.out.c1 R (by omega) jp (by omega)
            have f1 := S2.out.f1 R (by omega) (jp + 1) (by omega)
            have f2 := S2.out.f1 R (by omega) jp (by omega)
            obtain ⟨u3, c3⟩ := S2.out.c2 R (by omega) (jp + 1) jp (by omega) (by omega) (eF y)
            rw [← HX.out] at c1
            rw [← HY.out] at c2
            clear S2
            go_big_region
            clear c1 c2 c3 f1 f2
            generalize ((w2.setCell ⟨blk, off + (jp + 1), none⟩ (eF y)).setCell ⟨blk, off + jp, none⟩ (eF x)).drew = w3 at S3 ⊢
            go_wp2
            go_roundg jp
            case measure => omega
            case rel => exact ⟨jp, swp dj (jp + 1) jp, by first | rfl | go_num | (congr 1; omega), by omega, by omega, Nat.le_refl _, by rw [size_swp]; exact hsj, S3, (show Hid _ from by
              have hl : ltOf cf dj[jp + 1]! dj[jp + 1 - 1]! = true := by rw [Nat.add_sub_cancel, ← HX.out, ← HY.out]; exact hlv
              have hg := insInner_go (ltOf cf) a (jp + 1) dj hja hl
              rw [Nat.add_sub_cancel] at hg
              rw [← HI.out, hg]; exact rfl)⟩
          | false =>
            go_wp2_with fail
            go_quiet_grown (first | (go_at_fn g; refine Calls.grown_of (hc _ _)))
            have S2 : Aside (SW eF w0 blk off dj (grow (wr.drewN nq) osq)) := SJ.out.grown nq osq
            clear la lb hc SJ
            generalize grow (wr.drewN nq) osq = w2 at S2 ⊢
            clear nq osq
            go_wp2
            go_roundg (b - (i + 1))
            case measure => omega
            case rel => exact ⟨i + 1, dj, by first | rfl | go_num, by omega, by omega, by omega, hsj, S2, OUT.out (.inr (by rw [Nat.add_sub_cancel, ← HX.out, ← HY.out]; exact hlv))⟩
        · have hjad : decide ((a : Int) < (j : Int)) = false := decide_eq_false (by omega)
          go_wp2_with fail
          go_big_quiet (fail)
          have S2 : Aside (SW eF w0 blk off dj (wr.drewN nq)) := SJ.out.drewN nq
          clear SJ
          generalize wr.drewN nq = w2 at S2 ⊢
          go_wp2
          go_roundg (b - (i + 1))
          case measure => omega
          case rel => exact ⟨i + 1, dj, by first | rfl | go_num, by omega, by omega, by omega, hsj, S2, OUT.out (.inl (by omega))⟩
    · have hge : b ≤ i := by omega
      have hfin : insOuter (ltOf cf) a b i dk = dk := insOuter_stop _ _ _ _ _ (by omega)
      have HF := Lib.hid hfin
      clear hfin
      go_wp2
      go_end0
      refine ⟨rfl, ?_⟩
      have h1 := HO.out
      rw [HF.out] at h1
      have h2 : Sort.insertionSort (ltOf cf) d a b = dk := h1.symm
      rw [h2]; exact S1.out
end Go.Proofs.YtcccijljnjhkbaaGreatDoor
