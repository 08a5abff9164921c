/- coin.Share where it doesn't share: the error. -/
import Derived.Test.YtcccijljnjhkbaaGreatDoorSh4
namespace Go.Proofs.YtcccijljnjhkbaaGreatDoor
open Go.Shelf Go.RowKit Go.Lib Go.Sort

set_option maxHeartbeats 4000000 in
theorem share_long (A : Option Addr) (n cap : Nat) (total : Int) (v : Value) (w : World) (hn : 60 < n) (hn2 : n ≤ 9223372036854775807) (hE : w.cell? ⟨0, 0, none⟩ = some v) :
    Calls Tryz.prog 42 #[.int .i64 total, .slice A n cap] w fun e w' => e = .returned (.tuple #[.slice none 0 0, v]) ∧ ∃ q, w' = w.drewN q := by
  have t1 : (60 : Int) < (n : Int) := by omega
  go_enter Tryz.func42, Tryz.ntmps42
  go_wp2_with fail
  go_quiet (fail)
  go_wp2
  go_ret2
  exact ⟨rfl, _, rfl⟩

set_option maxHeartbeats 4000000 in
theorem share_bad (b off n cap : Nat) (ws : Nat → Int) (total : Int) (v : Value) (w : World) (hn : n ≤ 60)
    (cw : ∀ i, i < n → w.cell? ⟨b, off + i, none⟩ = some (.int .i64 (ws i))) (hbad : ∃ i, i < n ∧ (ws i < 0 ∨ 1000000 < ws i))
    (hE : w.cell? ⟨2, 0, none⟩ = some v) :
    Calls Tryz.prog 42 #[.int .i64 total, .slice (some ⟨b, off, none⟩) n cap] w fun e w' => e = .returned (.tuple #[.slice none 0 0, v]) ∧ ∃ q, w' = w.drewN q := by
  have hbad' : ¬ ∀ j, j < n → 0 ≤ ws j ∧ ws j ≤ 1000000 := fun h => by
    obtain ⟨i, hi, hb⟩ := hbad
    have := h i hi
    omega
  have HB : Aside _ := hbad'
  have CW : Aside _ := cw
  have t1 : ¬ (60 : Int) < (n : Int) := by omega
  clear hbad hbad' cw
  go_enter Tryz.func42, Tryz.ntmps42
  go_wp2
  go_loopg [6, 29] n (fun g1 vs vi wr => ∃ (i : Nat) (s : Int), vi = .int .i64 i ∧ vs = .int .i64 s ∧ 0 ≤ s ∧ s ≤ 1000000 * (i : Int) ∧ i ≤ n ∧ n - i ≤ g1 ∧ Aside (∀ j, j < i → 0 ≤ ws j ∧ ws j ≤ 1000000) ∧ Hid (w = wr))
  case atStart => exact ⟨0, 0, by go_num, rfl, by omega, by omega, by omega, by omega, (fun j hj => by omega), rfl⟩
  case round =>
    obtain ⟨i, s, rfl, rfl, hs0, hs1, hi, hg1, HA, HW⟩ := hrel
    obtain rfl := HW.out
    clear HW
    by_cases hlt : i < n
    · have hltz : (i : Int) < (n : Int) := by omega
      have c1 := CW.out i hlt
      obtain ⟨x, hx⟩ : ∃ x, x = ws i := ⟨_, rfl⟩
      rw [← hx] at c1
      have HX := Lib.hid hx
      clear hx
      by_cases h0 : x < 0
      · have t2 : decide (x < 0) = true := decide_eq_true h0
        go_wp2_with fail
        go_quiet (fail)
        go_wp2
        go_ret2
        exact ⟨rfl, _, rfl⟩
      · have t2 : decide (x < 0) = false := decide_eq_false h0
        by_cases h1 : 1000000 < x
        · have t3 : decide (1000000 < x) = true := decide_eq_true h1
          go_wp2_with fail
          go_quiet (fail)
          go_wp2
          go_ret2
          exact ⟨rfl, _, rfl⟩
        · have t3 : decide (1000000 < x) = false := decide_eq_false h1
          have e1 : IntKind.i64.wrap (s + x) = s + x := by rw [IntKind.wrap_i64]; omega
          go_wp2
          go_roundg (gk - 1)
          case measure => omega
          case rel => exact ⟨i + 1, s + x, by go_num, by first | rfl | go_num, by omega, by omega, by omega, by omega, (fun j hj => by
            by_cases e : j = i
            · rw [e, ← HX.out]; omega
            · exact HA.out j (by omega)), rfl⟩
    · exact absurd (fun j hj => HA.out j (by omega)) HB.out

set_option maxHeartbeats 4000000 in
/-- All weights are right, but the total is too great, or the weights come to nothing. -/
theorem share_none (b off n cap : Nat) (wn : Nat → Nat) (total : Int) (v : Value) (w : World) (hn : n ≤ 60)
    (cw : ∀ i, i < n → w.cell? ⟨b, off + i, none⟩ = some (.int .i64 (wn i : Int))) (bw : ∀ i, i < n → wn i ≤ 1000000) (hbad : total < -1000000000000 ∨ 1000000000000 < total ∨ sumTo wn n = 0)
    (hE : w.cell? ⟨2, 0, none⟩ = some v) :
    Calls Tryz.prog 42 #[.int .i64 total, .slice (some ⟨b, off, none⟩) n cap] w fun e w' => e = .returned (.tuple #[.slice none 0 0, v]) ∧ ∃ q, w' = w.drewN q := by
  have sb : ∀ k, k ≤ n → sumTo wn k ≤ 60000000 := fun k hk => by
    have := sumTo_le (f := wn) (b := 1000000) k fun i hi => bw i (by omega)
    have : k * 1000000 ≤ 60 * 1000000 := Nat.mul_le_mul_right _ (by omega)
    omega
  have SB : Aside _ := sb
  have CW : Aside _ := cw
  have BW : Aside _ := bw
  have t1 : ¬ (60 : Int) < (n : Int) := by omega
  have HBAD : Aside _ := hbad
  clear sb cw bw hbad
  go_enter Tryz.func42, Tryz.ntmps42
  go_wp2
  go_loopg [6, 29] n (fun g1 vs vi wr => ∃ (i : Nat), vi = .int .i64 i ∧ vs = .int .i64 (sumTo wn i : Int) ∧ i ≤ n ∧ n - i ≤ g1 ∧ Hid (w = wr))
  case atStart => exact ⟨0, by go_num, rfl, by omega, by omega, rfl⟩
  case round =>
    obtain ⟨i, rfl, rfl, hi, hg1, HW⟩ := hrel
    obtain rfl := HW.out
    clear HW
    by_cases hlt : i < n
    · have hltz : (i : Int) < (n : Int) := by omega
      have c1 := CW.out i hlt
      have b1 : (wn i : Int) ≤ 1000000 := by have := BW.out i hlt; omega
      have b2 : (0 : Int) ≤ (wn i : Int) := by omega
      have b3 : (sumTo wn i : Int) ≤ 60000000 := by have := SB.out i hi; omega
      go_wp2
      go_roundg (gk - 1)
      case measure => omega
      case rel => exact ⟨i + 1, by go_num, by show _ = Value.int _ ((sumTo wn i + wn i : Nat) : Int); go_num, by omega, by omega, rfl⟩
    · obtain rfl : i = n := by omega
      by_cases hg : total < -1000000000000 ∨ 1000000000000 < total
      · go_wp2_with (go_at_call 100; refine (good_no _ _ hg).mono ?_; rintro e w9 ⟨rfl, rfl⟩)
        go_quiet (fail)
        go_wp2
        go_ret2
        exact ⟨rfl, _, rfl⟩
      · have hz : sumTo wn i = 0 := by have := HBAD.out; omega
        have b4 : ((sumTo wn i : Int) == 0) = true := by simp [hz]
        have HZ := Lib.hid hz
        clear hz
        go_wp2_with (go_at_call 100; refine (good_yes _ _ (by omega) (by omega)).mono ?_; rintro e w9 ⟨rfl, rfl⟩)
        go_quiet (fail)
        go_wp2
        go_ret2
        exact ⟨rfl, _, rfl⟩

set_option maxHeartbeats 4000000 in
theorem share_empty (A : Option Addr) (cap : Nat) (total : Int) (v : Value) (w : World) (hE : w.cell? ⟨2, 0, none⟩ = some v) :
    Calls Tryz.prog 42 #[.int .i64 total, .slice A 0 cap] w fun e w' => e = .returned (.tuple #[.slice none 0 0, v]) ∧ ∃ q, w' = w.drewN q := by
  go_enter Tryz.func42, Tryz.ntmps42
  go_wp2
  refine wp_loop_rounds 1 ?_
  rw [rounds_succ]
  by_cases hg : total < -1000000000000 ∨ 1000000000000 < total
  · go_wp2_with (go_at_call 100; refine (good_no _ _ hg).mono ?_; rintro e w9 ⟨rfl, rfl⟩)
    go_quiet (fail)
    go_wp2
    go_ret2
    exact ⟨rfl, _, rfl⟩
  · go_wp2_with (go_at_call 100; refine (good_yes _ _ (by omega) (by omega)).mono ?_; rintro e w9 ⟨rfl, rfl⟩)
    go_quiet (fail)
    go_wp2
    go_ret2
    exact ⟨rfl, _, rfl⟩
end Go.Proofs.YtcccijljnjhkbaaGreatDoor
