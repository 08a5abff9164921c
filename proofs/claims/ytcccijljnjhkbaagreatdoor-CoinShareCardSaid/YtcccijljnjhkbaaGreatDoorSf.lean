/- statuteref1.Share: what the document's answer hands back. -/
import Derived.Test.YtcccijljnjhkbaaGreatDoorShM
import Derived.Test.YtcccijljnjhkbaaGreatDoorPor
namespace Go.Proofs.YtcccijljnjhkbaaGreatDoor
open Go.Shelf Go.RowKit Go.Lib Go.Sort

theorem small_yes (n : Int) (w : World) (h1 : -1000000000000 ≤ n) (h2 : n ≤ 1000000000000) :
    Calls Tryz.prog 105 #[.int .i64 n] w fun e w' => e = .returned (.bool true) ∧ w = w' := by
  have t1 : decide (n ≤ 1000000000000) = true := decide_eq_true h2
  have t2 : decide (-1000000000000 ≤ n) = true := decide_eq_true h1
  go_enter Tryz.func105, Tryz.ntmps105
  go_wp2
  go_ret
  exact ⟨rfl, rfl⟩

theorem small_no (n : Int) (w : World) (h : n < -1000000000000 ∨ 1000000000000 < n) :
    Calls Tryz.prog 105 #[.int .i64 n] w fun e w' => e = .returned (.bool false) ∧ w = w' := by
  rcases h with h | h
  · have t1 : decide (n ≤ 1000000000000) = true := decide_eq_true (by omega)
    have t2 : decide (-1000000000000 ≤ n) = false := decide_eq_false (by omega)
    go_enter Tryz.func105, Tryz.ntmps105
    go_wp2
    go_ret
    exact ⟨rfl, rfl⟩
  · have t1 : decide (n ≤ 1000000000000) = false := decide_eq_false (by omega)
    go_enter Tryz.func105, Tryz.ntmps105
    go_wp2
    go_ret
    exact ⟨rfl, rfl⟩

set_option maxHeartbeats 4000000 in
theorem refShare_long (A : Option Addr) (n cap : Nat) (total : Int) (w : World) (hn : 60 < n) (_hn2 : n ≤ 9223372036854775807) :
    Calls Tryz.prog 43 #[.int .i64 total, .slice A n cap] w fun e w' => e = .returned (.tuple #[.slice none 0 0, .int .i64 2]) ∧ w = w' := by
  have t1 : (60 : Int) < (n : Int) := by omega
  go_enter Tryz.func43, Tryz.ntmps43
  go_wp2
  go_ret2
  exact ⟨rfl, rfl⟩

set_option maxHeartbeats 4000000 in
theorem refShare_empty (A : Option Addr) (cap : Nat) (total : Int) (w : World) :
    Calls Tryz.prog 43 #[.int .i64 total, .slice A 0 cap] w fun e w' => e = .returned (.tuple #[.slice none 0 0, .int .i64 3]) ∧ w = w' := by
  go_enter Tryz.func43, Tryz.ntmps43
  go_wp2
  refine wp_loop_rounds 1 ?_
  rw [rounds_succ]
  by_cases hg : total < -1000000000000 ∨ 1000000000000 < total
  · go_wp2_with (go_at_call 105; refine (small_no _ _ hg).mono ?_; rintro e w9 ⟨rfl, rfl⟩)
    go_ret2
    exact ⟨rfl, rfl⟩
  · go_wp2_with (go_at_call 105; refine (small_yes _ _ (by omega) (by omega)).mono ?_; rintro e w9 ⟨rfl, rfl⟩)
    go_ret2
    exact ⟨rfl, rfl⟩

set_option maxHeartbeats 4000000 in
/-- A weight is wrong, or the total is too great, or the weights come to nothing. -/
theorem refShare_none (b off n cap : Nat) (ws : Nat → Int) (total : Int) (w : World) (hn : n ≤ 60)
    (cw : ∀ i, i < n → w.cell? ⟨b, off + i, none⟩ = some (.int .i64 (ws i)))
    (hbad : (∃ i, i < n ∧ (ws i < 0 ∨ 1000000 < ws i)) ∨ total < -1000000000000 ∨ 1000000000000 < total ∨ sumTo (fun i => (ws i).toNat) n = 0) :
    Calls Tryz.prog 43 #[.int .i64 total, .slice (some ⟨b, off, none⟩) n cap] w fun e w' => e = .returned (.tuple #[.slice none 0 0, .int .i64 3]) ∧ w = w' := by
  have CW : Aside _ := cw
  have t1 : ¬ (60 : Int) < (n : Int) := by omega
  have HBAD : Aside _ := hbad
  clear cw hbad
  go_enter Tryz.func43, Tryz.ntmps43
  go_wp2
  go_loopg [6, 7, 8] n (fun g1 vs vb vi wr => ∃ (i : Nat) (s : Int) (bb : Bool), vi = .int .i64 i ∧ vs = .int .i64 s ∧ vb = .bool bb ∧ i ≤ n ∧ n - i ≤ g1 ∧ Hid (w = wr) ∧
    Hid ((bb = true ∧ ∃ j, j < i ∧ (ws j < 0 ∨ 1000000 < ws j)) ∨ (bb = false ∧ s = (sumTo (fun i => (ws i).toNat) i : Int) ∧ s ≤ 1000000 * (i : Int) ∧ ∀ j, j < i → 0 ≤ ws j ∧ ws j ≤ 1000000)))
  case atStart => exact ⟨0, 0, false, by go_num, rfl, rfl, by omega, by omega, rfl, .inr ⟨rfl, rfl, by omega, fun j h => by omega⟩⟩
  case round =>
    obtain ⟨i, s, bb, rfl, rfl, rfl, hi, hg1, HW, HS⟩ := hrel
    obtain rfl := HW.out
    clear HW
    by_cases hlt : i < n
    · have hltz : (i : Int) < (n : Int) := by omega
      have c1 := CW.out i hlt
      rcases HS.out with ⟨rfl, hj⟩ | ⟨rfl, hs, hs2, hgood⟩
      · have HJ := Lib.hid hj
        clear hj HS
        go_wp2
        go_roundg (gk - 1)
        case measure => omega
        case rel =>
          refine ⟨i + 1, _, true, by go_num, rfl, rfl, by omega, by omega, rfl, .inl ⟨rfl, ?_⟩⟩
          obtain ⟨j, h1, h2⟩ := HJ.out
          exact ⟨j, by omega, h2⟩
      · have HG := Lib.hid hgood
        have HE := Lib.hid hs
        have hs0 : 0 ≤ s := by omega
        clear hgood hs HS
        by_cases h1 : ws i < 0
        · go_wp2
          go_roundg (gk - 1)
          case measure => omega
          case rel => exact ⟨i + 1, _, true, by go_num, rfl, rfl, by omega, by omega, rfl, .inl ⟨rfl, i, by omega, .inl h1⟩⟩
        · by_cases h2 : 1000000 < ws i
          · go_wp2
            go_roundg (gk - 1)
            case measure => omega
            case rel => exact ⟨i + 1, _, true, by go_num, rfl, rfl, by omega, by omega, rfl, .inl ⟨rfl, i, by omega, .inr h2⟩⟩
          · go_wp2
            go_roundg (gk - 1)
            case measure => omega
            case rel =>
              refine ⟨i + 1, s + ws i, false, by go_num, by first | rfl | go_num, rfl, by omega, by omega, rfl, .inr ⟨rfl, ?_, by omega, fun j hj => ?_⟩⟩
              · rw [HE.out]
                show _ = ((sumTo (fun i => (ws i).toNat) i + (ws i).toNat : Nat) : Int)
                omega
              · by_cases e : j = i
                · subst e; omega
                · exact HG.out j (by omega)
    · obtain rfl : i = n := by omega
      rcases HS.out with ⟨rfl, hj⟩ | ⟨rfl, hs, hs2, hgood⟩
      · clear hj HS
        by_cases hg : total < -1000000000000 ∨ 1000000000000 < total
        · go_wp2_with (go_at_call 105; refine (small_no _ _ hg).mono ?_; rintro e w9 ⟨rfl, rfl⟩)
          go_ret2
          exact ⟨rfl, rfl⟩
        · go_wp2_with (go_at_call 105; refine (small_yes _ _ (by omega) (by omega)).mono ?_; rintro e w9 ⟨rfl, rfl⟩)
          go_ret2
          exact ⟨rfl, rfl⟩
      · by_cases hg : total < -1000000000000 ∨ 1000000000000 < total
        · clear hs hgood HS
          go_wp2_with (go_at_call 105; refine (small_no _ _ hg).mono ?_; rintro e w9 ⟨rfl, rfl⟩)
          go_ret2
          exact ⟨rfl, rfl⟩
        · have hs0 : s = 0 := by
            rw [hs]
            rcases HBAD.out with ⟨j, h1, h2⟩ | h | h | h
            · have := hgood j h1; omega
            · exact absurd (.inl h) hg
            · exact absurd (.inr h) hg
            · rw [h]; rfl
          subst hs0
          clear hs hgood HS
          go_wp2_with (go_at_call 105; refine (small_yes _ _ (by omega) (by omega)).mono ?_; rintro e w9 ⟨rfl, rfl⟩)
          go_ret2
          exact ⟨rfl, rfl⟩
end Go.Proofs.YtcccijljnjhkbaaGreatDoor
