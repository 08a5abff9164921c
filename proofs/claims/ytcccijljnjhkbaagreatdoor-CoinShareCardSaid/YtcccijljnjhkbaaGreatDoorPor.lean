/- statuteref1.Portion: a times b over c, and what is left. -/
import Derived.Test.YtcccijljnjhkbaaGreatDoorProg
import Derived.WalkKit
import Derived.Lib.Hide
import Derived.Outline
import Derived.Deep.LoopGhost
namespace Go.Proofs.YtcccijljnjhkbaaGreatDoor
open Go.RowKit

/-- One bit more. -/
theorem por_step {A b c d q r : Nat} (h : q * c + r = A * b) (hr : r < c) (hb : b ≤ c) (hd : d = 0 ∨ d = 1) (q1 r1 : Nat) (h1 : (c ≤ 2 * r ∧ q1 = 2 * q + 1 ∧ r1 = 2 * r - c) ∨ (2 * r < c ∧ q1 = 2 * q ∧ r1 = 2 * r)) (q2 r2 : Nat)
    (h2 : (d = 0 ∧ q2 = q1 ∧ r2 = r1) ∨ (d = 1 ∧ c ≤ r1 + b ∧ q2 = q1 + 1 ∧ r2 = r1 + b - c) ∨ (d = 1 ∧ r1 + b < c ∧ q2 = q1 ∧ r2 = r1 + b)) : q2 * c + r2 = (2 * A + d) * b ∧ r2 < c := by
  have e1 : (2 * A + d) * b = 2 * (A * b) + d * b := by rw [Nat.add_mul, Nat.mul_assoc]
  have e2 : q1 * c + r1 = 2 * (A * b) ∧ r1 < c := by
    rcases h1 with ⟨x, rfl, rfl⟩ | ⟨x, rfl, rfl⟩
    · rw [Nat.add_mul, Nat.mul_assoc, ← h]; omega
    · rw [Nat.mul_assoc, ← h]; omega
  rw [e1]
  rcases h2 with ⟨rfl, rfl, rfl⟩ | ⟨rfl, x, rfl, rfl⟩ | ⟨rfl, x, rfl, rfl⟩
  · omega
  · rw [Nat.add_mul]; omega
  · omega

theorem half_bit (a m : Nat) : a / 2 ^ m = 2 * (a / 2 ^ (m + 1)) + a / 2 ^ m % 2 := by
  rw [Nat.pow_succ, ← Nat.div_div_eq_div_mul]
  omega

theorem por_q {A a b c q r : Nat} (h : q * c + r = A * b) (hA : A ≤ a) (hb : b ≤ c) (hc : 0 < c) : q ≤ a := by
  have h1 : A * b ≤ a * c := Nat.mul_le_mul hA hb
  exact Nat.le_of_mul_le_mul_right (c := c) (by omega) hc

set_option maxHeartbeats 4000000 in
set_option maxRecDepth 100000 in
theorem portion_calls (a b c : Nat) (w : World) (ha : a ≤ 1000000000000) (hb : b ≤ c) (hc : 0 < c) (hc2 : c ≤ 60000000) :
    Calls Tryz.prog 106 #[.int .i64 a, .int .i64 b, .int .i64 c] w fun e w' => e = .returned (.tuple #[.int .i64 ((a * b / c : Nat) : Int), .int .i64 ((a * b % c : Nat) : Int)]) ∧ w = w' := by
  go_enter Tryz.func106, Tryz.ntmps106
  go_wp2
  go_loopg [10] (a + 1) (fun g1 vb wr => ∃ (p m : Nat), vb = .int .i64 p ∧ 1 ≤ p ∧ (p ≤ a ∨ p = 1) ∧ a + 1 - p ≤ g1 ∧ Hid (p = 2 ^ m) ∧ Hid (w = wr))
  case atStart => exact ⟨1, 0, by go_num, by omega, by omega, by omega, rfl, rfl⟩
  case round =>
    obtain ⟨p, m, rfl, hp1, hp2, hg1, HP, HW⟩ := hrel
    obtain rfl := HW.out
    clear HW
    by_cases hlt : p ≤ a / 2
    · have t1 : (p : Int) ≤ (a : Int) / 2 := by omega
      go_wp2
      go_roundg (gk - 1)
      case measure => omega
      case rel => exact ⟨2 * p, m + 1, by first | go_num | (congr 1; omega), by omega, by omega, by omega, (show _ = _ by rw [HP.out, Nat.pow_succ, Nat.mul_comm]), rfl⟩
    · have t1 : ¬ (p : Int) ≤ (a : Int) / 2 := by omega
      have t2 : decide ((p : Int) ≤ (a : Int) / 2) = false := decide_eq_false t1
      have ha0 : a / 2 ^ (m + 1) = 0 := by
        rw [Nat.pow_succ, ← HP.out]
        exact Nat.div_eq_of_lt (by omega)
      have HA0 := Lib.hid ha0
      clear ha0
      go_wp2
      go_loopg [8, 9, 10] (m + 1) (fun g1 vq vr vb wr => ∃ (s q r p : Nat), vq = .int .i64 q ∧ vr = .int .i64 r ∧ vb = .int .i64 p ∧ s ≤ g1 ∧ r < c ∧ q ≤ 1000000000000000000 ∧ p ≤ 1000000000000 ∧ Hid (q * c + r = a / 2 ^ s * b) ∧ Hid (p = if s = 0 then 0 else 2 ^ (s - 1)) ∧ Hid (w = wr))
      case atStart => exact ⟨m + 1, 0, 0, p, by go_num, by go_num, rfl, by omega, by omega, by omega, by omega, (show _ = _ by rw [HA0.out]; simp), HP, rfl⟩
      case round =>
        clear HP HA0
        obtain ⟨s, q, r, p, rfl, rfl, rfl, hs, hr, hq, hpb, HI, HP, HW⟩ := hrel
        obtain rfl := HW.out
        clear HW
        by_cases hp0 : 0 < p
        · have t3 : (0 : Int) < (p : Int) := by omega
          obtain ⟨s, rfl⟩ : ∃ u, s = u + 1 := ⟨s - 1, by
            have := HP.out
            rcases Nat.eq_zero_or_pos s with h | h
            · rw [if_pos h] at this; omega
            · omega⟩
          have hp : p = 2 ^ s := by have := HP.out; rw [if_neg (by omega)] at this; exact this
          obtain ⟨d, hdd⟩ : ∃ d, d = a / p % 2 := ⟨_, rfl⟩
          have hd01 : d = 0 ∨ d = 1 := by omega
          have hh : a / 2 ^ s = 2 * (a / 2 ^ (s + 1)) + d := by rw [hdd, hp]; exact half_bit a s
          have hdz : ((a : Int) / (p : Int)) % 2 = (d : Int) := by rw [hdd]; omega
          have hpp : p / 2 = if s = 0 then 0 else 2 ^ (s - 1) := by
            rw [hp]
            rcases Nat.eq_zero_or_pos s with h | h
            · rw [if_pos h, h]
            · rw [if_neg (by omega)]; obtain ⟨u, rfl⟩ : ∃ u, s = u + 1 := ⟨s - 1, by omega⟩; rw [Nat.add_sub_cancel, Nat.pow_succ]; exact Nat.mul_div_cancel _ (by omega)
          have HH := Lib.hid hh
          have HPP := Lib.hid hpp
          have t4 : (1 : Int) ≤ (p : Int) := by omega
          have t0 : (0 : Int) ≤ (a : Int) / (p : Int) := Int.ediv_nonneg (by omega) (by omega)
          have t5 : (a : Int) / (p : Int) ≤ 1000000000000 := by have := Int.ediv_le_self (a := (a : Int)) (p : Int) (by omega); omega
          have tp0 : ((p : Int) == 0) = false := by simp; omega
          have HDZ := Lib.hid hdz
          clear hp hdd hh hpp hdz HP
          have hqa : q ≤ a := por_q HI.out (Nat.div_le_self _ _) hb hc
          by_cases h1 : c ≤ 2 * r
          · have t6 : (c : Int) ≤ (r : Int) * 2 := by omega
            rcases hd01 with rfl | rfl
            · have t7 : (((a : Int) / (p : Int)) % 2 == 1) = false := by rw [HDZ.out]; rfl
              obtain ⟨n1, n2⟩ := por_step HI.out hr hb (by omega) (2 * q + 1) (2 * r - c) (.inl ⟨h1, rfl, rfl⟩) (2 * q + 1) (2 * r - c) (.inl ⟨rfl, rfl, rfl⟩)
              rw [← HH.out] at n1
              have N1 := Lib.hid n1
              clear n1
              go_wp2
              go_roundg (gk - 1)
              case measure => omega
              case rel => exact ⟨s, 2 * q + 1, 2 * r - c, p / 2, by first | go_num | (congr 1; omega), by first | go_num | (congr 1; omega), by go_num, by omega, n2, by omega, by omega, N1, HPP, rfl⟩
            · have t7 : (((a : Int) / (p : Int)) % 2 == 1) = true := by rw [HDZ.out]; rfl
              by_cases h2 : c ≤ 2 * r - c + b
              · have t8 : (c : Int) ≤ (r : Int) * 2 - (c : Int) + (b : Int) := by omega
                obtain ⟨n1, n2⟩ := por_step HI.out hr hb (by omega) (2 * q + 1) (2 * r - c) (.inl ⟨h1, rfl, rfl⟩) (2 * q + 1 + 1) (2 * r - c + b - c) (.inr (.inl ⟨rfl, by omega, rfl, rfl⟩))
                rw [← HH.out] at n1
                have N1 := Lib.hid n1
                clear n1
                go_wp2
                go_roundg (gk - 1)
                case measure => omega
                case rel => exact ⟨s, 2 * q + 1 + 1, 2 * r - c + b - c, p / 2, by first | go_num | (congr 1; omega), by first | go_num | (congr 1; omega), by go_num, by omega, n2, by omega, by omega, N1, HPP, rfl⟩
              · have t8 : ¬ (c : Int) ≤ (r : Int) * 2 - (c : Int) + (b : Int) := by omega
                obtain ⟨n1, n2⟩ := por_step HI.out hr hb (by omega) (2 * q + 1) (2 * r - c) (.inl ⟨h1, rfl, rfl⟩) (2 * q + 1) (2 * r - c + b) (.inr (.inr ⟨rfl, by omega, rfl, rfl⟩))
                rw [← HH.out] at n1
                have N1 := Lib.hid n1
                clear n1
                go_wp2
                go_roundg (gk - 1)
                case measure => omega
                case rel => exact ⟨s, 2 * q + 1, 2 * r - c + b, p / 2, by first | go_num | (congr 1; omega), by first | go_num | (congr 1; omega), by go_num, by omega, n2, by omega, by omega, N1, HPP, rfl⟩
          · have t6 : ¬ (c : Int) ≤ (r : Int) * 2 := by omega
            rcases hd01 with rfl | rfl
            · have t7 : (((a : Int) / (p : Int)) % 2 == 1) = false := by rw [HDZ.out]; rfl
              obtain ⟨n1, n2⟩ := por_step HI.out hr hb (by omega) (2 * q) (2 * r) (.inr ⟨by omega, rfl, rfl⟩) (2 * q) (2 * r) (.inl ⟨rfl, rfl, rfl⟩)
              rw [← HH.out] at n1
              have N1 := Lib.hid n1
              clear n1
              go_wp2
              go_roundg (gk - 1)
              case measure => omega
              case rel => exact ⟨s, 2 * q, 2 * r, p / 2, by first | go_num | (congr 1; omega), by first | go_num | (congr 1; omega), by go_num, by omega, n2, by omega, by omega, N1, HPP, rfl⟩
            · have t7 : (((a : Int) / (p : Int)) % 2 == 1) = true := by rw [HDZ.out]; rfl
              by_cases h2 : c ≤ 2 * r + b
              · have t8 : (c : Int) ≤ (r : Int) * 2 + (b : Int) := by omega
                obtain ⟨n1, n2⟩ := por_step HI.out hr hb (by omega) (2 * q) (2 * r) (.inr ⟨by omega, rfl, rfl⟩) (2 * q + 1) (2 * r + b - c) (.inr (.inl ⟨rfl, by omega, rfl, rfl⟩))
                rw [← HH.out] at n1
                have N1 := Lib.hid n1
                clear n1
                go_wp2
                go_roundg (gk - 1)
                case measure => omega
                case rel => exact ⟨s, 2 * q + 1, 2 * r + b - c, p / 2, by first | go_num | (congr 1; omega), by first | go_num | (congr 1; omega), by go_num, by omega, n2, by omega, by omega, N1, HPP, rfl⟩
              · have t8 : ¬ (c : Int) ≤ (r : Int) * 2 + (b : Int) := by omega
                obtain ⟨n1, n2⟩ := por_step HI.out hr hb (by omega) (2 * q) (2 * r) (.inr ⟨by omega, rfl, rfl⟩) (2 * q) (2 * r + b) (.inr (.inr ⟨rfl, by omega, rfl, rfl⟩))
                rw [← HH.out] at n1
                have N1 := Lib.hid n1
                clear n1
                go_wp2
                go_roundg (gk - 1)
                case measure => omega
                case rel => exact ⟨s, 2 * q, 2 * r + b, p / 2, by first | go_num | (congr 1; omega), by first | go_num | (congr 1; omega), by go_num, by omega, n2, by omega, by omega, N1, HPP, rfl⟩
        · obtain rfl : p = 0 := by omega
          have hs0 : s = 0 := by
            have := HP.out
            rcases Nat.eq_zero_or_pos s with h | h
            · exact h
            · rw [if_neg (by omega)] at this
              have := Nat.two_pow_pos (s - 1)
              omega
          have hfin := HI.out
          rw [hs0, Nat.pow_zero, Nat.div_one] at hfin
          have e1 : a * b / c = q := by rw [← hfin, Nat.add_comm, Nat.add_mul_div_right _ _ hc, Nat.div_eq_of_lt hr, Nat.zero_add]
          have e2 : a * b % c = r := by rw [← hfin, Nat.add_comm, Nat.add_mul_mod_self_right, Nat.mod_eq_of_lt hr]
          have E1 := Lib.hid e1
          have E2 := Lib.hid e2
          clear hfin hs0 e1 e2
          go_wp2
          go_ret2
          exact ⟨by rw [E1.out, E2.out]; rfl, rfl⟩
end Go.Proofs.YtcccijljnjhkbaaGreatDoor
