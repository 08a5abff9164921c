/- The sort family at the closure of coin.Share: swapRangeCmpFunc and rotateCmpFunc. -/
import Derived.Test.YtcccijljnjhkbaaGreatDoorSo1
import Derived.Test.YtcccijljnjhkbaaGreatDoorStP
namespace Go.Proofs.YtcccijljnjhkbaaGreatDoor
open Go.Shelf Go.RowKit Go.Lib Go.Sort
variable {N : Nat}

set_option maxHeartbeats 4000000 in
set_option maxRecDepth 100000 in
theorem swapRange_calls (f : Value) (blk off cap a b n : Nat) (d0 d : Array (Fin (N + 1))) (w0 w : World)
    (R : Row1 eF w0 blk off d0) (hs : d0.size = d.size) (S : SW eF w0 blk off d w) (ha : a + n ≤ d.size) (hb : b + n ≤ d.size) (hsz : d.size < 4611686018427387904) :
    Calls Tryz.prog 311 #[.slice (some ⟨blk, off, none⟩) d.size cap, .int .i64 a, .int .i64 b, .int .i64 n, f] w fun e w' => e = .returned (.tuple #[]) ∧ SW eF w0 blk off (swpRange d a b n) w' := by
  have S0 : Aside (SW eF w0 blk off d w) := S
  clear S
  go_enter Tryz.func311, Tryz.ntmps311
  go_wp2
  go_loopg [10] n (fun g1 vi wr => ∃ (i : Nat) (dk : Array (Fin (N + 1))), vi = .int .i64 i ∧ i ≤ n ∧ n - i ≤ g1 ∧ dk.size = d.size ∧ Aside (SW eF w0 blk off dk wr) ∧ Hid (dk = swpRange d a b i))
  case atStart => exact ⟨0, d, by go_num, by omega, by omega, rfl, S0, rfl⟩
  case round =>
    clear S0
    obtain ⟨i, dk, rfl, hi, hg1, hsk, S1, HO⟩ := hrel
    by_cases hlt : i < n
    · have hltz : (i : Int) < (n : Int) := by omega
      have p1 : (0 : Int) ≤ (a : Int) + i := by omega
      have p2 : (a : Int) + i < d.size := by omega
      have p3 : (0 : Int) ≤ (b : Int) + i := by omega
      have p4 : (b : Int) + i < d.size := by omega
      have c1 := S1.out.c1 R (by omega) (a + i) (by omega)
      have c2 := S1.out.c1 R (by omega) (b + i) (by omega)
      have f1 := S1.out.f1 R (by omega) (a + i) (by omega)
      have f2 := S1.out.f1 R (by omega) (b + i) (by omega)
      obtain ⟨x, hx⟩ : ∃ x, x = dk[a + i]! := ⟨_, rfl⟩
      obtain ⟨y, hy⟩ : ∃ y, y = dk[b + i]! := ⟨_, rfl⟩
      have S3 : Aside (SW eF w0 blk off (swp dk (a + i) (b + i)) ((wr.setCell ⟨blk, off + (a + i), none⟩ (eF y)).setCell ⟨blk, off + (b + i), none⟩ (eF x)).drew) := by rw [hx, hy]; exact S1.out.swapped R (a + i) (b + i) (by omega) (by omega)
      obtain ⟨u3, c3⟩ := S1.out.c2 R (by omega) (a + i) (b + i) (by omega) (by omega) (eF y)
      rw [← hx] at c1
      rw [← hy] at c2
      have HX := Lib.hid hx
      have HY := Lib.hid hy
      clear hx hy S1
      go_wp2_with fail
      go_big_region
      clear c1 c2 c3 f1 f2
      generalize ((wr.setCell ⟨blk, off + (a + i), none⟩ (eF y)).setCell ⟨blk, off + (b + i), none⟩ (eF x)).drew = w3 at S3 ⊢
      go_wp2
      go_roundg (n - (i + 1))
      case measure => omega
      case rel => exact ⟨i + 1, swp dk (a + i) (b + i), by first | rfl | go_num, by omega, by omega, by rw [size_swp]; exact hsk, S3, (show Hid _ from by rw [HO.out]; exact rfl)⟩
    · obtain rfl : i = n := by omega
      go_wp2
      go_end0
      exact ⟨rfl, by rw [← HO.out]; exact S1.out⟩

theorem swapRange_any (f : Value) (blk off cap : Nat) (a b n : Int) (d0 d : Array (Fin (N + 1))) (w0 w : World)
    (R : Row1 eF w0 blk off d0) (hs : d0.size = d.size) (S : SW eF w0 blk off d w) (h1 : 0 ≤ a) (h2 : 0 ≤ b) (h3 : 0 ≤ n) (ha : a + n ≤ d.size) (hb : b + n ≤ d.size) (hsz : d.size < 4611686018427387904) (sz : Nat) (hz : d.size = sz) :
    Calls Tryz.prog 311 #[.slice (some ⟨blk, off, none⟩) sz cap, .int .i64 a, .int .i64 b, .int .i64 n, f] w fun e w' => e = .returned (.tuple #[]) ∧ SW eF w0 blk off (swpRange d a.toNat b.toNat n.toNat) w' := by
  obtain ⟨a, rfl⟩ := Int.eq_ofNat_of_zero_le h1
  obtain ⟨b, rfl⟩ := Int.eq_ofNat_of_zero_le h2
  obtain ⟨n, rfl⟩ := Int.eq_ofNat_of_zero_le h3
  subst hz
  exact swapRange_calls f blk off cap a b n d0 d w0 w R hs S (by omega) (by omega) hsz

set_option maxHeartbeats 4000000 in
set_option maxRecDepth 100000 in
theorem rotate_calls (f : Value) (blk off cap a m b : Nat) (d0 d : Array (Fin (N + 1))) (w0 w : World)
    (R : Row1 eF w0 blk off d0) (hs : d0.size = d.size) (S : SW eF w0 blk off d w) (ham : a < m) (hmb : m < b) (hb : b ≤ d.size) (hsz : d.size < 4611686018427387904) :
    Calls Tryz.prog 290 #[.slice (some ⟨blk, off, none⟩) d.size cap, .int .i64 a, .int .i64 m, .int .i64 b, f] w fun e w' => e = .returned (.tuple #[]) ∧ SW eF w0 blk off (rot m (b - a + 1) (m - a) (b - m) d) w' := by
  have S0 : Aside (SW eF w0 blk off d w) := S
  clear S
  go_enter Tryz.func290, Tryz.ntmps290
  go_wp2
  go_loopg [10, 11] (b - a) (fun g1 vi vj wr => ∃ (i j : Nat) (dk : Array (Fin (N + 1))), vi = .int .i64 i ∧ vj = .int .i64 j ∧ 0 < i ∧ 0 < j ∧ i ≤ m ∧ m + j ≤ b ∧ i + j ≤ g1 ∧ dk.size = d.size ∧ Aside (SW eF w0 blk off dk wr) ∧ Hid (rot m (g1 + 1) i j dk = rot m (b - a + 1) (m - a) (b - m) d))
  case atStart => exact ⟨m - a, b - m, d, by go_num, by go_num, by omega, by omega, by omega, by omega, by omega, rfl, S0, rfl⟩
  case round =>
    clear S0
    obtain ⟨i, j, dk, rfl, rfl, hi0, hj0, him, hjb, hg1, hsk, S1, HO⟩ := hrel
    by_cases hij : i = j
    · subst hij
      have t1 : ((i : Int) != (i : Int)) = false := by simp
      go_wp2_with fail
      refine (swapRange_any f blk off cap _ _ _ d0 dk w0 _ R (by omega) S1.out (by omega) (by omega) (by omega) (by omega) (by omega) (by omega) _ hsk).mono ?_
      rintro e w1 ⟨rfl, S2⟩
      have S2' : Aside _ := S2
      clear S2
      go_wp2
      go_end0
      refine ⟨rfl, ?_⟩
      rw [← HO.out, show rot m (gk + 1) i i dk = swpRange dk (m - i) m i from by simp [rot]]
      have e1 : ((m : Int) - (i : Int)).toNat = m - i := by omega
      simp only [e1, Int.toNat_natCast] at S2'
      exact S2'.out
    · have t1 : ((i : Int) != (j : Int)) = true := by simp; omega
      have t2 : ((i : Int) == (j : Int)) = false := by simp; omega
      by_cases hji : j < i
      · have hz : (j : Int) < (i : Int) := by omega
        go_wp2_with fail
        refine (swapRange_any f blk off cap _ _ _ d0 dk w0 _ R (by omega) S1.out (by omega) (by omega) (by omega) (by omega) (by omega) (by omega) _ hsk).mono ?_
        rintro e w1 ⟨rfl, S2⟩
        have e1 : ((m : Int) - (i : Int)).toNat = m - i := by omega
        simp only [e1, Int.toNat_natCast] at S2
        have S2' : Aside _ := S2
        clear S2 S1 e1
        have hg2 : rot m (gk + 1) i j dk = rot m gk (i - j) j (swpRange dk (m - i) m j) := by
          conv => lhs; unfold rot
          rw [if_neg hij, if_pos hji]
        have HG := Lib.hid hg2
        clear hg2
        go_wp2
        go_roundg (gk - 1)
        case measure => omega
        case rel => exact ⟨i - j, j, _, by go_num, rfl, by omega, by omega, by omega, by omega, by omega, by rw [size_swpRange]; exact hsk, S2', (show Hid _ from by
          obtain ⟨q, rfl⟩ : ∃ q, gk = q + 1 := ⟨gk - 1, by omega⟩
          rw [← HO.out, HG.out]; exact rfl)⟩
      · have hz : (i : Int) < (j : Int) := by omega
        go_wp2_with fail
        refine (swapRange_any f blk off cap _ _ _ d0 dk w0 _ R (by omega) S1.out (by omega) (by omega) (by omega) (by omega) (by omega) (by omega) _ hsk).mono ?_
        rintro e w1 ⟨rfl, S2⟩
        have e1 : ((m : Int) - (i : Int)).toNat = m - i := by omega
        have e2 : ((m : Int) + (j : Int) - (i : Int)).toNat = m + j - i := by omega
        simp only [e1, e2, Int.toNat_natCast] at S2
        have S2' : Aside _ := S2
        clear S2 S1 e1 e2
        have hg2 : rot m (gk + 1) i j dk = rot m gk i (j - i) (swpRange dk (m - i) (m + j - i) i) := by
          conv => lhs; unfold rot
          rw [if_neg hij, if_neg hji]
        have HG := Lib.hid hg2
        clear hg2
        go_wp2
        go_roundg (gk - 1)
        case measure => omega
        case rel => exact ⟨i, j - i, _, rfl, by go_num, by omega, by omega, by omega, by omega, by omega, by rw [size_swpRange]; exact hsk, S2', (show Hid _ from by
          obtain ⟨q, rfl⟩ : ∃ q, gk = q + 1 := ⟨gk - 1, by omega⟩
          rw [← HO.out, HG.out]; exact rfl)⟩
end Go.Proofs.YtcccijljnjhkbaaGreatDoor
