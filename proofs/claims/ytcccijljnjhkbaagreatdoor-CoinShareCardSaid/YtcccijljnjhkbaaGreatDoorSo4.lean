/- The sort family at the closure of coin.Share: symMergeCmpFunc, where the right part is one element. -/
import Derived.Test.YtcccijljnjhkbaaGreatDoorSo2
namespace Go.Proofs.YtcccijljnjhkbaaGreatDoor
open Go.Shelf Go.RowKit Go.Lib Go.Sort
variable {N : Nat}

set_option maxHeartbeats 4000000 in
set_option maxRecDepth 100000 in
theorem symM_right (cf : Fin (N + 1) → Fin (N + 1) → Int) (g : Nat) (cb : Array Value) (blk off cap a m b k : Nat) (d0 d : Array (Fin (N + 1))) (w0 w : World)
    (eg : ∀ args w, (callFunc g args).run Tryz.prog w = .ok (.enter g args) w) (hcmp : CmpReads Tryz.prog g cb eF cf blk off d0.size w0) (R : Row1 eF w0 blk off d0) (hs : d0.size = d.size) (S : SW eF w0 blk off d w) (hma : a + 1 < m) (hmb : b = m + 1) (hb : b ≤ d.size) (hsz : d.size < 1073741824) :
    Calls Tryz.prog 256 #[.slice (some ⟨blk, off, none⟩) d.size cap, .int .i64 a, .int .i64 m, .int .i64 b, .func (.func g) #[] cb] w fun e w' => e = .returned (.tuple #[]) ∧ SW eF w0 blk off (symM (ltOf cf) (k + 1) d a m b) w' := by
  have HC : Aside _ := hcmp.lays
  have S0 : Aside (SW eF w0 blk off d w) := S
  clear S hcmp
  have mixed : Tryz.prog.follows .mixedOrders = true := by kernel_rfl
  have t1 : ((m : Int) - (a : Int) == 1) = false := by simp; omega
  have t2 : ((b : Int) - (m : Int) == 1) = true := by simp; omega
  have hlam : m < b := by omega
  have HM := Lib.hid hmb
  clear hmb
  go_enter Tryz.func256, Tryz.ntmps256
  go_wp2
  go_loopg [14, 15] (m - a) (fun g1 vi vj wr => ∃ (i j : Nat), vi = .int .i64 i ∧ vj = .int .i64 j ∧ a ≤ i ∧ i ≤ j ∧ j ≤ m ∧ j - i ≤ g1 ∧ Aside (SW eF w0 blk off d wr) ∧ Hid (bin (fun h => !ltOf cf d[m]! d[h]!) (g1 + 1) i j = bin (fun h => !ltOf cf d[m]! d[h]!) (m - a + 1) a m))
  case atStart => exact ⟨a, m, rfl, rfl, by omega, by omega, by omega, by omega, S0, rfl⟩
  case round =>
    clear S0
    obtain ⟨i, j, rfl, rfl, hi, hij, hj, hg1, S1, HO⟩ := hrel
    by_cases hlt : i < j
    · have hltz : (i : Int) < (j : Int) := by omega
      have q0 : (0 : Int) ≤ ((i : Int) + j) / 2 := by omega
      have q1 : ((i : Int) + j) / 2 < d.size := by omega
      have q2 : (m : Int) < d.size := by omega
      have e0 : (((i : Int) + j) / 2).toNat = (i + j) / 2 := by omega
      have la := S1.out.cl R (by omega) ((i + j) / 2) (by omega)
      have lb := S1.out.cl R (by omega) m (by omega)
      obtain ⟨x, hx⟩ : ∃ x, x = d[(i + j) / 2]! := ⟨_, rfl⟩
      obtain ⟨y, hy⟩ : ∃ y, y = d[m]! := ⟨_, rfl⟩
      rw [← hx] at la
      rw [← hy] at lb
      have hc := S1.out.cmp HC.out (by omega) y x
      have HX := Lib.hid hx
      have HY := Lib.hid hy
      clear hx hy
      cases hlv : decide (cf y x < 0) with
      | false =>
        go_wp2_with fail
        go_quiet_grown (first | (go_at_fn g; refine Calls.grown_of (hc _ _)))
        have S2 : Aside (SW eF w0 blk off d (grow (wr.drewN nq) osq)) := S1.out.grown nq osq
        clear la lb hc S1 e0
        generalize grow (wr.drewN nq) osq = w2 at S2 ⊢
        clear nq osq
        go_wp2
        go_roundg (gk - 1)
        case measure => omega
        case rel => exact ⟨(i + j) / 2 + 1, j, by go_num, rfl, by omega, by omega, by omega, by omega, S2, (show Hid _ from by
          obtain ⟨q, rfl⟩ : ∃ q, gk = q + 1 := ⟨gk - 1, by omega⟩
          have hl : (fun h => !ltOf cf d[m]! d[h]!) ((i + j) / 2) = true := by show (!ltOf cf d[m]! d[(i + j) / 2]!) = true; rw [← HX.out, ← HY.out, show ltOf cf y x = false from hlv]; rfl
          show _ = _
          exact (bin_yes hlt hl).symm.trans HO.out)⟩
      | true =>
        go_wp2_with fail
        go_quiet_grown (first | (go_at_fn g; refine Calls.grown_of (hc _ _)))
        have S2 : Aside (SW eF w0 blk off d (grow (wr.drewN nq) osq)) := S1.out.grown nq osq
        clear la lb hc S1 e0
        generalize grow (wr.drewN nq) osq = w2 at S2 ⊢
        clear nq osq
        go_wp2
        go_roundg (gk - 1)
        case measure => omega
        case rel => exact ⟨i, (i + j) / 2, rfl, by go_num, by omega, by omega, by omega, by omega, S2, (show Hid _ from by
          obtain ⟨q, rfl⟩ : ∃ q, gk = q + 1 := ⟨gk - 1, by omega⟩
          have hl : (fun h => !ltOf cf d[m]! d[h]!) ((i + j) / 2) = false := by show (!ltOf cf d[m]! d[(i + j) / 2]!) = false; rw [← HX.out, ← HY.out, show ltOf cf y x = true from hlv]; rfl
          show _ = _
          exact (bin_no hlt hl).symm.trans HO.out)⟩
    · have hbin : bin (fun h => !ltOf cf d[m]! d[h]!) (gk + 1) i j = i := bin_end hlt
      have HB : Hid (bin (fun h => !ltOf cf d[m]! d[h]!) (m - a + 1) a m = i) := HO.out.symm.trans hbin
      clear HO hbin
      have hji : j ≤ i := by omega
      go_wp2
      go_loopg [17] (m - a) (fun g1 vk wr => ∃ (t : Nat) (dk : Array (Fin (N + 1))), vk = .int .i64 (m - t : Nat) ∧ i + t ≤ m ∧ m - t - i ≤ g1 ∧ dk.size = d.size ∧ Aside (SW eF w0 blk off dk wr) ∧ Hid (dk = downSwp m t d))
      case atStart => exact ⟨0, d, by go_num, by omega, by omega, rfl, S1, rfl⟩
      case round =>
        clear S1
        obtain ⟨t, dk, rfl, ht, hg2, hsk, S1, HD⟩ := hrel
        by_cases hlt2 : i + t < m
        · obtain ⟨v, hv⟩ : ∃ v, v + 1 = m - t := ⟨m - t - 1, by omega⟩
          have hltz : (i : Int) < (v : Int) + 1 := by omega
          have p1 : (0 : Int) ≤ (v : Int) := by omega
          have p2 : (v : Int) < d.size := by omega
          have p3 : (0 : Int) ≤ (v : Int) + 1 := by omega
          have p4 : (v : Int) + 1 < d.size := by omega
          rw [← hv]
          have HU := Lib.hid hv
          have c1 := S1.out.c1 R (by omega) (v + 1) (by omega)
          have c2 := S1.out.c1 R (by omega) v (by omega)
          have f1 := S1.out.f1 R (by omega) (v + 1) (by omega)
          have f2 := S1.out.f1 R (by omega) v (by omega)
          obtain ⟨x, hx⟩ : ∃ x, x = dk[v + 1]! := ⟨_, rfl⟩
          obtain ⟨y, hy⟩ : ∃ y, y = dk[v]! := ⟨_, rfl⟩
          have S3 : Aside (SW eF w0 blk off (swp dk (v + 1) v) ((wr.setCell ⟨blk, off + (v + 1), none⟩ (eF y)).setCell ⟨blk, off + v, none⟩ (eF x)).drew) := by rw [hx, hy]; exact S1.out.swapped R (v + 1) v (by omega) (by omega)
          obtain ⟨u3, c3⟩ := S1.out.c2 R (by omega) (v + 1) v (by omega) (by omega) (eF y)
          rw [← hx] at c1
          rw [← hy] at c2
          have HX := Lib.hid hx
          have HY := Lib.hid hy
          clear hx hy hv S1
          go_wp2_with fail
          go_big_region
          clear c1 c2 c3 f1 f2
          generalize ((wr.setCell ⟨blk, off + (v + 1), none⟩ (eF y)).setCell ⟨blk, off + v, none⟩ (eF x)).drew = w3 at S3 ⊢
          go_wp2
          have hU := HU.out
          go_roundg (gk - 1)
          case measure => omega
          case rel => exact ⟨t + 1, swp dk (v + 1) v, by go_num, by omega, by omega, by rw [size_swp]; exact hsk, S3, (show Hid _ from by
            show _ = _
            rw [HD.out, show v = m - t - 1 from by omega, show m - t - 1 + 1 = m - t from by omega]; rfl)⟩
        · have hltz : ((m - t : Nat) : Int) ≤ (i : Int) := by omega
          go_wp2
          have hmm := HM.out
          have hbb := HB.out
          (try simp only [Exit.inBlock, Exit.then])
          refine bodyPost_ret (results_none rfl _ _ _) rfl ⟨rfl, ?_⟩
          unfold symM
          rw [if_neg (by omega), if_pos (by omega)]
          dsimp only
          rw [hbb, show m - i = t from by omega, ← HD.out]
          exact S1.out

end Go.Proofs.YtcccijljnjhkbaaGreatDoor
