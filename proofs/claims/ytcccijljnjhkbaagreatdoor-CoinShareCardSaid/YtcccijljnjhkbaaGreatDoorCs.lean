/- statutelaw1.CoinShare: whatever it is given, it answers true. -/
import Derived.Test.YtcccijljnjhkbaaGreatDoorRd
import Derived.Test.YtcccijljnjhkbaaGreatDoorSh4
import Derived.Test.YtcccijljnjhkbaaGreatDoorSh6
import Derived.Test.YtcccijljnjhkbaaGreatDoorSg
import Derived.Test.YtcccijljnjhkbaaGreatDoorCo
namespace Go.Proofs.YtcccijljnjhkbaaGreatDoor
open Go.Shelf Go.RowKit Go.Lib Go.Sort

set_option maxHeartbeats 1000000 in
theorem alive_calls (w : World) (hsh : w.ShapedOpen Tryz.prog) : Calls Tryz.prog 41 #[] w fun e w' => e = .returned (.bool true) ∧ Below w.heap.size w w' := by
  have h := read_105 w hsh
  clear hsh
  have H : Aside _ := h
  clear h
  go_enter Tryz.func41, Tryz.ntmps41
  go_wp2_with fail
  refine Calls.mono H.out ?_
  rintro e w1 ⟨rfl, hb⟩
  have HB := Lib.hid hb
  clear hb
  go_wp2
  go_ret
  exact ⟨rfl, HB.out⟩

theorem drewN_below {B : Nat} {w w1 : World} (h : Below B w w1) (n : Nat) : Below B w (w1.drewN n) := pw_drewN h n

/-- coded: an error and the number that it should have. -/
theorem coded_nil (w : World) : Calls Tryz.prog 44 #[.nilIface, .int .i64 0] w fun e w' => e = .returned (.bool true) ∧ w = w' := by
  have h := code_nil w
  have H : Aside _ := h
  clear h
  go_enter Tryz.func44, Tryz.ntmps44
  go_wp2_with fail
  refine Calls.mono H.out ?_
  rintro e w1 ⟨rfl, rfl⟩
  go_wp2
  go_ret
  exact ⟨rfl, rfl⟩

theorem coded_sent (a : Nat → Addr) (k : Nat) (hk : k < 11) (w : World) (E : Errs w a) : Calls Tryz.prog 44 #[.iface 380 (.pointer (some (a k))), .int .i64 ((k : Int) + 1)] w fun e w' => e = .returned (.bool true) ∧ Below w.heap.size w w' := by
  have h := code_sent a k hk w E
  have H : Aside _ := h
  clear h E
  go_enter Tryz.func44, Tryz.ntmps44
  go_wp2_with fail
  refine Calls.mono H.out ?_
  rintro e w1 ⟨rfl, hb⟩
  have HB := Lib.hid hb
  clear hb
  go_wp2
  go_ret
  exact ⟨by simp, HB.out⟩

set_option maxHeartbeats 1000000 in
theorem coinShare_long (A : Option Addr) (n cap : Nat) (total : Int) (w : World) (hsh : w.ShapedOpen Tryz.prog) (hn : 100 < n) (_hn2 : n ≤ 9223372036854775807) :
    Calls Tryz.prog 10 #[.int .i64 total, .slice A n cap] w fun e w' => e = .returned (.bool true) ∧ Below w.heap.size w w' := by
  have h := alive_calls w hsh
  have H : Aside _ := h
  clear h hsh
  have t1 : (100 : Int) < (n : Int) := by omega
  go_enter Tryz.func10, Tryz.ntmps10
  go_wp2_with fail
  refine Calls.mono H.out ?_
  rintro e w1 ⟨rfl, hb⟩
  have HB := Lib.hid hb
  clear hb
  go_wp2
  go_ret
  exact ⟨rfl, HB.out⟩

set_option maxHeartbeats 1000000 in
/-- Both fail, with the same error. -/
theorem coinShare_fails (A : Option Addr) (n cap : Nat) (total : Int) (a : Nat → Addr) (k : Nat) (hk : k < 11) (w : World) (E : Errs w a) (hsh : w.ShapedOpen Tryz.prog) (hn : n ≤ 100)
    (hs : ∀ w1, Below w.heap.size w w1 → Calls Tryz.prog 42 #[.int .i64 total, .slice A n cap] w1 fun e w' => e = .returned (.tuple #[.slice none 0 0, .iface 380 (.pointer (some (a k)))]) ∧ ∃ q, w' = w1.drewN q)
    (hr : ∀ w1, Below w.heap.size w w1 → Calls Tryz.prog 43 #[.int .i64 total, .slice A n cap] w1 fun e w' => e = .returned (.tuple #[.slice none 0 0, .int .i64 ((k : Int) + 1)]) ∧ w1 = w') :
    Calls Tryz.prog 10 #[.int .i64 total, .slice A n cap] w fun e w' => e = .returned (.bool true) ∧ Below w.heap.size w w' := by
  have h := alive_calls w hsh
  have H : Aside _ := h
  have HS : Aside _ := hs
  have HR : Aside _ := hr
  have EE : Aside _ := E
  clear h hsh hs hr E
  have t1 : ¬ (100 : Int) < (n : Int) := by omega
  go_enter Tryz.func10, Tryz.ntmps10
  go_wp2_with fail
  refine Calls.mono H.out ?_
  rintro e w1 ⟨rfl, hb⟩
  have HB := Lib.hid hb
  clear hb
  go_wp2_with fail
  refine Calls.mono (HS.out w1 HB.out) ?_
  rintro e w2 ⟨rfl, q, hw2⟩
  have B2 : Below w.heap.size w w2 := by rw [hw2]; exact drewN_below HB.out q
  have HB2 := Lib.hid B2
  clear hw2 B2
  go_wp2_with fail
  refine Calls.mono (HR.out w2 HB2.out) ?_
  rintro e w3 ⟨rfl, rfl⟩
  go_wp2_with fail
  refine Calls.mono (coded_sent a k hk w2 (EE.out.below HB2.out (Nat.le_refl _))) ?_
  rintro e w4 ⟨rfl, hb4⟩
  have B4 : Below w.heap.size w w4 := HB2.out.trans (hb4.mono HB2.out.size)
  have HB4 := Lib.hid B4
  clear hb4 B4
  go_wp2
  refine wp_loop_rounds 1 ?_
  rw [rounds_succ]
  go_wp2
  go_ret
  exact ⟨rfl, HB4.out⟩

set_option maxHeartbeats 4000000 in
/-- Both share: the same parts. -/
theorem coinShare_shares (N b off cap : Nat) (wn : Nat → Nat) (total : Int) (T S : Nat) (neg : Bool) (w : World) (hsh : w.ShapedOpen Tryz.prog) (hN : N < 60) (hb : b < w.heap.size)
    (cw : ∀ i, i < N + 1 → w.cell? ⟨b, off + i, none⟩ = some (.int .i64 (wn i : Int))) (bw : ∀ i, i < N + 1 → wn i ≤ 1000000)
    (hS : S = sumTo wn (N + 1)) (hS0 : 0 < S) (hT : T ≤ 1000000000000) (hneg : decide (total < 0) = neg) (htot : total = if neg then -(T : Int) else (T : Int)) :
    Calls Tryz.prog 10 #[.int .i64 total, .slice (some ⟨b, off, none⟩) (N + 1) cap] w fun e w' => e = .returned (.bool true) ∧ Below w.heap.size w w' := by
  have h := alive_calls w hsh
  have H : Aside _ := h
  have CW : Aside _ := cw
  have BW : Aside _ := bw
  have HS := Lib.hid hS
  have HNG := Lib.hid hneg
  have HTO := Lib.hid htot
  clear h hsh cw bw hS hneg htot
  have t1 : decide ((100 : Int) < (N : Int) + 1) = false := decide_eq_false (by omega)
  go_enter Tryz.func10, Tryz.ntmps10
  go_wp2_with fail
  refine Calls.mono H.out ?_
  rintro e w1 ⟨rfl, hb1⟩
  have HB := Lib.hid hb1
  clear hb1
  go_wp2_with fail
  refine (share_shares N b off cap wn total T S neg w1 hN (by have := HB.out.size; omega) (fun i hi => by rw [HB.out.cell (p := ⟨b, off + i, none⟩) hb]; exact CW.out i hi) BW.out HS.out hS0 hT HNG.out HTO.out).mono ?_
  rintro e w2 ⟨G, rfl, hG, hF, hb2⟩
  have FR : Aside _ := hF
  have B2 : Aside (Below w.heap.size w w2) := HB.out.trans (hb2.mono HB.out.size)
  clear hF hb2 hG
  go_wp2_with fail
  refine (refShare_shares N b off cap wn total T S neg w2 hN (by have := B2.out.size; omega) (fun i hi => by rw [B2.out.cell (p := ⟨b, off + i, none⟩) hb]; exact CW.out i hi) BW.out HS.out hS0 hT HNG.out HTO.out).mono ?_
  rintro e w3 ⟨K, rfl, hK, hF3, hb3⟩
  have FR3 : Aside _ := hF3
  have FR2 : Aside (FRow w3 G (N + 1) (shOut N T S wn neg)) := FR.out.below hb3 FR.out.lt
  have B3 : Aside (Below w.heap.size w w3) := B2.out.trans (hb3.mono B2.out.size)
  clear hF3 hb3 hK FR B2
  go_wp2_with fail
  refine Calls.mono (coded_nil w3) ?_
  rintro e w4 ⟨rfl, rfl⟩
  go_wp2
  go_loopg [11] (N + 1) (fun g1 vi wr => ∃ (i : Nat), vi = .int .i64 i ∧ i ≤ N + 1 ∧ N + 1 - i ≤ g1 ∧ Aside (FRow wr G (N + 1) (shOut N T S wn neg)) ∧ Aside (FRow wr K (N + 1) (shOut N T S wn neg)) ∧ Aside (Below w.heap.size w wr))
  case atStart => exact ⟨0, by go_num, by omega, by omega, FR2, FR3, B3⟩
  case round =>
    clear FR2 FR3 B3
    obtain ⟨i, rfl, hi, hg1, F2, F3, B3⟩ := hrel
    by_cases hlt : i < N + 1
    · have hltz : (i : Int) < (N : Int) + 1 := by omega
      obtain ⟨v, hv⟩ : ∃ v, v = shOut N T S wn neg i := ⟨_, rfl⟩
      have c1 := F2.out.cell i hlt
      have c2 := F3.out.cell i hlt
      rw [← hv] at c1 c2
      clear hv
      go_wp2_with fail
      go_quiet (fail)
      go_wp2
      go_roundg (gk - 1)
      case measure => omega
      case rel => exact ⟨i + 1, by go_num, by omega, by omega, by first | exact F2 | exact F2.out.drewN _ | exact F2.out.drew, by first | exact F3 | exact F3.out.drewN _ | exact F3.out.drew, by first | exact B3 | exact drewN_below B3.out _ | exact B3.out.drew⟩
    · obtain rfl : i = N + 1 := by omega
      go_wp2
      go_ret
      exact ⟨rfl, B3.out⟩
end Go.Proofs.YtcccijljnjhkbaaGreatDoor
