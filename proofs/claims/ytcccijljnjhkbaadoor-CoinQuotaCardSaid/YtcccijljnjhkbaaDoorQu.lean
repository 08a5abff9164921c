/- statutelaw1.CoinQuota: whatever it is given, it answers true. -/
import Derived.Test.YtcccijljnjhkbaaDoorRd
import Derived.Test.YtcccijljnjhkbaaDoorPor
import Derived.Test.YtcccijljnjhkbaaDoorShL
namespace Go.Proofs.YtcccijljnjhkbaaDoor
open Go.Shelf Go.RowKit Go.Lib Go.Sort

set_option maxHeartbeats 1000000 in
theorem alive_calls (w : World) (hsh : w.ShapedOpen Tryd.prog) : Calls Tryd.prog 12 #[] w fun e w' => e = .returned (.bool true) ∧ Below w.heap.size w w' := by
  have h := read_105 w hsh
  clear hsh
  have H : Aside _ := h
  clear h
  go_enter Tryd.func12, Tryd.ntmps12
  go_wp2_with fail
  refine Calls.mono H.out ?_
  rintro e w1 ⟨rfl, hb⟩
  have HB := Lib.hid hb
  clear hb
  go_wp2
  go_ret
  exact ⟨rfl, HB.out⟩

set_option maxHeartbeats 1000000 in
theorem quota_long (A : Option Addr) (n cap : Nat) (total : Int) (w : World) (hsh : w.ShapedOpen Tryd.prog) (hn : 60 < n ∨ total < 0) (_hn2 : n ≤ 9223372036854775807) :
    Calls Tryd.prog 4 #[.int .i64 total, .slice A n cap] w fun e w' => e = .returned (.bool true) ∧ Below w.heap.size w w' := by
  have h := alive_calls w hsh
  have H : Aside _ := h
  clear h hsh
  by_cases h1 : 60 < n
  · have t1 : (60 : Int) < (n : Int) := by omega
    go_enter Tryd.func4, Tryd.ntmps4
    go_wp2_with fail
    refine Calls.mono H.out ?_
    rintro e w1 ⟨rfl, hb⟩
    have HB := Lib.hid hb
    clear hb
    go_wp2
    go_ret
    exact ⟨rfl, HB.out⟩
  · have t1 : ¬ (60 : Int) < (n : Int) := by omega
    have t2 : total < 0 := by omega
    go_enter Tryd.func4, Tryd.ntmps4
    go_wp2_with fail
    refine Calls.mono H.out ?_
    rintro e w1 ⟨rfl, hb⟩
    have HB := Lib.hid hb
    clear hb
    go_wp2
    go_ret
    exact ⟨rfl, HB.out⟩

theorem drewN_below {B : Nat} {w w1 : World} (h : Below B w w1) (n : Nat) : Below B w (w1.drewN n) := pw_drewN h n

set_option maxHeartbeats 1000000 in
/-- Share fails: nothing is asked. -/
theorem quota_fails (A : Option Addr) (n cap : Nat) (total : Int) (te : TypeId) (pe : Value) (w : World) (hsh : w.ShapedOpen Tryd.prog) (hn : n ≤ 60) (ht : 0 ≤ total)
    (hs : ∀ w1, Below w.heap.size w w1 → Calls Tryd.prog 13 #[.int .i64 total, .slice A n cap] w1 fun e w' => e = .returned (.tuple #[.slice none 0 0, .iface te pe]) ∧ ∃ q, w' = w1.drewN q) :
    Calls Tryd.prog 4 #[.int .i64 total, .slice A n cap] w fun e w' => e = .returned (.bool true) ∧ Below w.heap.size w w' := by
  have h := alive_calls w hsh
  have H : Aside _ := h
  have HS : Aside _ := hs
  clear h hsh hs
  have t1 : ¬ (60 : Int) < (n : Int) := by omega
  have t2 : ¬ total < 0 := by omega
  go_enter Tryd.func4, Tryd.ntmps4
  go_wp2_with fail
  refine Calls.mono H.out ?_
  rintro e w1 ⟨rfl, hb⟩
  have HB := Lib.hid hb
  clear hb
  go_wp2_with fail
  refine Calls.mono (HS.out w1 HB.out) ?_
  rintro e w2 ⟨rfl, q, hw2⟩
  have HW2 := Lib.hid hw2
  clear hw2
  go_wp2
  go_ret
  exact ⟨rfl, by rw [HW2.out]; exact drewN_below HB.out q⟩

set_option maxHeartbeats 4000000 in
set_option maxRecDepth 100000 in
/-- Share shares: all is as the law asks. -/
theorem quota_shares (N b off cap : Nat) (wn : Nat → Nat) (T S : Nat) (w : World) (hsh : w.ShapedOpen Tryd.prog) (hN : N < 60) (hb : b < w.heap.size)
    (cw : ∀ i, i < N + 1 → w.cell? ⟨b, off + i, none⟩ = some (.int .i64 (wn i : Int))) (bw : ∀ i, i < N + 1 → wn i ≤ 1000000)
    (hS : S = sumTo wn (N + 1)) (hS0 : 0 < S) (hT : T ≤ 1000000000000) :
    Calls Tryd.prog 4 #[.int .i64 T, .slice (some ⟨b, off, none⟩) (N + 1) cap] w fun e w' => e = .returned (.bool true) ∧ Below w.heap.size w w' := by
  have h := alive_calls w hsh
  have H : Aside _ := h
  have CW : Aside _ := cw
  have BW : Aside _ := bw
  have HS := Lib.hid hS
  have sS : S ≤ 60000000 := by
    have h1 := sumTo_le (f := wn) (b := 1000000) (N + 1) fun i hi => bw i hi
    have h2 : (N + 1) * 1000000 ≤ 60 * 1000000 := Nat.mul_le_mul_right _ (by omega)
    omega
  clear h hsh cw bw hS
  have t1 : decide ((60 : Int) < (N : Int) + 1) = false := decide_eq_false (by omega)
  have t2 : decide ((T : Int) < 0) = false := decide_eq_false (by omega)
  have t3 : (S : Int) ≤ 60000000 := by omega
  have t4 : ¬ (S : Int) ≤ 0 := by omega
  have t5 : (T : Int) ≤ 1000000000000 := by omega
  go_enter Tryd.func4, Tryd.ntmps4
  go_wp2_with fail
  refine Calls.mono H.out ?_
  rintro e w1 ⟨rfl, hb1⟩
  have HB := Lib.hid hb1
  clear hb1
  go_wp2_with fail
  refine (share_shares N b off cap wn T T S false w1 hN (by have := HB.out.size; omega) (fun i hi => by rw [HB.out.cell (p := ⟨b, off + i, none⟩) hb]; exact CW.out i hi) BW.out HS.out hS0 hT (decide_eq_false (by omega)) (by simp)).mono ?_
  rintro e w2 ⟨G, rfl, hG, hF, hb2⟩
  have FR : Aside _ := hF
  have B2 : Aside (Below w.heap.size w w2) := HB.out.trans (hb2.mono HB.out.size)
  have CW2 : Aside (∀ i, i < N + 1 → w2.cell? ⟨b, off + i, none⟩ = some (.int .i64 (wn i : Int))) := fun i hi => by rw [B2.out.cell (p := ⟨b, off + i, none⟩) hb]; exact CW.out i hi
  clear hF hb2 hG
  have vq : ∀ j, j < N + 1 → (0 : Int) ≤ shOut N T S wn false j ∧ shOut N T S wn false j ≤ 1000000000001 := fun j hj => by
    obtain ⟨h1, _⟩ := shOut_quota N T S wn HS.out hS0 j hj
    have h2 : shQ T S wn j ≤ sumTo (shQ T S wn) (N + 1) := le_sumTo hj
    have h3 := (left_facts (N + 1) T S wn HS.out hS0).1
    omega
  have VQ : Aside _ := vq
  clear vq
  go_wp2
  go_loopg [8, 9, 10] (N + 1) (fun g1 va vs vi wr => ∃ (i : Nat) (s : Int), vi = .int .i64 i ∧ vs = .int .i64 (sumTo wn i : Int) ∧ va = .int .i64 s ∧ 0 ≤ s ∧ s ≤ 1000000000001 * (i : Int) ∧ i ≤ N + 1 ∧ N + 1 - i ≤ g1 ∧ Hid (s = isum (shOut N T S wn false) i) ∧ Hid (w2 = wr))
  case atStart => exact ⟨0, 0, by go_num, by go_num, rfl, by omega, by omega, by omega, by omega, rfl, rfl⟩
  case round =>
    obtain ⟨i, s, rfl, rfl, rfl, hs0, hs1, hi, hg1, HI, HW⟩ := hrel
    obtain rfl := HW.out
    clear HW
    by_cases hlt : i < N + 1
    · have hltz : (i : Int) < (N : Int) + 1 := by omega
      obtain ⟨v, hv⟩ : ∃ v, v = shOut N T S wn false i := ⟨_, rfl⟩
      have c1 := FR.out.cell i hlt
      have c2 := CW2.out i hlt
      have hvb := VQ.out i hlt
      rw [← hv] at c1 hvb
      obtain ⟨hv1, hv2⟩ := hvb
      have b1 : (wn i : Int) ≤ 1000000 := by have := BW.out i hlt; omega
      have b2 : (0 : Int) ≤ (wn i : Int) := by omega
      have b3 : (sumTo wn i : Int) ≤ 60000000 := by
        have h1 : sumTo wn i ≤ sumTo wn (N + 1) := sumTo_mono hi
        have := HS.out
        omega
      have HV := Lib.hid hv
      clear hv
      go_wp2
      go_roundg (gk - 1)
      case measure => omega
      case rel => exact ⟨i + 1, s + v, by go_num, by show _ = Value.int _ ((sumTo wn i + wn i : Nat) : Int); go_num, by first | rfl | go_num, by omega, by omega, by omega, by omega, (show _ = _ by rw [HI.out, HV.out]; rfl), rfl⟩
    · obtain rfl : i = N + 1 := by omega
      have hsT : s = (T : Int) := HI.out.trans (shOut_total N T S wn HS.out hS0)
      subst hsT
      rw [← HS.out]
      clear HI
      have e9 : ((N + 1 : Nat) : Int) = (N : Int) + 1 := by omega
      rw [e9]
      clear e9
      have t6 : decide (S = 0) = false := decide_eq_false (by omega)
      go_wp2
      go_loopg [11] (N + 1) (fun g1 vi wr => ∃ (i : Nat), vi = .int .i64 i ∧ i ≤ N + 1 ∧ N + 1 - i ≤ g1 ∧ Hid (w2 = wr))
      case atStart => exact ⟨0, by go_num, by omega, by omega, rfl⟩
      case round =>
        obtain ⟨i, rfl, hi, hg1, HW⟩ := hrel
        obtain rfl := HW.out
        clear HW
        by_cases hlt : i < N + 1
        · have hltz : (i : Int) < (N : Int) + 1 := by omega
          obtain ⟨v, hv⟩ : ∃ v, v = shOut N T S wn false i := ⟨_, rfl⟩
          obtain ⟨q, hq⟩ : ∃ q, q = T * wn i / S := ⟨_, rfl⟩
          obtain ⟨u, hu⟩ : ∃ u, u = wn i := ⟨_, rfl⟩
          have c1 := FR.out.cell i hlt
          have c2 := CW2.out i hlt
          have hvb := VQ.out i hlt
          obtain ⟨k1, k2⟩ := shOut_quota N T S wn HS.out hS0 i hlt
          rw [show shQ T S wn i = q from hq.symm] at k1
          rw [← hv] at c1 hvb k1 k2
          rw [← hu] at c2 k2
          obtain ⟨hv1, hv2⟩ := hvb
          have hp := fun w0 => portion_calls T (wn i) S w0 hT (by rw [HS.out]; exact le_sumTo hlt) hS0 sS
          have huS : u ≤ 1000000 := by have := BW.out i hlt; omega
          rw [← hq, ← hu] at hp
          have HP : Aside _ := hp
          have hq2 : q ≤ 1000000000001 := by omega
          have K1 := Lib.hid k1
          have K2 := Lib.hid k2
          clear hv hq hu hp k1 k2
          by_cases hw0 : u = 0
          · have hv0 : v = 0 := K2.out hw0
            subst hw0 hv0
            rcases K1.out with hk | hk
            · have m2 : ((0 : Int) != (q : Int)) = false := by simp; omega
              have HK := Lib.hid hk
              clear hk
              go_wp2_with fail
              refine Calls.mono (HP.out _) ?_
              rintro e w9 ⟨rfl, rfl⟩
              go_wp2
              go_roundg (gk - 1)
              case measure => omega
              case rel => exact ⟨i + 1, by go_num, by omega, by omega, rfl⟩
            · omega
          · have m1 : ((u : Int) == 0) = false := by simp; omega
            rcases K1.out with hk | hk
            · have m2 : (v != (q : Int)) = false := by simp [hk]
              have HK := Lib.hid hk
              clear hk
              go_wp2_with fail
              refine Calls.mono (HP.out _) ?_
              rintro e w9 ⟨rfl, rfl⟩
              go_wp2
              go_roundg (gk - 1)
              case measure => omega
              case rel => exact ⟨i + 1, by go_num, by omega, by omega, rfl⟩
            · have m2 : (v != (q : Int)) = true := by simp [hk]; omega
              have m3 : (v != (q : Int) + 1) = false := by simp [hk]
              have HK := Lib.hid hk
              clear hk
              go_wp2_with fail
              refine Calls.mono (HP.out _) ?_
              rintro e w9 ⟨rfl, rfl⟩
              go_wp2
              go_roundg (gk - 1)
              case measure => omega
              case rel => exact ⟨i + 1, by go_num, by omega, by omega, rfl⟩
        · have m9 : ((T : Int) == (T : Int)) = true := by simp
          go_wp2
          go_ret
          exact ⟨by simp, B2.out⟩
end Go.Proofs.YtcccijljnjhkbaaDoor
