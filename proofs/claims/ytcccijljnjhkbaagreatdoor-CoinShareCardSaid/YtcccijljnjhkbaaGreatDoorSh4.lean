/- coin.Share where it shares: the walk. -/
import Derived.Test.YtcccijljnjhkbaaGreatDoorSh5
namespace Go.Proofs.YtcccijljnjhkbaaGreatDoor
open Go.Shelf Go.RowKit Go.Lib Go.Sort

set_option maxHeartbeats 8000000 in
set_option maxRecDepth 100000 in
theorem share_shares (N b off cap : Nat) (wn : Nat → Nat) (total : Int) (T S : Nat) (neg : Bool) (w : World) (hN : N < 60) (hb : b < w.heap.size)
    (cw : ∀ i, i < N + 1 → w.cell? ⟨b, off + i, none⟩ = some (.int .i64 (wn i : Int))) (bw : ∀ i, i < N + 1 → wn i ≤ 1000000)
    (hS : S = sumTo wn (N + 1)) (hS0 : 0 < S) (hT : T ≤ 1000000000000) (hneg : decide (total < 0) = neg) (htot : total = if neg then -(T : Int) else (T : Int)) :
    Calls Tryz.prog 42 #[.int .i64 total, .slice (some ⟨b, off, none⟩) (N + 1) cap] w fun e w' => ∃ H, e = .returned (.tuple #[.slice (some ⟨H, 0, none⟩) (N + 1) (N + 1), .nilIface]) ∧ w.heap.size ≤ H ∧ FRow w' H (N + 1) (shOut N T S wn neg) ∧ Below w.heap.size w w' := by
  have hmk : ∀ W : World, (Instr.makeSlice 89 (.int .i64 ((N : Int) + 1)) (.int .i64 ((N : Int) + 1))).run Tryz.prog W = .ok (.slice (some ⟨W.heap.size, 0, none⟩) (N + 1) (N + 1)) (W.alloc (.cells (madeCells #[.int .i64 0] (N + 1)) 3)) := by
    intro W
    have := run_make_row' (P := Tryz.prog) 89 3 (.int .i64 0) 8 Tryz.underlying89 (by kernel_rfl) rfl .i64 .i64 (N + 1) (by omega) (by omega) W
    simpa using this
  have hmf : ∀ (fn : Fn) (first cap : Array Value) (w : World), (Instr.makeFunc fn first cap).run Tryz.prog w = .ok (.func fn first cap) w := fun _ _ _ _ => rfl
  have hNz : ((N : Int) + 1) ≤ 60 := by omega
  have sb : ∀ k, k ≤ N + 1 → sumTo wn k ≤ 60000000 := fun k hk => by
    have := sumTo_le (f := wn) (b := 1000000) k fun i hi => bw i (by omega)
    have : k * 1000000 ≤ 60 * 1000000 := Nat.mul_le_mul_right _ (by omega)
    omega
  subst hS
  obtain ⟨S, hS⟩ : ∃ S, S = sumTo wn (N + 1) := ⟨_, rfl⟩
  rw [← hS] at hS0 ⊢
  have sS : S ≤ 60000000 := by rw [hS]; exact sb _ (Nat.le_refl _)
  have SB : Aside _ := sb
  have CW : Aside _ := cw
  have BW : Aside _ := bw
  have HS := Lib.hid hS
  clear sb cw bw hS
  have b4 : ((S : Int) == 0) = false := by simp; omega
  have htt : (neg = true ∧ total = -(T : Int) ∧ 0 < T) ∨ (neg = false ∧ total = (T : Int)) := by
    cases neg with
    | true => rw [if_pos rfl] at htot; have := of_decide_eq_true hneg; exact .inl ⟨rfl, htot, by omega⟩
    | false => rw [if_neg (by simp)] at htot; exact .inr ⟨rfl, htot⟩
  clear htot
  obtain ⟨hl1, hl2, hl3⟩ := left_facts (N + 1) T S wn HS.out hS0
  have HL1 := Lib.hid hl1
  have HL3 := Lib.hid hl3
  clear hl1 hl2 hl3
  have tT : (T : Int) ≤ 1000000000000 := by omega
  rcases htt with ⟨rfl, rfl, hT0⟩ | ⟨rfl, rfl⟩
  all_goals
    go_enter Tryz.func42, Tryz.ntmps42
    go_wp2
    go_loopg [6, 29] (N + 1) (fun g1 vs vi wr => ∃ (i : Nat), vi = .int .i64 i ∧ vs = .int .i64 (sumTo wn i : Int) ∧ i ≤ N + 1 ∧ N + 1 - i ≤ g1 ∧ Hid (w = wr))
    case atStart => exact ⟨0, by go_num, rfl, by omega, by omega, rfl⟩
    case round =>
      obtain ⟨i, rfl, rfl, hi, hg1, HW⟩ := hrel
      obtain rfl := HW.out
      clear HW
      by_cases hlt : i < N + 1
      · have hltz : (i : Int) < (N : Int) + 1 := by omega
        have c1 := CW.out i hlt
        have b1 : (wn i : Int) ≤ 1000000 := by have := BW.out i hlt; omega
        have b2 : (0 : Int) ≤ (wn i : Int) := by omega
        have b3 : (sumTo wn i : Int) ≤ 60000000 := by have := SB.out i hi; omega
        go_wp2
        go_roundg (gk - 1)
        case measure => omega
        case rel => exact ⟨i + 1, by go_num, by show _ = Value.int _ ((sumTo wn i + wn i : Nat) : Int); go_num, by omega, by omega, rfl⟩
      · obtain rfl : i = N + 1 := by omega
        rw [← HS.out]
        go_wp2_with (go_at_call 100; refine (good_yes _ _ (by omega) (by omega)).mono ?_; rintro e w9 ⟨rfl, rfl⟩)
        obtain ⟨H, hH⟩ : ∃ H, H = w.heap.size := ⟨_, rfl⟩
        have F0 := (((FRow.made w (N + 1) 3).alloc (.cells (madeCells #[.int .i64 0] (N + 1)) 3)).alloc (.cells #[.slice (some ⟨w.heap.size + 1, 0, none⟩) (N + 1) (N + 1)] 89)).alloc (.cells (madeCells #[.int .i64 0] (N + 1)) 3)
        have F1 := ((FRow.made (w.alloc (.cells (madeCells #[.int .i64 0] (N + 1)) 3)) (N + 1) 3).alloc (.cells #[.slice (some ⟨w.heap.size + 1, 0, none⟩) (N + 1) (N + 1)] 89)).alloc (.cells (madeCells #[.int .i64 0] (N + 1)) 3)
        have F3 := FRow.made (((w.alloc (.cells (madeCells #[.int .i64 0] (N + 1)) 3)).alloc (.cells (madeCells #[.int .i64 0] (N + 1)) 3)).alloc (.cells #[.slice (some ⟨w.heap.size + 1, 0, none⟩) (N + 1) (N + 1)] 89)) (N + 1) 3
        have C2 : ((((w.alloc (.cells (madeCells #[.int .i64 0] (N + 1)) 3)).alloc (.cells (madeCells #[.int .i64 0] (N + 1)) 3)).alloc (.cells #[.slice (some ⟨w.heap.size + 1, 0, none⟩) (N + 1) (N + 1)] 89)).alloc (.cells (madeCells #[.int .i64 0] (N + 1)) 3)).cell? ⟨w.heap.size + 1 + 1, 0, none⟩ = some (.slice (some ⟨w.heap.size + 1, 0, none⟩) (N + 1) (N + 1)) := by
          rw [World.cell?_alloc_lt _ _ _ (by simp only [sz_alloc]; omega), World.cell?_alloc_at _ _ _ _ (by simp only [sz_alloc])]
          rfl
        have B0 : Below w.heap.size w ((((w.alloc (.cells (madeCells #[.int .i64 0] (N + 1)) 3)).alloc (.cells (madeCells #[.int .i64 0] (N + 1)) 3)).alloc (.cells #[.slice (some ⟨w.heap.size + 1, 0, none⟩) (N + 1) (N + 1)] 89)).alloc (.cells (madeCells #[.int .i64 0] (N + 1)) 3)) :=
          ((((Below.refl _ _).alloc (Nat.le_refl _) _).alloc (by simp) _).alloc (by simp; omega) _).alloc (by simp; omega) _
        simp only [sz_alloc] at F1 F3
        have z0 : w.heap.size + 4 ≤ ((((w.alloc (.cells (madeCells #[.int .i64 0] (N + 1)) 3)).alloc (.cells (madeCells #[.int .i64 0] (N + 1)) 3)).alloc (.cells #[.slice (some ⟨w.heap.size + 1, 0, none⟩) (N + 1) (N + 1)] 89)).alloc (.cells (madeCells #[.int .i64 0] (N + 1)) 3)).heap.size := by simp only [sz_alloc]; omega
        generalize ((((w.alloc (.cells (madeCells #[.int .i64 0] (N + 1)) 3)).alloc (.cells (madeCells #[.int .i64 0] (N + 1)) 3)).alloc (.cells #[.slice (some ⟨w.heap.size + 1, 0, none⟩) (N + 1) (N + 1)] 89)).alloc (.cells (madeCells #[.int .i64 0] (N + 1)) 3)) = W0 at F0 F1 F3 C2 B0 z0 ⊢
        have ST : Aside (ShSt w N T S wn 0 W0) := ⟨F0.congr (fun j _ => by simp), F1.congr (fun j _ => by simp), C2, F3.congr (fun j _ => by simp), B0, z0⟩
        clear F0 F1 F3 C2 B0 z0 hi hg1 hlt hH H
        go_loopg [13, 69] (N + 1) (fun g1 vl vi wr => ∃ (i : Nat) (l : Int), vi = .int .i64 i ∧ vl = .int .i64 l ∧ l ≤ 1000000000000 ∧ -60000000000000 ≤ l ∧ Hid (l = (T : Int) - (sumTo (shQ T S wn) i : Int)) ∧ i ≤ N + 1 ∧ N + 1 - i ≤ g1 ∧ Aside (ShSt w N T S wn i wr))
        case atStart => exact ⟨0, T, by go_num, rfl, by omega, by omega, (show _ = _ by simp [sumTo]), by omega, by omega, ST⟩
        case round =>
          clear ST
          obtain ⟨i, l, rfl, rfl, hl1, hl2, HL, hi, hg1, ST⟩ := hrel
          by_cases hlt : i < N + 1
          · have hltz : (i : Int) < (N : Int) + 1 := by omega
            have c1 : wr.cell? ⟨b, off + i, none⟩ = some (.int .i64 (wn i : Int)) := by rw [ST.out.b.cell (p := ⟨b, off + i, none⟩) hb]; exact CW.out i hlt
            have b1 : (wn i : Int) ≤ 1000000 := by have := BW.out i hlt; omega
            have b2 : (0 : Int) ≤ (wn i : Int) := by omega
            go_wp2_with fail
            have hTn : T < 18446744073709551616 := by omega
            have hwn : wn i < 18446744073709551616 := by have := BW.out i hlt; omega
            obtain ⟨p, hp⟩ : ∃ p, p = T * wn i := ⟨_, rfl⟩
            have hp2 : p ≤ 1000000000000000000 := by
              rw [hp]
              have := Nat.mul_le_mul hT (BW.out i hlt)
              omega
            refine (mul64_small T (wn i) p hTn hwn hp (by omega) _).mono ?_
            rintro e w1 ⟨rfl, rfl⟩
            obtain ⟨q, hq⟩ : ∃ q, q = shQ T S wn i := ⟨_, rfl⟩
            obtain ⟨r, hr⟩ : ∃ r, r = shR T S wn i := ⟨_, rfl⟩
            have hq2 : q ≤ 1000000000000 := by
              rw [hq]
              have h1 : sumTo (shQ T S wn) i + shQ T S wn i ≤ sumTo (shQ T S wn) (N + 1) := sumTo_mono (f := shQ T S wn) (show i + 1 ≤ N + 1 by omega)
              have := HL1.out
              omega
            have hr2 : r ≤ 60000000 := by
              rw [hr]
              have : shR T S wn i < S := Nat.mod_lt _ hS0
              omega
            have hl0 : l - (q : Int) ≥ 0 := by
              rw [HL.out, hq]
              have h1 : sumTo (shQ T S wn) i + shQ T S wn i ≤ sumTo (shQ T S wn) (N + 1) := sumTo_mono (f := shQ T S wn) (show i + 1 ≤ N + 1 by omega)
              have := HL1.out
              omega
            have HP := Lib.hid hp
            have HQ := Lib.hid hq
            have HR := Lib.hid hr
            clear hp hq hr hTn hwn
            go_wp2_with fail
            refine (div64_at p S q r _ hS0 (by omega) (by omega) (by rw [HQ.out, HP.out]; rfl) (by rw [HR.out, HP.out]; rfl)).mono ?_
            rintro e w1 ⟨rfl, nd, hnd⟩
            have ST2 : Aside (ShSt w N T S wn i w1) := by
              rw [hnd]
              exact ⟨ST.out.o.drewN nd, ST.out.r.drewN nd, ST.out.c, ST.out.d.drewN nd, pw_drewN ST.out.b nd, ST.out.z⟩
            clear hnd c1 ST
            have f1 := ST2.out.o.cell i hlt
            have f2 := ST2.out.r.cell i hlt
            have f3 := ST2.out.d.cell i hlt
            have g1 := ST2.out.o.free i hlt
            have g2 := ST2.out.r.free i hlt
            have g3 := ST2.out.d.free i hlt
            have c2 := ST2.out.c
            have SS := ST2.out.step hlt
            rw [← HQ.out, ← HR.out] at SS
            have SS' : Aside _ := SS
            clear SS
            go_wp2_with fail
            go_big_region
            clear f1 f2 f3 g1 g2 g3 c2 ST2
            generalize (((w1.setCell ⟨w.heap.size, i, none⟩ (.int .i64 (q : Int))).setCell ⟨w.heap.size + 1, i, none⟩ (.int .i64 (r : Int))).setCell ⟨w.heap.size + 1 + 1 + 1, i, none⟩ (.int .i64 (i : Int))).drew = w2 at SS' ⊢
            have f1 := SS'.out.o.cell i hlt
            rw [if_pos (by omega), ← HQ.out] at f1
            go_wp2
            go_roundg (gk - 1)
            case measure => omega
            case rel => exact ⟨i + 1, l - q, by go_num, by first | rfl | go_num, by omega, by omega, (show _ = _ by
              rw [HL.out, HQ.out]
              show _ = (T : Int) - ((sumTo (shQ T S wn) i + shQ T S wn i : Nat) : Int)
              omega), by omega, by omega, SS'⟩
          · obtain rfl : i = N + 1 := by omega
            have hL : l = (shLeft (N + 1) T S wn : Int) := by
              rw [HL.out]
              have := HL1.out
              unfold shLeft
              omega
            obtain ⟨L, hLL⟩ : ∃ L, L = shLeft (N + 1) T S wn := ⟨_, rfl⟩
            rw [← hLL] at hL
            subst hL
            have hLN : L ≤ N := by rw [hLL]; have := HL3.out; unfold shLeft; omega
            have HLL := Lib.hid hLL
            clear hLL HL hl1 hl2
            go_wp2_with fail
            refine (share_sort hN hS0 sS ST.out).mono ?_
            rintro e w1 ⟨rfl, SA⟩
            have FO := (ST.out.o.sorted SA (by omega)).congr (f' := fun j => (shQ T S wn j : Int)) (fun j hj => by rw [if_pos hj])
            have BO : Below w.heap.size w w1 := ST.out.b.trans (sw_below SA (by omega) (by have := ST.out.z; omega))
            have OC : ∀ j, j < N + 1 → w1.cell? ⟨w.heap.size + 1 + 1 + 1, j, none⟩ = some (.int .i64 ((shOrd N T S wn)[j]!.val : Int)) := fun j hj => by
              have h := SA.c1 (⟨oneF, share_holds ST.out, by have := ST.out.z; omega⟩ : Row1 eF wr (w.heap.size + 1 + 1 + 1) 0 (shIdx N)) (size_shOrd N T S wn) j (by rw [size_shOrd']; exact hj)
              rw [Nat.zero_add] at h
              exact h
            have FO' : Aside _ := FO
            have BO' : Aside _ := BO
            have OC' : Aside _ := OC
            clear FO BO OC SA ST
            go_wp2_with fail
            have hqb : ∀ j, j < N + 1 → (0 : Int) ≤ (shQ T S wn j : Int) ∧ (shQ T S wn j : Int) ≤ 1000000000000 := fun j hj => by
              have h1 : shQ T S wn j ≤ sumTo (shQ T S wn) (N + 1) := le_sumTo hj
              have := HL1.out
              omega
            have HQB : Aside _ := hqb
            clear hqb
            go_loopg [118] L (fun g1 vi wr => ∃ (i : Nat), vi = .int .i64 i ∧ i ≤ L ∧ L - i ≤ g1 ∧ Aside (FRow wr w.heap.size (N + 1) (shBump (shOrd N T S wn) (fun i => (shQ T S wn i : Int)) i)) ∧ Aside (∀ j, j < N + 1 → wr.cell? ⟨w.heap.size + 1 + 1 + 1, j, none⟩ = some (.int .i64 ((shOrd N T S wn)[j]!.val : Int))) ∧ Aside (Below w.heap.size w wr))
            case atStart => exact ⟨0, by go_num, by omega, by omega, FO', OC', BO'⟩
            case round =>
              clear FO' OC' BO'
              obtain ⟨i, rfl, hi, hg1, FO, OC, BO⟩ := hrel
              by_cases hlt : i < L
              · have hltz : (i : Int) < (L : Int) := by omega
                obtain ⟨o, ho⟩ : ∃ o : Fin (N + 1), o = (shOrd N T S wn)[i]! := ⟨_, rfl⟩
                obtain ⟨k, hk⟩ : ∃ k : Nat, k = o.val := ⟨_, rfl⟩
                have hkN : k < N + 1 := by rw [hk]; exact o.isLt
                have c1 := OC.out i (by omega)
                rw [← ho, ← hk] at c1
                have c2 := FO.out.cell k hkN
                have f2 := FO.out.free k hkN
                have hkz : (k : Int) < (N : Int) + 1 := by omega
                obtain ⟨v, hv⟩ : ∃ v, v = shBump (shOrd N T S wn) (fun i => (shQ T S wn i : Int)) i k := ⟨_, rfl⟩
                rw [← hv] at c2
                have hvb : v ≤ 1000000000000 + 60 ∧ 0 ≤ v := by
                  have h9 := shBump_le (d := shOrd N T S wn) HQB.out i k hkN
                  rw [← hv] at h9
                  omega
                obtain ⟨hv1, hv2⟩ := hvb
                have FP : Aside (FRow (wr.setCell ⟨w.heap.size, k, none⟩ (.int .i64 (v + 1))) w.heap.size (N + 1) (shBump (shOrd N T S wn) (fun i => (shQ T S wn i : Int)) (i + 1))) := (FO.out.put k hkN (v + 1)).congr fun j hj => by
                  show _ = (if j = ((shOrd N T S wn)[i]!).val then _ else _)
                  rw [← ho, ← hk]
                  by_cases e : j = k
                  · rw [if_pos e, if_pos e, e, ← hv]
                  · rw [if_neg e, if_neg e]
                have OP : Aside (∀ j, j < N + 1 → (wr.setCell ⟨w.heap.size, k, none⟩ (.int .i64 (v + 1))).cell? ⟨w.heap.size + 1 + 1 + 1, j, none⟩ = some (.int .i64 ((shOrd N T S wn)[j]!.val : Int))) := fun j hj => by
                  rw [World.cell?_setCell_other _ _ _ _ (by intro e; simp only [Addr.mk.injEq] at e; omega)]; exact OC.out j hj
                have BP : Aside (Below w.heap.size w (wr.setCell ⟨w.heap.size, k, none⟩ (.int .i64 (v + 1)))) := BO.out.setCell (by simp) _
                clear ho hk hv FO OC BO
                go_wp2
                go_roundg (gk - 1)
                case measure => omega
                case rel => exact ⟨i + 1, by go_num, by omega, by omega, FP, OP, BP⟩
              · obtain rfl : i = L := by omega
                go_wp2_with fail
                have hvb : ∀ j, j < N + 1 → 0 ≤ shBump (shOrd N T S wn) (fun i => (shQ T S wn i : Int)) i j ∧ shBump (shOrd N T S wn) (fun i => (shQ T S wn i : Int)) i j ≤ 1000000000060 := fun j hj => by
                  have h9 := shBump_le (d := shOrd N T S wn) HQB.out i j hj
                  omega
                have HVB : Aside _ := hvb
                clear hvb
                first
                  | (go_ret2
                     exact ⟨_, rfl, Nat.le_refl _, FO.out.congr fun j _ => by simp [shOut, ← HLL.out], BO.out⟩)
                  | (go_loopg [132] (N + 1) (fun g1 vi wr => ∃ (s : Nat), vi = .int .i64 s ∧ s ≤ N + 1 ∧ N + 1 - s ≤ g1 ∧ Aside (FRow wr w.heap.size (N + 1) (fun j => if j < s then -shBump (shOrd N T S wn) (fun i => (shQ T S wn i : Int)) i j else shBump (shOrd N T S wn) (fun i => (shQ T S wn i : Int)) i j)) ∧ Aside (Below w.heap.size w wr))
                     case atStart => exact ⟨0, by go_num, by omega, by omega, FO.out.congr (fun j _ => by simp), BO⟩
                     case round =>
                       clear FO BO OC
                       obtain ⟨s, rfl, hs, hg3, FO, BO⟩ := hrel
                       by_cases hlt3 : s < N + 1
                       · have hltz : (s : Int) < (N : Int) + 1 := by omega
                         have c2 := FO.out.cell s hlt3
                         have f2 := FO.out.free s hlt3
                         rw [if_neg (Nat.lt_irrefl s)] at c2
                         obtain ⟨v, hv⟩ : ∃ v, v = shBump (shOrd N T S wn) (fun i => (shQ T S wn i : Int)) i s := ⟨_, rfl⟩
                         have hvb := HVB.out s hlt3
                         rw [← hv] at c2 hvb
                         obtain ⟨hv1, hv2⟩ := hvb
                         have FP : Aside (FRow (wr.setCell ⟨w.heap.size, s, none⟩ (.int .i64 (-v))) w.heap.size (N + 1) (fun j => if j < s + 1 then -shBump (shOrd N T S wn) (fun i => (shQ T S wn i : Int)) i j else shBump (shOrd N T S wn) (fun i => (shQ T S wn i : Int)) i j)) := (FO.out.put s hlt3 (-v)).congr fun j hj => by
                           by_cases e : j = s
                           · rw [if_pos e, if_pos (by omega), e, ← hv]
                           · rw [if_neg e]
                             by_cases e2 : j < s
                             · rw [if_pos e2, if_pos (by omega)]
                             · rw [if_neg e2, if_neg (by omega)]
                         have BP : Aside (Below w.heap.size w (wr.setCell ⟨w.heap.size, s, none⟩ (.int .i64 (-v)))) := BO.out.setCell (by simp) _
                         clear hv FO BO
                         go_wp2
                         go_roundg (gk - 1)
                         case measure => omega
                         case rel => exact ⟨s + 1, by go_num, by omega, by omega, FP, BP⟩
                       · obtain rfl : s = N + 1 := by omega
                         go_wp2
                         go_ret2
                         exact ⟨_, rfl, Nat.le_refl _, FO.out.congr fun j hj => by simp [shOut, ← HLL.out, hj], BO.out⟩)
end Go.Proofs.YtcccijljnjhkbaaGreatDoor
