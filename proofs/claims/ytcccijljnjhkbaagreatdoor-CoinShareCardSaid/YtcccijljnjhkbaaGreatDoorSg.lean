/- statuteref1.Share where it shares. -/
import Derived.Test.YtcccijljnjhkbaaGreatDoorSf
namespace Go.Proofs.YtcccijljnjhkbaaGreatDoor
open Go.Shelf Go.RowKit Go.Lib Go.Sort

/-- What memory holds while the document's answer is reckoned: its two rows. -/
structure RfSt (w : World) (N : Nat) (fo fr : Nat → Int) (W : World) : Prop where
  o : FRow W w.heap.size (N + 1) fo
  r : FRow W (w.heap.size + 1) (N + 1) fr
  b : Below w.heap.size w W

theorem RfSt.drewN {w W : World} {N : Nat} {fo fr : Nat → Int} (h : RfSt w N fo fr W) (k : Nat) : RfSt w N fo fr (W.drewN k) := ⟨h.o.drewN k, h.r.drewN k, pw_drewN h.b k⟩
theorem RfSt.drew {w W : World} {N : Nat} {fo fr : Nat → Int} (h : RfSt w N fo fr W) : RfSt w N fo fr W.drew := ⟨h.o.drew, h.r.drew, h.b.drew⟩
theorem RfSt.out {w W : World} {N : Nat} {fo fr : Nat → Int} (h : RfSt w N fo fr W) (i : Nat) (hi : i < N + 1) (v : Int) : RfSt w N (fun j => if j = i then v else fo j) fr (W.setCell ⟨w.heap.size, i, none⟩ (.int .i64 v)) :=
  ⟨h.o.put i hi v, h.r.far (by omega) _, h.b.setCell (by simp) _⟩
theorem RfSt.rest {w W : World} {N : Nat} {fo fr : Nat → Int} (h : RfSt w N fo fr W) (i : Nat) (hi : i < N + 1) (v : Int) : RfSt w N fo (fun j => if j = i then v else fr j) (W.setCell ⟨w.heap.size + 1, i, none⟩ (.int .i64 v)) :=
  ⟨h.o.far (by omega) _, h.r.put i hi v, h.b.setCell (by simp) _⟩
theorem RfSt.congr {w W : World} {N : Nat} {fo fr fo' fr' : Nat → Int} (h : RfSt w N fo fr W) (e1 : ∀ j, j < N + 1 → fo j = fo' j) (e2 : ∀ j, j < N + 1 → fr j = fr' j) : RfSt w N fo' fr' W := ⟨h.o.congr e1, h.r.congr e2, h.b⟩

theorem up_to (f : Nat → Int) (i : Nat) (j : Nat) : (if j = i then f i else if j < i then f j else 0) = if j < i + 1 then f j else 0 := by
  by_cases e : j = i
  · subst e; rw [if_pos rfl, if_pos (by omega)]
  · rw [if_neg e]
    by_cases e2 : j < i
    · rw [if_pos e2, if_pos (by omega)]
    · rw [if_neg e2, if_neg (by omega)]

set_option maxHeartbeats 8000000 in
set_option maxRecDepth 100000 in
theorem refShare_shares (N b off cap : Nat) (wn : Nat → Nat) (total : Int) (T S : Nat) (neg : Bool) (w : World) (hN : N < 60) (hb : b < w.heap.size)
    (cw : ∀ i, i < N + 1 → w.cell? ⟨b, off + i, none⟩ = some (.int .i64 (wn i : Int))) (bw : ∀ i, i < N + 1 → wn i ≤ 1000000)
    (hS : S = sumTo wn (N + 1)) (hS0 : 0 < S) (hT : T ≤ 1000000000000) (hneg : decide (total < 0) = neg) (htot : total = if neg then -(T : Int) else (T : Int)) :
    Calls Tryz.prog 43 #[.int .i64 total, .slice (some ⟨b, off, none⟩) (N + 1) cap] w fun e w' => ∃ H, e = .returned (.tuple #[.slice (some ⟨H, 0, none⟩) (N + 1) (N + 1), .int .i64 0]) ∧ w.heap.size ≤ H ∧ FRow w' H (N + 1) (shOut N T S wn neg) ∧ Below w.heap.size w w' := by
  have hmk : ∀ W : World, (Instr.makeSlice 89 (.int .i64 ((N : Int) + 1)) (.int .i64 ((N : Int) + 1))).run Tryz.prog W = .ok (.slice (some ⟨W.heap.size, 0, none⟩) (N + 1) (N + 1)) (W.alloc (.cells (madeCells #[.int .i64 0] (N + 1)) 3)) := by
    intro W
    have := run_make_row' (P := Tryz.prog) 89 3 (.int .i64 0) 8 Tryz.underlying89 (by kernel_rfl) rfl .i64 .i64 (N + 1) (by omega) (by omega) W
    simpa using this
  have hNz : ((N : Int) + 1) ≤ 60 := by omega
  have sb : ∀ k, k ≤ N + 1 → sumTo wn k ≤ 60000000 := fun k hk => by
    have := sumTo_le (f := wn) (b := 1000000) k fun i hi => bw i (by omega)
    have : k * 1000000 ≤ 60 * 1000000 := Nat.mul_le_mul_right _ (by omega)
    omega
  subst hS
  obtain ⟨S, hS⟩ : ∃ S, S = sumTo wn (N + 1) := ⟨_, rfl⟩
  rw [← hS] at hS0 ⊢
  have sS : S ≤ 60000000 := by rw [hS]; exact sb _ (Nat.le_refl _)
  have SB : Aside _ := sb
  have CW : Aside _ := cw
  have BW : Aside _ := bw
  have HS := Lib.hid hS
  clear sb cw bw hS
  have b4 : ((S : Int) == 0) = false := by simp; omega
  have htt : (neg = true ∧ total = -(T : Int) ∧ 0 < T) ∨ (neg = false ∧ total = (T : Int)) := by
    cases neg with
    | true => rw [if_pos rfl] at htot; have := of_decide_eq_true hneg; exact .inl ⟨rfl, htot, by omega⟩
    | false => rw [if_neg (by simp)] at htot; exact .inr ⟨rfl, htot⟩
  clear htot
  obtain ⟨hl1, hl2, hl3⟩ := left_facts (N + 1) T S wn HS.out hS0
  have HL1 := Lib.hid hl1
  have HL3 := Lib.hid hl3
  clear hl1 hl2 hl3
  have tT : (T : Int) ≤ 1000000000000 := by omega
  rcases htt with ⟨rfl, rfl, hT0⟩ | ⟨rfl, rfl⟩
  · go_enter Tryz.func43, Tryz.ntmps43
    go_wp2
    go_loopg [6, 7, 8] (N + 1) (fun g1 vs vb vi wr => ∃ (i : Nat), vi = .int .i64 i ∧ vs = .int .i64 (sumTo wn i : Int) ∧ vb = .bool false ∧ i ≤ N + 1 ∧ N + 1 - i ≤ g1 ∧ Hid (w = wr))
    case atStart => exact ⟨0, by go_num, rfl, rfl, by omega, by omega, rfl⟩
    case round =>
      obtain ⟨i, rfl, rfl, rfl, hi, hg1, HW⟩ := hrel
      obtain rfl := HW.out
      clear HW
      by_cases hlt : i < N + 1
      · have hltz : (i : Int) < (N : Int) + 1 := by omega
        have c1 := CW.out i hlt
        have b1 : (wn i : Int) ≤ 1000000 := by have := BW.out i hlt; omega
        have b2 : (0 : Int) ≤ (wn i : Int) := by omega
        have b3 : (sumTo wn i : Int) ≤ 60000000 := by have := SB.out i hi; omega
        go_wp2
        go_roundg (gk - 1)
        case measure => omega
        case rel => exact ⟨i + 1, by go_num, by show _ = Value.int _ ((sumTo wn i + wn i : Nat) : Int); go_num, by rw [decide_eq_false (show ¬ (wn i : Int) < 0 by omega), decide_eq_false (show ¬ 1000000 < (wn i : Int) by omega)]; rfl, by omega, by omega, rfl⟩
      · obtain rfl : i = N + 1 := by omega
        rw [← HS.out]
        go_wp2_with (go_at_call 105; refine (small_yes _ _ (by omega) (by omega)).mono ?_; rintro e w9 ⟨rfl, rfl⟩)
        have F0 := (FRow.made w (N + 1) 3).alloc (.cells (madeCells #[.int .i64 0] (N + 1)) 3)
        have F1 := FRow.made (w.alloc (.cells (madeCells #[.int .i64 0] (N + 1)) 3)) (N + 1) 3
        have B0 : Below w.heap.size w ((w.alloc (.cells (madeCells #[.int .i64 0] (N + 1)) 3)).alloc (.cells (madeCells #[.int .i64 0] (N + 1)) 3)) := ((Below.refl _ _).alloc (Nat.le_refl _) _).alloc (by simp) _
        simp only [sz_alloc] at F1
        generalize (w.alloc (.cells (madeCells #[.int .i64 0] (N + 1)) 3)).alloc (.cells (madeCells #[.int .i64 0] (N + 1)) 3) = W0 at F0 F1 B0 ⊢
        have ST : Aside (RfSt w N (fun j => if j < 0 then (shQ T S wn j : Int) else 0) (fun j => if j < 0 then (shR T S wn j : Int) else 0) W0) := ⟨F0.congr (fun j _ => by simp), F1.congr (fun j _ => by simp), B0⟩
        clear F0 F1 B0 hi hg1 hlt
        go_loopg [11, 15] (N + 1) (fun g1 vl vi wr => ∃ (i : Nat) (l : Int), vi = .int .i64 i ∧ vl = .int .i64 l ∧ l ≤ 1000000000000 ∧ -60000000000000 ≤ l ∧ Hid (l = (T : Int) - (sumTo (shQ T S wn) i : Int)) ∧ i ≤ N + 1 ∧ N + 1 - i ≤ g1 ∧ Aside (RfSt w N (fun j => if j < i then (shQ T S wn j : Int) else 0) (fun j => if j < i then (shR T S wn j : Int) else 0) wr))
        case atStart => exact ⟨0, T, by go_num, by first | rfl | go_num, by omega, by omega, (show _ = _ by simp [sumTo]), by omega, by omega, ST⟩
        case round =>
          clear ST
          obtain ⟨i, l, rfl, rfl, hl1, hl2, HL, hi, hg1, ST⟩ := hrel
          by_cases hlt : i < N + 1
          · have hltz : (i : Int) < (N : Int) + 1 := by omega
            have c1 : wr.cell? ⟨b, off + i, none⟩ = some (.int .i64 (wn i : Int)) := by rw [ST.out.b.cell (p := ⟨b, off + i, none⟩) hb]; exact CW.out i hlt
            obtain ⟨q, hq⟩ : ∃ q, q = shQ T S wn i := ⟨_, rfl⟩
            obtain ⟨r, hr⟩ : ∃ r, r = shR T S wn i := ⟨_, rfl⟩
            have hq2 : q ≤ 1000000000000 := by
              rw [hq]
              have h1 : sumTo (shQ T S wn) i + shQ T S wn i ≤ sumTo (shQ T S wn) (N + 1) := sumTo_mono (f := shQ T S wn) (show i + 1 ≤ N + 1 by omega)
              have := HL1.out
              omega
            have hl0 : l - (q : Int) ≥ 0 := by
              rw [HL.out, hq]
              have h1 : sumTo (shQ T S wn) i + shQ T S wn i ≤ sumTo (shQ T S wn) (N + 1) := sumTo_mono (f := shQ T S wn) (show i + 1 ≤ N + 1 by omega)
              have := HL1.out
              omega
            have hp := fun w0 => portion_calls T (wn i) S w0 hT (by rw [HS.out]; exact le_sumTo hlt) hS0 sS
            rw [show T * wn i / S = q from hq.symm, show T * wn i % S = r from hr.symm] at hp
            have HP : Aside _ := hp
            have HQ := Lib.hid hq
            have HR := Lib.hid hr
            clear hp hq hr
            go_wp2_with fail
            refine Calls.mono (HP.out _) ?_
            rintro e w9 ⟨rfl, rfl⟩
            have f1 := ST.out.o.cell i hlt
            have g1 := ST.out.o.free i hlt
            have SA := (ST.out.out i hlt q)
            have f2 := SA.r.cell i hlt
            have g2 := SA.r.free i hlt
            have SS : Aside (RfSt w N (fun j => if j < i + 1 then (shQ T S wn j : Int) else 0) (fun j => if j < i + 1 then (shR T S wn j : Int) else 0) ((wr.setCell ⟨w.heap.size, i, none⟩ (.int .i64 (q : Int))).setCell ⟨w.heap.size + 1, i, none⟩ (.int .i64 (r : Int)))) :=
              (SA.rest i hlt r).congr (fun j _ => by rw [HQ.out]; exact up_to (fun j => (shQ T S wn j : Int)) i j) (fun j _ => by rw [HR.out]; exact up_to (fun j => (shR T S wn j : Int)) i j)
            clear SA ST
            go_wp2
            go_roundg (gk - 1)
            case measure => omega
            case rel => exact ⟨i + 1, l - q, by go_num, by first | rfl | go_num, by omega, by omega, (show _ = _ by
              rw [HL.out, HQ.out]
              show _ = (T : Int) - ((sumTo (shQ T S wn) i + shQ T S wn i : Nat) : Int)
              omega), by omega, by omega, SS⟩
          · obtain rfl : i = N + 1 := by omega
            have hL : l = (shLeft (N + 1) T S wn : Int) := by
              rw [HL.out]
              have := HL1.out
              unfold shLeft
              omega
            obtain ⟨L, hLL⟩ : ∃ L, L = shLeft (N + 1) T S wn := ⟨_, rfl⟩
            rw [← hLL] at hL
            subst hL
            have hLN : L ≤ N := by rw [hLL]; have := HL3.out; unfold shLeft; omega
            have HLL := Lib.hid hLL
            clear hLL HL hl1 hl2
            go_wp2_with fail
            have ST0 : Aside (RfSt w N (shBump (shOrd N T S wn) (fun i => (shQ T S wn i : Int)) 0) (shMark (shOrd N T S wn) (fun i => (shR T S wn i : Int)) 0) wr) := ST.out.congr (fun j hj => by rw [if_pos hj]; rfl) (fun j hj => by rw [if_pos hj]; rfl)
            clear ST
            have hqb : ∀ j, j < N + 1 → (0 : Int) ≤ (shQ T S wn j : Int) ∧ (shQ T S wn j : Int) ≤ 1000000000000 := fun j hj => by
              have h1 : shQ T S wn j ≤ sumTo (shQ T S wn) (N + 1) := le_sumTo hj
              have := HL1.out
              omega
            have HQB : Aside _ := hqb
            clear hqb
            go_loopg [11] L (fun g1 vl wr => ∃ (t : Nat) (l : Nat), vl = .int .i64 l ∧ l + t = L ∧ L - t ≤ g1 ∧ Aside (RfSt w N (shBump (shOrd N T S wn) (fun i => (shQ T S wn i : Int)) t) (shMark (shOrd N T S wn) (fun i => (shR T S wn i : Int)) t) wr))
            case atStart => exact ⟨0, L, rfl, by omega, by omega, ST0⟩
            case round =>
              clear ST0
              obtain ⟨t, l, rfl, hlt', hg1, ST⟩ := hrel
              obtain ⟨gko, hgk1, hgk2⟩ : ∃ g : Nat, g ≤ gk ∧ gk ≤ g := ⟨gk, Nat.le_refl _, Nat.le_refl _⟩
              by_cases hl : 0 < l
              · have hlz : (0 : Int) < (l : Int) := by omega
                have hN1 : 0 < N + 1 := by omega
                go_wp2_with fail
                go_loopg [18, 19] (N + 1) (fun g1 vb vi wr => ∃ (i b : Nat), vi = .int .i64 i ∧ vb = .int .i64 b ∧ 1 ≤ i ∧ i ≤ N + 1 ∧ b < i ∧ N + 1 - i ≤ g1 ∧ Aside (∀ j, j < i → (shMark (shOrd N T S wn) (fun i => (shR T S wn i : Int)) t) j ≤ (shMark (shOrd N T S wn) (fun i => (shR T S wn i : Int)) t) b ∧ ((shMark (shOrd N T S wn) (fun i => (shR T S wn i : Int)) t) j = (shMark (shOrd N T S wn) (fun i => (shR T S wn i : Int)) t) b → b ≤ j)) ∧ Aside (RfSt w N (shBump (shOrd N T S wn) (fun i => (shQ T S wn i : Int)) t) (shMark (shOrd N T S wn) (fun i => (shR T S wn i : Int)) t) wr))
                case atStart => exact ⟨1, 0, by go_num, by go_num, by omega, by omega, by omega, by omega, (fun j hj => by obtain rfl : j = 0 := (by omega); exact ⟨Int.le_refl _, fun _ => Nat.le_refl _⟩), ST⟩
                case round =>
                  clear ST
                  obtain ⟨i, b, rfl, rfl, hi1, hi, hbi, hg2, HM, ST⟩ := hrel
                  by_cases hlt : i < N + 1
                  · have hltz : (i : Int) < (N : Int) + 1 := by omega
                    have hbN : b < N + 1 := by omega
                    have hbz : (b : Int) < (N : Int) + 1 := by omega
                    obtain ⟨x, hx⟩ : ∃ x, x = (shMark (shOrd N T S wn) (fun i => (shR T S wn i : Int)) t) i := ⟨_, rfl⟩
                    obtain ⟨y, hy⟩ : ∃ y, y = (shMark (shOrd N T S wn) (fun i => (shR T S wn i : Int)) t) b := ⟨_, rfl⟩
                    have c1 := ST.out.r.cell i hlt
                    have c2 := ST.out.r.cell b hbN
                    rw [← hx] at c1
                    rw [← hy] at c2
                    have HX := Lib.hid hx
                    have HY := Lib.hid hy
                    clear hx hy
                    by_cases hxy : y < x
                    · go_wp2_with fail
                      go_quiet (fail)
                      go_wp2
                      go_roundg (gk - 1)
                      case measure => omega
                      case rel => exact ⟨i + 1, i, by go_num, rfl, by omega, by omega, by omega, by omega, (fun j hj => by
                        have hX := HX.out
                        have hY := HY.out
                        by_cases e : j = i
                        · subst e; exact ⟨Int.le_refl _, fun _ => Nat.le_refl _⟩
                        · have := (HM.out j (by omega)).1
                          exact ⟨by omega, fun h => by omega⟩), by first | exact ST | exact ST.out.drewN _ | exact ST.out.drew⟩
                    · go_wp2_with fail
                      go_quiet (fail)
                      go_wp2
                      go_roundg (gk - 1)
                      case measure => omega
                      case rel => exact ⟨i + 1, b, by go_num, rfl, by omega, by omega, by omega, by omega, (fun j hj => by
                        have hX := HX.out
                        have hY := HY.out
                        by_cases e : j = i
                        · subst e; exact ⟨by omega, fun _ => by omega⟩
                        · exact HM.out j (by omega)), by first | exact ST | exact ST.out.drewN _ | exact ST.out.drew⟩
                  · obtain rfl : i = N + 1 := by omega
                    have hbest : b = ((shOrd N T S wn)[t]!).val := shBest N T S wn t b (by omega) (by omega) HM.out
                    have HBE := Lib.hid hbest
                    clear hbest HM
                    have hbN : b < N + 1 := by omega
                    have hbz : (b : Int) < (N : Int) + 1 := by omega
                    obtain ⟨v, hv⟩ : ∃ v, v = (shBump (shOrd N T S wn) (fun i => (shQ T S wn i : Int)) t) b := ⟨_, rfl⟩
                    have c1 := ST.out.o.cell b hbN
                    have f1 := ST.out.o.free b hbN
                    rw [← hv] at c1
                    have hvb : v ≤ 1000000000000 + 60 ∧ 0 ≤ v := by
                      have h9 := shBump_le (d := shOrd N T S wn) HQB.out t b hbN
                      rw [← hv] at h9
                      omega
                    obtain ⟨hv1, hv2⟩ := hvb
                    have SA := ST.out.out b hbN (v + 1)
                    have g1 := SA.r.free b hbN
                    have c2 := SA.r.cell b hbN
                    have SS : Aside (RfSt w N (shBump (shOrd N T S wn) (fun i => (shQ T S wn i : Int)) (t + 1)) (shMark (shOrd N T S wn) (fun i => (shR T S wn i : Int)) (t + 1)) ((wr.setCell ⟨w.heap.size, b, none⟩ (.int .i64 (v + 1))).setCell ⟨w.heap.size + 1, b, none⟩ (.int .i64 (-1)))) :=
                      (SA.rest b hbN (-1)).congr (fun j _ => by
                        show _ = (if j = ((shOrd N T S wn)[t]!).val then _ else _)
                        rw [← HBE.out]
                        by_cases e : j = b
                        · rw [if_pos e, if_pos e, e, ← hv]
                        · rw [if_neg e, if_neg e]) (fun j _ => by
                        show _ = (if j = ((shOrd N T S wn)[t]!).val then _ else _)
                        rw [← HBE.out])
                    clear SA ST hv
                    go_wp2
                    go_roundg (gko - 1)
                    case measure => omega
                    case rel => exact ⟨t + 1, l - 1, by first | rfl | go_num | (congr 1; omega), by omega, by omega, SS⟩
              · obtain rfl : l = 0 := by omega
                obtain rfl : t = L := by omega
                go_wp2_with fail
                have hvb : ∀ j, j < N + 1 → 0 ≤ (shBump (shOrd N T S wn) (fun i => (shQ T S wn i : Int)) t) j ∧ (shBump (shOrd N T S wn) (fun i => (shQ T S wn i : Int)) t) j ≤ 1000000000060 := fun j hj => by
                  have h9 := shBump_le (d := shOrd N T S wn) HQB.out t j hj
                  omega
                have HVB : Aside _ := hvb
                clear hvb
                go_loopg [20] (N + 1) (fun g1 vi wr => ∃ (s : Nat), vi = .int .i64 s ∧ s ≤ N + 1 ∧ N + 1 - s ≤ g1 ∧ Aside (RfSt w N (fun j => if j < s then shOut N T S wn true j else (shBump (shOrd N T S wn) (fun i => (shQ T S wn i : Int)) t) j) (shMark (shOrd N T S wn) (fun i => (shR T S wn i : Int)) t) wr))
                case atStart => exact ⟨0, by go_num, by omega, by omega, ST.out.congr (fun j _ => by simp) (fun _ _ => rfl)⟩
                case round =>
                  clear ST
                  obtain ⟨s, rfl, hs, hg3, ST⟩ := hrel
                  by_cases hlt3 : s < N + 1
                  · have hltz : (s : Int) < (N : Int) + 1 := by omega
                    have c2 := ST.out.o.cell s hlt3
                    have f2 := ST.out.o.free s hlt3
                    rw [if_neg (Nat.lt_irrefl s)] at c2
                    obtain ⟨v, hv⟩ : ∃ v, v = (shBump (shOrd N T S wn) (fun i => (shQ T S wn i : Int)) t) s := ⟨_, rfl⟩
                    have hvb := HVB.out s hlt3
                    rw [← hv] at c2 hvb
                    obtain ⟨hv1, hv2⟩ := hvb
                    have SS : Aside (RfSt w N (fun j => if j < s + 1 then shOut N T S wn true j else (shBump (shOrd N T S wn) (fun i => (shQ T S wn i : Int)) t) j) (shMark (shOrd N T S wn) (fun i => (shR T S wn i : Int)) t) (wr.setCell ⟨w.heap.size, s, none⟩ (.int .i64 (-v)))) := (ST.out.out s hlt3 (-v)).congr (fun j hj => by
                      by_cases e : j = s
                      · rw [if_pos e, if_pos (by omega), e]
                        simp [shOut, ← HLL.out, ← hv]
                      · rw [if_neg e]
                        by_cases e2 : j < s
                        · rw [if_pos e2, if_pos (by omega)]
                        · rw [if_neg e2, if_neg (by omega)]) (fun _ _ => rfl)
                    clear hv ST
                    go_wp2
                    go_roundg (gk - 1)
                    case measure => omega
                    case rel => exact ⟨s + 1, by go_num, by omega, by omega, SS⟩
                  · obtain rfl : s = N + 1 := by omega
                    go_wp2
                    go_ret2
                    exact ⟨_, rfl, Nat.le_refl _, ST.out.o.congr fun j hj => by rw [if_pos hj], ST.out.b⟩
  · go_enter Tryz.func43, Tryz.ntmps43
    go_wp2
    go_loopg [6, 7, 8] (N + 1) (fun g1 vs vb vi wr => ∃ (i : Nat), vi = .int .i64 i ∧ vs = .int .i64 (sumTo wn i : Int) ∧ vb = .bool false ∧ i ≤ N + 1 ∧ N + 1 - i ≤ g1 ∧ Hid (w = wr))
    case atStart => exact ⟨0, by go_num, rfl, rfl, by omega, by omega, rfl⟩
    case round =>
      obtain ⟨i, rfl, rfl, rfl, hi, hg1, HW⟩ := hrel
      obtain rfl := HW.out
      clear HW
      by_cases hlt : i < N + 1
      · have hltz : (i : Int) < (N : Int) + 1 := by omega
        have c1 := CW.out i hlt
        have b1 : (wn i : Int) ≤ 1000000 := by have := BW.out i hlt; omega
        have b2 : (0 : Int) ≤ (wn i : Int) := by omega
        have b3 : (sumTo wn i : Int) ≤ 60000000 := by have := SB.out i hi; omega
        go_wp2
        go_roundg (gk - 1)
        case measure => omega
        case rel => exact ⟨i + 1, by go_num, by show _ = Value.int _ ((sumTo wn i + wn i : Nat) : Int); go_num, by rw [decide_eq_false (show ¬ (wn i : Int) < 0 by omega), decide_eq_false (show ¬ 1000000 < (wn i : Int) by omega)]; rfl, by omega, by omega, rfl⟩
      · obtain rfl : i = N + 1 := by omega
        rw [← HS.out]
        go_wp2_with (go_at_call 105; refine (small_yes _ _ (by omega) (by omega)).mono ?_; rintro e w9 ⟨rfl, rfl⟩)
        have F0 := (FRow.made w (N + 1) 3).alloc (.cells (madeCells #[.int .i64 0] (N + 1)) 3)
        have F1 := FRow.made (w.alloc (.cells (madeCells #[.int .i64 0] (N + 1)) 3)) (N + 1) 3
        have B0 : Below w.heap.size w ((w.alloc (.cells (madeCells #[.int .i64 0] (N + 1)) 3)).alloc (.cells (madeCells #[.int .i64 0] (N + 1)) 3)) := ((Below.refl _ _).alloc (Nat.le_refl _) _).alloc (by simp) _
        simp only [sz_alloc] at F1
        generalize (w.alloc (.cells (madeCells #[.int .i64 0] (N + 1)) 3)).alloc (.cells (madeCells #[.int .i64 0] (N + 1)) 3) = W0 at F0 F1 B0 ⊢
        have ST : Aside (RfSt w N (fun j => if j < 0 then (shQ T S wn j : Int) else 0) (fun j => if j < 0 then (shR T S wn j : Int) else 0) W0) := ⟨F0.congr (fun j _ => by simp), F1.congr (fun j _ => by simp), B0⟩
        clear F0 F1 B0 hi hg1 hlt
        go_loopg [11, 15] (N + 1) (fun g1 vl vi wr => ∃ (i : Nat) (l : Int), vi = .int .i64 i ∧ vl = .int .i64 l ∧ l ≤ 1000000000000 ∧ -60000000000000 ≤ l ∧ Hid (l = (T : Int) - (sumTo (shQ T S wn) i : Int)) ∧ i ≤ N + 1 ∧ N + 1 - i ≤ g1 ∧ Aside (RfSt w N (fun j => if j < i then (shQ T S wn j : Int) else 0) (fun j => if j < i then (shR T S wn j : Int) else 0) wr))
        case atStart => exact ⟨0, T, by go_num, by first | rfl | go_num, by omega, by omega, (show _ = _ by simp [sumTo]), by omega, by omega, ST⟩
        case round =>
          clear ST
          obtain ⟨i, l, rfl, rfl, hl1, hl2, HL, hi, hg1, ST⟩ := hrel
          by_cases hlt : i < N + 1
          · have hltz : (i : Int) < (N : Int) + 1 := by omega
            have c1 : wr.cell? ⟨b, off + i, none⟩ = some (.int .i64 (wn i : Int)) := by rw [ST.out.b.cell (p := ⟨b, off + i, none⟩) hb]; exact CW.out i hlt
            obtain ⟨q, hq⟩ : ∃ q, q = shQ T S wn i := ⟨_, rfl⟩
            obtain ⟨r, hr⟩ : ∃ r, r = shR T S wn i := ⟨_, rfl⟩
            have hq2 : q ≤ 1000000000000 := by
              rw [hq]
              have h1 : sumTo (shQ T S wn) i + shQ T S wn i ≤ sumTo (shQ T S wn) (N + 1) := sumTo_mono (f := shQ T S wn) (show i + 1 ≤ N + 1 by omega)
              have := HL1.out
              omega
            have hl0 : l - (q : Int) ≥ 0 := by
              rw [HL.out, hq]
              have h1 : sumTo (shQ T S wn) i + shQ T S wn i ≤ sumTo (shQ T S wn) (N + 1) := sumTo_mono (f := shQ T S wn) (show i + 1 ≤ N + 1 by omega)
              have := HL1.out
              omega
            have hp := fun w0 => portion_calls T (wn i) S w0 hT (by rw [HS.out]; exact le_sumTo hlt) hS0 sS
            rw [show T * wn i / S = q from hq.symm, show T * wn i % S = r from hr.symm] at hp
            have HP : Aside _ := hp
            have HQ := Lib.hid hq
            have HR := Lib.hid hr
            clear hp hq hr
            go_wp2_with fail
            refine Calls.mono (HP.out _) ?_
            rintro e w9 ⟨rfl, rfl⟩
            have f1 := ST.out.o.cell i hlt
            have g1 := ST.out.o.free i hlt
            have SA := (ST.out.out i hlt q)
            have f2 := SA.r.cell i hlt
            have g2 := SA.r.free i hlt
            have SS : Aside (RfSt w N (fun j => if j < i + 1 then (shQ T S wn j : Int) else 0) (fun j => if j < i + 1 then (shR T S wn j : Int) else 0) ((wr.setCell ⟨w.heap.size, i, none⟩ (.int .i64 (q : Int))).setCell ⟨w.heap.size + 1, i, none⟩ (.int .i64 (r : Int)))) :=
              (SA.rest i hlt r).congr (fun j _ => by rw [HQ.out]; exact up_to (fun j => (shQ T S wn j : Int)) i j) (fun j _ => by rw [HR.out]; exact up_to (fun j => (shR T S wn j : Int)) i j)
            clear SA ST
            go_wp2
            go_roundg (gk - 1)
            case measure => omega
            case rel => exact ⟨i + 1, l - q, by go_num, by first | rfl | go_num, by omega, by omega, (show _ = _ by
              rw [HL.out, HQ.out]
              show _ = (T : Int) - ((sumTo (shQ T S wn) i + shQ T S wn i : Nat) : Int)
              omega), by omega, by omega, SS⟩
          · obtain rfl : i = N + 1 := by omega
            have hL : l = (shLeft (N + 1) T S wn : Int) := by
              rw [HL.out]
              have := HL1.out
              unfold shLeft
              omega
            obtain ⟨L, hLL⟩ : ∃ L, L = shLeft (N + 1) T S wn := ⟨_, rfl⟩
            rw [← hLL] at hL
            subst hL
            have hLN : L ≤ N := by rw [hLL]; have := HL3.out; unfold shLeft; omega
            have HLL := Lib.hid hLL
            clear hLL HL hl1 hl2
            go_wp2_with fail
            have ST0 : Aside (RfSt w N (shBump (shOrd N T S wn) (fun i => (shQ T S wn i : Int)) 0) (shMark (shOrd N T S wn) (fun i => (shR T S wn i : Int)) 0) wr) := ST.out.congr (fun j hj => by rw [if_pos hj]; rfl) (fun j hj => by rw [if_pos hj]; rfl)
            clear ST
            have hqb : ∀ j, j < N + 1 → (0 : Int) ≤ (shQ T S wn j : Int) ∧ (shQ T S wn j : Int) ≤ 1000000000000 := fun j hj => by
              have h1 : shQ T S wn j ≤ sumTo (shQ T S wn) (N + 1) := le_sumTo hj
              have := HL1.out
              omega
            have HQB : Aside _ := hqb
            clear hqb
            go_loopg [11] L (fun g1 vl wr => ∃ (t : Nat) (l : Nat), vl = .int .i64 l ∧ l + t = L ∧ L - t ≤ g1 ∧ Aside (RfSt w N (shBump (shOrd N T S wn) (fun i => (shQ T S wn i : Int)) t) (shMark (shOrd N T S wn) (fun i => (shR T S wn i : Int)) t) wr))
            case atStart => exact ⟨0, L, rfl, by omega, by omega, ST0⟩
            case round =>
              clear ST0
              obtain ⟨t, l, rfl, hlt', hg1, ST⟩ := hrel
              obtain ⟨gko, hgk1, hgk2⟩ : ∃ g : Nat, g ≤ gk ∧ gk ≤ g := ⟨gk, Nat.le_refl _, Nat.le_refl _⟩
              by_cases hl : 0 < l
              · have hlz : (0 : Int) < (l : Int) := by omega
                have hN1 : 0 < N + 1 := by omega
                go_wp2_with fail
                go_loopg [18, 19] (N + 1) (fun g1 vb vi wr => ∃ (i b : Nat), vi = .int .i64 i ∧ vb = .int .i64 b ∧ 1 ≤ i ∧ i ≤ N + 1 ∧ b < i ∧ N + 1 - i ≤ g1 ∧ Aside (∀ j, j < i → (shMark (shOrd N T S wn) (fun i => (shR T S wn i : Int)) t) j ≤ (shMark (shOrd N T S wn) (fun i => (shR T S wn i : Int)) t) b ∧ ((shMark (shOrd N T S wn) (fun i => (shR T S wn i : Int)) t) j = (shMark (shOrd N T S wn) (fun i => (shR T S wn i : Int)) t) b → b ≤ j)) ∧ Aside (RfSt w N (shBump (shOrd N T S wn) (fun i => (shQ T S wn i : Int)) t) (shMark (shOrd N T S wn) (fun i => (shR T S wn i : Int)) t) wr))
                case atStart => exact ⟨1, 0, by go_num, by go_num, by omega, by omega, by omega, by omega, (fun j hj => by obtain rfl : j = 0 := (by omega); exact ⟨Int.le_refl _, fun _ => Nat.le_refl _⟩), ST⟩
                case round =>
                  clear ST
                  obtain ⟨i, b, rfl, rfl, hi1, hi, hbi, hg2, HM, ST⟩ := hrel
                  by_cases hlt : i < N + 1
                  · have hltz : (i : Int) < (N : Int) + 1 := by omega
                    have hbN : b < N + 1 := by omega
                    have hbz : (b : Int) < (N : Int) + 1 := by omega
                    obtain ⟨x, hx⟩ : ∃ x, x = (shMark (shOrd N T S wn) (fun i => (shR T S wn i : Int)) t) i := ⟨_, rfl⟩
                    obtain ⟨y, hy⟩ : ∃ y, y = (shMark (shOrd N T S wn) (fun i => (shR T S wn i : Int)) t) b := ⟨_, rfl⟩
                    have c1 := ST.out.r.cell i hlt
                    have c2 := ST.out.r.cell b hbN
                    rw [← hx] at c1
                    rw [← hy] at c2
                    have HX := Lib.hid hx
                    have HY := Lib.hid hy
                    clear hx hy
                    by_cases hxy : y < x
                    · go_wp2_with fail
                      go_quiet (fail)
                      go_wp2
                      go_roundg (gk - 1)
                      case measure => omega
                      case rel => exact ⟨i + 1, i, by go_num, rfl, by omega, by omega, by omega, by omega, (fun j hj => by
                        have hX := HX.out
                        have hY := HY.out
                        by_cases e : j = i
                        · subst e; exact ⟨Int.le_refl _, fun _ => Nat.le_refl _⟩
                        · have := (HM.out j (by omega)).1
                          exact ⟨by omega, fun h => by omega⟩), by first | exact ST | exact ST.out.drewN _ | exact ST.out.drew⟩
                    · go_wp2_with fail
                      go_quiet (fail)
                      go_wp2
                      go_roundg (gk - 1)
                      case measure => omega
                      case rel => exact ⟨i + 1, b, by go_num, rfl, by omega, by omega, by omega, by omega, (fun j hj => by
                        have hX := HX.out
                        have hY := HY.out
                        by_cases e : j = i
                        · subst e; exact ⟨by omega, fun _ => by omega⟩
                        · exact HM.out j (by omega)), by first | exact ST | exact ST.out.drewN _ | exact ST.out.drew⟩
                  · obtain rfl : i = N + 1 := by omega
                    have hbest : b = ((shOrd N T S wn)[t]!).val := shBest N T S wn t b (by omega) (by omega) HM.out
                    have HBE := Lib.hid hbest
                    clear hbest HM
                    have hbN : b < N + 1 := by omega
                    have hbz : (b : Int) < (N : Int) + 1 := by omega
                    obtain ⟨v, hv⟩ : ∃ v, v = (shBump (shOrd N T S wn) (fun i => (shQ T S wn i : Int)) t) b := ⟨_, rfl⟩
                    have c1 := ST.out.o.cell b hbN
                    have f1 := ST.out.o.free b hbN
                    rw [← hv] at c1
                    have hvb : v ≤ 1000000000000 + 60 ∧ 0 ≤ v := by
                      have h9 := shBump_le (d := shOrd N T S wn) HQB.out t b hbN
                      rw [← hv] at h9
                      omega
                    obtain ⟨hv1, hv2⟩ := hvb
                    have SA := ST.out.out b hbN (v + 1)
                    have g1 := SA.r.free b hbN
                    have c2 := SA.r.cell b hbN
                    have SS : Aside (RfSt w N (shBump (shOrd N T S wn) (fun i => (shQ T S wn i : Int)) (t + 1)) (shMark (shOrd N T S wn) (fun i => (shR T S wn i : Int)) (t + 1)) ((wr.setCell ⟨w.heap.size, b, none⟩ (.int .i64 (v + 1))).setCell ⟨w.heap.size + 1, b, none⟩ (.int .i64 (-1)))) :=
                      (SA.rest b hbN (-1)).congr (fun j _ => by
                        show _ = (if j = ((shOrd N T S wn)[t]!).val then _ else _)
                        rw [← HBE.out]
                        by_cases e : j = b
                        · rw [if_pos e, if_pos e, e, ← hv]
                        · rw [if_neg e, if_neg e]) (fun j _ => by
                        show _ = (if j = ((shOrd N T S wn)[t]!).val then _ else _)
                        rw [← HBE.out])
                    clear SA ST hv
                    go_wp2
                    go_roundg (gko - 1)
                    case measure => omega
                    case rel => exact ⟨t + 1, l - 1, by first | rfl | go_num | (congr 1; omega), by omega, by omega, SS⟩
              · obtain rfl : l = 0 := by omega
                obtain rfl : t = L := by omega
                go_wp2_with fail
                have hvb : ∀ j, j < N + 1 → 0 ≤ (shBump (shOrd N T S wn) (fun i => (shQ T S wn i : Int)) t) j ∧ (shBump (shOrd N T S wn) (fun i => (shQ T S wn i : Int)) t) j ≤ 1000000000060 := fun j hj => by
                  have h9 := shBump_le (d := shOrd N T S wn) HQB.out t j hj
                  omega
                have HVB : Aside _ := hvb
                clear hvb
                go_loopg [20] (N + 1) (fun g1 vi wr => ∃ (s : Nat), vi = .int .i64 s ∧ s ≤ N + 1 ∧ N + 1 - s ≤ g1 ∧ Aside (RfSt w N (fun j => if j < s then shOut N T S wn false j else (shBump (shOrd N T S wn) (fun i => (shQ T S wn i : Int)) t) j) (shMark (shOrd N T S wn) (fun i => (shR T S wn i : Int)) t) wr))
                case atStart => exact ⟨0, by go_num, by omega, by omega, ST.out.congr (fun j _ => by simp) (fun _ _ => rfl)⟩
                case round =>
                  clear ST
                  obtain ⟨s, rfl, hs, hg3, ST⟩ := hrel
                  by_cases hlt3 : s < N + 1
                  · have hltz : (s : Int) < (N : Int) + 1 := by omega
                    have c2 := ST.out.o.cell s hlt3
                    have f2 := ST.out.o.free s hlt3
                    rw [if_neg (Nat.lt_irrefl s)] at c2
                    obtain ⟨v, hv⟩ : ∃ v, v = (shBump (shOrd N T S wn) (fun i => (shQ T S wn i : Int)) t) s := ⟨_, rfl⟩
                    have hvb := HVB.out s hlt3
                    rw [← hv] at c2 hvb
                    obtain ⟨hv1, hv2⟩ := hvb
                    have SS : Aside (RfSt w N (fun j => if j < s + 1 then shOut N T S wn false j else (shBump (shOrd N T S wn) (fun i => (shQ T S wn i : Int)) t) j) (shMark (shOrd N T S wn) (fun i => (shR T S wn i : Int)) t) (wr.setCell ⟨w.heap.size, s, none⟩ (.int .i64 (v)))) := (ST.out.out s hlt3 (v)).congr (fun j hj => by
                      by_cases e : j = s
                      · rw [if_pos e, if_pos (by omega), e]
                        simp [shOut, ← HLL.out, ← hv]
                      · rw [if_neg e]
                        by_cases e2 : j < s
                        · rw [if_pos e2, if_pos (by omega)]
                        · rw [if_neg e2, if_neg (by omega)]) (fun _ _ => rfl)
                    clear hv ST
                    go_wp2
                    go_roundg (gk - 1)
                    case measure => omega
                    case rel => exact ⟨s + 1, by go_num, by omega, by omega, SS⟩
                  · obtain rfl : s = N + 1 := by omega
                    go_wp2
                    go_ret2
                    exact ⟨_, rfl, Nat.le_refl _, ST.out.o.congr fun j hj => by rw [if_pos hj], ST.out.b⟩
end Go.Proofs.YtcccijljnjhkbaaGreatDoor
