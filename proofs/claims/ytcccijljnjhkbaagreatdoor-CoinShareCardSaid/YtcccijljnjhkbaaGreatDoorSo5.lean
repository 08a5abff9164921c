/- The sort family at the closure of coin.Share: symMergeCmpFunc. -/
import Derived.Test.YtcccijljnjhkbaaGreatDoorSo3
import Derived.Test.YtcccijljnjhkbaaGreatDoorSo4
set_option linter.unusedSimpArgs false
namespace Go.Proofs.YtcccijljnjhkbaaGreatDoor
open Go.Shelf Go.RowKit Go.Lib Go.Sort
variable {N : Nat}

theorem rotate_any (f : Value) (blk off cap : Nat) (a m b : Int) (d0 d : Array (Fin (N + 1))) (w0 w : World)
    (R : Row1 eF w0 blk off d0) (hs : d0.size = d.size) (S : SW eF w0 blk off d w) (h0 : 0 ≤ a) (ham : a < m) (hmb : m < b) (hb : b ≤ d.size) (hsz : d.size < 4611686018427387904) (sz : Nat) (hz : d.size = sz) :
    Calls Tryz.prog 290 #[.slice (some ⟨blk, off, none⟩) sz cap, .int .i64 a, .int .i64 m, .int .i64 b, f] w fun e w' => e = .returned (.tuple #[]) ∧ SW eF w0 blk off (rot m.toNat (b.toNat - a.toNat + 1) (m.toNat - a.toNat) (b.toNat - m.toNat) d) w' := by
  obtain ⟨a, rfl⟩ := Int.eq_ofNat_of_zero_le h0
  obtain ⟨m, rfl⟩ := Int.eq_ofNat_of_zero_le (show 0 ≤ m by omega)
  obtain ⟨b, rfl⟩ := Int.eq_ofNat_of_zero_le (show 0 ≤ b by omega)
  subst hz
  exact rotate_calls f blk off cap a m b d0 d w0 w R hs S (by omega) (by omega) (by omega) hsz

/-- What symMerge comes to behind its search, by name. -/
def symRest (lt : Fin (N + 1) → Fin (N + 1) → Bool) (k : Nat) (d : Array (Fin (N + 1))) (a m b start : Nat) : Array (Fin (N + 1)) :=
  let mid := (a + b) / 2
  let fin := mid + m - start
  let d1 := if start < m ∧ m < fin then rot m (fin - start + 1) (m - start) (fin - m) d else d
  let d2 := if a < start ∧ start < mid then symM lt k d1 a start mid else d1
  if mid < fin ∧ fin < b then symM lt k d2 mid fin b else d2

theorem symM_rest (lt : Fin (N + 1) → Fin (N + 1) → Bool) (k : Nat) (d : Array (Fin (N + 1))) (a m b : Nat) (h1 : ¬ m - a = 1) (h2 : ¬ b - m = 1) :
    symM lt (k + 1) d a m b = symRest lt k d a m b (bin (fun c => !lt d[(a + b) / 2 + m - 1 - c]! d[c]!) ((if (a + b) / 2 < m then (a + b) / 2 else m) - (if (a + b) / 2 < m then (a + b) / 2 + m - b else a) + 1) (if (a + b) / 2 < m then (a + b) / 2 + m - b else a) (if (a + b) / 2 < m then (a + b) / 2 else m)) := by
  conv => lhs; unfold symM
  rw [if_neg h1, if_neg h2]
  rfl

/-- symMerge's own contract at a depth, its ends as whole numbers. -/
def SymAt (cf : Fin (N + 1) → Fin (N + 1) → Int) (g : Nat) (cb : Array Value) (blk off cap : Nat) (d0 : Array (Fin (N + 1))) (w0 : World) (k : Nat) : Prop :=
  ∀ (d : Array (Fin (N + 1))) (a m b : Nat) (w : World), d0.size = d.size → SW eF w0 blk off d w → a < m → m < b → b ≤ d.size → b - a ≤ k →
    Calls Tryz.prog 256 #[.slice (some ⟨blk, off, none⟩) d0.size cap, .int .i64 a, .int .i64 m, .int .i64 b, .func (.func g) #[] cb] w fun e w' => e = .returned (.tuple #[]) ∧ SW eF w0 blk off (symM (ltOf cf) k d a m b) w'

theorem SymAt.any {cf : Fin (N + 1) → Fin (N + 1) → Int} {g : Nat} {cb : Array Value} {blk off cap : Nat} {d0 : Array (Fin (N + 1))} {w0 : World} {k : Nat} (h : SymAt cf g cb blk off cap d0 w0 k)
    (d : Array (Fin (N + 1))) (a m b : Int) (w : World) (hs : d0.size = d.size) (S : SW eF w0 blk off d w) (h0 : 0 ≤ a) (ham : a < m) (hmb : m < b) (hb : b ≤ d.size) (hk : b - a ≤ k) (sz : Nat) (hz : d.size = sz) :
    Calls Tryz.prog 256 #[.slice (some ⟨blk, off, none⟩) sz cap, .int .i64 a, .int .i64 m, .int .i64 b, .func (.func g) #[] cb] w fun e w' => e = .returned (.tuple #[]) ∧ SW eF w0 blk off (symM (ltOf cf) k d a.toNat m.toNat b.toNat) w' := by
  obtain ⟨a, rfl⟩ := Int.eq_ofNat_of_zero_le h0
  obtain ⟨m, rfl⟩ := Int.eq_ofNat_of_zero_le (show 0 ≤ m by omega)
  obtain ⟨b, rfl⟩ := Int.eq_ofNat_of_zero_le (show 0 ≤ b by omega)
  subst hz
  rw [← hs]
  exact h d a m b w hs S (by omega) (by omega) (by omega) (by omega)

set_option maxHeartbeats 8000000 in
set_option maxRecDepth 100000 in
theorem symM_calls (cf : Fin (N + 1) → Fin (N + 1) → Int) (g : Nat) (cb : Array Value) (blk off cap : Nat) (d0 : Array (Fin (N + 1))) (w0 : World)
    (eg : ∀ args w, (callFunc g args).run Tryz.prog w = .ok (.enter g args) w) (hcmp : CmpReads Tryz.prog g cb eF cf blk off d0.size w0) (R : Row1 eF w0 blk off d0) (hsz : d0.size < 1073741824) (k : Nat) :
    SymAt cf g cb blk off cap d0 w0 k := by
  induction k with
  | zero => intro d a m b w _ _ h1 h2 _ h3; omega
  | succ k ih =>
    intro d a m b w hs S ham hmb hb hk
    by_cases h1 : m = a + 1
    · have := symM_left cf g cb blk off cap a m b k d0 d w0 w eg hcmp R hs S h1 hmb hb (by omega)
      rwa [← hs] at this
    by_cases h2 : b = m + 1
    · have := symM_right cf g cb blk off cap a m b k d0 d w0 w eg hcmp R hs S (by omega) h2 hb (by omega)
      rwa [← hs] at this
    have HIH : Aside _ := ih
    clear ih
    rw [hs]
    have hs1 : d0.size ≤ d.size := by omega
    have hs2 : d.size ≤ d0.size := by omega
    have HS := Lib.hid hs
    clear hs
    have HE := Lib.hid (symM_rest (ltOf cf) k d a m b (by omega) (by omega))
    have HC : Aside _ := hcmp.lays
    have S0 : Aside (SW eF w0 blk off d w) := S
    clear S hcmp
    have mixed : Tryz.prog.follows .mixedOrders = true := by kernel_rfl
    have t1 : ((m : Int) - (a : Int) == 1) = false := by simp; omega
    have t2 : ((b : Int) - (m : Int) == 1) = false := by simp; omega
    have hcases : ∃ s0 r0 : Nat, Hid (symM (ltOf cf) (k + 1) d a m b = symRest (ltOf cf) k d a m b (bin (fun c => !ltOf cf d[(a + b) / 2 + m - 1 - c]! d[c]!) (r0 - s0 + 1) s0 r0)) ∧
        ((((a + b) / 2 < m) ∧ s0 + b = (a + b) / 2 + m ∧ r0 = (a + b) / 2) ∨ (m ≤ (a + b) / 2 ∧ s0 = a ∧ r0 = m)) := by
      by_cases hq : (a + b) / 2 < m
      · refine ⟨(a + b) / 2 + m - b, (a + b) / 2, ?_, .inl ⟨hq, by omega, rfl⟩⟩
        have := HE.out
        rw [if_pos hq, if_pos hq] at this
        exact this
      · refine ⟨a, m, ?_, .inr ⟨by omega, rfl, rfl⟩⟩
        have := HE.out
        rw [if_neg hq, if_neg hq] at this
        exact this
    clear HE
    obtain ⟨s0, r0, HE, hcase⟩ := hcases
    obtain ⟨mid, hmid⟩ : ∃ q, q = (a + b) / 2 := ⟨_, rfl⟩
    have HMID := Lib.hid hmid
    have hm1 : a < mid := by omega
    have hm2 : mid < b := by omega
    have ez : ((a : Int) + b) / 2 = (mid : Int) := by omega
    have ez2 : (a + b) / 2 = mid := by omega
    rw [ez2] at HE hcase
    clear h1 h2 hmid ez2
    have b1 : a ≤ s0 := by omega
    have b2 : r0 ≤ m := by omega
    have b3 : r0 ≤ mid := by omega
    have b4 : mid + m ≤ s0 + b := by omega
    have b5 : s0 ≤ r0 := by omega
    have b6 : m + r0 ≤ mid + m := by omega
    have b7 : mid ≤ b := by omega
    rcases hcase with ⟨hmm, hs1, hr1⟩ | ⟨hmm, hs1, hr1⟩
    all_goals
      first
        | (have hz : decide (mid < m) = true := decide_eq_true (by omega))
        | (have hz : decide (mid < m) = false := decide_eq_false (by omega))
      have HS1 := Lib.hid hs1
      have HR1 := Lib.hid hr1
      clear hs1 hr1
      go_enter Tryz.func256, Tryz.ntmps256
      go_wp2
      go_loopg [20, 21] (r0 - s0) (fun g1 vi vj wr => ∃ (i j : Nat), vi = .int .i64 i ∧ vj = .int .i64 j ∧ s0 ≤ i ∧ i ≤ j ∧ j ≤ r0 ∧ j - i ≤ g1 ∧ Aside (SW eF w0 blk off d wr) ∧ Hid (bin (fun c => !ltOf cf d[mid + m - 1 - c]! d[c]!) (g1 + 1) i j = bin (fun c => !ltOf cf d[mid + m - 1 - c]! d[c]!) (r0 - s0 + 1) s0 r0))
      case atStart =>
        have := HS1.out
        have := HR1.out
        exact ⟨s0, r0, by first | go_num | (congr 1; omega), by first | go_num | (congr 1; omega), by omega, by omega, by omega, by omega, S0, rfl⟩
      case round =>
        clear S0
        obtain ⟨i, j, rfl, rfl, hi, hij, hj, hg1, S1, HO⟩ := hrel
        by_cases hlt : i < j
        · have hltz : (i : Int) < (j : Int) := by omega
          have q0 : (0 : Int) ≤ ((i : Int) + j) / 2 := by omega
          have q1 : ((i : Int) + j) / 2 < d.size := by omega
          have e0 : (((i : Int) + j) / 2).toNat = (i + j) / 2 := by omega
          have q2 : (0 : Int) ≤ (mid : Int) + m - 1 - ((i : Int) + j) / 2 := by omega
          have q2' : ((i : Int) + j) / 2 ≤ (mid : Int) + m - 1 := by omega
          have q3 : (mid : Int) + m - 1 - ((i : Int) + j) / 2 < d.size := by omega
          have e1 : ((mid : Int) + m - 1 - ((i : Int) + j) / 2).toNat = mid + m - 1 - (i + j) / 2 := by omega
          have e2 : IntKind.i64.wrap ((mid : Int) + m - 1 - ((i : Int) + j) / 2) = (mid : Int) + m - 1 - ((i : Int) + j) / 2 := by rw [IntKind.wrap_i64]; omega
          have la := S1.out.cl R (by omega) ((i + j) / 2) (by omega)
          have lb := S1.out.cl R (by omega) (mid + m - 1 - (i + j) / 2) (by omega)
          obtain ⟨x, hx⟩ : ∃ x, x = d[(i + j) / 2]! := ⟨_, rfl⟩
          obtain ⟨y, hy⟩ : ∃ y, y = d[mid + m - 1 - (i + j) / 2]! := ⟨_, rfl⟩
          rw [← hx] at la
          rw [← hy] at lb
          have hc := S1.out.cmp HC.out (by omega) y x
          have HX := Lib.hid hx
          have HY := Lib.hid hy
          clear hx hy
          cases hlv : decide (cf y x < 0) with
          | false =>
            go_wp2_with fail
            go_quiet_grown (first | (go_at_fn g; refine Calls.grown_of (hc _ _)))
            have S2 : Aside (SW eF w0 blk off d (grow (wr.drewN nq) osq)) := S1.out.grown nq osq
            clear la lb hc S1 e0 e1 e2
            generalize grow (wr.drewN nq) osq = w2 at S2 ⊢
            clear nq osq
            go_wp2
            go_roundg (gk - 1)
            case measure => omega
            case rel => exact ⟨(i + j) / 2 + 1, j, by go_num, rfl, by omega, by omega, by omega, by omega, S2, (show Hid _ from by
              obtain ⟨q, rfl⟩ : ∃ q, gk = q + 1 := ⟨gk - 1, by omega⟩
              have hl : (fun c => !ltOf cf d[mid + m - 1 - c]! d[c]!) ((i + j) / 2) = true := by show (!ltOf cf d[mid + m - 1 - (i + j) / 2]! d[(i + j) / 2]!) = true; rw [← HX.out, ← HY.out, show ltOf cf y x = false from hlv]; rfl
              show _ = _
              exact (bin_yes hlt hl).symm.trans HO.out)⟩
          | true =>
            go_wp2_with fail
            go_quiet_grown (first | (go_at_fn g; refine Calls.grown_of (hc _ _)))
            have S2 : Aside (SW eF w0 blk off d (grow (wr.drewN nq) osq)) := S1.out.grown nq osq
            clear la lb hc S1 e0 e1 e2
            generalize grow (wr.drewN nq) osq = w2 at S2 ⊢
            clear nq osq
            go_wp2
            go_roundg (gk - 1)
            case measure => omega
            case rel => exact ⟨i, (i + j) / 2, rfl, by go_num, by omega, by omega, by omega, by omega, S2, (show Hid _ from by
              obtain ⟨q, rfl⟩ : ∃ q, gk = q + 1 := ⟨gk - 1, by omega⟩
              have hl : (fun c => !ltOf cf d[mid + m - 1 - c]! d[c]!) ((i + j) / 2) = false := by show (!ltOf cf d[mid + m - 1 - (i + j) / 2]! d[(i + j) / 2]!) = false; rw [← HX.out, ← HY.out, show ltOf cf y x = true from hlv]; rfl
              show _ = _
              exact (bin_no hlt hl).symm.trans HO.out)⟩
        · have hbin : bin (fun c => !ltOf cf d[mid + m - 1 - c]! d[c]!) (gk + 1) i j = i := bin_end hlt
          have HB : Hid (bin (fun c => !ltOf cf d[mid + m - 1 - c]! d[c]!) (r0 - s0 + 1) s0 r0 = i) := HO.out.symm.trans hbin
          have HF : Hid (symM (ltOf cf) (k + 1) d a m b = symRest (ltOf cf) k d a m b i) := by
            show _ = _
            rw [HE.out, HB.out]
          clear HO hbin HB HE
          have hji : (j : Int) ≤ (i : Int) := by omega
          have ef : ((mid : Int) + m - i).toNat = mid + m - i := by omega
          have EF := Lib.hid ef
          clear ef
          by_cases hA : i < m
          · have hAz : (i : Int) < (m : Int) := by omega
            have hAy : (mid : Int) < (mid : Int) + m - i := by omega
            by_cases hB : i < mid
            · have hBz : (i : Int) < (mid : Int) := by omega
              have hBy : (m : Int) < (mid : Int) + m - i := by omega
              by_cases hC : a < i
              · have hCz : (a : Int) < (i : Int) := by omega
                by_cases hD : mid + m - i < b
                · have hDz : (mid : Int) + m - i < (b : Int) := by omega
                  try (exfalso; omega)
                  all_goals
                    go_wp2_with fail
                    refine (rotate_any _ blk off cap _ _ _ d0 d w0 _ R (by omega) S1.out (by omega) (by omega) (by omega) (by omega) (by omega) _ rfl).mono ?_
                    rintro e w1 ⟨rfl, SA⟩
                    simp only [EF.out, Int.toNat_natCast] at SA
                    have S2 : Aside _ := SA
                    clear SA S1
                    obtain ⟨d1, hd1⟩ : ∃ q, q = rot m (mid + m - i - i + 1) (m - i) (mid + m - i - m) d := ⟨_, rfl⟩
                    rw [← hd1] at S2
                    have hsd : d.size = d1.size := by rw [hd1, size_rot]
                    have HD1 := Lib.hid hd1
                    have HS2 := Lib.hid hsd
                    clear hd1 hsd
                    go_wp2_with fail
                    refine (SymAt.any HIH.out d1 _ _ _ _ (HS.out.trans HS2.out) S2.out (by omega) (by omega) (by omega) (by have := HS2.out; omega) (by omega) _ HS2.out.symm).mono ?_
                    rintro e w2 ⟨rfl, SA⟩
                    simp only [EF.out, Int.toNat_natCast] at SA
                    have S3 : Aside _ := SA
                    clear SA S2
                    obtain ⟨d2, hd2⟩ : ∃ q, q = symM (ltOf cf) k d1 a i mid := ⟨_, rfl⟩
                    rw [← hd2] at S3
                    have hs3 : d1.size = d2.size := by rw [hd2, size_symM]
                    have HD2 := Lib.hid hd2
                    have HS3 := Lib.hid hs3
                    clear hd2 hs3
                    go_wp2_with fail
                    refine (SymAt.any HIH.out d2 _ _ _ _ (HS.out.trans (HS2.out.trans HS3.out)) S3.out (by omega) (by omega) (by omega) (by have := HS2.out; have := HS3.out; omega) (by omega) _ (HS2.out.trans HS3.out).symm).mono ?_
                    rintro e w3 ⟨rfl, SA⟩
                    simp only [EF.out, Int.toNat_natCast] at SA
                    have S4 : Aside _ := SA
                    clear SA S3
                    go_wp2_with fail
                    go_end0
                    refine ⟨rfl, ?_⟩
                    rw [HF.out]
                    unfold symRest
                    have hM := HMID.out
                    dsimp only
                    rw [← hM]
                    rw [if_pos (show (i < m ∧ m < mid + m - i) by omega), ← HD1.out]
                    rw [if_pos (show (a < i ∧ i < mid) by omega), ← HD2.out]
                    rw [if_pos (show (mid < mid + m - i ∧ mid + m - i < b) by omega)]
                    exact S4.out
                · have hDz : (b : Int) ≤ (mid : Int) + m - i := by omega
                  try (exfalso; omega)
                  all_goals
                    go_wp2_with fail
                    refine (rotate_any _ blk off cap _ _ _ d0 d w0 _ R (by omega) S1.out (by omega) (by omega) (by omega) (by omega) (by omega) _ rfl).mono ?_
                    rintro e w1 ⟨rfl, SA⟩
                    simp only [EF.out, Int.toNat_natCast] at SA
                    have S2 : Aside _ := SA
                    clear SA S1
                    obtain ⟨d1, hd1⟩ : ∃ q, q = rot m (mid + m - i - i + 1) (m - i) (mid + m - i - m) d := ⟨_, rfl⟩
                    rw [← hd1] at S2
                    have hsd : d.size = d1.size := by rw [hd1, size_rot]
                    have HD1 := Lib.hid hd1
                    have HS2 := Lib.hid hsd
                    clear hd1 hsd
                    go_wp2_with fail
                    refine (SymAt.any HIH.out d1 _ _ _ _ (HS.out.trans HS2.out) S2.out (by omega) (by omega) (by omega) (by have := HS2.out; omega) (by omega) _ HS2.out.symm).mono ?_
                    rintro e w2 ⟨rfl, SA⟩
                    simp only [EF.out, Int.toNat_natCast] at SA
                    have S3 : Aside _ := SA
                    clear SA S2
                    obtain ⟨d2, hd2⟩ : ∃ q, q = symM (ltOf cf) k d1 a i mid := ⟨_, rfl⟩
                    rw [← hd2] at S3
                    have hs3 : d1.size = d2.size := by rw [hd2, size_symM]
                    have HD2 := Lib.hid hd2
                    have HS3 := Lib.hid hs3
                    clear hd2 hs3
                    go_wp2_with fail
                    have S4 := S3
                    go_end0
                    refine ⟨rfl, ?_⟩
                    rw [HF.out]
                    unfold symRest
                    have hM := HMID.out
                    dsimp only
                    rw [← hM]
                    rw [if_pos (show (i < m ∧ m < mid + m - i) by omega), ← HD1.out]
                    rw [if_pos (show (a < i ∧ i < mid) by omega), ← HD2.out]
                    rw [if_neg (show ¬ (mid < mid + m - i ∧ mid + m - i < b) by omega)]
                    exact S4.out
              · have hCz : (i : Int) ≤ (a : Int) := by omega
                by_cases hD : mid + m - i < b
                · have hDz : (mid : Int) + m - i < (b : Int) := by omega
                  try (exfalso; omega)
                  all_goals
                    go_wp2_with fail
                    refine (rotate_any _ blk off cap _ _ _ d0 d w0 _ R (by omega) S1.out (by omega) (by omega) (by omega) (by omega) (by omega) _ rfl).mono ?_
                    rintro e w1 ⟨rfl, SA⟩
                    simp only [EF.out, Int.toNat_natCast] at SA
                    have S2 : Aside _ := SA
                    clear SA S1
                    obtain ⟨d1, hd1⟩ : ∃ q, q = rot m (mid + m - i - i + 1) (m - i) (mid + m - i - m) d := ⟨_, rfl⟩
                    rw [← hd1] at S2
                    have hsd : d.size = d1.size := by rw [hd1, size_rot]
                    have HD1 := Lib.hid hd1
                    have HS2 := Lib.hid hsd
                    clear hd1 hsd
                    go_wp2_with fail
                    obtain ⟨d2, hd2⟩ : ∃ q, q = d1 := ⟨_, rfl⟩
                    rw [← hd2] at S2
                    have S3 := S2
                    clear S2
                    have hs3 : d1.size = d2.size := by rw [hd2]
                    have HD2 := Lib.hid hd2
                    have HS3 := Lib.hid hs3
                    clear hd2 hs3
                    refine (SymAt.any HIH.out d2 _ _ _ _ (HS.out.trans (HS2.out.trans HS3.out)) S3.out (by omega) (by omega) (by omega) (by have := HS2.out; have := HS3.out; omega) (by omega) _ (HS2.out.trans HS3.out).symm).mono ?_
                    rintro e w3 ⟨rfl, SA⟩
                    simp only [EF.out, Int.toNat_natCast] at SA
                    have S4 : Aside _ := SA
                    clear SA S3
                    go_wp2_with fail
                    go_end0
                    refine ⟨rfl, ?_⟩
                    rw [HF.out]
                    unfold symRest
                    have hM := HMID.out
                    dsimp only
                    rw [← hM]
                    rw [if_pos (show (i < m ∧ m < mid + m - i) by omega), ← HD1.out]
                    rw [if_neg (show ¬ (a < i ∧ i < mid) by omega), ← HD2.out]
                    rw [if_pos (show (mid < mid + m - i ∧ mid + m - i < b) by omega)]
                    exact S4.out
                · have hDz : (b : Int) ≤ (mid : Int) + m - i := by omega
                  try (exfalso; omega)
                  all_goals
                    go_wp2_with fail
                    refine (rotate_any _ blk off cap _ _ _ d0 d w0 _ R (by omega) S1.out (by omega) (by omega) (by omega) (by omega) (by omega) _ rfl).mono ?_
                    rintro e w1 ⟨rfl, SA⟩
                    simp only [EF.out, Int.toNat_natCast] at SA
                    have S2 : Aside _ := SA
                    clear SA S1
                    obtain ⟨d1, hd1⟩ : ∃ q, q = rot m (mid + m - i - i + 1) (m - i) (mid + m - i - m) d := ⟨_, rfl⟩
                    rw [← hd1] at S2
                    have hsd : d.size = d1.size := by rw [hd1, size_rot]
                    have HD1 := Lib.hid hd1
                    have HS2 := Lib.hid hsd
                    clear hd1 hsd
                    go_wp2_with fail
                    obtain ⟨d2, hd2⟩ : ∃ q, q = d1 := ⟨_, rfl⟩
                    rw [← hd2] at S2
                    have S3 := S2
                    clear S2
                    have hs3 : d1.size = d2.size := by rw [hd2]
                    have HD2 := Lib.hid hd2
                    have HS3 := Lib.hid hs3
                    clear hd2 hs3
                    have S4 := S3
                    go_end0
                    refine ⟨rfl, ?_⟩
                    rw [HF.out]
                    unfold symRest
                    have hM := HMID.out
                    dsimp only
                    rw [← hM]
                    rw [if_pos (show (i < m ∧ m < mid + m - i) by omega), ← HD1.out]
                    rw [if_neg (show ¬ (a < i ∧ i < mid) by omega), ← HD2.out]
                    rw [if_neg (show ¬ (mid < mid + m - i ∧ mid + m - i < b) by omega)]
                    exact S4.out
            · have hBz : (mid : Int) ≤ (i : Int) := by omega
              have hBy : (mid : Int) + m - i ≤ (m : Int) := by omega
              by_cases hC : a < i
              · have hCz : (a : Int) < (i : Int) := by omega
                by_cases hD : mid + m - i < b
                · have hDz : (mid : Int) + m - i < (b : Int) := by omega
                  try (exfalso; omega)
                  all_goals
                    go_wp2_with fail
                    obtain ⟨d1, hd1⟩ : ∃ q, q = d := ⟨_, rfl⟩
                    have S2 : Aside (SW eF w0 blk off d1 wr) := by rw [hd1]; exact S1
                    have hsd : d.size = d1.size := by rw [hd1]
                    clear S1
                    have HD1 := Lib.hid hd1
                    have HS2 := Lib.hid hsd
                    clear hd1 hsd
                    obtain ⟨d2, hd2⟩ : ∃ q, q = d1 := ⟨_, rfl⟩
                    rw [← hd2] at S2
                    have S3 := S2
                    clear S2
                    have hs3 : d1.size = d2.size := by rw [hd2]
                    have HD2 := Lib.hid hd2
                    have HS3 := Lib.hid hs3
                    clear hd2 hs3
                    refine (SymAt.any HIH.out d2 _ _ _ _ (HS.out.trans (HS2.out.trans HS3.out)) S3.out (by omega) (by omega) (by omega) (by have := HS2.out; have := HS3.out; omega) (by omega) _ (HS2.out.trans HS3.out).symm).mono ?_
                    rintro e w3 ⟨rfl, SA⟩
                    simp only [EF.out, Int.toNat_natCast] at SA
                    have S4 : Aside _ := SA
                    clear SA S3
                    go_wp2_with fail
                    go_end0
                    refine ⟨rfl, ?_⟩
                    rw [HF.out]
                    unfold symRest
                    have hM := HMID.out
                    dsimp only
                    rw [← hM]
                    rw [if_neg (show ¬ (i < m ∧ m < mid + m - i) by omega), ← HD1.out]
                    rw [if_neg (show ¬ (a < i ∧ i < mid) by omega), ← HD2.out]
                    rw [if_pos (show (mid < mid + m - i ∧ mid + m - i < b) by omega)]
                    exact S4.out
                · have hDz : (b : Int) ≤ (mid : Int) + m - i := by omega
                  try (exfalso; omega)
                  all_goals
                    go_wp2_with fail
                    obtain ⟨d1, hd1⟩ : ∃ q, q = d := ⟨_, rfl⟩
                    have S2 : Aside (SW eF w0 blk off d1 wr) := by rw [hd1]; exact S1
                    have hsd : d.size = d1.size := by rw [hd1]
                    clear S1
                    have HD1 := Lib.hid hd1
                    have HS2 := Lib.hid hsd
                    clear hd1 hsd
                    obtain ⟨d2, hd2⟩ : ∃ q, q = d1 := ⟨_, rfl⟩
                    rw [← hd2] at S2
                    have S3 := S2
                    clear S2
                    have hs3 : d1.size = d2.size := by rw [hd2]
                    have HD2 := Lib.hid hd2
                    have HS3 := Lib.hid hs3
                    clear hd2 hs3
                    have S4 := S3
                    go_end0
                    refine ⟨rfl, ?_⟩
                    rw [HF.out]
                    unfold symRest
                    have hM := HMID.out
                    dsimp only
                    rw [← hM]
                    rw [if_neg (show ¬ (i < m ∧ m < mid + m - i) by omega), ← HD1.out]
                    rw [if_neg (show ¬ (a < i ∧ i < mid) by omega), ← HD2.out]
                    rw [if_neg (show ¬ (mid < mid + m - i ∧ mid + m - i < b) by omega)]
                    exact S4.out
              · have hCz : (i : Int) ≤ (a : Int) := by omega
                by_cases hD : mid + m - i < b
                · have hDz : (mid : Int) + m - i < (b : Int) := by omega
                  try (exfalso; omega)
                  all_goals
                    go_wp2_with fail
                    obtain ⟨d1, hd1⟩ : ∃ q, q = d := ⟨_, rfl⟩
                    have S2 : Aside (SW eF w0 blk off d1 wr) := by rw [hd1]; exact S1
                    have hsd : d.size = d1.size := by rw [hd1]
                    clear S1
                    have HD1 := Lib.hid hd1
                    have HS2 := Lib.hid hsd
                    clear hd1 hsd
                    obtain ⟨d2, hd2⟩ : ∃ q, q = d1 := ⟨_, rfl⟩
                    rw [← hd2] at S2
                    have S3 := S2
                    clear S2
                    have hs3 : d1.size = d2.size := by rw [hd2]
                    have HD2 := Lib.hid hd2
                    have HS3 := Lib.hid hs3
                    clear hd2 hs3
                    refine (SymAt.any HIH.out d2 _ _ _ _ (HS.out.trans (HS2.out.trans HS3.out)) S3.out (by omega) (by omega) (by omega) (by have := HS2.out; have := HS3.out; omega) (by omega) _ (HS2.out.trans HS3.out).symm).mono ?_
                    rintro e w3 ⟨rfl, SA⟩
                    simp only [EF.out, Int.toNat_natCast] at SA
                    have S4 : Aside _ := SA
                    clear SA S3
                    go_wp2_with fail
                    go_end0
                    refine ⟨rfl, ?_⟩
                    rw [HF.out]
                    unfold symRest
                    have hM := HMID.out
                    dsimp only
                    rw [← hM]
                    rw [if_neg (show ¬ (i < m ∧ m < mid + m - i) by omega), ← HD1.out]
                    rw [if_neg (show ¬ (a < i ∧ i < mid) by omega), ← HD2.out]
                    rw [if_pos (show (mid < mid + m - i ∧ mid + m - i < b) by omega)]
                    exact S4.out
                · have hDz : (b : Int) ≤ (mid : Int) + m - i := by omega
                  try (exfalso; omega)
                  all_goals
                    go_wp2_with fail
                    obtain ⟨d1, hd1⟩ : ∃ q, q = d := ⟨_, rfl⟩
                    have S2 : Aside (SW eF w0 blk off d1 wr) := by rw [hd1]; exact S1
                    have hsd : d.size = d1.size := by rw [hd1]
                    clear S1
                    have HD1 := Lib.hid hd1
                    have HS2 := Lib.hid hsd
                    clear hd1 hsd
                    obtain ⟨d2, hd2⟩ : ∃ q, q = d1 := ⟨_, rfl⟩
                    rw [← hd2] at S2
                    have S3 := S2
                    clear S2
                    have hs3 : d1.size = d2.size := by rw [hd2]
                    have HD2 := Lib.hid hd2
                    have HS3 := Lib.hid hs3
                    clear hd2 hs3
                    have S4 := S3
                    go_end0
                    refine ⟨rfl, ?_⟩
                    rw [HF.out]
                    unfold symRest
                    have hM := HMID.out
                    dsimp only
                    rw [← hM]
                    rw [if_neg (show ¬ (i < m ∧ m < mid + m - i) by omega), ← HD1.out]
                    rw [if_neg (show ¬ (a < i ∧ i < mid) by omega), ← HD2.out]
                    rw [if_neg (show ¬ (mid < mid + m - i ∧ mid + m - i < b) by omega)]
                    exact S4.out
          · have hAz : (m : Int) ≤ (i : Int) := by omega
            have hAy : (mid : Int) + m - i ≤ (mid : Int) := by omega
            by_cases hB : i < mid
            · have hBz : (i : Int) < (mid : Int) := by omega
              have hBy : (m : Int) < (mid : Int) + m - i := by omega
              by_cases hC : a < i
              · have hCz : (a : Int) < (i : Int) := by omega
                by_cases hD : mid + m - i < b
                · have hDz : (mid : Int) + m - i < (b : Int) := by omega
                  try (exfalso; omega)
                  all_goals
                    go_wp2_with fail
                    obtain ⟨d1, hd1⟩ : ∃ q, q = d := ⟨_, rfl⟩
                    have S2 : Aside (SW eF w0 blk off d1 wr) := by rw [hd1]; exact S1
                    have hsd : d.size = d1.size := by rw [hd1]
                    clear S1
                    have HD1 := Lib.hid hd1
                    have HS2 := Lib.hid hsd
                    clear hd1 hsd
                    refine (SymAt.any HIH.out d1 _ _ _ _ (HS.out.trans HS2.out) S2.out (by omega) (by omega) (by omega) (by have := HS2.out; omega) (by omega) _ HS2.out.symm).mono ?_
                    rintro e w2 ⟨rfl, SA⟩
                    simp only [EF.out, Int.toNat_natCast] at SA
                    have S3 : Aside _ := SA
                    clear SA S2
                    obtain ⟨d2, hd2⟩ : ∃ q, q = symM (ltOf cf) k d1 a i mid := ⟨_, rfl⟩
                    rw [← hd2] at S3
                    have hs3 : d1.size = d2.size := by rw [hd2, size_symM]
                    have HD2 := Lib.hid hd2
                    have HS3 := Lib.hid hs3
                    clear hd2 hs3
                    go_wp2_with fail
                    have S4 := S3
                    go_end0
                    refine ⟨rfl, ?_⟩
                    rw [HF.out]
                    unfold symRest
                    have hM := HMID.out
                    dsimp only
                    rw [← hM]
                    rw [if_neg (show ¬ (i < m ∧ m < mid + m - i) by omega), ← HD1.out]
                    rw [if_pos (show (a < i ∧ i < mid) by omega), ← HD2.out]
                    rw [if_neg (show ¬ (mid < mid + m - i ∧ mid + m - i < b) by omega)]
                    exact S4.out
                · have hDz : (b : Int) ≤ (mid : Int) + m - i := by omega
                  try (exfalso; omega)
                  all_goals
                    go_wp2_with fail
                    obtain ⟨d1, hd1⟩ : ∃ q, q = d := ⟨_, rfl⟩
                    have S2 : Aside (SW eF w0 blk off d1 wr) := by rw [hd1]; exact S1
                    have hsd : d.size = d1.size := by rw [hd1]
                    clear S1
                    have HD1 := Lib.hid hd1
                    have HS2 := Lib.hid hsd
                    clear hd1 hsd
                    refine (SymAt.any HIH.out d1 _ _ _ _ (HS.out.trans HS2.out) S2.out (by omega) (by omega) (by omega) (by have := HS2.out; omega) (by omega) _ HS2.out.symm).mono ?_
                    rintro e w2 ⟨rfl, SA⟩
                    simp only [EF.out, Int.toNat_natCast] at SA
                    have S3 : Aside _ := SA
                    clear SA S2
                    obtain ⟨d2, hd2⟩ : ∃ q, q = symM (ltOf cf) k d1 a i mid := ⟨_, rfl⟩
                    rw [← hd2] at S3
                    have hs3 : d1.size = d2.size := by rw [hd2, size_symM]
                    have HD2 := Lib.hid hd2
                    have HS3 := Lib.hid hs3
                    clear hd2 hs3
                    go_wp2_with fail
                    have S4 := S3
                    go_end0
                    refine ⟨rfl, ?_⟩
                    rw [HF.out]
                    unfold symRest
                    have hM := HMID.out
                    dsimp only
                    rw [← hM]
                    rw [if_neg (show ¬ (i < m ∧ m < mid + m - i) by omega), ← HD1.out]
                    rw [if_pos (show (a < i ∧ i < mid) by omega), ← HD2.out]
                    rw [if_neg (show ¬ (mid < mid + m - i ∧ mid + m - i < b) by omega)]
                    exact S4.out
              · have hCz : (i : Int) ≤ (a : Int) := by omega
                by_cases hD : mid + m - i < b
                · have hDz : (mid : Int) + m - i < (b : Int) := by omega
                  try (exfalso; omega)
                  all_goals
                    go_wp2_with fail
                    obtain ⟨d1, hd1⟩ : ∃ q, q = d := ⟨_, rfl⟩
                    have S2 : Aside (SW eF w0 blk off d1 wr) := by rw [hd1]; exact S1
                    have hsd : d.size = d1.size := by rw [hd1]
                    clear S1
                    have HD1 := Lib.hid hd1
                    have HS2 := Lib.hid hsd
                    clear hd1 hsd
                    obtain ⟨d2, hd2⟩ : ∃ q, q = d1 := ⟨_, rfl⟩
                    rw [← hd2] at S2
                    have S3 := S2
                    clear S2
                    have hs3 : d1.size = d2.size := by rw [hd2]
                    have HD2 := Lib.hid hd2
                    have HS3 := Lib.hid hs3
                    clear hd2 hs3
                    have S4 := S3
                    go_end0
                    refine ⟨rfl, ?_⟩
                    rw [HF.out]
                    unfold symRest
                    have hM := HMID.out
                    dsimp only
                    rw [← hM]
                    rw [if_neg (show ¬ (i < m ∧ m < mid + m - i) by omega), ← HD1.out]
                    rw [if_neg (show ¬ (a < i ∧ i < mid) by omega), ← HD2.out]
                    rw [if_neg (show ¬ (mid < mid + m - i ∧ mid + m - i < b) by omega)]
                    exact S4.out
                · have hDz : (b : Int) ≤ (mid : Int) + m - i := by omega
                  try (exfalso; omega)
                  all_goals
                    go_wp2_with fail
                    obtain ⟨d1, hd1⟩ : ∃ q, q = d := ⟨_, rfl⟩
                    have S2 : Aside (SW eF w0 blk off d1 wr) := by rw [hd1]; exact S1
                    have hsd : d.size = d1.size := by rw [hd1]
                    clear S1
                    have HD1 := Lib.hid hd1
                    have HS2 := Lib.hid hsd
                    clear hd1 hsd
                    obtain ⟨d2, hd2⟩ : ∃ q, q = d1 := ⟨_, rfl⟩
                    rw [← hd2] at S2
                    have S3 := S2
                    clear S2
                    have hs3 : d1.size = d2.size := by rw [hd2]
                    have HD2 := Lib.hid hd2
                    have HS3 := Lib.hid hs3
                    clear hd2 hs3
                    have S4 := S3
                    go_end0
                    refine ⟨rfl, ?_⟩
                    rw [HF.out]
                    unfold symRest
                    have hM := HMID.out
                    dsimp only
                    rw [← hM]
                    rw [if_neg (show ¬ (i < m ∧ m < mid + m - i) by omega), ← HD1.out]
                    rw [if_neg (show ¬ (a < i ∧ i < mid) by omega), ← HD2.out]
                    rw [if_neg (show ¬ (mid < mid + m - i ∧ mid + m - i < b) by omega)]
                    exact S4.out
            · have hBz : (mid : Int) ≤ (i : Int) := by omega
              have hBy : (mid : Int) + m - i ≤ (m : Int) := by omega
              by_cases hC : a < i
              · have hCz : (a : Int) < (i : Int) := by omega
                by_cases hD : mid + m - i < b
                · have hDz : (mid : Int) + m - i < (b : Int) := by omega
                  try (exfalso; omega)
                  all_goals
                    go_wp2_with fail
                    obtain ⟨d1, hd1⟩ : ∃ q, q = d := ⟨_, rfl⟩
                    have S2 : Aside (SW eF w0 blk off d1 wr) := by rw [hd1]; exact S1
                    have hsd : d.size = d1.size := by rw [hd1]
                    clear S1
                    have HD1 := Lib.hid hd1
                    have HS2 := Lib.hid hsd
                    clear hd1 hsd
                    obtain ⟨d2, hd2⟩ : ∃ q, q = d1 := ⟨_, rfl⟩
                    rw [← hd2] at S2
                    have S3 := S2
                    clear S2
                    have hs3 : d1.size = d2.size := by rw [hd2]
                    have HD2 := Lib.hid hd2
                    have HS3 := Lib.hid hs3
                    clear hd2 hs3
                    have S4 := S3
                    go_end0
                    refine ⟨rfl, ?_⟩
                    rw [HF.out]
                    unfold symRest
                    have hM := HMID.out
                    dsimp only
                    rw [← hM]
                    rw [if_neg (show ¬ (i < m ∧ m < mid + m - i) by omega), ← HD1.out]
                    rw [if_neg (show ¬ (a < i ∧ i < mid) by omega), ← HD2.out]
                    rw [if_neg (show ¬ (mid < mid + m - i ∧ mid + m - i < b) by omega)]
                    exact S4.out
                · have hDz : (b : Int) ≤ (mid : Int) + m - i := by omega
                  try (exfalso; omega)
                  all_goals
                    go_wp2_with fail
                    obtain ⟨d1, hd1⟩ : ∃ q, q = d := ⟨_, rfl⟩
                    have S2 : Aside (SW eF w0 blk off d1 wr) := by rw [hd1]; exact S1
                    have hsd : d.size = d1.size := by rw [hd1]
                    clear S1
                    have HD1 := Lib.hid hd1
                    have HS2 := Lib.hid hsd
                    clear hd1 hsd
                    obtain ⟨d2, hd2⟩ : ∃ q, q = d1 := ⟨_, rfl⟩
                    rw [← hd2] at S2
                    have S3 := S2
                    clear S2
                    have hs3 : d1.size = d2.size := by rw [hd2]
                    have HD2 := Lib.hid hd2
                    have HS3 := Lib.hid hs3
                    clear hd2 hs3
                    have S4 := S3
                    go_end0
                    refine ⟨rfl, ?_⟩
                    rw [HF.out]
                    unfold symRest
                    have hM := HMID.out
                    dsimp only
                    rw [← hM]
                    rw [if_neg (show ¬ (i < m ∧ m < mid + m - i) by omega), ← HD1.out]
                    rw [if_neg (show ¬ (a < i ∧ i < mid) by omega), ← HD2.out]
                    rw [if_neg (show ¬ (mid < mid + m - i ∧ mid + m - i < b) by omega)]
                    exact S4.out
              · have hCz : (i : Int) ≤ (a : Int) := by omega
                by_cases hD : mid + m - i < b
                · have hDz : (mid : Int) + m - i < (b : Int) := by omega
                  try (exfalso; omega)
                  all_goals
                    go_wp2_with fail
                    obtain ⟨d1, hd1⟩ : ∃ q, q = d := ⟨_, rfl⟩
                    have S2 : Aside (SW eF w0 blk off d1 wr) := by rw [hd1]; exact S1
                    have hsd : d.size = d1.size := by rw [hd1]
                    clear S1
                    have HD1 := Lib.hid hd1
                    have HS2 := Lib.hid hsd
                    clear hd1 hsd
                    obtain ⟨d2, hd2⟩ : ∃ q, q = d1 := ⟨_, rfl⟩
                    rw [← hd2] at S2
                    have S3 := S2
                    clear S2
                    have hs3 : d1.size = d2.size := by rw [hd2]
                    have HD2 := Lib.hid hd2
                    have HS3 := Lib.hid hs3
                    clear hd2 hs3
                    have S4 := S3
                    go_end0
                    refine ⟨rfl, ?_⟩
                    rw [HF.out]
                    unfold symRest
                    have hM := HMID.out
                    dsimp only
                    rw [← hM]
                    rw [if_neg (show ¬ (i < m ∧ m < mid + m - i) by omega), ← HD1.out]
                    rw [if_neg (show ¬ (a < i ∧ i < mid) by omega), ← HD2.out]
                    rw [if_neg (show ¬ (mid < mid + m - i ∧ mid + m - i < b) by omega)]
                    exact S4.out
                · have hDz : (b : Int) ≤ (mid : Int) + m - i := by omega
                  try (exfalso; omega)
                  all_goals
                    go_wp2_with fail
                    obtain ⟨d1, hd1⟩ : ∃ q, q = d := ⟨_, rfl⟩
                    have S2 : Aside (SW eF w0 blk off d1 wr) := by rw [hd1]; exact S1
                    have hsd : d.size = d1.size := by rw [hd1]
                    clear S1
                    have HD1 := Lib.hid hd1
                    have HS2 := Lib.hid hsd
                    clear hd1 hsd
                    obtain ⟨d2, hd2⟩ : ∃ q, q = d1 := ⟨_, rfl⟩
                    rw [← hd2] at S2
                    have S3 := S2
                    clear S2
                    have hs3 : d1.size = d2.size := by rw [hd2]
                    have HD2 := Lib.hid hd2
                    have HS3 := Lib.hid hs3
                    clear hd2 hs3
                    have S4 := S3
                    go_end0
                    refine ⟨rfl, ?_⟩
                    rw [HF.out]
                    unfold symRest
                    have hM := HMID.out
                    dsimp only
                    rw [← hM]
                    rw [if_neg (show ¬ (i < m ∧ m < mid + m - i) by omega), ← HD1.out]
                    rw [if_neg (show ¬ (a < i ∧ i < mid) by omega), ← HD2.out]
                    rw [if_neg (show ¬ (mid < mid + m - i ∧ mid + m - i < b) by omega)]
                    exact S4.out
end Go.Proofs.YtcccijljnjhkbaaGreatDoor
