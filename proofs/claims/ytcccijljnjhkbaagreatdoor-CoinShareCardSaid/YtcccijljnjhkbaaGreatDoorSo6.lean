/- The sort family at the closure of coin.Share: stableCmpFunc and slices.SortStableFunc. -/
import Derived.Test.YtcccijljnjhkbaaGreatDoorSo5
namespace Go.Proofs.YtcccijljnjhkbaaGreatDoor
open Go.Shelf Go.RowKit Go.Lib Go.Sort
variable {N : Nat}

theorem size_insertion (lt : Fin (N + 1) → Fin (N + 1) → Bool) (d : Array (Fin (N + 1))) (a b : Nat) : (insertionSort lt d a b).size = d.size := by
  have inner : ∀ (j : Nat) (e : Array (Fin (N + 1))), (insInner lt a j e).size = e.size := by
    intro j
    induction j with
    | zero => intro e; simp [insInner]
    | succ j ih => intro e; unfold insInner; split <;> simp [ih, size_swp']
  have outer : ∀ (n i : Nat) (e : Array (Fin (N + 1))), b - i ≤ n → (insOuter lt a b i e).size = e.size := by
    intro n
    induction n with
    | zero => intro i e h; rw [insOuter_stop _ _ _ _ _ (by omega)]
    | succ n ih =>
      intro i e h
      by_cases hi : i < b
      · rw [insOuter_go _ _ _ _ _ hi, ih _ _ (by omega), inner]
      · rw [insOuter_stop _ _ _ _ _ hi]
  exact outer b _ d (by omega)

theorem insertion_any (cf : Fin (N + 1) → Fin (N + 1) → Int) (g : Nat) (cb : Array Value) (blk off cap : Nat) (a b : Int) (d0 d : Array (Fin (N + 1))) (w0 w : World)
    (eg : ∀ args w, (callFunc g args).run Tryz.prog w = .ok (.enter g args) w) (hcmp : CmpReads Tryz.prog g cb eF cf blk off d0.size w0) (R : Row1 eF w0 blk off d0) (hs : d0.size = d.size) (S : SW eF w0 blk off d w) (h0 : 0 ≤ a) (hab : a ≤ b) (hb : b ≤ d.size) (hsz : d.size < 4611686018427387904) (sz : Nat) (hz : d.size = sz) :
    Calls Tryz.prog 255 #[.slice (some ⟨blk, off, none⟩) sz cap, .int .i64 a, .int .i64 b, .func (.func g) #[] cb] w fun e w' => e = .returned (.tuple #[]) ∧ SW eF w0 blk off (Sort.insertionSort (ltOf cf) d a.toNat b.toNat) w' := by
  obtain ⟨a, rfl⟩ := Int.eq_ofNat_of_zero_le h0
  obtain ⟨b, rfl⟩ := Int.eq_ofNat_of_zero_le (show 0 ≤ b by omega)
  subst hz
  exact insertion_calls cf g cb blk off cap a b d0 d w0 w eg hcmp R hs S (by omega) (by omega) hsz

set_option maxHeartbeats 8000000 in
set_option maxRecDepth 100000 in
theorem stable_calls (cf : Fin (N + 1) → Fin (N + 1) → Int) (g : Nat) (cb : Array Value) (blk off cap : Nat) (d0 : Array (Fin (N + 1))) (w0 : World)
    (eg : ∀ args w, (callFunc g args).run Tryz.prog w = .ok (.enter g args) w) (hcmp : CmpReads Tryz.prog g cb eF cf blk off d0.size w0) (R : Row1 eF w0 blk off d0) (hsz : d0.size < 268435456) (hH : Holds eF w0 blk off d0) :
    Calls Tryz.prog 193 #[.slice (some ⟨blk, off, none⟩) d0.size cap, .int .i64 d0.size, .func (.func g) #[] cb] w0 fun e w' => e = .returned (.tuple #[]) ∧ SW eF w0 blk off (stable (ltOf cf) d0) w' := by
  have S0 : Aside (SW eF w0 blk off d0 w0) := SW.start hH
  have SYM : ∀ k, Aside (SymAt cf g cb blk off cap d0 w0 k) := fun k => symM_calls cf g cb blk off cap d0 w0 eg hcmp R (by omega) k
  have SYM' : Aside _ := SYM
  clear SYM
  have HC : Aside _ := hcmp
  clear hcmp hH
  obtain ⟨n, hn⟩ : ∃ n, n = d0.size := ⟨_, rfl⟩
  rw [← hn]
  have hnz : n < 268435456 := by omega
  have HN := Lib.hid hn
  clear hn hsz
  go_enter Tryz.func193, Tryz.ntmps193
  go_wp2
  go_loopg [7, 8] n (fun g1 va vb wr => ∃ (a : Nat) (dk : Array (Fin (N + 1))), va = .int .i64 a ∧ vb = .int .i64 (a + 20 : Nat) ∧ a ≤ n ∧ n - a ≤ g1 ∧ Hid (dk.size = n) ∧ Aside (SW eF w0 blk off dk wr) ∧ Hid (blocks (ltOf cf) n (g1 + 1) a dk = blocks (ltOf cf) n (n + 1) 0 d0))
  case atStart => exact ⟨0, d0, by go_num, by go_num, by omega, by omega, HN.out.symm, S0, rfl⟩
  case round =>
    clear S0
    obtain ⟨a, dk, rfl, rfl, ha, hg1, HSK, S1, HO⟩ := hrel
    have hin : d0.size = dk.size := by rw [← HN.out, HSK.out]
    have HIN := Lib.hid hin
    clear hin
    by_cases hlt : a + 20 ≤ n
    · have hltz : ((a + 20 : Nat) : Int) ≤ (n : Int) := by omega
      go_wp2_with fail
      refine (insertion_any cf g cb blk off cap _ _ d0 dk w0 _ eg HC.out R HIN.out S1.out (by omega) (by omega) (by have := HSK.out; omega) (by have := HSK.out; omega) _ HSK.out).mono ?_
      rintro e w1 ⟨rfl, SA⟩
      simp only [Int.toNat_natCast] at SA
      have S2 : Aside _ := SA
      clear SA S1
      go_wp2
      go_roundg (gk - 1)
      case measure => omega
      case rel => exact ⟨a + 20, _, by go_num, by go_num, by omega, by omega, (show Hid _ from by show _ = _; rw [size_insertion]; exact HSK.out), S2, (show Hid _ from by
        obtain ⟨q, rfl⟩ : ∃ q, gk = q + 1 := ⟨gk - 1, by omega⟩
        show _ = _
        rw [← HO.out]
        conv => rhs; unfold blocks
        rw [if_pos hlt]; rfl)⟩
    · have hltz : (n : Int) < ((a + 20 : Nat) : Int) := by omega
      go_wp2_with fail
      refine (insertion_any cf g cb blk off cap _ _ d0 dk w0 _ eg HC.out R HIN.out S1.out (by omega) (by omega) (by have := HSK.out; omega) (by have := HSK.out; omega) _ HSK.out).mono ?_
      rintro e w1 ⟨rfl, SA⟩
      simp only [Int.toNat_natCast] at SA
      obtain ⟨db, hdb⟩ : ∃ q, q = Sort.insertionSort (ltOf cf) dk a n := ⟨_, rfl⟩
      rw [← hdb] at SA
      have hb0 : db = blocks (ltOf cf) n (n + 1) 0 d0 := by
        rw [hdb, ← HO.out]
        conv => rhs; unfold blocks
        rw [if_neg hlt]
      have hb1 : db.size = n := by rw [hdb, size_insertion]; exact HSK.out
      have HB0 := Lib.hid hb0
      have HB1 := Lib.hid hb1
      have S2 : Aside _ := SA
      clear SA S1 hdb hb0 hb1 HO HSK HIN
      go_wp2
      go_loopg [6] n (fun g1 vs wr => ∃ (bs : Nat) (dk : Array (Fin (N + 1))), vs = .int .i64 bs ∧ 20 ≤ bs ∧ bs ≤ 2 * n + 20 ∧ n - bs ≤ g1 ∧ Hid (dk.size = n) ∧ Aside (SW eF w0 blk off dk wr) ∧ Hid (merges (ltOf cf) n (g1 + 1) bs dk = merges (ltOf cf) n (n + 1) 20 db))
      case atStart => exact ⟨20, db, by go_num, by omega, by omega, by omega, HB1, S2, rfl⟩
      case round =>
        clear S2
        obtain ⟨bs, dk, rfl, hbs, hbs2, hg2, HSK, S1, HO⟩ := hrel
        obtain ⟨go, rfl⟩ : ∃ go : Nat, go = gk := ⟨_, rfl⟩
        by_cases hlt2 : bs < n
        · have hltz2 : (bs : Int) < (n : Int) := by omega
          go_wp2_with fail
          go_loopg [7, 8] n (fun g1 va vb wr => ∃ (a : Nat) (dj : Array (Fin (N + 1))), va = .int .i64 a ∧ vb = .int .i64 (a + 2 * bs : Nat) ∧ a ≤ n ∧ n - a ≤ g1 ∧ Hid (dj.size = n) ∧ Aside (SW eF w0 blk off dj wr) ∧ Hid (mergeRow (ltOf cf) n bs (g1 + 1) a dj = mergeRow (ltOf cf) n bs (n + 1) 0 dk))
          case atStart => exact ⟨0, dk, by go_num, by go_num, by omega, by omega, HSK, S1, rfl⟩
          case round =>
            clear S1
            obtain ⟨a2, dj, rfl, rfl, ha2, hg3, HSJ, S3, HQ⟩ := hrel
            have hin : d0.size = dj.size := by rw [← HN.out, HSJ.out]
            have HIN := Lib.hid hin
            clear hin
            by_cases hlt3 : a2 + 2 * bs ≤ n
            · have hltz3 : ((a2 + 2 * bs : Nat) : Int) ≤ (n : Int) := by omega
              go_wp2_with fail
              refine (SymAt.any (SYM'.out (2 * bs)) dj _ _ _ _ HIN.out S3.out (by omega) (by omega) (by omega) (by have := HSJ.out; omega) (by omega) _ HSJ.out).mono ?_
              rintro e w1 ⟨rfl, SA⟩
              have e1 : ((a2 : Int) + (bs : Int)).toNat = a2 + bs := by omega
              simp only [Int.toNat_natCast, e1] at SA
              have S4 : Aside _ := SA
              clear SA S3 e1
              go_wp2
              go_roundg (gk - 1)
              case measure => omega
              case rel => exact ⟨a2 + 2 * bs, _, by go_num, by go_num, by omega, by omega, (show Hid _ from by show _ = _; rw [size_symM]; exact HSJ.out), S4, (show Hid _ from by
                obtain ⟨q, rfl⟩ : ∃ q, gk = q + 1 := ⟨gk - 1, by omega⟩
                show _ = _
                rw [← HQ.out]
                conv => rhs; unfold mergeRow
                rw [if_pos hlt3]; rfl)⟩
            · have hltz3 : (n : Int) < ((a2 + 2 * bs : Nat) : Int) := by omega
              by_cases hm : a2 + bs < n
              · have hmz : (a2 : Int) + (bs : Int) < (n : Int) := by omega
                go_wp2_with fail
                refine (SymAt.any (SYM'.out (n - a2)) dj _ _ _ _ HIN.out S3.out (by omega) (by omega) (by omega) (by have := HSJ.out; omega) (by omega) _ HSJ.out).mono ?_
                rintro e w1 ⟨rfl, SA⟩
                have e1 : ((a2 : Int) + (bs : Int)).toNat = a2 + bs := by omega
                simp only [Int.toNat_natCast, e1] at SA
                obtain ⟨dl, hdl⟩ : ∃ q, q = symM (ltOf cf) (n - a2) dj a2 (a2 + bs) n := ⟨_, rfl⟩
                rw [← hdl] at SA
                have hr : dl = mergeRow (ltOf cf) n bs (n + 1) 0 dk := by
                  rw [hdl, ← HQ.out]
                  conv => rhs; unfold mergeRow
                  rw [if_neg hlt3, if_pos hm]
                have hs9 : dl.size = n := by rw [hdl, size_symM]; exact HSJ.out
                have HR := Lib.hid hr
                have HS9 := Lib.hid hs9
                have S4 : Aside _ := SA
                clear SA S3 e1 hdl hr hs9 HQ
                go_wp2
                go_roundg (go - 1)
                case measure => omega
                case rel => exact ⟨2 * bs, dl, by first | go_num | (congr 1; omega), by omega, by omega, by omega, HS9, S4, (show Hid _ from by
                  obtain ⟨q, hq⟩ : ∃ q, go = q + 1 := ⟨go - 1, by omega⟩
                  show _ = _
                  rw [← HO.out, hq]
                  conv => rhs; unfold merges
                  rw [if_pos hlt2, HR.out]; rfl)⟩
              · have hmz : (n : Int) ≤ (a2 : Int) + (bs : Int) := by omega
                have hr : dj = mergeRow (ltOf cf) n bs (n + 1) 0 dk := by
                  rw [← HQ.out]
                  conv => rhs; unfold mergeRow
                  rw [if_neg hlt3, if_neg hm]
                have HR := Lib.hid hr
                clear hr HQ
                go_wp2
                go_roundg (go - 1)
                case measure => omega
                case rel => exact ⟨2 * bs, dj, by first | go_num | (congr 1; omega), by omega, by omega, by omega, HSJ, S3, (show Hid _ from by
                  obtain ⟨q, hq⟩ : ∃ q, go = q + 1 := ⟨go - 1, by omega⟩
                  show _ = _
                  rw [← HO.out, hq]
                  conv => rhs; unfold merges
                  rw [if_pos hlt2, HR.out]; rfl)⟩
        · have hltz2 : (n : Int) ≤ (bs : Int) := by omega
          go_wp2
          go_end0
          refine ⟨rfl, ?_⟩
          unfold stable
          rw [← HN.out, ← HB0.out, ← HO.out]
          unfold merges
          rw [if_neg hlt2]
          exact S1.out

set_option maxHeartbeats 4000000 in
set_option maxRecDepth 100000 in
theorem sortStable_calls (cf : Fin (N + 1) → Fin (N + 1) → Int) (g : Nat) (cb : Array Value) (blk off cap : Nat) (d0 : Array (Fin (N + 1))) (w0 : World)
    (eg : ∀ args w, (callFunc g args).run Tryz.prog w = .ok (.enter g args) w) (hcmp : CmpReads Tryz.prog g cb eF cf blk off d0.size w0) (R : Row1 eF w0 blk off d0) (hsz : d0.size < 268435456) (hH : Holds eF w0 blk off d0) (sz : Nat) (hz : sz = d0.size) :
    Calls Tryz.prog 103 #[.slice (some ⟨blk, off, none⟩) sz cap, .func (.func g) #[] cb] w0 fun e w' => e = .returned (.tuple #[]) ∧ SW eF w0 blk off (stable (ltOf cf) d0) w' := by
  subst hz
  have hc := stable_calls cf g cb blk off cap d0 w0 eg hcmp R hsz hH
  have HCC : Aside _ := hc
  clear hc hcmp hH
  go_enter Tryz.func103, Tryz.ntmps103
  go_wp2_with fail
  refine Calls.mono HCC.out ?_
  rintro e w1 ⟨rfl, SA⟩
  have S2 : Aside _ := SA
  clear SA
  go_wp2
  go_end0
  exact ⟨rfl, S2.out⟩
end Go.Proofs.YtcccijljnjhkbaaGreatDoor
