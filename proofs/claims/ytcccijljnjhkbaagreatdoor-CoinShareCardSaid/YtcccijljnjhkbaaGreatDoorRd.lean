/- coin.Read at "1.05": what statutelaw1.alive asks. -/
import Derived.Test.YtcccijljnjhkbaaGreatDoorSh6
import Derived.Lib.SmallJoins
namespace Go.Proofs.YtcccijljnjhkbaaGreatDoor
open Go.RowKit Go.Lib

theorem digit_yes (c : Int) (w : World) (h1 : 48 ≤ c) (h2 : c ≤ 57) : Calls Tryz.prog 189 #[.int .u8 c] w fun e w' => e = .returned (.bool true) ∧ w = w' := by
  have t1 : decide (48 ≤ c) = true := decide_eq_true h1
  have t2 : decide (c ≤ 57) = true := decide_eq_true h2
  go_enter Tryz.func189, Tryz.ntmps189
  go_wp2
  go_ret
  exact ⟨rfl, rfl⟩
theorem digit_no (c : Int) (w : World) (h1 : c < 48 ∨ 57 < c) : Calls Tryz.prog 189 #[.int .u8 c] w fun e w' => e = .returned (.bool false) ∧ w = w' := by
  rcases h1 with h | h
  · have t1 : decide (48 ≤ c) = false := decide_eq_false (by omega)
    go_enter Tryz.func189, Tryz.ntmps189
    go_wp2
    go_ret
    exact ⟨rfl, rfl⟩
  · have t1 : decide (48 ≤ c) = true := decide_eq_true (by omega)
    have t2 : decide (c ≤ 57) = false := decide_eq_false (by omega)
    go_enter Tryz.func189, Tryz.ntmps189
    go_wp2
    go_ret
    exact ⟨rfl, rfl⟩

theorem cutPrefix_105 (w : World) : Calls Tryz.prog 84 #[.string ⟨#[49, 46, 48, 53]⟩, .string ⟨#[45]⟩] w fun e w' => e = .returned (.tuple #[.string ⟨#[49, 46, 48, 53]⟩, .bool false]) ∧ w = w' :=
  (Tryz.strings_CutPrefix _ _ _).mono fun e w' ⟨he, hw⟩ => ⟨he.trans (by rfl), hw.symm⟩
theorem split_1 (w : World) (hsh : w.ShapedOpen Tryz.prog) : Calls Tryz.prog 164 #[.string ⟨#[49]⟩, .string ⟨#[44]⟩] w fun e w' => e = .returned (.slice (some ⟨w.heap.size, 0, none⟩) 1 1) ∧ w.alloc (.cells #[.string ⟨#[49]⟩] 9) = w' :=
  (Tryz.strings_Split_shaped _ _ _ hsh (by decide) (by decide)).mono fun e w' ⟨he, hw⟩ => ⟨he.trans (by rfl), hw.symm.trans (by rfl)⟩
theorem join_1 (w : World) (b : Nat) (hb : b < w.heap.size) (h : w.cell? ⟨b, 0, none⟩ = some (.string ⟨#[49]⟩)) : Calls Tryz.prog 65 #[.slice (some ⟨b, 0, none⟩) 1 1, .string ⟨#[]⟩] w fun e w' => e = .returned (.string ⟨#[49]⟩) ∧ Below w.heap.size w w' :=
  (Tryz.strings_Join b 0 1 [⟨#[49]⟩] ⟨#[]⟩ w (fun j x hx => by
    match j with
    | 0 => simp at hx; subst hx; exact h
    | j + 1 => simp at hx) hb (by decide) (by decide) (by decide)).mono fun e w' ⟨he, hw⟩ => ⟨he.trans (by rfl), hw⟩
theorem trimLeft_105 (w : World) : Calls Tryz.prog 173 #[.string ⟨#[49, 48, 53]⟩, .string ⟨#[48]⟩] w fun e w' => e = .returned (.string ⟨#[49, 48, 53]⟩) ∧ w = w' :=
  (Tryz.strings_TrimLeft_one _ 48 (by decide) _).mono fun e w' ⟨he, hw⟩ => ⟨he.trans (by rfl), hw.symm⟩
theorem atoi_105 (w : World) : Calls Tryz.prog 191 #[.string ⟨#[49, 48, 53]⟩] w fun e w' => e = .returned (.tuple #[.int .i64 105, .nilIface]) ∧ ∃ t, w' = Lib.bytesWorld w 5 t :=
  Tryz.strconv_Atoi _ 105 (by decide) (by decide) _

set_option maxHeartbeats 4000000 in
set_option maxRecDepth 100000 in
theorem read_105 (w : World) (hsh : w.ShapedOpen Tryz.prog) :
    Calls Tryz.prog 99 #[.string ⟨#[49, 46, 48, 53]⟩] w fun e w' => e = .returned (.tuple #[.int .i64 105, .nilIface]) ∧ Below w.heap.size w w' := by
  have HSH := Lib.hid hsh
  clear hsh
  go_enter Tryz.func99, Tryz.ntmps99
  go_wp2_with fail
  refine (cutPrefix_105 _).mono ?_
  rintro e w1 ⟨rfl, rfl⟩
  go_wp2_with (first | (go_at_call 189; refine (digit_yes _ _ (by decide) (by decide)).mono ?_; rintro e w1 ⟨rfl, rfl⟩))
  refine wp_loop_rounds 2 ?_
  rw [rounds_succ]
  go_wp2_with (first | (go_at_call 189; refine (digit_yes _ _ (by decide) (by decide)).mono ?_; rintro e w1 ⟨rfl, rfl⟩) | (go_at_call 189; refine (digit_no _ _ (by decide)).mono ?_; rintro e w1 ⟨rfl, rfl⟩))
  rw [rounds_succ]
  go_wp2_with (first | (go_at_call 189; refine (digit_yes _ _ (by decide) (by decide)).mono ?_; rintro e w1 ⟨rfl, rfl⟩) | (go_at_call 189; refine (digit_no _ _ (by decide)).mono ?_; rintro e w1 ⟨rfl, rfl⟩))
  rw [show (⟨#[49, 46, 48, 53]⟩ : ByteArray).extract 0 1 = ⟨#[49]⟩ from by rfl]
  refine (split_1 _ HSH.out).mono ?_
  rintro e w1 ⟨rfl, rfl⟩
  go_wp2_with fail
  refine (join_1 _ _ (by simp) (by simp)).mono ?_
  rintro e w1 ⟨rfl, hb⟩
  have HB := Lib.hid hb
  clear hb
  go_wp2_with (first | (go_at_call 189; refine (digit_yes _ _ (by decide) (by decide)).mono ?_; rintro e w1 ⟨rfl, rfl⟩))
  refine wp_loop_rounds 3 ?_
  rw [rounds_succ]
  go_wp2_with (first | (go_at_call 189; refine (digit_yes _ _ (by decide) (by decide)).mono ?_; rintro e w1 ⟨rfl, rfl⟩))
  rw [rounds_succ]
  go_wp2_with (first | (go_at_call 189; refine (digit_yes _ _ (by decide) (by decide)).mono ?_; rintro e w1 ⟨rfl, rfl⟩))
  rw [rounds_succ]
  go_wp2_with (first | (go_at_call 189; refine (digit_yes _ _ (by decide) (by decide)).mono ?_; rintro e w1 ⟨rfl, rfl⟩))
  rw [show ((⟨#[49]⟩ : ByteArray) ++ (⟨#[49, 46, 48, 53]⟩ : ByteArray).extract 2 4) = ⟨#[49, 48, 53]⟩ from by rfl]
  refine (trimLeft_105 _).mono ?_
  rintro e w2 ⟨rfl, rfl⟩
  go_wp2_with fail
  refine (atoi_105 _).mono ?_
  rintro e w2 ⟨rfl, t, hw2⟩
  have HW2 := Lib.hid hw2
  clear hw2
  go_wp2_with (go_at_call 100; refine (good_yes _ _ (by decide) (by decide)).mono ?_; rintro e w9 ⟨rfl, rfl⟩)
  go_ret2
  refine ⟨rfl, ?_⟩
  rw [HW2.out]
  have hb := HB.out
  have hs := hb.size
  simp only [sz_alloc] at hs
  exact (((Below.refl w.heap.size w).alloc (Nat.le_refl _) _).trans (hb.mono (by simp))).trans (Go.Joins.below_bytesWorld _ _ _ _ (by omega))
end Go.Proofs.YtcccijljnjhkbaaGreatDoor
