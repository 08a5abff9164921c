/- coin.Share where it shares: what it hands back. -/
import Derived.Test.YtcccijljnjhkbaaGreatDoorSh2
import Derived.Test.YtcccijljnjhkbaaGreatDoorShelf
import Derived.Deep.OwnRows
namespace Go.Proofs.YtcccijljnjhkbaaGreatDoor
open Go.Shelf Go.RowKit Go.Lib Go.Sort

/-- The parts, rounded down, and what is left of each. -/
def shQ (T S : Nat) (w : Nat → Nat) (i : Nat) : Nat := T * w i / S
def shR (T S : Nat) (w : Nat → Nat) (i : Nat) : Nat := T * w i % S
/-- cmp, as the program has it, over the places 0 .. n-1. -/
def shCmp {N : Nat} (T S : Nat) (w : Nat → Nat) (x y : Fin (N + 1)) : Int := (shR T S w y.val : Int) - (shR T S w x.val : Int)
def shIdx (N : Nat) : Array (Fin (N + 1)) := Array.ofFn (fun i => i)
/-- The places, in the order in which what is left is handed out. -/
def shOrd (N T S : Nat) (w : Nat → Nat) : Array (Fin (N + 1)) := stable (ltOf (shCmp T S w)) (shIdx N)
/-- One more for the first k of the order. -/
def shBump {N : Nat} (d : Array (Fin (N + 1))) (f : Nat → Int) : Nat → Nat → Int
  | 0 => f
  | k + 1 => fun j => if j = (d[k]!).val then shBump d f k j + 1 else shBump d f k j
def shLeft (n T S : Nat) (w : Nat → Nat) : Nat := T - sumTo (shQ T S w) n
def shOut (N T S : Nat) (w : Nat → Nat) (neg : Bool) (j : Nat) : Int :=
  let v := shBump (shOrd N T S w) (fun i => (shQ T S w i : Int)) (shLeft (N + 1) T S w) j
  if neg then -v else v

theorem sum_qr (T S : Nat) (w : Nat → Nat) (k : Nat) : S * sumTo (shQ T S w) k + sumTo (shR T S w) k = T * sumTo w k := by
  induction k with
  | zero => simp [sumTo]
  | succ k ih =>
    show S * (sumTo (shQ T S w) k + shQ T S w k) + (sumTo (shR T S w) k + shR T S w k) = T * (sumTo w k + w k)
    have e : S * shQ T S w k + shR T S w k = T * w k := Nat.div_add_mod _ _
    rw [Nat.mul_add, Nat.mul_add]
    omega

theorem left_facts (n T S : Nat) (w : Nat → Nat) (hS : S = sumTo w n) (h0 : 0 < S) : sumTo (shQ T S w) n ≤ T ∧ (T - sumTo (shQ T S w) n) * S = sumTo (shR T S w) n ∧ T - sumTo (shQ T S w) n < n := by
  have e := sum_qr T S w n
  rw [← hS] at e
  have h1 : S * sumTo (shQ T S w) n ≤ S * T := by rw [Nat.mul_comm S T]; omega
  have h2 : sumTo (shQ T S w) n ≤ T := Nat.le_of_mul_le_mul_left h1 h0
  have h3 : (T - sumTo (shQ T S w) n) * S = sumTo (shR T S w) n := by
    rw [Nat.sub_mul, Nat.mul_comm (sumTo _ _) S]
    omega
  refine ⟨h2, h3, ?_⟩
  have hn : 0 < n := by
    rcases Nat.eq_zero_or_pos n with h | h
    · subst h; simp [sumTo] at hS; omega
    · exact h
  have h4 : sumTo (shR T S w) n < n * S := by
    have hb : ∀ k, 0 < k → sumTo (shR T S w) k < k * S := by
      intro k
      induction k with
      | zero => intro h; omega
      | succ k ih =>
        intro _
        have h5 : shR T S w k < S := Nat.mod_lt _ h0
        show sumTo (shR T S w) k + shR T S w k < _
        rw [Nat.succ_mul]
        rcases Nat.eq_zero_or_pos k with h | h
        · subst h; simp [sumTo]; omega
        · have := ih h; omega
    exact hb n hn
  rw [← h3] at h4
  exact Nat.lt_of_mul_lt_mul_right h4
theorem mul64_small (x y p : Nat) (hx : x < 18446744073709551616) (hy : y < 18446744073709551616) (hp : p = x * y) (hl : p < 18446744073709551616) (w : World) :
    Calls Tryz.prog 101 #[.int .u64 x, .int .u64 y] w fun e w' => e = .returned (.tuple #[.int .u64 0, .int .u64 (p : Int)]) ∧ w = w' := by
  refine (Tryz.bits_Mul64 x y hx hy w).mono ?_
  rintro e w' ⟨rfl, rfl⟩
  rw [← hp, Nat.div_eq_of_lt hl, Nat.mod_eq_of_lt hl]
  exact ⟨rfl, rfl⟩

theorem div64_at (lo y q r : Nat) (w : World) (hy : 0 < y) (hy2 : y < 18446744073709551616) (hl : lo < 18446744073709551616) (hq : q = lo / y) (hr : r = lo % y) :
    Calls Tryz.prog 102 #[.int .u64 0, .int .u64 lo, .int .u64 y] w fun e w' => e = .returned (.tuple #[.int .u64 (q : Int), .int .u64 (r : Int)]) ∧ ∃ n, w' = w.drewN n := by
  subst hq hr
  exact div64_low lo y w hy hy2 hl

theorem good_yes (n : Int) (w : World) (h1 : -1000000000000 ≤ n) (h2 : n ≤ 1000000000000) :
    Calls Tryz.prog 100 #[.int .i64 n] w fun e w' => e = .returned (.bool true) ∧ w = w' := by
  have t1 : decide (n ≤ 1000000000000) = true := decide_eq_true h2
  have t2 : decide (-1000000000000 ≤ n) = true := decide_eq_true h1
  go_enter Tryz.func100, Tryz.ntmps100
  go_wp2
  go_ret
  exact ⟨rfl, rfl⟩

theorem good_no (n : Int) (w : World) (h : n < -1000000000000 ∨ 1000000000000 < n) :
    Calls Tryz.prog 100 #[.int .i64 n] w fun e w' => e = .returned (.bool false) ∧ w = w' := by
  rcases h with h | h
  · have t1 : decide (n ≤ 1000000000000) = true := decide_eq_true (by omega)
    have t2 : decide (-1000000000000 ≤ n) = false := decide_eq_false (by omega)
    go_enter Tryz.func100, Tryz.ntmps100
    go_wp2
    go_ret
    exact ⟨rfl, rfl⟩
  · have t1 : decide (n ≤ 1000000000000) = false := decide_eq_false (by omega)
    go_enter Tryz.func100, Tryz.ntmps100
    go_wp2
    go_ret
    exact ⟨rfl, rfl⟩

theorem pw_drewN {B : Nat} {w W : World} (h : Below B w W) (n : Nat) : Below B w (W.drewN n) := ⟨h.os, h.tape, h.output, h.size, h.block⟩

/-- What memory holds while the parts are reckoned. -/
structure ShSt (w : World) (N T S : Nat) (wn : Nat → Nat) (i : Nat) (W : World) : Prop where
  o : FRow W w.heap.size (N + 1) (fun j => if j < i then (shQ T S wn j : Int) else 0)
  r : FRow W (w.heap.size + 1) (N + 1) (fun j => if j < i then (shR T S wn j : Int) else 0)
  c : W.cell? ⟨w.heap.size + 1 + 1, 0, none⟩ = some (.slice (some ⟨w.heap.size + 1, 0, none⟩) (N + 1) (N + 1))
  d : FRow W (w.heap.size + 1 + 1 + 1) (N + 1) (fun j => if j < i then (j : Int) else 0)
  b : Below w.heap.size w W
  z : w.heap.size + 4 ≤ W.heap.size

theorem ShSt.step {w W : World} {N T S : Nat} {wn : Nat → Nat} {i : Nat} (h : ShSt w N T S wn i W) (hi : i < N + 1) :
    ShSt w N T S wn (i + 1) ((((W.setCell ⟨w.heap.size, i, none⟩ (.int .i64 (shQ T S wn i : Int))).setCell ⟨w.heap.size + 1, i, none⟩ (.int .i64 (shR T S wn i : Int))).setCell ⟨w.heap.size + 1 + 1 + 1, i, none⟩ (.int .i64 (i : Int))).drew) := by
  have up : ∀ (f : Nat → Int) (v : Int), v = f i → ∀ j, j < N + 1 → (if j = i then v else if j < i then f j else 0) = if j < i + 1 then f j else 0 := fun f v hv j _ => by
    by_cases e : j = i
    · subst e; rw [if_pos rfl, if_pos (by omega), hv]
    · rw [if_neg e]
      by_cases e2 : j < i
      · rw [if_pos e2, if_pos (by omega)]
      · rw [if_neg e2, if_neg (by omega)]
  refine ⟨?_, ?_, ?_, ?_, ?_, ?_⟩
  · exact (((h.o.put i hi _).far (by omega) _).far (by omega) _).drew.congr (up _ _ rfl)
  · exact (((h.r.far (by omega) _).put i hi _).far (by omega) _).drew.congr (up _ _ rfl)
  · show World.cell? (World.setCell _ _ _) _ = _
    rw [World.cell?_setCell_other _ _ _ _ (by intro e; simp only [Addr.mk.injEq] at e; omega), World.cell?_setCell_other _ _ _ _ (by intro e; simp only [Addr.mk.injEq] at e; omega), World.cell?_setCell_other _ _ _ _ (by intro e; simp only [Addr.mk.injEq] at e; omega)]
    exact h.c
  · exact (((h.d.far (by omega) _).far (by omega) _).put i hi _).drew.congr (up _ _ rfl)
  · exact ((((h.b).setCell (by simp) _).setCell (by simp) _).setCell (by simp; omega) _).drew
  · simpa using h.z

end Go.Proofs.YtcccijljnjhkbaaGreatDoor
