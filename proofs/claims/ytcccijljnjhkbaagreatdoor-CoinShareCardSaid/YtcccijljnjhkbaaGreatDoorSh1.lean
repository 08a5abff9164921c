/- coin.Share's closure: what it answers in every world that the sort passes through. -/
import Derived.Test.YtcccijljnjhkbaaGreatDoorSo1
namespace Go.Proofs.YtcccijljnjhkbaaGreatDoor
open Go.Shelf Go.RowKit Go.Lib Go.Sort

set_option maxHeartbeats 1000000 in
theorem shareCmp_calls (x y n r0 rb : Nat) (rx ry : Int) (W : World) (hx : x < n) (hy : y < n) (_hn : n < 1000000)
    (h0 : W.cell? ⟨r0, 0, none⟩ = some (.slice (some ⟨rb, 0, none⟩) n n)) (cx : W.cell? ⟨rb, x, none⟩ = some (.int .i64 rx)) (cy : W.cell? ⟨rb, y, none⟩ = some (.int .i64 ry))
    (bx : 0 ≤ rx) (bx2 : rx < 1000000000000) (by1 : 0 ≤ ry) (by2 : ry < 1000000000000) :
    Calls Tryz.prog 104 #[.int .i64 (x : Int), .int .i64 (y : Int), .pointer (some ⟨r0, 0, none⟩)] W fun e w' => e = .returned (.int .i64 (ry - rx)) ∧ ∃ q, w' = W.drewN q := by
  have z1 : (x : Int) < (n : Int) := by omega
  have z2 : (y : Int) < (n : Int) := by omega
  have e1 : IntKind.i64.wrap (ry - rx) = ry - rx := by rw [IntKind.wrap_i64]; omega
  go_enter Tryz.func104, Tryz.ntmps104
  go_wp2_with fail
  go_quiet (fail)
  go_wp2
  go_ret
  exact ⟨rfl, _, rfl⟩
end Go.Proofs.YtcccijljnjhkbaaGreatDoor
