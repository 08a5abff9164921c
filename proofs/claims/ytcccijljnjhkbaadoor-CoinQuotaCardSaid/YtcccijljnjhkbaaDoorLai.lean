/- What the rows' lists give (a sentinel's cell), and a start that meets them. -/
import Derived.Test.YtcccijljnjhkbaaDoorRows
import Derived.WalkKit
import Derived.ProofKit
import Derived.OpenShut
import Derived.LaidLaws
import Derived.LaidMore
import Derived.Lib.LaidTab
import Derived.Lib.LaidU8
import Derived.Deep.DeepHandedRow
import Derived.Deep.DeepWitnessRowRef
namespace Go.Proofs.YtcccijljnjhkbaaDoor
open Go.ChangeShapes Go.WideShapes Go.ChangeAt Go.RowKit Go.Lib

theorem ownKnobs : ownKnob Tryd.prog.godebug = none := by kernel_rfl
theorem laidOut : laidOutB Tryd.prog = true := by kernel_rfl

/-- A listed error variable's cell holds an error. -/
theorem sentinel_cell {W : World} {l : List (String × DataW Unit)} (h : laidMet Tryd.prog l W) {n nm : String} {d : DataW Unit} {g : Nat} (hm : (n, DataW.iface nm d) ∈ l)
    (hg : Tryd.prog.globalNamed n = some g) (ht : (Tryd.prog.globals[g]?).map (·.type) = some 40) :
    ∃ te pe, W.cell? ⟨g, 0, none⟩ = some (.iface te pe) := by
  obtain ⟨g', t', cs, fuel, p, hg', ht', hvar, hd⟩ := laidMet.reads h hm
  obtain rfl := Option.some.inj (hg.symm.trans hg')
  obtain rfl := Option.some.inj (ht.symm.trans ht')
  obtain ⟨l0⟩ := cs
  obtain ⟨f1, u, v, hcs, _⟩ := iface_of_trod Tryd.underlying40 hd
  simp only at hcs
  subst hcs
  exact ⟨u, v, by simpa using World.var?_cell hg hvar 0⟩

/-- A listed variable's cells, as its datum says. -/
def flat : DataW Unit → List Value
  | .lit (.int k z) => [.int k z]
  | .agg l => l.flatMap fun
    | .lit (.int k z) => [.int k z]
    | .agg m => m.flatMap fun
      | .lit (.int k z) => [.int k z]
      | _ => []
    | _ => []
  | _ => []
def words (d : DataW Unit) : Obj :=
  .cells #[.string ⟨(match d with | .iface _ (.ptr (.agg [.lit (.string s)])) => s.toArray | _ => #[])⟩] 139
noncomputable def low : Nat := (World.holding Tryd.prog default ⟨#[], #[], []⟩).heap.size
noncomputable def laidWorld (os : Os) : World :=
  let w0 := World.holding Tryd.prog os ⟨#[words Rows.laid_statute_api_ErrText, words Rows.laid_statute_api_ErrBound, words Rows.laid_statute_api_ErrName, words Rows.laid_strconv_ErrRange, words Rows.laid_strconv_ErrSyntax, words Rows.laid_statute_api_ErrCoin], #[], []⟩
  let put (h : Array Obj) (g : Nat) (cs : Array Value) : Array Obj := h.modify g fun
    | .cells _ t frozen => .cells cs t frozen
    | o => o
  let err (h : Array Obj) (g : Nat) (k : Nat) : Array Obj := put h g #[.iface 137 (.pointer (some ⟨low + k, 0, none⟩))]
  let h := w0.heap
  let h := put h 12 (flat Rows.laid_math_bits_deBruijn32tab).toArray
  let h := put h 13 (flat Rows.laid_math_bits_deBruijn64tab).toArray
  let h := put h 11 (flat Rows.laid_internal_strconv_uint64pow10).toArray
  let h := put h 10 (flat Rows.laid_unicode_utf8_acceptRanges).toArray
  let h := put h 9 (flat Rows.laid_unicode_utf8_first).toArray
  let h := err h 2 0
  let h := err h 0 1
  let h := err h 5 2
  let h := err h 8 3
  let h := err h 7 4
  let h := err h 1 5
  { w0 with heap := h }
end Go.Proofs.YtcccijljnjhkbaaDoor
