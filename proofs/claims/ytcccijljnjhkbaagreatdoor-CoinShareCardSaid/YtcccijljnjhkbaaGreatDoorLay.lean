/- What the rows' lists give: the eleven error variables, errors' own type; and a start that meets the lists. -/
import Derived.Test.YtcccijljnjhkbaaGreatDoorRows
import Derived.Test.YtcccijljnjhkbaaGreatDoorCo
import Derived.ProofKit
import Derived.OpenShut
import Derived.LaidLaws
import Derived.LaidMore
import Derived.LaidHandle
import Derived.Lib.LaidTab
import Derived.Deep.DeepHandedRow
import Derived.Deep.DeepWitnessRowRef
namespace Go.Proofs.YtcccijljnjhkbaaGreatDoor
open Go.ChangeShapes Go.WideShapes Go.ChangeAt Go.RowKit Go.Lib

theorem ownKnobs : ownKnob Tryz.prog.godebug = none := by kernel_rfl
theorem laidOut : laidOutB Tryz.prog = true := by kernel_rfl
theorem er_star : "*" ++ "errors.errorString" = "*errors.errorString" := by decide
theorem er_row (u : TypeId) (h : Tryz.prog.typeName? 3 u = some "*errors.errorString") : u = 380 :=
  typeName_ptr_named (nm := "errors.errorString") (by rw [er_star]; kernel_rfl) (by kernel_rfl) (by decide) u (by rw [er_star]; exact h)
theorem er_cells : Tryz.prog.cellsOf 382 = 1 := by kernel_rfl
theorem er_cells1 : Tryz.prog.cellsOf 9 = 1 := by kernel_rfl

theorem laidVars_at {P : Program} {w : World} : ∀ {l : List (String × DataW Unit)} {ps : List MemPlace}, DataW.LaidVars P w l ps → ∀ n d, (n, d) ∈ l →
    ∃ g t cs fuel p, P.globalNamed n = some g ∧ (P.globals[g]?).map (·.type) = some t ∧ w.var? P n = some cs ∧ DataW.trod (fun _ => ()) P w 0 (fun _ => true) false fuel t cs.toList = some (d, p) ∧
      (∀ x ∈ MemPlace.row ⟨g, 0, none⟩ cs.size, x ∈ ps) ∧ ∀ x ∈ p, x ∈ ps
  | [], _, _, _, _, hm => by cases hm
  | (n', d') :: r, ps, h, n, d, hm => by
    obtain ⟨g, t, cs, fuel, p, q, h1, h2, h3, h4, h5, h6⟩ := h
    subst h6
    rcases List.mem_cons.1 hm with e | e
    · cases e
      exact ⟨g, t, cs, fuel, p, h1, h2, h3, h4, fun x hx => by simp [hx], fun x hx => by simp [hx]⟩
    · obtain ⟨g', t', cs', fuel', p', k1, k2, k3, k4, k5, k6⟩ := laidVars_at h5 n d e
      exact ⟨g', t', cs', fuel', p', k1, k2, k3, k4, fun x hx => by simp [k5 x hx], fun x hx => by simp [k6 x hx]⟩

set_option maxRecDepth 100000 in
/-- A listed error variable: where it points to, and what lies there. -/
theorem sentinel_at {W : World} {l : List (String × DataW Unit)} (h : laidMet Tryz.prog l W) {n : String} {text : List UInt8} {g : Nat}
    (hm : (n, DataW.iface "*errors.errorString" (.ptr (.agg [.lit (.string text)]))) ∈ l) (hg : Tryz.prog.globalNamed n = some g) (ht : (Tryz.prog.globals[g]?).map (·.type) = some 32) :
    ∃ a s, W.cell? ⟨g, 0, none⟩ = some (.iface 380 (.pointer (some a))) ∧ W.cell? a = some (.string s) ∧ s.data.toList = text ∧ ∃ cs t, W.heap[a.block]? = some (.cells cs t (0, 0)) := by
  obtain ⟨ps, hv, _, hr⟩ := h
  obtain ⟨g', t', cs, fuel, p, hg', ht', hvar, hd, hr1, hr2⟩ := laidVars_at hv n _ hm
  obtain rfl := Option.some.inj (hg.symm.trans hg')
  obtain rfl := Option.some.inj (ht.symm.trans ht')
  obtain ⟨l0⟩ := cs
  obtain ⟨a, s, hcs, hc, hs, _, hp⟩ := errorString_of_trod Tryz.underlying32 er_row Tryz.underlying380 Tryz.underlying382 rfl rfl Tryz.underlying9 er_cells er_cells1 hd (fun u v e => by
    simp only at e
    subst e
    have m0 : MemPlace.cell g 0 ∈ MemPlace.row ⟨g, 0, none⟩ 1 := by simp [MemPlace.row]
    have h1 := hr g 0 (hr1 _ m0)
    have h2 : W.cell? ⟨g, 0, none⟩ = some (.iface u v) := by simpa using World.var?_cell hg hvar 0
    obtain ⟨_, h3⟩ := h1
    exact h3 u v h2)
  simp only at hcs
  subst hcs hp
  obtain ⟨c, t, hb⟩ := (hr a.block a.off (hr2 _ (by simp [MemPlace.row]))).1
  exact ⟨a, s, by simpa using World.var?_cell hg hvar 0, hc, hs, c, t, hb⟩

def textOf : DataW Unit → List UInt8
  | .iface _ (.ptr (.agg [.lit (.string s)])) => s
  | _ => []
def errList : List (String × DataW Unit) := [("statute/api.ErrText", Rows.laid_statute_api_ErrText), ("statute/api.ErrBound", Rows.laid_statute_api_ErrBound), ("statute/api.ErrCoin", Rows.laid_statute_api_ErrCoin), ("statute/api.ErrDay", Rows.laid_statute_api_ErrDay), ("statute/api.ErrPath", Rows.laid_statute_api_ErrPath), ("statute/api.ErrWords", Rows.laid_statute_api_ErrWords), ("statute/api.ErrName", Rows.laid_statute_api_ErrName), ("statute/api.ErrOrder", Rows.laid_statute_api_ErrOrder), ("statute/api.ErrKind", Rows.laid_statute_api_ErrKind), ("statute/api.ErrProof", Rows.laid_statute_api_ErrProof), ("statute/api.ErrStage", Rows.laid_statute_api_ErrStage)]
def errText (k : Nat) : List UInt8 := textOf ((errList.map (·.2)).getD k .nil)
theorem errText_inj : ∀ i, i < 11 → ∀ k, k < 11 → errText i = errText k → i = k := by decide +kernel

theorem rtypeAt : (Tryz.prog.cutTypes.find? (·.1 == "internal/reflectlite.rtype")).map (·.2) = some 303 := by kernel_rfl
theorem oneError : ((List.range 412).filter fun t => Tryz.prog.rowNamed t [101, 114, 114, 111, 114]) = [32] := by kernel_rfl
theorem typesSize : Tryz.prog.types.size = 412 := by kernel_rfl
theorem gType : Tryz.prog.globalNamed "errors.errorType" = some 11 := by kernel_rfl

theorem errs_of_laid {W : World} {l : List (String × DataW Unit)} (h : laidMet Tryz.prog l W) (hl : ∀ x ∈ errList, x ∈ l) (hh : handlesMet Tryz.prog [("errors.errorType", Rows.laid_errors_errorType)] W) : ∃ a, Errs W a := by
  have hg : W.cell? ⟨11, 0, none⟩ = some (.iface 303 (.agg #[.pointer (some ⟨22, 32, none⟩)])) := by
    obtain ⟨name, u, ty, e1, e2, e3, e4, e5⟩ := hh _ (List.mem_singleton.2 rfl)
    have en : name = [101, 114, 114, 111, 114] := (Option.some.inj e1).symm
    subst en
    obtain rfl := Option.some.inj (rtypeAt.symm.trans e2)
    have hm : ty ∈ (List.range 412).filter fun t => Tryz.prog.rowNamed t [101, 114, 114, 111, 114] := List.mem_filter.2 ⟨List.mem_range.2 (by rw [← typesSize]; exact e3), e4⟩
    rw [oneError] at hm
    obtain rfl := List.mem_singleton.1 hm
    have hth : typeHandle Tryz.prog 32 = .pointer (some ⟨22, 32, none⟩) := by kernel_rfl
    rw [hth] at e5
    simpa using World.var?_cell gType e5 0
  have at_ : ∀ (k : Nat) (n : String) (g : Nat), (n, DataW.iface "*errors.errorString" (.ptr (.agg [.lit (.string (errText k))]))) ∈ errList → Tryz.prog.globalNamed n = some g → (Tryz.prog.globals[g]?).map (·.type) = some 32 →
      ∃ a, W.cell? ⟨g, 0, none⟩ = some (.iface 380 (.pointer (some a))) ∧ (∃ s, W.cell? a = some (.string s) ∧ s.data.toList = errText k) ∧ ∃ cs t, W.heap[a.block]? = some (.cells cs t (0, 0)) := fun k n g hm h1 h2 => by
    obtain ⟨a, s, q1, q2, q3, q4⟩ := sentinel_at h (hl _ hm) h1 h2
    exact ⟨a, q1, ⟨s, q2, q3⟩, q4⟩
  obtain ⟨a0, c0, s0, b0⟩ := at_ 0 "statute/api.ErrText" 1 (.head _) (by kernel_rfl) (by kernel_rfl)
  obtain ⟨a1, c1, s1, b1⟩ := at_ 1 "statute/api.ErrBound" 0 (.tail _ (.head _)) (by kernel_rfl) (by kernel_rfl)
  obtain ⟨a2, c2, s2, b2⟩ := at_ 2 "statute/api.ErrCoin" 2 (.tail _ (.tail _ (.head _))) (by kernel_rfl) (by kernel_rfl)
  obtain ⟨a3, c3, s3, b3⟩ := at_ 3 "statute/api.ErrDay" 3 (.tail _ (.tail _ (.tail _ (.head _)))) (by kernel_rfl) (by kernel_rfl)
  obtain ⟨a4, c4, s4, b4⟩ := at_ 4 "statute/api.ErrPath" 4 (.tail _ (.tail _ (.tail _ (.tail _ (.head _))))) (by kernel_rfl) (by kernel_rfl)
  obtain ⟨a5, c5, s5, b5⟩ := at_ 5 "statute/api.ErrWords" 5 (.tail _ (.tail _ (.tail _ (.tail _ (.tail _ (.head _)))))) (by kernel_rfl) (by kernel_rfl)
  obtain ⟨a6, c6, s6, b6⟩ := at_ 6 "statute/api.ErrName" 6 (.tail _ (.tail _ (.tail _ (.tail _ (.tail _ (.tail _ (.head _))))))) (by kernel_rfl) (by kernel_rfl)
  obtain ⟨a7, c7, s7, b7⟩ := at_ 7 "statute/api.ErrOrder" 7 (.tail _ (.tail _ (.tail _ (.tail _ (.tail _ (.tail _ (.tail _ (.head _)))))))) (by kernel_rfl) (by kernel_rfl)
  obtain ⟨a8, c8, s8, b8⟩ := at_ 8 "statute/api.ErrKind" 8 (.tail _ (.tail _ (.tail _ (.tail _ (.tail _ (.tail _ (.tail _ (.tail _ (.head _))))))))) (by kernel_rfl) (by kernel_rfl)
  obtain ⟨a9, c9, s9, b9⟩ := at_ 9 "statute/api.ErrProof" 9 (.tail _ (.tail _ (.tail _ (.tail _ (.tail _ (.tail _ (.tail _ (.tail _ (.tail _ (.head _)))))))))) (by kernel_rfl) (by kernel_rfl)
  obtain ⟨a10, c10, s10, b10⟩ := at_ 10 "statute/api.ErrStage" 10 (.tail _ (.tail _ (.tail _ (.tail _ (.tail _ (.tail _ (.tail _ (.tail _ (.tail _ (.tail _ (.head _))))))))))) (by kernel_rfl) (by kernel_rfl)
  let a : Nat → Addr := fun k => [a0, a1, a2, a3, a4, a5, a6, a7, a8, a9, a10].getD k a0
  have each : ∀ k, k < 11 → (∃ s, W.cell? (a k) = some (.string s) ∧ s.data.toList = errText k) ∧ ∃ cs t, W.heap[(a k).block]? = some (.cells cs t (0, 0)) := fun k hk => by
    match k, hk with
    | 0, _ => exact ⟨s0, b0⟩
    | 1, _ => exact ⟨s1, b1⟩
    | 2, _ => exact ⟨s2, b2⟩
    | 3, _ => exact ⟨s3, b3⟩
    | 4, _ => exact ⟨s4, b4⟩
    | 5, _ => exact ⟨s5, b5⟩
    | 6, _ => exact ⟨s6, b6⟩
    | 7, _ => exact ⟨s7, b7⟩
    | 8, _ => exact ⟨s8, b8⟩
    | 9, _ => exact ⟨s9, b9⟩
    | 10, _ => exact ⟨s10, b10⟩
  refine ⟨a, hg, c0, c1, c2, c3, c4, c5, c6, c7, c8, c9, c10, fun k hk => (each k hk).2, fun i k hi hk e => ?_⟩
  obtain ⟨s, e1, e2⟩ := (each i hi).1
  obtain ⟨s', e3, e4⟩ := (each k hk).1
  rw [e, e3] at e1
  obtain rfl : s' = s := by simpa using e1
  exact errText_inj i hi k hk (e2.symm.trans e4)

/-- A listed variable's cells, as its datum says. -/
def flat : DataW Unit → List Value
  | .lit (.int k z) => [.int k z]
  | .agg l => l.flatMap fun
    | .lit (.int k z) => [.int k z]
    | .agg m => m.flatMap fun
      | .lit (.int k z) => [.int k z]
      | _ => []
    | _ => []
  | _ => []
def words (d : DataW Unit) : Obj := .cells #[.string ⟨(textOf d).toArray⟩] 382
noncomputable def low : Nat := (World.holding Tryz.prog default ⟨#[], #[], []⟩).heap.size
noncomputable def laidWorld (os : Os) : World :=
  let w0 := World.holding Tryz.prog os ⟨((errList.map Prod.snd ++ [Rows.laid_strconv_ErrRange, Rows.laid_strconv_ErrSyntax]).map words).toArray, #[], []⟩
  let put (h : Array Obj) (g : Nat) (cs : Array Value) : Array Obj := h.modify g fun
    | .cells _ t frozen => .cells cs t frozen
    | o => o
  let err (h : Array Obj) (x : Nat × Nat) : Array Obj := put h x.1 #[.iface 380 (.pointer (some ⟨low + x.2, 0, none⟩))]
  let h := w0.heap
  let h := put h 20 (flat Rows.laid_math_bits_deBruijn32tab).toArray
  let h := put h 21 (flat Rows.laid_math_bits_deBruijn64tab).toArray
  let h := put h 19 (flat Rows.laid_internal_strconv_uint64pow10).toArray
  let h := put h 16 (flat Rows.laid_unicode_utf8_acceptRanges).toArray
  let h := put h 15 (flat Rows.laid_unicode_utf8_first).toArray
  let h := put h 11 #[.iface 303 (.agg #[.pointer (some ⟨22, 32, none⟩)])]
  let h := [(1, 0), (0, 1), (2, 2), (3, 3), (4, 4), (5, 5), (6, 6), (7, 7), (8, 8), (9, 9), (10, 10), (18, 11), (17, 12)].foldl err h
  { w0 with heap := h }
end Go.Proofs.YtcccijljnjhkbaaGreatDoor
