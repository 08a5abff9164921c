/- errors.Is, for the errors of this program: nil, a variable of errors.New's make, a *api.Fault that holds one. -/
import Derived.Test.YtcccijljnjhkbaaGreatDoorEr
import Derived.WalkKit
import Derived.LaidEql
import Derived.Stop.Asserts
import Derived.RowKitTokens
namespace Go.Proofs.YtcccijljnjhkbaaGreatDoor
open Go.RowKit Go.Extern.Stop Go.Stop Go.Extern
/-- The model's entry for (rtype).Comparable. -/
def erComparable : Array Value → Sem Value := Extern.ReflectliteType.method fun t => do Rtype.noPackHeld "Comparable" t; pure (.bool (← typeInfo t).comparable)
theorem er_isComparable (w : World) : (erComparable #[.agg #[.pointer (some ⟨22, 380, none⟩)]]).run Tryz.prog w = .ok (.bool true) w := by kernel_rfl
theorem er_methodComparable (v : Value) (w : World) : (Go.method 512 303 v "Comparable").run Tryz.prog w = .ok (350, v) w := by kernel_rfl
theorem er_isComp : (Tryz.prog.info? 380).map (·.comparable) = some true := by kernel_rfl
theorem er_isSize : (Tryz.prog.info? 382).map (·.size) = some 1 := by kernel_rfl

theorem is_same (b : Addr) (w : World) :
    Calls Tryz.prog 61 #[.iface 380 (.pointer (some b)), .iface 380 (.pointer (some b))] w fun e w' => e = .returned (.bool true) ∧ w' = w := by
  obtain ⟨i, hi, hcmp⟩ := Option.map_eq_some_iff.1 er_isComp
  obtain ⟨j, hj, hjs⟩ := Option.map_eq_some_iff.1 er_isSize
  have h8 := @run_callFunc_extern Tryz.prog 142 _ Extern.ReflectliteType.typeOf Tryz.func142 (by kernel_rfl) (by kernel_rfl) (by kernel_rfl) (by kernel_rfl)
  have h32 := @run_callFunc_extern Tryz.prog 350 _ erComparable Tryz.func350 (by kernel_rfl) (by kernel_rfl) (by kernel_rfl) (by kernel_rfl)
  have tT := er_typeOfE
  have cT := er_isComparable
  have mR := er_methodComparable
  have heq := run_eql_iface_ptr_same (P := Tryz.prog) w b Tryz.underlying32 Tryz.underlying380 hi hcmp hj
  go_enter Tryz.func61, Tryz.ntmps61
  go_wp2
  refine wp_loop_rounds 1 ?_
  rw [rounds_succ]
  go_wp2
  go_ret
  exact ⟨rfl, rfl⟩

theorem is_other (a b : Addr) (ca cb : Array Value) (ta tb : TypeId) (w : World) (hne : a ≠ b) (ha : w.heap[a.block]? = some (.cells ca ta (0, 0))) (hb : w.heap[b.block]? = some (.cells cb tb (0, 0))) :
    Calls Tryz.prog 61 #[.iface 380 (.pointer (some a)), .iface 380 (.pointer (some b))] w fun e w' => e = .returned (.bool false) ∧ w' = w := by
  obtain ⟨i, hi, hcmp⟩ := Option.map_eq_some_iff.1 er_isComp
  obtain ⟨j, hj, hjs⟩ := Option.map_eq_some_iff.1 er_isSize
  have h8 := @run_callFunc_extern Tryz.prog 142 _ Extern.ReflectliteType.typeOf Tryz.func142 (by kernel_rfl) (by kernel_rfl) (by kernel_rfl) (by kernel_rfl)
  have h32 := @run_callFunc_extern Tryz.prog 350 _ erComparable Tryz.func350 (by kernel_rfl) (by kernel_rfl) (by kernel_rfl) (by kernel_rfl)
  have tT := er_typeOfE
  have cT := er_isComparable
  have mR := er_methodComparable
  have nE := er_noIsE
  have uE := er_noUnwrapE
  have vE := er_noUnwrapsE
  have nW := er_noIsF
  have uW := er_hasUnwrapF
  have mU := er_methodUnwrap
  have heq := run_eql_iface_ptr_other (P := Tryz.prog) w Tryz.underlying32 Tryz.underlying380 hi hcmp hj (by rw [hjs]; decide) hne ha hb
  go_enter Tryz.func61, Tryz.ntmps61
  go_wp2
  refine wp_loop_rounds 1 ?_
  rw [rounds_succ]
  go_wp2
  go_ret
  exact ⟨rfl, rfl⟩

theorem is_fault_same (pb po : Nat) (b : Addr) (w : World) (h1 : w.cell? ⟨pb, po + 1, none⟩ = some (.iface 380 (.pointer (some b)))) :
    Calls Tryz.prog 61 #[.iface 105 (.pointer (some ⟨pb, po, none⟩)), .iface 380 (.pointer (some b))] w fun e w' => e = .returned (.bool true) ∧ w' = w := by
  obtain ⟨i, hi, hcmp⟩ := Option.map_eq_some_iff.1 er_isComp
  obtain ⟨j, hj, hjs⟩ := Option.map_eq_some_iff.1 er_isSize
  have h8 := @run_callFunc_extern Tryz.prog 142 _ Extern.ReflectliteType.typeOf Tryz.func142 (by kernel_rfl) (by kernel_rfl) (by kernel_rfl) (by kernel_rfl)
  have h32 := @run_callFunc_extern Tryz.prog 350 _ erComparable Tryz.func350 (by kernel_rfl) (by kernel_rfl) (by kernel_rfl) (by kernel_rfl)
  have tT := er_typeOfE
  have cT := er_isComparable
  have mR := er_methodComparable
  have nE := er_noIsE
  have uE := er_noUnwrapE
  have vE := er_noUnwrapsE
  have nW := er_noIsF
  have uW := er_hasUnwrapF
  have mU := er_methodUnwrap
  have heq := run_eql_iface_ptr_same (P := Tryz.prog) w b Tryz.underlying32 Tryz.underlying380 hi hcmp hj
  have hty := run_eql_iface_types (P := Tryz.prog) 105 380 (.pointer (some ⟨pb, po, none⟩)) (.pointer (some b)) Tryz.underlying32 (by decide) w
  go_enter Tryz.func61, Tryz.ntmps61
  go_wp2
  refine wp_loop_rounds 2 ?_
  rw [rounds_succ]
  go_wp2
  rw [rounds_succ]
  go_wp2
  go_ret
  exact ⟨rfl, rfl⟩

theorem is_fault_other (pb po : Nat) (a b : Addr) (ca cb : Array Value) (ta tb : TypeId) (w : World) (hne : a ≠ b) (ha : w.heap[a.block]? = some (.cells ca ta (0, 0))) (hb : w.heap[b.block]? = some (.cells cb tb (0, 0))) (h1 : w.cell? ⟨pb, po + 1, none⟩ = some (.iface 380 (.pointer (some a)))) :
    Calls Tryz.prog 61 #[.iface 105 (.pointer (some ⟨pb, po, none⟩)), .iface 380 (.pointer (some b))] w fun e w' => e = .returned (.bool false) ∧ w' = w := by
  obtain ⟨i, hi, hcmp⟩ := Option.map_eq_some_iff.1 er_isComp
  obtain ⟨j, hj, hjs⟩ := Option.map_eq_some_iff.1 er_isSize
  have h8 := @run_callFunc_extern Tryz.prog 142 _ Extern.ReflectliteType.typeOf Tryz.func142 (by kernel_rfl) (by kernel_rfl) (by kernel_rfl) (by kernel_rfl)
  have h32 := @run_callFunc_extern Tryz.prog 350 _ erComparable Tryz.func350 (by kernel_rfl) (by kernel_rfl) (by kernel_rfl) (by kernel_rfl)
  have tT := er_typeOfE
  have cT := er_isComparable
  have mR := er_methodComparable
  have nE := er_noIsE
  have uE := er_noUnwrapE
  have vE := er_noUnwrapsE
  have nW := er_noIsF
  have uW := er_hasUnwrapF
  have mU := er_methodUnwrap
  have heq := run_eql_iface_ptr_other (P := Tryz.prog) w Tryz.underlying32 Tryz.underlying380 hi hcmp hj (by rw [hjs]; decide) hne ha hb
  have hty := run_eql_iface_types (P := Tryz.prog) 105 380 (.pointer (some ⟨pb, po, none⟩)) (.pointer (some b)) Tryz.underlying32 (by decide) w
  go_enter Tryz.func61, Tryz.ntmps61
  go_wp2
  refine wp_loop_rounds 2 ?_
  rw [rounds_succ]
  go_wp2
  rw [rounds_succ]
  go_wp2
  go_ret
  exact ⟨rfl, rfl⟩

end Go.Proofs.YtcccijljnjhkbaaGreatDoor
