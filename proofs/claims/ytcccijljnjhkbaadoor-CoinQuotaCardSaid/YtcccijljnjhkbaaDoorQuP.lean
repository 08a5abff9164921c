/- statutelaw1.CoinQuota's statement: its row and its card. -/
import Derived.Test.YtcccijljnjhkbaaDoorCards
import Derived.Test.YtcccijljnjhkbaaDoorTie
import Derived.Test.YtcccijljnjhkbaaDoorLai
import Derived.Test.YtcccijljnjhkbaaDoorQu
namespace Go.Proofs.YtcccijljnjhkbaaDoor.coinQuota
open Go.ChangeShapes Go.WideShapes Go.ChangeAt Go.RowKit Go.Lib

theorem g1 : Tryd.prog.globalNamed "statute/api.ErrCoin" = some 1 := by kernel_rfl
theorem g1t : (Tryd.prog.globals[1]?).map (·.type) = some 40 := by kernel_rfl
theorem cellsInt : Tryd.prog.cellsOf 3 = 1 := by kernel_rfl

/-- For every total and every slice of weights: true; nothing that was there has turned. -/
theorem walk (A : Option Addr) (n cap : Nat) (total : Int) (zs : List Int) (W : World) (hsh : W.ShapedOpen Tryd.prog) (hn : n ≤ 9223372036854775807) (hz : n ≤ zs.length) (hA : A = none → n = 0)
    (hp : ∀ a, A = some a → 0 < n → a.spot = none)
    (hb : ∀ a, A = some a → 0 < n → a.block < W.heap.size) (hc : ∀ a, A = some a → ∀ i, i < n → W.cell? ⟨a.block, a.off + i, none⟩ = some (.int .i64 (zs.getD i 0)))
    (E1 : ∃ te pe, W.cell? ⟨1, 0, none⟩ = some (.iface te pe)) (hlow : 1 < W.heap.size) :
    Calls Tryd.prog 4 #[.int .i64 total, .slice A n cap] W fun e W' => e = .returned (.bool true) ∧ Below W.heap.size W W' := by
  obtain ⟨te, pe, hE⟩ := E1
  have keep : ∀ w1, Below W.heap.size W w1 → w1.cell? ⟨1, 0, none⟩ = some (.iface te pe) := fun w1 h => (h.cell (p := ⟨1, 0, none⟩) hlow).trans hE
  by_cases h1 : 60 < n ∨ total < 0
  · exact quota_long A n cap total W hsh h1 hn
  have h2 : n ≤ 60 := by omega
  have h3 : 0 ≤ total := by omega
  rcases Nat.eq_zero_or_pos n with rfl | hpos
  · exact quota_fails A 0 cap total te pe W hsh (by omega) h3 fun w1 hw => share_empty A cap total _ w1 (keep w1 hw)
  obtain ⟨a, rfl⟩ : ∃ a, A = some a := by
    cases A with
    | none => have := hA rfl; omega
    | some a => exact ⟨a, rfl⟩
  obtain ⟨b, off, path⟩ := a
  obtain rfl : path = none := hp _ rfl hpos
  have hbk := hb _ rfl hpos
  have hck := hc _ rfl
  have cells : ∀ w1, Below W.heap.size W w1 → ∀ i, i < n → w1.cell? ⟨b, off + i, none⟩ = some (.int .i64 (zs.getD i 0)) := fun w1 h i hi => (h.cell (p := ⟨b, off + i, none⟩) hbk).trans (hck i hi)
  by_cases h4 : ∃ i, i < n ∧ (zs.getD i 0 < 0 ∨ 1000000 < zs.getD i 0)
  · exact quota_fails _ n cap total te pe W hsh h2 h3 fun w1 hw => share_bad b off n cap (fun i => zs.getD i 0) total _ w1 h2 (cells w1 hw) h4 (keep w1 hw)
  have good : ∀ i, i < n → 0 ≤ zs.getD i 0 ∧ zs.getD i 0 ≤ 1000000 := fun i hi => by
    refine ⟨?_, ?_⟩
    · by_cases h : 0 ≤ zs.getD i 0
      · exact h
      · exact absurd ⟨i, hi, by omega⟩ h4
    · by_cases h : zs.getD i 0 ≤ 1000000
      · exact h
      · exact absurd ⟨i, hi, by omega⟩ h4
  have cast : ∀ i, i < n → ((zs.getD i 0).toNat : Int) = zs.getD i 0 := fun i hi => by have := good i hi; omega
  have bw : ∀ i, i < n → (zs.getD i 0).toNat ≤ 1000000 := fun i hi => by have := good i hi; omega
  have cellsN : ∀ w1, Below W.heap.size W w1 → ∀ i, i < n → w1.cell? ⟨b, off + i, none⟩ = some (.int .i64 ((zs.getD i 0).toNat : Int)) := fun w1 h i hi => by rw [cast i hi]; exact cells w1 h i hi
  by_cases h5 : 1000000000000 < total ∨ sumTo (fun i => (zs.getD i 0).toNat) n = 0
  · exact quota_fails _ n cap total te pe W hsh h2 h3 fun w1 hw => share_none b off n cap (fun i => (zs.getD i 0).toNat) total _ w1 h2 (cellsN w1 hw) bw (Or.inr h5) (keep w1 hw)
  obtain ⟨N, rfl⟩ : ∃ N, n = N + 1 := ⟨n - 1, by omega⟩
  obtain ⟨T, rfl⟩ := Int.eq_ofNat_of_zero_le h3
  exact quota_shares N b off cap (fun i => (zs.getD i 0).toNat) T _ W hsh (by omega) hbk (cellsN W (Below.refl _ _)) bw rfl (by omega) (by omega)

set_option maxHeartbeats 4000000 in
set_option maxRecDepth 100000 in
theorem contract (H : Type) (enc : TypeId × Value → H) (W : World) (base : Nat) (args : Array Value) (ds gs : List (DataW H)) (before : List MemPlace)
    (hval0 : ∀ (j : Nat) t v, Tryd.f4.params[j]? = some t → args[j]? = some v → Value.okWide Tryd.prog W .any base t v)
    (hW : DataW.Whole enc Tryd.prog Tryd.f4.params.toList Rows.coinQuotaSpec.vars false W args.toList ds gs before) (hL : laidMetH Tryd.prog Rows.coinQuotaRow.laid W) (hsh : W.ShapedOpen Tryd.prog) :
    Calls Tryd.prog 4 args W fun e W' => ∃ v, e = .returned v ∧ Rows.coinQuotaSpec.post enc Tryd.prog Tryd.f4 false true false false W args v W' := by
  have hval := hval0
  have hW' := hW
  obtain ⟨p, q, hA0, hV0, rfl, _, _⟩ := hW
  have hA : DataW.TrodAll enc Tryd.prog W 0 (fun _ => true) true Tryd.f4.params.toList args.toList ds p := hA0
  rw [Tryd.params4] at hA hval
  obtain ⟨v0, vs0, d0, ds0, p0, q0, hargs, rfl, rfl, t0, r0⟩ := trodAll_cons hA
  obtain ⟨v1, vs1, d1, ds1, p1, q1, rfl, rfl, rfl, t1, r1⟩ := trodAll_cons r0
  obtain ⟨rfl, rfl, rfl⟩ := trodAll_nil r1
  obtain rfl : args = #[v0, v1] := by cases args; simp_all
  obtain ⟨rfl, rfl⟩ := trodVars_none hV0
  obtain ⟨total, rfl, rfl, rfl, wt⟩ := open_int Tryd.underlying3 (hval 0 3 v0 rfl rfl) t0
  have hL' : laidMet Tryd.prog Rows.coinQuotaRow.laid W := by rw [← MakeChecks.laidMetH_plain _ _ _ (by kernel_rfl)]; exact hL
  have E1 := sentinel_cell hL' (n := "statute/api.ErrCoin") (by simp only [Rows.coinQuotaRow, Rows.laid_statute_api_ErrCoin]; repeat (first | exact .head _ | apply List.Mem.tail)) g1 g1t
  have hlow : 1 < W.heap.size := by
    obtain ⟨te, pe, h⟩ := E1
    exact World.block_lt_of_cell? _ _ h
  have hlt : ∀ x ∈ p1, x.block < W.heap.size := fun x hx => hW'.lt x (by simpa using hx)
  obtain ⟨A, n, cap, zs, rfl, hn, hz, hAn, hp, hb, hc⟩ : ∃ (A : Option Addr) (n cap : Nat) (zs : List Int), v1 = .slice A n cap ∧ n ≤ 9223372036854775807 ∧ n ≤ zs.length ∧ (A = none → n = 0) ∧ (∀ a, A = some a → 0 < n → a.spot = none) ∧
      (∀ a, A = some a → 0 < n → a.block < W.heap.size) ∧ (∀ a, A = some a → ∀ i, i < n → W.cell? ⟨a.block, a.off + i, none⟩ = some (.int .i64 (zs.getD i 0))) := by
    obtain ⟨A, n, cap, rfl⟩ := okWide_slice Tryd.underlying38 (hval 1 38 v1 rfl rfl)
    obtain ⟨f1, hf⟩ := t1
    rcases open_ints Tryd.underlying38 Tryd.underlying3 cellsInt hf with ⟨e, _⟩ | ⟨a, n', cap', zs, e, _, hl, hm, hzl, hx, hcell, _⟩
    · obtain ⟨rfl, rfl, rfl⟩ : A = none ∧ n = 0 ∧ cap = 0 := by simpa [Value.cells] using e
      exact ⟨none, 0, 0, [], rfl, by omega, by simp, fun _ => rfl, (fun a h => by cases h), (fun a h => by cases h), (fun a h => by cases h)⟩
    · obtain ⟨rfl, rfl, rfl⟩ : A = some a ∧ n = n' ∧ cap = cap' := by simpa [Value.cells] using e
      simp only [if_true] at hzl
      have hcell0 : 0 < n → W.cell? a = some (.int .i64 (zs.getD 0 0)) := fun h => by simpa [Addr.add] using hcell 0 (by omega)
      refine ⟨some a, n, cap, zs, rfl, by unfold maxLen at hm; omega, by omega, (fun h => by cases h), (fun a' h h0 => ?_), (fun a' h h0 => ?_), (fun a' h i hi => ?_)⟩
      · cases h; exact World.cell?_spot (hcell0 h0)
      · cases h; exact World.block_lt_of_cell? _ _ (hcell0 h0)
      · cases h
        have hs := World.cell?_spot (hcell0 (by omega))
        have := hcell i (by omega)
        obtain ⟨b, off, spot⟩ := a
        simp only at hs
        subst hs
        rwa [Lib.add_plain] at this
  refine (walk A n cap total zs W hsh hn hz hAn hp hb hc E1 hlow).mono ?_
  rintro e W' ⟨rfl, bel⟩
  refine ⟨_, rfl, _, _, _, [], [] ++ p1, [], hW', ?_, ?_, ?_, bel.frame _, fun h => by cases h⟩
  · exact trodAll_mk1 (shut_bool Tryd.underlying4 _)
  · exact trodAll_mk2 (shut_int Tryd.underlying3 wt) (Below.trod laidOut (by kernel_rfl) (of_decide_eq_true (by kernel_rfl)) t1 bel hlt)
  · rfl

theorem laid_met (os : Os) (args : Array Value) : laidMet Tryd.prog Rows.coinQuotaRow.laid ((laidWorld os).forCall (fun _ _ => 0) ⟨#[], args, []⟩).memory :=
  laidMet_of_run' 8 (by kernel_rfl) (by kernel_rfl)
theorem reads (os : Os) {H : Type} (enc : TypeId × Value → H) : ∃ places, DataW.whole enc Tryd.prog ((laidWorld os).forCall (fun _ _ => 0) ⟨#[], #[.int .i64 0, .slice none 0 0], []⟩).memory Tryd.f4.params.toList Rows.coinQuotaSpec.vars false #[Value.int .i64 0, .slice none 0 0].toList 8 = some ([.lit (.int .i64 0), .nil], [], places) :=
  ⟨[], by kernel_rfl⟩

set_option maxRecDepth 100000 in
theorem lifted (os : Os) (started : os.Started) (H : Type) (enc : TypeId × Value → H) (F : Stop.Interp) :
    ReturnsInHanded {} Tryd.checked os 4 .any ((OpenSpec.ofChange Rows.coinQuotaSpec).preRow enc Tryd.prog Tryd.f4 Rows.coinQuotaRow.domain false Rows.coinQuotaRow.laid) (((OpenSpec.ofChange Rows.coinQuotaSpec).at F).post enc Tryd.prog Tryd.f4 false true false false) := by
  obtain ⟨places, hx⟩ := reads os enc
  refine returnsInHanded_of_row (C := Tryd.checked) (s := OpenSpec.ofChange Rows.coinQuotaSpec) ownKnobs started (by kernel_rfl) Tryd.func4
    (witness_row_atRef (enc := enc) (C := Tryd.checked) false (laidWorld os) #[.int .i64 0, .slice none 0 0] rfl (by kernel_rfl) (by kernel_rfl) (by kernel_rfl)
      (OpenSpec.preRow_of_cond 8 hx (by kernel_rfl) (fun k hk => by cases hk) (by kernel_rfl) (laid_met os _))) ?_
  intro W base args ds gs before hval hW _ _ _ hL hsh _
  exact contract H enc W base args ds gs before hval hW hL hsh

theorem said : Rows.CoinQuotaSaid :=
  OpenClaim.holds_of_cond 4 Tryd.f4 rfl rfl rfl rfl rfl rfl rfl ⟨rfl, rfl, rfl, rfl, rfl⟩ rfl rfl rfl rfl rfl (by kernel_rfl) Tryd.func4 (by kernel_rfl)
    (of_decide_eq_true (by kernel_rfl)) (by unfold Func.isWrapper; first | (rw [if_pos (by decide +kernel)]; kernel_rfl) | (rw [if_neg (by decide +kernel)]; exact ⟨rfl, rfl⟩))
    (fun os started H enc _ F => by rw [OpenClaim.pre_eq_preRow]; exact lifted os started H enc F)

/-- No parameter wants a stand-in; the program's own looks are off. -/
theorem plain (f : FuncId) (fn : Func) (hf : Tryd.pinned.checked.prog.funcNamed "statute/statutelaw1.CoinQuota" = some f) (hfn : Tryd.pinned.checked.prog.funcs[f]? = some fn) :
    true = Tryd.pinned.checked.prog.looks [] ∧ ∀ (j : Nat) t, fn.params[j]? = some t → Tryd.pinned.checked.prog.wantsStandIn t = false := by
  obtain rfl : f = 4 := Option.some.inj ((show Tryd.prog.funcNamed "statute/statutelaw1.CoinQuota" = some 4 by kernel_rfl).symm.trans hf) |>.symm
  obtain rfl : fn = Tryd.f4 := (Option.some.inj (Tryd.func4.symm.trans hfn)).symm
  refine ⟨by kernel_rfl, fun j t ht => ?_⟩
  rw [Tryd.params4] at ht
  have h3 : t = 3 ∨ t = 38 := by simpa using Array.mem_of_getElem? ht
  rcases h3 with rfl | rfl
  · exact (show Tryd.prog.wantsStandIn 3 = false by kernel_rfl)
  · exact (show Tryd.prog.wantsStandIn 38 = false by kernel_rfl)

/-- The tied card. -/
theorem card : Rows.CoinQuotaCardSaid :=
  Claim7.holds_tied_plain_at .later [] _ _ _ _ said (fun _ h => by cases h) (by kernel_rfl) (fun _ h => by cases h) coinQuota_row_tie rfl ⟨rfl, rfl⟩ (by kernel_rfl) rfl plain (by kernel_rfl)
end Go.Proofs.YtcccijljnjhkbaaDoor.coinQuota
