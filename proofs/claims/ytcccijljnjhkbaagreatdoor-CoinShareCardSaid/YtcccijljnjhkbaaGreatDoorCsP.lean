/- statutelaw1.CoinShare's statement: its row and its card. -/
import Derived.Test.YtcccijljnjhkbaaGreatDoorCards
import Derived.Test.YtcccijljnjhkbaaGreatDoorTie
import Derived.Test.YtcccijljnjhkbaaGreatDoorLay
import Derived.Test.YtcccijljnjhkbaaGreatDoorCs
namespace Go.Proofs.YtcccijljnjhkbaaGreatDoor.coinShare
open Go.ChangeShapes Go.WideShapes Go.ChangeAt Go.RowKit Go.Lib

theorem inList : ∀ x ∈ errList, x ∈ (Rows.coinShareRow.laid.filter fun x => x.2.handleName?.isNone) := by
  have e : (Rows.coinShareRow.laid.filter fun x => x.2.handleName?.isNone) = (Rows.coinShareRow.laid.take 4 ++ (errList ++ Rows.coinShareRow.laid.drop 16)) := by kernel_rfl
  intro x hx
  rw [e]
  exact List.mem_append_right _ (List.mem_append_left _ hx)
theorem cellsInt : Tryz.prog.cellsOf 3 = 1 := by kernel_rfl

/-- For every total and every slice of weights: true; nothing that was there has turned. -/
theorem walk (A : Option Addr) (n cap : Nat) (total : Int) (zs : List Int) (W : World) (hsh : W.ShapedOpen Tryz.prog) (hn : n ≤ 9223372036854775807) (_hz : n ≤ zs.length) (hA : A = none → n = 0)
    (hp : ∀ a, A = some a → 0 < n → a.spot = none)
    (hb : ∀ a, A = some a → 0 < n → a.block < W.heap.size) (hc : ∀ a, A = some a → ∀ i, i < n → W.cell? ⟨a.block, a.off + i, none⟩ = some (.int .i64 (zs.getD i 0)))
    (a0 : Nat → Addr) (E : Errs W a0) :
    Calls Tryz.prog 10 #[.int .i64 total, .slice A n cap] W fun e W' => e = .returned (.bool true) ∧ Below W.heap.size W W' := by
  have keep : ∀ w1, Below W.heap.size W w1 → Errs w1 a0 := fun w1 h => E.below h (Nat.le_refl _)
  by_cases h1 : 100 < n
  · exact coinShare_long A n cap total W hsh h1 hn
  by_cases h2 : 60 < n
  · exact coinShare_fails A n cap total a0 1 (by omega) W E hsh (by omega) (fun w1 hw => share_long A n cap total _ w1 h2 hn (keep w1 hw).c1) (fun w1 hw => refShare_long A n cap total w1 h2 hn)
  rcases Nat.eq_zero_or_pos n with rfl | hpos
  · exact coinShare_fails A 0 cap total a0 2 (by omega) W E hsh (by omega) (fun w1 hw => share_empty A cap total _ w1 (keep w1 hw).c2) (fun w1 hw => refShare_empty A cap total w1)
  obtain ⟨a, rfl⟩ : ∃ a, A = some a := by
    cases A with
    | none => have := hA rfl; omega
    | some a => exact ⟨a, rfl⟩
  obtain ⟨b, off, spot⟩ := a
  obtain rfl : spot = none := hp _ rfl hpos
  have hbk := hb _ rfl hpos
  have hck := hc _ rfl
  have cells : ∀ w1, Below W.heap.size W w1 → ∀ i, i < n → w1.cell? ⟨b, off + i, none⟩ = some (.int .i64 (zs.getD i 0)) := fun w1 h i hi => (h.cell (p := ⟨b, off + i, none⟩) hbk).trans (hck i hi)
  by_cases h4 : ∃ i, i < n ∧ (zs.getD i 0 < 0 ∨ 1000000 < zs.getD i 0)
  · exact coinShare_fails _ n cap total a0 2 (by omega) W E hsh (by omega) (fun w1 hw => share_bad b off n cap (fun i => zs.getD i 0) total _ w1 (by omega) (cells w1 hw) h4 (keep w1 hw).c2)
      (fun w1 hw => refShare_none b off n cap (fun i => zs.getD i 0) total w1 (by omega) (cells w1 hw) (.inl h4))
  have good : ∀ i, i < n → 0 ≤ zs.getD i 0 ∧ zs.getD i 0 ≤ 1000000 := fun i hi => by
    refine ⟨?_, ?_⟩
    · by_cases h : 0 ≤ zs.getD i 0
      · exact h
      · exact absurd ⟨i, hi, by omega⟩ h4
    · by_cases h : zs.getD i 0 ≤ 1000000
      · exact h
      · exact absurd ⟨i, hi, by omega⟩ h4
  have cast : ∀ i, i < n → ((zs.getD i 0).toNat : Int) = zs.getD i 0 := fun i hi => by have := good i hi; omega
  have bw : ∀ i, i < n → (zs.getD i 0).toNat ≤ 1000000 := fun i hi => by have := good i hi; omega
  have cellsN : ∀ w1, Below W.heap.size W w1 → ∀ i, i < n → w1.cell? ⟨b, off + i, none⟩ = some (.int .i64 ((zs.getD i 0).toNat : Int)) := fun w1 h i hi => by rw [cast i hi]; exact cells w1 h i hi
  by_cases h5 : total < -1000000000000 ∨ 1000000000000 < total ∨ sumTo (fun i => (zs.getD i 0).toNat) n = 0
  · exact coinShare_fails _ n cap total a0 2 (by omega) W E hsh (by omega) (fun w1 hw => share_none b off n cap (fun i => (zs.getD i 0).toNat) total _ w1 (by omega) (cellsN w1 hw) bw h5 (keep w1 hw).c2)
      (fun w1 hw => refShare_none b off n cap (fun i => zs.getD i 0) total w1 (by omega) (cells w1 hw) (.inr h5))
  obtain ⟨N, rfl⟩ : ∃ N, n = N + 1 := ⟨n - 1, by omega⟩
  refine coinShare_shares N b off cap (fun i => (zs.getD i 0).toNat) total total.natAbs _ (decide (total < 0)) W hsh (by omega) hbk (cellsN W (Below.refl _ _)) bw rfl (by omega) (by omega) rfl ?_
  by_cases ht : total < 0
  · rw [decide_eq_true ht, if_pos rfl]; omega
  · rw [decide_eq_false ht, if_neg (by simp)]; omega

set_option maxHeartbeats 4000000 in
set_option maxRecDepth 100000 in
theorem contract (H : Type) (enc : TypeId × Value → H) (W : World) (base : Nat) (args : Array Value) (ds gs : List (DataW H)) (before : List MemPlace)
    (hval0 : ∀ (j : Nat) t v, Tryz.f10.params[j]? = some t → args[j]? = some v → Value.okWide Tryz.prog W .any base t v)
    (hW : DataW.Whole enc Tryz.prog Tryz.f10.params.toList Rows.coinShareSpec.vars false W args.toList ds gs before) (hL : laidMetH Tryz.prog Rows.coinShareRow.laid W) (hsh : W.ShapedOpen Tryz.prog) :
    Calls Tryz.prog 10 args W fun e W' => ∃ v, e = .returned v ∧ Rows.coinShareSpec.post enc Tryz.prog Tryz.f10 false true false false W args v W' := by
  have hval := hval0
  have hW' := hW
  obtain ⟨p, q, hA0, hV0, rfl, _, _⟩ := hW
  have hA : DataW.TrodAll enc Tryz.prog W 0 (fun _ => true) true Tryz.f10.params.toList args.toList ds p := hA0
  rw [Tryz.params10] at hA hval
  obtain ⟨v0, vs0, d0, ds0, p0, q0, hargs, rfl, rfl, t0, r0⟩ := trodAll_cons hA
  obtain ⟨v1, vs1, d1, ds1, p1, q1, rfl, rfl, rfl, t1, r1⟩ := trodAll_cons r0
  obtain ⟨rfl, rfl, rfl⟩ := trodAll_nil r1
  obtain rfl : args = #[v0, v1] := by cases args; simp_all
  obtain ⟨rfl, rfl⟩ := trodVars_none hV0
  obtain ⟨total, rfl, rfl, rfl, wt⟩ := open_int Tryz.underlying3 (hval 0 3 v0 rfl rfl) t0
  have hL' : laidMet Tryz.prog (Rows.coinShareRow.laid.filter fun x => x.2.handleName?.isNone) W ∧ handlesMet Tryz.prog [("errors.errorType", Rows.laid_errors_errorType)] W := hL
  obtain ⟨a0, E⟩ := errs_of_laid hL'.1 inList hL'.2
  have hlt : ∀ x ∈ p1, x.block < W.heap.size := fun x hx => hW'.lt x (by simpa using hx)
  obtain ⟨A, n, cap, zs, rfl, hn, hz, hAn, hp, hb, hc⟩ : ∃ (A : Option Addr) (n cap : Nat) (zs : List Int), v1 = .slice A n cap ∧ n ≤ 9223372036854775807 ∧ n ≤ zs.length ∧ (A = none → n = 0) ∧ (∀ a, A = some a → 0 < n → a.spot = none) ∧
      (∀ a, A = some a → 0 < n → a.block < W.heap.size) ∧ (∀ a, A = some a → ∀ i, i < n → W.cell? ⟨a.block, a.off + i, none⟩ = some (.int .i64 (zs.getD i 0))) := by
    obtain ⟨A, n, cap, rfl⟩ := okWide_slice Tryz.underlying89 (hval 1 89 v1 rfl rfl)
    obtain ⟨f1, hf⟩ := t1
    rcases open_ints Tryz.underlying89 Tryz.underlying3 cellsInt hf with ⟨e, _⟩ | ⟨a, n', cap', zs, e, _, hl, hm, hzl, hx, hcell, _⟩
    · obtain ⟨rfl, rfl, rfl⟩ : A = none ∧ n = 0 ∧ cap = 0 := by simpa [Value.cells] using e
      exact ⟨none, 0, 0, [], rfl, by omega, by simp, fun _ => rfl, (fun a h => by cases h), (fun a h => by cases h), (fun a h => by cases h)⟩
    · obtain ⟨rfl, rfl, rfl⟩ : A = some a ∧ n = n' ∧ cap = cap' := by simpa [Value.cells] using e
      simp only [if_true] at hzl
      have hcell0 : 0 < n → W.cell? a = some (.int .i64 (zs.getD 0 0)) := fun h => by simpa [Addr.add] using hcell 0 (by omega)
      refine ⟨some a, n, cap, zs, rfl, by unfold maxLen at hm; omega, by omega, (fun h => by cases h), (fun a' h h0 => ?_), (fun a' h h0 => ?_), (fun a' h i hi => ?_)⟩
      · cases h; exact World.cell?_spot (hcell0 h0)
      · cases h; exact World.block_lt_of_cell? _ _ (hcell0 h0)
      · cases h
        have hs := World.cell?_spot (hcell0 (by omega))
        have := hcell i (by omega)
        obtain ⟨b, off, spot⟩ := a
        simp only at hs
        subst hs
        rwa [Lib.add_plain] at this
  refine (walk A n cap total zs W hsh hn hz hAn hp hb hc a0 E).mono ?_
  rintro e W' ⟨rfl, bel⟩
  refine ⟨_, rfl, _, _, _, [], [] ++ p1, [], hW', ?_, ?_, ?_, bel.frame _, fun h => by cases h⟩
  · exact trodAll_mk1 (shut_bool Tryz.underlying4 _)
  · exact trodAll_mk2 (shut_int Tryz.underlying3 wt) (Below.trod laidOut (by kernel_rfl) (of_decide_eq_true (by kernel_rfl)) t1 bel hlt)
  · rfl

theorem laid_met (os : Os) (args : Array Value) : laidMetH Tryz.prog Rows.coinShareRow.laid ((laidWorld os).forCall (fun _ _ => 0) ⟨#[], args, []⟩).memory :=
  laidMetH_of_parts (laidMet_of_run' 8 (by kernel_rfl) (by kernel_rfl)) (by kernel_rfl)
theorem reads (os : Os) {H : Type} (enc : TypeId × Value → H) : ∃ places, DataW.whole enc Tryz.prog ((laidWorld os).forCall (fun _ _ => 0) ⟨#[], #[.int .i64 0, .slice none 0 0], []⟩).memory Tryz.f10.params.toList Rows.coinShareSpec.vars false #[Value.int .i64 0, .slice none 0 0].toList 8 = some ([.lit (.int .i64 0), .nil], [], places) :=
  ⟨[], by kernel_rfl⟩

set_option maxRecDepth 100000 in
theorem lifted (os : Os) (started : os.Started) (H : Type) (enc : TypeId × Value → H) (F : Stop.Interp) :
    ReturnsInHanded {} Tryz.checked os 10 .any ((OpenSpec.ofChange Rows.coinShareSpec).preRow enc Tryz.prog Tryz.f10 Rows.coinShareRow.domain false Rows.coinShareRow.laid) (((OpenSpec.ofChange Rows.coinShareSpec).at F).post enc Tryz.prog Tryz.f10 false true false false) := by
  obtain ⟨places, hx⟩ := reads os enc
  refine returnsInHanded_of_row (C := Tryz.checked) (s := OpenSpec.ofChange Rows.coinShareSpec) ownKnobs started (by kernel_rfl) Tryz.func10
    (witness_row_atRef (enc := enc) (C := Tryz.checked) false (laidWorld os) #[.int .i64 0, .slice none 0 0] rfl (by kernel_rfl) (by kernel_rfl) (by kernel_rfl)
      (OpenSpec.preRow_of_cond 8 hx (by kernel_rfl) (fun k hk => by cases hk) (by kernel_rfl) (laid_met os _))) ?_
  intro W base args ds gs before hval hW _ _ _ hL hsh _
  exact contract H enc W base args ds gs before hval hW hL hsh

theorem k_inPlace : (Rows.coinShareRow.inPlace == Tryz.pinned.checked.prog.inPlace 10) = true := by kernel_rfl
theorem k_unfollowed : (Rows.coinShareRow.unfollowed == Tryz.pinned.checked.prog.unfollowed 10) = true := by kernel_rfl
theorem k_recurses : (Rows.coinShareRow.recurses == Tryz.pinned.checked.prog.recurses 10) = true := by kernel_rfl
theorem k_named : (Rows.coinShareRow.named == Tryz.pinned.checked.prog.varsNamed 10) = true := by kernel_rfl
theorem k_plainKeys : (Rows.coinShareRow.plainKeys == Tryz.pinned.checked.prog.plainKeys) = true := by kernel_rfl
theorem k_stopsHeard : Tryz.pinned.checked.prog.stopsHeard = true := by kernel_rfl
theorem k_mayEnter : Tryz.pinned.checked.prog.mayEnter = true := by kernel_rfl
theorem k_laidOut : laidOutB Tryz.pinned.checked.prog = true := by kernel_rfl
theorem k_mapsRowed : mapsRowed Tryz.pinned.checked.prog = true := by kernel_rfl
theorem closed : joinedFacts Tryz.pinned.checked.prog 10 Tryz.f10 (OpenSpec.ofChange Rows.coinShareSpec).bare Rows.coinShareRow = true := by
  unfold joinedFacts
  rw [k_inPlace, k_unfollowed, k_recurses, k_named, k_plainKeys, k_stopsHeard, k_mayEnter, k_laidOut, k_mapsRowed]
  kernel_rfl
theorem named : Tryz.pinned.checked.prog.funcNamed Rows.coinShareRow.func = some 10 := by kernel_rfl
theorem inst : Tryz.f10.isInstance Tryz.pinned.checked.prog Rows.coinShareRow.origin Rows.coinShareRow.targs := of_decide_eq_true (by kernel_rfl)
theorem wrap : Tryz.f10.isWrapper Tryz.pinned.checked.prog Rows.coinShareRow.wrapper Rows.coinShareRow.mainSum := by unfold Func.isWrapper; first | (rw [if_pos (by decide +kernel)]; kernel_rfl) | (rw [if_neg (by decide +kernel)]; exact ⟨rfl, rfl⟩)
theorem said : Rows.CoinShareSaid :=
  OpenClaim.holds_of_cond 10 Tryz.f10 rfl rfl rfl rfl rfl rfl rfl ⟨rfl, rfl, rfl, rfl, rfl⟩ rfl rfl rfl rfl rfl named Tryz.func10 closed inst wrap
    (fun os started H enc _ F => by rw [OpenClaim.pre_eq_preRow]; exact lifted os started H enc F)

/-- No parameter wants a stand-in; the program's own looks are off. -/
theorem plain (f : FuncId) (fn : Func) (hf : Tryz.pinned.checked.prog.funcNamed "statute/statutelaw1.CoinShare" = some f) (hfn : Tryz.pinned.checked.prog.funcs[f]? = some fn) :
    true = Tryz.pinned.checked.prog.looks [] ∧ ∀ (j : Nat) t, fn.params[j]? = some t → Tryz.pinned.checked.prog.wantsStandIn t = false := by
  obtain rfl : f = 10 := Option.some.inj ((show Tryz.prog.funcNamed "statute/statutelaw1.CoinShare" = some 10 by kernel_rfl).symm.trans hf) |>.symm
  obtain rfl : fn = Tryz.f10 := (Option.some.inj (Tryz.func10.symm.trans hfn)).symm
  refine ⟨by kernel_rfl, fun j t ht => ?_⟩
  rw [Tryz.params10] at ht
  have h3 : t = 3 ∨ t = 89 := by simpa using Array.mem_of_getElem? ht
  rcases h3 with rfl | rfl
  · exact (show Tryz.prog.wantsStandIn 3 = false by kernel_rfl)
  · exact (show Tryz.prog.wantsStandIn 89 = false by kernel_rfl)

/-- The tied card. -/
theorem card : Rows.CoinShareCardSaid :=
  Claim7.holds_tied_plain_at .later [] _ _ _ _ said (fun _ h => by cases h) (by kernel_rfl) (fun _ h => by cases h) coinShare_row_tie rfl ⟨rfl, rfl⟩ (by kernel_rfl) rfl plain (by kernel_rfl)
end Go.Proofs.YtcccijljnjhkbaaGreatDoor.coinShare
