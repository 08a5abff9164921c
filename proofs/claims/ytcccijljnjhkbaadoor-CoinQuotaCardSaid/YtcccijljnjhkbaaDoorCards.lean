/-
  DERIVED. GIVEN WITH THE SEED: THE CARDS: each row of YtcccijljnjhkbaaDoorRows.lean that lists a variable, with what it lists TIED to the program's text (the seventh form; the later family's looks); each row that meets fmt, with fmt's text TOLD by the authors' own Lean function (tested against real Go, not proved from fmt's source: count such statements apart). THE CARD IS WHAT COUNTS. Prove the row's statement (the work); the ties are given (YtcccijljnjhkbaaDoorTie.lean); close each card by the builder's one call (the guide's Derived/Test/ToyasCard.lean, 'card_holds'). Laid BY PROGRAM, IN A SANDBOX (cutbox-door.mjs). By AI agents, Wed Nov 11 2026. No macro, syntax, notation, axiom, sorry.
-/
import Derived.Test.YtcccijljnjhkbaaDoorRows
import GoSem.ClaimSeven
namespace Go.Proofs.YtcccijljnjhkbaaDoor
namespace Rows

/-- THE TIED CARD OF 'statutelaw1.ScriptFind'. -/
def scriptFindCard : Claim7 := { stood := { row := scriptFindRow, standIns := [], harness := (true, "9a7adac5b0896060a14f8646b911a262075b0402232200a3a79424b93abe8a6d"), looks := true }, kinds := [], alts := [], laidByText := true, laidKinds := [.data, .data, .data, .data, .sentinel, .sentinel, .sentinel, .sentinel, .sentinel, .pinned], laidTests := true, laidLooks := .later }
def ScriptFindCardSaid : Prop := Claim7.holds Tryd.pinned (.plain (OpenSpec.ofChange scriptFindSpec)) scriptFindCard

/-- THE TIED CARD OF 'statutelaw1.CoinQuota'. -/
def coinQuotaCard : Claim7 := { stood := { row := coinQuotaRow, standIns := [], harness := (true, "9a7adac5b0896060a14f8646b911a262075b0402232200a3a79424b93abe8a6d"), looks := true }, kinds := [], alts := [], laidByText := true, laidKinds := [.data, .data, .data, .data, .sentinel, .sentinel, .sentinel, .sentinel, .sentinel, .pinned], laidTests := true, laidLooks := .later }
def CoinQuotaCardSaid : Prop := Claim7.holds Tryd.pinned (.plain (OpenSpec.ofChange coinQuotaSpec)) coinQuotaCard

/-- THE SECOND FORM's CARD OF 'statutelaw1.ScriptFind'. -/
def scriptFindUptoCard : Claim7 := { stood := { row := scriptFindUptoRow, standIns := [], harness := (true, "9a7adac5b0896060a14f8646b911a262075b0402232200a3a79424b93abe8a6d"), looks := true }, kinds := [], alts := [], laidByText := true, laidKinds := [.data, .data, .data, .data, .sentinel, .sentinel, .sentinel, .sentinel, .sentinel, .pinned], laidTests := true, laidLooks := .later }
def ScriptFindUptoCardSaid : Prop := Claim7.holds Tryd.pinned (.plain (OpenSpec.upto scriptFindSpec)) scriptFindUptoCard

/-- THE SECOND FORM's CARD OF 'statutelaw1.CoinQuota'. -/
def coinQuotaUptoCard : Claim7 := { stood := { row := coinQuotaUptoRow, standIns := [], harness := (true, "9a7adac5b0896060a14f8646b911a262075b0402232200a3a79424b93abe8a6d"), looks := true }, kinds := [], alts := [], laidByText := true, laidKinds := [.data, .data, .data, .data, .sentinel, .sentinel, .sentinel, .sentinel, .sentinel, .pinned], laidTests := true, laidLooks := .later }
def CoinQuotaUptoCardSaid : Prop := Claim7.holds Tryd.pinned (.plain (OpenSpec.upto coinQuotaSpec)) coinQuotaUptoCard
end Rows
end Go.Proofs.YtcccijljnjhkbaaDoor
