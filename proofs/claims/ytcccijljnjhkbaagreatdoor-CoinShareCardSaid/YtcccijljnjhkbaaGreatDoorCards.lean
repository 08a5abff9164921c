/-
  DERIVED. GIVEN WITH THE SEED: THE CARDS: each row of YtcccijljnjhkbaaGreatDoorRows.lean that lists a variable, with what it lists TIED to the program's text (the seventh form; the later family's looks); each row that meets fmt, with fmt's text TOLD by the authors' own Lean function (tested against real Go, not proved from fmt's source: count such statements apart). THE CARD IS WHAT COUNTS. Prove the row's statement (the work); the ties are given (YtcccijljnjhkbaaGreatDoorTie.lean); close each card by the builder's one call (the guide's Derived/Test/ToyasCard.lean, 'card_holds'). Laid BY PROGRAM, IN A SANDBOX (cutbox-door.mjs). By AI agents, Wed Nov 11 2026. No macro, syntax, notation, axiom, sorry.
-/
import Derived.Test.YtcccijljnjhkbaaGreatDoorRows
import GoSem.ClaimSeven
namespace Go.Proofs.YtcccijljnjhkbaaGreatDoor
namespace Rows

/-- THE TIED CARD OF 'statutelaw3.TermsRead'. -/
def termsReadCard : Claim7 := { stood := { row := termsReadRow, standIns := [], harness := (true, "1f62137eca0081e23a45fe620aa5ec6001e3d91530d1dfd556708b287d7579c0"), looks := true }, kinds := [], alts := [], laidByText := true, laidKinds := [.data, .data, .data, .handle, .sentinel, .sentinel, .sentinel, .sentinel, .sentinel, .sentinel, .sentinel, .sentinel, .sentinel, .sentinel, .sentinel, .sentinel, .sentinel], laidTests := true, laidLooks := .later }
def TermsReadCardSaid : Prop := Claim7.holds Tryz.pinned (.plain (OpenSpec.ofChange termsReadSpec)) termsReadCard

/-- THE TIED CARD OF 'statutelaw3.TermsBack'. -/
def termsBackCard : Claim7 := { stood := { row := termsBackRow, standIns := [], harness := (true, "1f62137eca0081e23a45fe620aa5ec6001e3d91530d1dfd556708b287d7579c0"), looks := true }, kinds := [], alts := [], laidByText := true, laidKinds := [.data, .data, .data, .sentinel, .sentinel, .sentinel, .sentinel], laidTests := true, laidLooks := .later }
def TermsBackCardSaid : Prop := Claim7.holds Tryz.pinned (.plain (OpenSpec.ofChange termsBackSpec)) termsBackCard

/-- THE TIED CARD OF 'statutelaw3.TermsScope'. -/
def termsScopeCard : Claim7 := { stood := { row := termsScopeRow, standIns := [], harness := (true, "1f62137eca0081e23a45fe620aa5ec6001e3d91530d1dfd556708b287d7579c0"), looks := true }, kinds := [], alts := [], laidByText := true, laidKinds := [.data, .data, .data, .handle, .sentinel, .sentinel, .sentinel, .sentinel, .sentinel, .sentinel, .sentinel, .sentinel, .sentinel, .sentinel, .sentinel, .sentinel, .sentinel], laidTests := true, laidLooks := .later }
def TermsScopeCardSaid : Prop := Claim7.holds Tryz.pinned (.plain (OpenSpec.ofChange termsScopeSpec)) termsScopeCard

/-- THE TIED CARD OF 'statutelaw1.ScriptRead'. -/
def scriptReadCard : Claim7 := { stood := { row := scriptReadRow, standIns := [], harness := (true, "1f62137eca0081e23a45fe620aa5ec6001e3d91530d1dfd556708b287d7579c0"), looks := true }, kinds := [], alts := [], laidByText := true, laidKinds := [.data, .data, .data, .data, .handle, .sentinel, .sentinel, .sentinel, .sentinel, .sentinel, .sentinel, .sentinel, .sentinel, .sentinel, .sentinel, .sentinel, .sentinel, .sentinel, .pinned], laidTests := true, laidLooks := .later }
def ScriptReadCardSaid : Prop := Claim7.holds Tryz.pinned (.plain (OpenSpec.ofChange scriptReadSpec)) scriptReadCard

/-- THE TIED CARD OF 'statutelaw1.ScriptBack'. -/
def scriptBackCard : Claim7 := { stood := { row := scriptBackRow, standIns := [], harness := (true, "1f62137eca0081e23a45fe620aa5ec6001e3d91530d1dfd556708b287d7579c0"), looks := true }, kinds := [], alts := [], laidByText := true, laidKinds := [.data, .data, .data, .data, .sentinel, .sentinel, .sentinel, .sentinel, .sentinel, .pinned], laidTests := true, laidLooks := .later }
def ScriptBackCardSaid : Prop := Claim7.holds Tryz.pinned (.plain (OpenSpec.ofChange scriptBackSpec)) scriptBackCard

/-- THE TIED CARD OF 'statutelaw2.AmendFolds'. -/
def amendFoldsCard : Claim7 := { stood := { row := amendFoldsRow, standIns := [], harness := (true, "1f62137eca0081e23a45fe620aa5ec6001e3d91530d1dfd556708b287d7579c0"), looks := true }, kinds := [], alts := [], laidByText := true, laidKinds := [.data, .data, .data, .data, .sentinel, .sentinel, .sentinel, .sentinel, .sentinel, .sentinel, .sentinel, .sentinel, .sentinel, .pinned], laidTests := true, laidLooks := .later }
def AmendFoldsCardSaid : Prop := Claim7.holds Tryz.pinned (.plain (OpenSpec.ofChange amendFoldsSpec)) amendFoldsCard

/-- THE TIED CARD OF 'statutelaw3.TermsWrites'. -/
def termsWritesCard : Claim7 := { stood := { row := termsWritesRow, standIns := [], harness := (true, "1f62137eca0081e23a45fe620aa5ec6001e3d91530d1dfd556708b287d7579c0"), looks := true }, kinds := [], alts := [], laidByText := true, laidKinds := [.data, .data, .data, .handle, .sentinel, .sentinel, .sentinel, .sentinel, .sentinel, .sentinel, .sentinel, .sentinel, .sentinel, .sentinel, .sentinel, .sentinel, .sentinel], laidTests := true, laidLooks := .later }
def TermsWritesCardSaid : Prop := Claim7.holds Tryz.pinned (.plain (OpenSpec.ofChange termsWritesSpec)) termsWritesCard

/-- THE TIED CARD OF 'statutelaw1.CoinShare'. -/
def coinShareCard : Claim7 := { stood := { row := coinShareRow, standIns := [], harness := (true, "1f62137eca0081e23a45fe620aa5ec6001e3d91530d1dfd556708b287d7579c0"), looks := true }, kinds := [], alts := [], laidByText := true, laidKinds := [.data, .data, .data, .data, .handle, .sentinel, .sentinel, .sentinel, .sentinel, .sentinel, .sentinel, .sentinel, .sentinel, .sentinel, .sentinel, .sentinel, .sentinel, .sentinel, .pinned], laidTests := true, laidLooks := .later }
def CoinShareCardSaid : Prop := Claim7.holds Tryz.pinned (.plain (OpenSpec.ofChange coinShareSpec)) coinShareCard

/-- THE TIED CARD OF 'statutelaw1.ScriptWrites'. -/
def scriptWritesCard : Claim7 := { stood := { row := scriptWritesRow, standIns := [], harness := (true, "1f62137eca0081e23a45fe620aa5ec6001e3d91530d1dfd556708b287d7579c0"), looks := true }, kinds := [], alts := [], laidByText := true, laidKinds := [.data, .data, .data, .data, .handle, .sentinel, .sentinel, .sentinel, .sentinel, .sentinel, .sentinel, .sentinel, .sentinel, .sentinel, .sentinel, .sentinel, .sentinel, .sentinel, .pinned], laidTests := true, laidLooks := .later }
def ScriptWritesCardSaid : Prop := Claim7.holds Tryz.pinned (.plain (OpenSpec.ofChange scriptWritesSpec)) scriptWritesCard

/-- THE TIED CARD OF 'statutelaw2.AmendApplies'. -/
def amendAppliesCard : Claim7 := { stood := { row := amendAppliesRow, standIns := [], harness := (true, "1f62137eca0081e23a45fe620aa5ec6001e3d91530d1dfd556708b287d7579c0"), looks := true }, kinds := [], alts := [], laidByText := true, laidKinds := [.data, .data, .data, .data, .handle, .sentinel, .sentinel, .sentinel, .sentinel, .sentinel, .sentinel, .sentinel, .sentinel, .sentinel, .sentinel, .sentinel, .sentinel, .sentinel, .pinned], laidTests := true, laidLooks := .later }
def AmendAppliesCardSaid : Prop := Claim7.holds Tryz.pinned (.plain (OpenSpec.ofChange amendAppliesSpec)) amendAppliesCard

/-- THE SECOND FORM's CARD OF 'statutelaw3.TermsRead'. -/
def termsReadUptoCard : Claim7 := { stood := { row := termsReadUptoRow, standIns := [], harness := (true, "1f62137eca0081e23a45fe620aa5ec6001e3d91530d1dfd556708b287d7579c0"), looks := true }, kinds := [], alts := [], laidByText := true, laidKinds := [.data, .data, .data, .handle, .sentinel, .sentinel, .sentinel, .sentinel, .sentinel, .sentinel, .sentinel, .sentinel, .sentinel, .sentinel, .sentinel, .sentinel, .sentinel], laidTests := true, laidLooks := .later }
def TermsReadUptoCardSaid : Prop := Claim7.holds Tryz.pinned (.plain (OpenSpec.upto termsReadSpec)) termsReadUptoCard

/-- THE SECOND FORM's CARD OF 'statutelaw3.TermsBack'. -/
def termsBackUptoCard : Claim7 := { stood := { row := termsBackUptoRow, standIns := [], harness := (true, "1f62137eca0081e23a45fe620aa5ec6001e3d91530d1dfd556708b287d7579c0"), looks := true }, kinds := [], alts := [], laidByText := true, laidKinds := [.data, .data, .data, .sentinel, .sentinel, .sentinel, .sentinel], laidTests := true, laidLooks := .later }
def TermsBackUptoCardSaid : Prop := Claim7.holds Tryz.pinned (.plain (OpenSpec.upto termsBackSpec)) termsBackUptoCard

/-- THE SECOND FORM's CARD OF 'statutelaw3.TermsScope'. -/
def termsScopeUptoCard : Claim7 := { stood := { row := termsScopeUptoRow, standIns := [], harness := (true, "1f62137eca0081e23a45fe620aa5ec6001e3d91530d1dfd556708b287d7579c0"), looks := true }, kinds := [], alts := [], laidByText := true, laidKinds := [.data, .data, .data, .handle, .sentinel, .sentinel, .sentinel, .sentinel, .sentinel, .sentinel, .sentinel, .sentinel, .sentinel, .sentinel, .sentinel, .sentinel, .sentinel], laidTests := true, laidLooks := .later }
def TermsScopeUptoCardSaid : Prop := Claim7.holds Tryz.pinned (.plain (OpenSpec.upto termsScopeSpec)) termsScopeUptoCard

/-- THE SECOND FORM's CARD OF 'statutelaw1.ScriptRead'. -/
def scriptReadUptoCard : Claim7 := { stood := { row := scriptReadUptoRow, standIns := [], harness := (true, "1f62137eca0081e23a45fe620aa5ec6001e3d91530d1dfd556708b287d7579c0"), looks := true }, kinds := [], alts := [], laidByText := true, laidKinds := [.data, .data, .data, .data, .handle, .sentinel, .sentinel, .sentinel, .sentinel, .sentinel, .sentinel, .sentinel, .sentinel, .sentinel, .sentinel, .sentinel, .sentinel, .sentinel, .pinned], laidTests := true, laidLooks := .later }
def ScriptReadUptoCardSaid : Prop := Claim7.holds Tryz.pinned (.plain (OpenSpec.upto scriptReadSpec)) scriptReadUptoCard

/-- THE SECOND FORM's CARD OF 'statutelaw1.ScriptBack'. -/
def scriptBackUptoCard : Claim7 := { stood := { row := scriptBackUptoRow, standIns := [], harness := (true, "1f62137eca0081e23a45fe620aa5ec6001e3d91530d1dfd556708b287d7579c0"), looks := true }, kinds := [], alts := [], laidByText := true, laidKinds := [.data, .data, .data, .data, .sentinel, .sentinel, .sentinel, .sentinel, .sentinel, .pinned], laidTests := true, laidLooks := .later }
def ScriptBackUptoCardSaid : Prop := Claim7.holds Tryz.pinned (.plain (OpenSpec.upto scriptBackSpec)) scriptBackUptoCard

/-- THE SECOND FORM's CARD OF 'statutelaw2.AmendFolds'. -/
def amendFoldsUptoCard : Claim7 := { stood := { row := amendFoldsUptoRow, standIns := [], harness := (true, "1f62137eca0081e23a45fe620aa5ec6001e3d91530d1dfd556708b287d7579c0"), looks := true }, kinds := [], alts := [], laidByText := true, laidKinds := [.data, .data, .data, .data, .sentinel, .sentinel, .sentinel, .sentinel, .sentinel, .sentinel, .sentinel, .sentinel, .sentinel, .pinned], laidTests := true, laidLooks := .later }
def AmendFoldsUptoCardSaid : Prop := Claim7.holds Tryz.pinned (.plain (OpenSpec.upto amendFoldsSpec)) amendFoldsUptoCard

/-- THE SECOND FORM's CARD OF 'statutelaw3.TermsWrites'. -/
def termsWritesUptoCard : Claim7 := { stood := { row := termsWritesUptoRow, standIns := [], harness := (true, "1f62137eca0081e23a45fe620aa5ec6001e3d91530d1dfd556708b287d7579c0"), looks := true }, kinds := [], alts := [], laidByText := true, laidKinds := [.data, .data, .data, .handle, .sentinel, .sentinel, .sentinel, .sentinel, .sentinel, .sentinel, .sentinel, .sentinel, .sentinel, .sentinel, .sentinel, .sentinel, .sentinel], laidTests := true, laidLooks := .later }
def TermsWritesUptoCardSaid : Prop := Claim7.holds Tryz.pinned (.plain (OpenSpec.upto termsWritesSpec)) termsWritesUptoCard

/-- THE SECOND FORM's CARD OF 'statutelaw1.CoinShare'. -/
def coinShareUptoCard : Claim7 := { stood := { row := coinShareUptoRow, standIns := [], harness := (true, "1f62137eca0081e23a45fe620aa5ec6001e3d91530d1dfd556708b287d7579c0"), looks := true }, kinds := [], alts := [], laidByText := true, laidKinds := [.data, .data, .data, .data, .handle, .sentinel, .sentinel, .sentinel, .sentinel, .sentinel, .sentinel, .sentinel, .sentinel, .sentinel, .sentinel, .sentinel, .sentinel, .sentinel, .pinned], laidTests := true, laidLooks := .later }
def CoinShareUptoCardSaid : Prop := Claim7.holds Tryz.pinned (.plain (OpenSpec.upto coinShareSpec)) coinShareUptoCard

/-- THE SECOND FORM's CARD OF 'statutelaw1.ScriptWrites'. -/
def scriptWritesUptoCard : Claim7 := { stood := { row := scriptWritesUptoRow, standIns := [], harness := (true, "1f62137eca0081e23a45fe620aa5ec6001e3d91530d1dfd556708b287d7579c0"), looks := true }, kinds := [], alts := [], laidByText := true, laidKinds := [.data, .data, .data, .data, .handle, .sentinel, .sentinel, .sentinel, .sentinel, .sentinel, .sentinel, .sentinel, .sentinel, .sentinel, .sentinel, .sentinel, .sentinel, .sentinel, .pinned], laidTests := true, laidLooks := .later }
def ScriptWritesUptoCardSaid : Prop := Claim7.holds Tryz.pinned (.plain (OpenSpec.upto scriptWritesSpec)) scriptWritesUptoCard

/-- THE SECOND FORM's CARD OF 'statutelaw2.AmendApplies'. -/
def amendAppliesUptoCard : Claim7 := { stood := { row := amendAppliesUptoRow, standIns := [], harness := (true, "1f62137eca0081e23a45fe620aa5ec6001e3d91530d1dfd556708b287d7579c0"), looks := true }, kinds := [], alts := [], laidByText := true, laidKinds := [.data, .data, .data, .data, .handle, .sentinel, .sentinel, .sentinel, .sentinel, .sentinel, .sentinel, .sentinel, .sentinel, .sentinel, .sentinel, .sentinel, .sentinel, .sentinel, .pinned], laidTests := true, laidLooks := .later }
def AmendAppliesUptoCardSaid : Prop := Claim7.holds Tryz.pinned (.plain (OpenSpec.upto amendAppliesSpec)) amendAppliesUptoCard
end Rows
end Go.Proofs.YtcccijljnjhkbaaGreatDoor
