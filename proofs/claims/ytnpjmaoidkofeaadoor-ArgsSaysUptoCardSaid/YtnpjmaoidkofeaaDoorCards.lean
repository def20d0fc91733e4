/-
  DERIVED. GIVEN WITH THE SEED: THE CARDS: each row of YtnpjmaoidkofeaaDoorRows.lean that lists a variable, with what it lists TIED to the program's text (the seventh form; the later family's looks); each row that meets fmt, with fmt's text TOLD by the authors' own Lean function (tested against real Go, not proved from fmt's source: count such statements apart). THE CARD IS WHAT COUNTS. Prove the row's statement (the work); the ties are given (YtnpjmaoidkofeaaDoorTie.lean); close each card by the builder's one call (the guide's Derived/Test/ToyasCard.lean, 'card_holds'). Laid BY PROGRAM, IN A SANDBOX (cutbox-door.mjs). By AI agents, Wed Nov 11 2026. No macro, syntax, notation, axiom, sorry.
-/
import Derived.Test.YtnpjmaoidkofeaaDoorRows
import GoSem.ClaimSeven
namespace Go.Proofs.YtnpjmaoidkofeaaDoor
namespace Rows

/-- THE TIED CARD OF 'wicklaw.HeadReads'. -/
def headReadsCard : Claim7 := { stood := { row := headReadsRow, standIns := [], harness := (true, "279fe8c1d04346e3e20a970bae3e05ca8a3be2b9ff1d2f7fe8b4e7d6fce62b74"), looks := false }, kinds := [], alts := [], laidByText := true, laidKinds := [.data, .pinned], laidTests := true, laidLooks := .later }
def HeadReadsCardSaid : Prop := Claim7.holds Tryd.pinned (.plain (OpenSpec.ofChange headReadsSpec)) headReadsCard

/-- THE TIED CARD OF 'wicklaw.FrameSays'. -/
def frameSaysCard : Claim7 := { stood := { row := frameSaysRow, standIns := [], harness := (true, "279fe8c1d04346e3e20a970bae3e05ca8a3be2b9ff1d2f7fe8b4e7d6fce62b74"), looks := false }, kinds := [], alts := [], laidByText := true, laidKinds := [.data, .data, .data], laidTests := true, laidLooks := .later }
def FrameSaysCardSaid : Prop := Claim7.holds Tryd.pinned (.plain (OpenSpec.ofChange frameSaysSpec)) frameSaysCard

/-- THE TIED CARD OF 'wicklaw.ArgsSays'. -/
def argsSaysCard : Claim7 := { stood := { row := argsSaysRow, standIns := [], harness := (true, "279fe8c1d04346e3e20a970bae3e05ca8a3be2b9ff1d2f7fe8b4e7d6fce62b74"), looks := false }, kinds := [], alts := [], laidByText := true, laidKinds := [.data, .pinned], laidTests := true, laidLooks := .later }
def ArgsSaysCardSaid : Prop := Claim7.holds Tryd.pinned (.plain (OpenSpec.ofChange argsSaysSpec)) argsSaysCard

/-- THE SECOND FORM's CARD OF 'wicklaw.HeadReads'. -/
def headReadsUptoCard : Claim7 := { stood := { row := headReadsUptoRow, standIns := [], harness := (true, "279fe8c1d04346e3e20a970bae3e05ca8a3be2b9ff1d2f7fe8b4e7d6fce62b74"), looks := false }, kinds := [], alts := [], laidByText := true, laidKinds := [.data, .pinned], laidTests := true, laidLooks := .later }
def HeadReadsUptoCardSaid : Prop := Claim7.holds Tryd.pinned (.plain (OpenSpec.upto headReadsSpec)) headReadsUptoCard

/-- THE SECOND FORM's CARD OF 'wicklaw.FrameSays'. -/
def frameSaysUptoCard : Claim7 := { stood := { row := frameSaysUptoRow, standIns := [], harness := (true, "279fe8c1d04346e3e20a970bae3e05ca8a3be2b9ff1d2f7fe8b4e7d6fce62b74"), looks := false }, kinds := [], alts := [], laidByText := true, laidKinds := [.data, .data, .data], laidTests := true, laidLooks := .later }
def FrameSaysUptoCardSaid : Prop := Claim7.holds Tryd.pinned (.plain (OpenSpec.upto frameSaysSpec)) frameSaysUptoCard

/-- THE SECOND FORM's CARD OF 'wicklaw.ArgsSays'. -/
def argsSaysUptoCard : Claim7 := { stood := { row := argsSaysUptoRow, standIns := [], harness := (true, "279fe8c1d04346e3e20a970bae3e05ca8a3be2b9ff1d2f7fe8b4e7d6fce62b74"), looks := false }, kinds := [], alts := [], laidByText := true, laidKinds := [.data, .pinned], laidTests := true, laidLooks := .later }
def ArgsSaysUptoCardSaid : Prop := Claim7.holds Tryd.pinned (.plain (OpenSpec.upto argsSaysSpec)) argsSaysUptoCard
end Rows
end Go.Proofs.YtnpjmaoidkofeaaDoor
