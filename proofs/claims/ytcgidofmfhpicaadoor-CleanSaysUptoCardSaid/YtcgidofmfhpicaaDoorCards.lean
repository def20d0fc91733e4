/-
  DERIVED. GIVEN WITH THE SEED: THE CARDS: each row of YtcgidofmfhpicaaDoorRows.lean that lists a variable, with what it lists TIED to the program's text (the seventh form; the later family's looks); each row that meets fmt, with fmt's text TOLD by the authors' own Lean function (tested against real Go, not proved from fmt's source: count such statements apart). THE CARD IS WHAT COUNTS. Prove the row's statement (the work); the ties are given (YtcgidofmfhpicaaDoorTie.lean); close each card by the builder's one call (the guide's Derived/Test/ToyasCard.lean, 'card_holds'). Laid BY PROGRAM, IN A SANDBOX (cutbox-door.mjs). By AI agents, Wed Nov 11 2026. No macro, syntax, notation, axiom, sorry.
-/
import Derived.Test.YtcgidofmfhpicaaDoorRows
import GoSem.ClaimSeven
namespace Go.Proofs.YtcgidofmfhpicaaDoor
namespace Rows

/-- THE TIED CARD OF 'wicklaw.CleanSays'. -/
def cleanSaysCard : Claim7 := { stood := { row := cleanSaysRow, standIns := [], harness := (true, "9767fb7c0baa1df3b16154bc9b3e0133d87b6710085831f0779a95a88307d74f"), looks := false }, kinds := [], alts := [], laidByText := true, laidKinds := [.data, .pinned], laidTests := true, laidLooks := .later }
def CleanSaysCardSaid : Prop := Claim7.holds Tryd.pinned (.plain (OpenSpec.ofChange cleanSaysSpec)) cleanSaysCard

/-- THE TIED CARD OF 'wicklaw.NetsBytes'. -/
def netsBytesCard : Claim7 := { stood := { row := netsBytesRow, standIns := [], harness := (true, "9767fb7c0baa1df3b16154bc9b3e0133d87b6710085831f0779a95a88307d74f"), looks := false }, kinds := [], alts := [], laidByText := true, laidKinds := [.data, .pinned], laidTests := true, laidLooks := .later }
def NetsBytesCardSaid : Prop := Claim7.holds Tryd.pinned (.plain (OpenSpec.ofChange netsBytesSpec)) netsBytesCard

/-- THE TIED CARD OF 'wicklaw.HeadReads'. -/
def headReadsCard : Claim7 := { stood := { row := headReadsRow, standIns := [], harness := (true, "9767fb7c0baa1df3b16154bc9b3e0133d87b6710085831f0779a95a88307d74f"), looks := false }, kinds := [], alts := [], laidByText := true, laidKinds := [.data, .pinned], laidTests := true, laidLooks := .later }
def HeadReadsCardSaid : Prop := Claim7.holds Tryd.pinned (.plain (OpenSpec.ofChange headReadsSpec)) headReadsCard

/-- THE TIED CARD OF 'wicklaw.PipeReads'. -/
def pipeReadsCard : Claim7 := { stood := { row := pipeReadsRow, standIns := [], harness := (true, "9767fb7c0baa1df3b16154bc9b3e0133d87b6710085831f0779a95a88307d74f"), looks := false }, kinds := [], alts := [], laidByText := true, laidKinds := [.data, .widerDeep, .pinned], laidTests := true, laidLooks := .later }
def PipeReadsCardSaid : Prop := Claim7.holds Tryd.pinned (.plain (OpenSpec.ofChange pipeReadsSpec)) pipeReadsCard

/-- THE TIED CARD OF 'wicklaw.FrameSays'. -/
def frameSaysCard : Claim7 := { stood := { row := frameSaysRow, standIns := [], harness := (true, "9767fb7c0baa1df3b16154bc9b3e0133d87b6710085831f0779a95a88307d74f"), looks := false }, kinds := [], alts := [], laidByText := true, laidKinds := [.data, .data, .data], laidTests := true, laidLooks := .later }
def FrameSaysCardSaid : Prop := Claim7.holds Tryd.pinned (.plain (OpenSpec.ofChange frameSaysSpec)) frameSaysCard

/-- THE SECOND FORM's CARD OF 'wicklaw.CleanSays'. -/
def cleanSaysUptoCard : Claim7 := { stood := { row := cleanSaysUptoRow, standIns := [], harness := (true, "9767fb7c0baa1df3b16154bc9b3e0133d87b6710085831f0779a95a88307d74f"), looks := false }, kinds := [], alts := [], laidByText := true, laidKinds := [.data, .pinned], laidTests := true, laidLooks := .later }
def CleanSaysUptoCardSaid : Prop := Claim7.holds Tryd.pinned (.plain (OpenSpec.upto cleanSaysSpec)) cleanSaysUptoCard

/-- THE SECOND FORM's CARD OF 'wicklaw.NetsBytes'. -/
def netsBytesUptoCard : Claim7 := { stood := { row := netsBytesUptoRow, standIns := [], harness := (true, "9767fb7c0baa1df3b16154bc9b3e0133d87b6710085831f0779a95a88307d74f"), looks := false }, kinds := [], alts := [], laidByText := true, laidKinds := [.data, .pinned], laidTests := true, laidLooks := .later }
def NetsBytesUptoCardSaid : Prop := Claim7.holds Tryd.pinned (.plain (OpenSpec.upto netsBytesSpec)) netsBytesUptoCard

/-- THE SECOND FORM's CARD OF 'wicklaw.HeadReads'. -/
def headReadsUptoCard : Claim7 := { stood := { row := headReadsUptoRow, standIns := [], harness := (true, "9767fb7c0baa1df3b16154bc9b3e0133d87b6710085831f0779a95a88307d74f"), looks := false }, kinds := [], alts := [], laidByText := true, laidKinds := [.data, .pinned], laidTests := true, laidLooks := .later }
def HeadReadsUptoCardSaid : Prop := Claim7.holds Tryd.pinned (.plain (OpenSpec.upto headReadsSpec)) headReadsUptoCard

/-- THE SECOND FORM's CARD OF 'wicklaw.PipeReads'. -/
def pipeReadsUptoCard : Claim7 := { stood := { row := pipeReadsUptoRow, standIns := [], harness := (true, "9767fb7c0baa1df3b16154bc9b3e0133d87b6710085831f0779a95a88307d74f"), looks := false }, kinds := [], alts := [], laidByText := true, laidKinds := [.data, .widerDeep, .pinned], laidTests := true, laidLooks := .later }
def PipeReadsUptoCardSaid : Prop := Claim7.holds Tryd.pinned (.plain (OpenSpec.upto pipeReadsSpec)) pipeReadsUptoCard

/-- THE SECOND FORM's CARD OF 'wicklaw.FrameSays'. -/
def frameSaysUptoCard : Claim7 := { stood := { row := frameSaysUptoRow, standIns := [], harness := (true, "9767fb7c0baa1df3b16154bc9b3e0133d87b6710085831f0779a95a88307d74f"), looks := false }, kinds := [], alts := [], laidByText := true, laidKinds := [.data, .data, .data], laidTests := true, laidLooks := .later }
def FrameSaysUptoCardSaid : Prop := Claim7.holds Tryd.pinned (.plain (OpenSpec.upto frameSaysSpec)) frameSaysUptoCard
end Rows
end Go.Proofs.YtcgidofmfhpicaaDoor
