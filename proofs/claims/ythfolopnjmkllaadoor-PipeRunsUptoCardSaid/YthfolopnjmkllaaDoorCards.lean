/-
  DERIVED. GIVEN WITH THE SEED: THE CARDS: each row of YthfolopnjmkllaaDoorRows.lean that lists a variable, with what it lists TIED to the program's text (the seventh form; the later family's looks); each row that meets fmt, with fmt's text TOLD by the authors' own Lean function (tested against real Go, not proved from fmt's source: count such statements apart). THE CARD IS WHAT COUNTS. Prove the row's statement (the work); the ties are given (YthfolopnjmkllaaDoorTie.lean); close each card by the builder's one call (the guide's Derived/Test/ToyasCard.lean, 'card_holds'). Laid BY PROGRAM, IN A SANDBOX (cutbox-door.mjs). By AI agents, Wed Nov 11 2026. No macro, syntax, notation, axiom, sorry.
-/
import Derived.Test.YthfolopnjmkllaaDoorRows
import GoSem.ClaimSeven
namespace Go.Proofs.YthfolopnjmkllaaDoor
namespace Rows

/-- THE TIED CARD OF 'wicklaw.VarsSays'. -/
def varsSaysCard : Claim7 := { stood := { row := varsSaysRow, standIns := [], harness := (true, "5a289c3fbb6aa1e1a40186f568c2fd397a3c578dc310707c7af85f30a6520401"), looks := false }, kinds := [], alts := [], laidByText := true, laidKinds := [.data, .data, .data], laidTests := true, laidLooks := .later }
def VarsSaysCardSaid : Prop := Claim7.holds Tryd.pinned (.plain (OpenSpec.ofChange varsSaysSpec)) varsSaysCard

/-- THE TIED CARD OF 'wicklaw.PipeRuns'. -/
def pipeRunsCard : Claim7 := { stood := { row := pipeRunsRow, standIns := [], harness := (true, "5a289c3fbb6aa1e1a40186f568c2fd397a3c578dc310707c7af85f30a6520401"), looks := false }, kinds := [], alts := [], laidByText := true, laidKinds := [.data, .data, .data, .data, .pinned], laidTests := true, laidLooks := .later }
def PipeRunsCardSaid : Prop := Claim7.holds Tryd.pinned (.plain (OpenSpec.ofChange pipeRunsSpec)) pipeRunsCard

/-- THE SECOND FORM's CARD OF 'wicklaw.VarsSays'. -/
def varsSaysUptoCard : Claim7 := { stood := { row := varsSaysUptoRow, standIns := [], harness := (true, "5a289c3fbb6aa1e1a40186f568c2fd397a3c578dc310707c7af85f30a6520401"), looks := false }, kinds := [], alts := [], laidByText := true, laidKinds := [.data, .data, .data], laidTests := true, laidLooks := .later }
def VarsSaysUptoCardSaid : Prop := Claim7.holds Tryd.pinned (.plain (OpenSpec.upto varsSaysSpec)) varsSaysUptoCard

/-- THE SECOND FORM's CARD OF 'wicklaw.PipeRuns'. -/
def pipeRunsUptoCard : Claim7 := { stood := { row := pipeRunsUptoRow, standIns := [], harness := (true, "5a289c3fbb6aa1e1a40186f568c2fd397a3c578dc310707c7af85f30a6520401"), looks := false }, kinds := [], alts := [], laidByText := true, laidKinds := [.data, .data, .data, .data, .pinned], laidTests := true, laidLooks := .later }
def PipeRunsUptoCardSaid : Prop := Claim7.holds Tryd.pinned (.plain (OpenSpec.upto pipeRunsSpec)) pipeRunsUptoCard
end Rows
end Go.Proofs.YthfolopnjmkllaaDoor
