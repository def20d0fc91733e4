/-
  DERIVED. GIVEN WITH THE SEED: THE CARDS: each row of YtaepbpdcfmklpaaDoorRows.lean that lists a variable, with what it lists TIED to the program's text (the seventh form; the later family's looks); each row that meets fmt, with fmt's text TOLD by the authors' own Lean function (tested against real Go, not proved from fmt's source: count such statements apart). THE CARD IS WHAT COUNTS. Prove the row's statement (the work); the ties are given (YtaepbpdcfmklpaaDoorTie.lean); close each card by the builder's one call (the guide's Derived/Test/ToyasCard.lean, 'card_holds'). Laid BY PROGRAM, IN A SANDBOX (cutbox-door.mjs). By AI agents, Wed Nov 11 2026. No macro, syntax, notation, axiom, sorry.
-/
import Derived.Test.YtaepbpdcfmklpaaDoorRows
import GoSem.ClaimSeven
namespace Go.Proofs.YtaepbpdcfmklpaaDoor
namespace Rows

/-- THE TIED CARD OF 'wicklaw.VarsOf'. -/
def varsOfCard : Claim7 := { stood := { row := varsOfRow, standIns := [], harness := (true, "46d0dc295af72cd076549b183eb8509f40842269ca914a1774baab5c2022593a"), looks := false }, kinds := [], alts := [], laidByText := true, laidKinds := [.data, .pinned], laidTests := true, laidLooks := .later }
def VarsOfCardSaid : Prop := Claim7.holds Tryd.pinned (.plain (OpenSpec.ofChange varsOfSpec)) varsOfCard

/-- THE TIED CARD OF 'wicklaw.SerialSays'. -/
def serialSaysCard : Claim7 := { stood := { row := serialSaysRow, standIns := [], harness := (true, "46d0dc295af72cd076549b183eb8509f40842269ca914a1774baab5c2022593a"), looks := false }, kinds := [], alts := [], laidByText := true, laidKinds := [.data, .data, .data, .data, .pinned], laidTests := true, laidLooks := .later }
def SerialSaysCardSaid : Prop := Claim7.holds Tryd.pinned (.plain (OpenSpec.ofChange serialSaysSpec)) serialSaysCard

/-- THE TIED CARD OF 'wicklaw.OneSays'. -/
def oneSaysCard : Claim7 := { stood := { row := oneSaysRow, standIns := [], harness := (true, "46d0dc295af72cd076549b183eb8509f40842269ca914a1774baab5c2022593a"), looks := false }, kinds := [], alts := [], laidByText := true, laidKinds := [.data, .pinned], laidTests := true, laidLooks := .later }
def OneSaysCardSaid : Prop := Claim7.holds Tryd.pinned (.plain (OpenSpec.ofChange oneSaysSpec)) oneSaysCard

/-- THE SECOND FORM's CARD OF 'wicklaw.VarsOf'. -/
def varsOfUptoCard : Claim7 := { stood := { row := varsOfUptoRow, standIns := [], harness := (true, "46d0dc295af72cd076549b183eb8509f40842269ca914a1774baab5c2022593a"), looks := false }, kinds := [], alts := [], laidByText := true, laidKinds := [.data, .pinned], laidTests := true, laidLooks := .later }
def VarsOfUptoCardSaid : Prop := Claim7.holds Tryd.pinned (.plain (OpenSpec.upto varsOfSpec)) varsOfUptoCard

/-- THE SECOND FORM's CARD OF 'wicklaw.SerialSays'. -/
def serialSaysUptoCard : Claim7 := { stood := { row := serialSaysUptoRow, standIns := [], harness := (true, "46d0dc295af72cd076549b183eb8509f40842269ca914a1774baab5c2022593a"), looks := false }, kinds := [], alts := [], laidByText := true, laidKinds := [.data, .data, .data, .data, .pinned], laidTests := true, laidLooks := .later }
def SerialSaysUptoCardSaid : Prop := Claim7.holds Tryd.pinned (.plain (OpenSpec.upto serialSaysSpec)) serialSaysUptoCard

/-- THE SECOND FORM's CARD OF 'wicklaw.OneSays'. -/
def oneSaysUptoCard : Claim7 := { stood := { row := oneSaysUptoRow, standIns := [], harness := (true, "46d0dc295af72cd076549b183eb8509f40842269ca914a1774baab5c2022593a"), looks := false }, kinds := [], alts := [], laidByText := true, laidKinds := [.data, .pinned], laidTests := true, laidLooks := .later }
def OneSaysUptoCardSaid : Prop := Claim7.holds Tryd.pinned (.plain (OpenSpec.upto oneSaysSpec)) oneSaysUptoCard
end Rows
end Go.Proofs.YtaepbpdcfmklpaaDoor
