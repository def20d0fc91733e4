/-
  DERIVED. GIVEN WITH THE SEED: THE CARDS: each row of YtkcncgdgicffhaaDoorRows.lean that lists a variable, with what it lists TIED to the program's text (the seventh form; the later family's looks); each row that meets fmt, with fmt's text TOLD by the authors' own Lean function (tested against real Go, not proved from fmt's source: count such statements apart). THE CARD IS WHAT COUNTS. Prove the row's statement (the work); the ties are given (YtkcncgdgicffhaaDoorTie.lean); close each card by the builder's one call (the guide's Derived/Test/ToyasCard.lean, 'card_holds'). Laid BY PROGRAM, IN A SANDBOX (cutbox-door.mjs). By AI agents, Wed Nov 11 2026. No macro, syntax, notation, axiom, sorry.
-/
import Derived.Test.YtkcncgdgicffhaaDoorRows
import GoSem.ClaimSeven
namespace Go.Proofs.YtkcncgdgicffhaaDoor
namespace Rows

/-- THE TIED CARD OF 'wicklaw.FrameSays'. -/
def frameSaysCard : Claim7 := { stood := { row := frameSaysRow, standIns := [], harness := (true, "826fb34319c444459abe713853b7eb96bbe8d6612acac8f5148875f465e1bdb1"), looks := false }, kinds := [], alts := [], laidByText := true, laidKinds := [.data, .data, .data], laidTests := true, laidLooks := .later }
def FrameSaysCardSaid : Prop := Claim7.holds Tryd.pinned (.plain (OpenSpec.ofChange frameSaysSpec)) frameSaysCard

/-- THE TIED CARD OF 'wicklaw.SerialSays'. -/
def serialSaysCard : Claim7 := { stood := { row := serialSaysRow, standIns := [], harness := (true, "826fb34319c444459abe713853b7eb96bbe8d6612acac8f5148875f465e1bdb1"), looks := false }, kinds := [], alts := [], laidByText := true, laidKinds := [.data, .data, .data, .data, .pinned], laidTests := true, laidLooks := .later }
def SerialSaysCardSaid : Prop := Claim7.holds Tryd.pinned (.plain (OpenSpec.ofChange serialSaysSpec)) serialSaysCard

/-- THE TIED CARD OF 'wicklaw.OneSays'. -/
def oneSaysCard : Claim7 := { stood := { row := oneSaysRow, standIns := [], harness := (true, "826fb34319c444459abe713853b7eb96bbe8d6612acac8f5148875f465e1bdb1"), looks := false }, kinds := [], alts := [], laidByText := true, laidKinds := [.data, .pinned], laidTests := true, laidLooks := .later }
def OneSaysCardSaid : Prop := Claim7.holds Tryd.pinned (.plain (OpenSpec.ofChange oneSaysSpec)) oneSaysCard

/-- THE TIED CARD OF 'wicklaw.OneFeeds'. -/
def oneFeedsCard : Claim7 := { stood := { row := oneFeedsRow, standIns := [], harness := (true, "826fb34319c444459abe713853b7eb96bbe8d6612acac8f5148875f465e1bdb1"), looks := false }, kinds := [], alts := [], laidByText := true, laidKinds := [.data, .pinned], laidTests := true, laidLooks := .later }
def OneFeedsCardSaid : Prop := Claim7.holds Tryd.pinned (.plain (OpenSpec.ofChange oneFeedsSpec)) oneFeedsCard

/-- THE TIED CARD OF 'wicklaw.VarsSays'. -/
def varsSaysCard : Claim7 := { stood := { row := varsSaysRow, standIns := [], harness := (true, "826fb34319c444459abe713853b7eb96bbe8d6612acac8f5148875f465e1bdb1"), looks := false }, kinds := [], alts := [], laidByText := true, laidKinds := [.data, .data, .data], laidTests := true, laidLooks := .later }
def VarsSaysCardSaid : Prop := Claim7.holds Tryd.pinned (.plain (OpenSpec.ofChange varsSaysSpec)) varsSaysCard

/-- THE TIED CARD OF 'wicklaw.NetsSays'. -/
def netsSaysCard : Claim7 := { stood := { row := netsSaysRow, standIns := [], harness := (true, "826fb34319c444459abe713853b7eb96bbe8d6612acac8f5148875f465e1bdb1"), looks := false }, kinds := [], alts := [], laidByText := true, laidKinds := [.data, .data, .data, .data, .pinned], laidTests := true, laidLooks := .later }
def NetsSaysCardSaid : Prop := Claim7.holds Tryd.pinned (.plain (OpenSpec.ofChange netsSaysSpec)) netsSaysCard

/-- THE SECOND FORM's CARD OF 'wicklaw.FrameSays'. -/
def frameSaysUptoCard : Claim7 := { stood := { row := frameSaysUptoRow, standIns := [], harness := (true, "826fb34319c444459abe713853b7eb96bbe8d6612acac8f5148875f465e1bdb1"), looks := false }, kinds := [], alts := [], laidByText := true, laidKinds := [.data, .data, .data], laidTests := true, laidLooks := .later }
def FrameSaysUptoCardSaid : Prop := Claim7.holds Tryd.pinned (.plain (OpenSpec.upto frameSaysSpec)) frameSaysUptoCard

/-- THE SECOND FORM's CARD OF 'wicklaw.SerialSays'. -/
def serialSaysUptoCard : Claim7 := { stood := { row := serialSaysUptoRow, standIns := [], harness := (true, "826fb34319c444459abe713853b7eb96bbe8d6612acac8f5148875f465e1bdb1"), looks := false }, kinds := [], alts := [], laidByText := true, laidKinds := [.data, .data, .data, .data, .pinned], laidTests := true, laidLooks := .later }
def SerialSaysUptoCardSaid : Prop := Claim7.holds Tryd.pinned (.plain (OpenSpec.upto serialSaysSpec)) serialSaysUptoCard

/-- THE SECOND FORM's CARD OF 'wicklaw.OneSays'. -/
def oneSaysUptoCard : Claim7 := { stood := { row := oneSaysUptoRow, standIns := [], harness := (true, "826fb34319c444459abe713853b7eb96bbe8d6612acac8f5148875f465e1bdb1"), looks := false }, kinds := [], alts := [], laidByText := true, laidKinds := [.data, .pinned], laidTests := true, laidLooks := .later }
def OneSaysUptoCardSaid : Prop := Claim7.holds Tryd.pinned (.plain (OpenSpec.upto oneSaysSpec)) oneSaysUptoCard

/-- THE SECOND FORM's CARD OF 'wicklaw.OneFeeds'. -/
def oneFeedsUptoCard : Claim7 := { stood := { row := oneFeedsUptoRow, standIns := [], harness := (true, "826fb34319c444459abe713853b7eb96bbe8d6612acac8f5148875f465e1bdb1"), looks := false }, kinds := [], alts := [], laidByText := true, laidKinds := [.data, .pinned], laidTests := true, laidLooks := .later }
def OneFeedsUptoCardSaid : Prop := Claim7.holds Tryd.pinned (.plain (OpenSpec.upto oneFeedsSpec)) oneFeedsUptoCard

/-- THE SECOND FORM's CARD OF 'wicklaw.VarsSays'. -/
def varsSaysUptoCard : Claim7 := { stood := { row := varsSaysUptoRow, standIns := [], harness := (true, "826fb34319c444459abe713853b7eb96bbe8d6612acac8f5148875f465e1bdb1"), looks := false }, kinds := [], alts := [], laidByText := true, laidKinds := [.data, .data, .data], laidTests := true, laidLooks := .later }
def VarsSaysUptoCardSaid : Prop := Claim7.holds Tryd.pinned (.plain (OpenSpec.upto varsSaysSpec)) varsSaysUptoCard

/-- THE SECOND FORM's CARD OF 'wicklaw.NetsSays'. -/
def netsSaysUptoCard : Claim7 := { stood := { row := netsSaysUptoRow, standIns := [], harness := (true, "826fb34319c444459abe713853b7eb96bbe8d6612acac8f5148875f465e1bdb1"), looks := false }, kinds := [], alts := [], laidByText := true, laidKinds := [.data, .data, .data, .data, .pinned], laidTests := true, laidLooks := .later }
def NetsSaysUptoCardSaid : Prop := Claim7.holds Tryd.pinned (.plain (OpenSpec.upto netsSaysSpec)) netsSaysUptoCard
end Rows
end Go.Proofs.YtkcncgdgicffhaaDoor
