/-
  DERIVED. GIVEN WITH THE SEED: THE CARDS: each row of YtngepacmgabmaaaGreatDoorRows.lean that lists a variable, with what it lists TIED to the program's text (the seventh form; the later family's looks); each row that meets fmt, with fmt's text TOLD by the authors' own Lean function (tested against real Go, not proved from fmt's source: count such statements apart). THE CARD IS WHAT COUNTS. Prove the row's statement (the work); the ties are given (YtngepacmgabmaaaGreatDoorTie.lean); close each card by the builder's one call (the guide's Derived/Test/ToyasCard.lean, 'card_holds'). Laid BY PROGRAM, IN A SANDBOX (cutbox-door.mjs). By AI agents, Wed Nov 11 2026. No macro, syntax, notation, axiom, sorry.
-/
import Derived.Test.YtngepacmgabmaaaGreatDoorRows
import GoSem.ClaimSeven
namespace Go.Proofs.YtngepacmgabmaaaGreatDoor
namespace Rows

/-- THE TIED CARD OF 'wicklaw.RulesReads'. -/
def rulesReadsCard : Claim7 := { stood := { row := rulesReadsRow, standIns := [], harness := (true, "812a76ebfb2429ae7c582a80d6a1164087935d6f9dad4bb2fc30e991986d80f4"), looks := false }, kinds := [], alts := [], laidByText := true, laidKinds := [.data, .widerDeep, .widerDeep, .widerDeep, .widerDeep, .pinned], laidTests := true, laidLooks := .later }
def RulesReadsCardSaid : Prop := Claim7.holds Tryz.pinned (.plain (OpenSpec.ofChange rulesReadsSpec)) rulesReadsCard

/-- THE TIED CARD OF 'wicklaw.RulesSays'. -/
def rulesSaysCard : Claim7 := { stood := { row := rulesSaysRow, standIns := [], harness := (true, "812a76ebfb2429ae7c582a80d6a1164087935d6f9dad4bb2fc30e991986d80f4"), looks := false }, kinds := [], alts := [], laidByText := true, laidKinds := [.data, .data, .data, .data, .widerDeep, .widerDeep, .widerDeep, .widerDeep, .pinned], laidTests := true, laidLooks := .later }
def RulesSaysCardSaid : Prop := Claim7.holds Tryz.pinned (.plain (OpenSpec.ofChange rulesSaysSpec)) rulesSaysCard

/-- THE SECOND FORM's CARD OF 'wicklaw.RulesReads'. -/
def rulesReadsUptoCard : Claim7 := { stood := { row := rulesReadsUptoRow, standIns := [], harness := (true, "812a76ebfb2429ae7c582a80d6a1164087935d6f9dad4bb2fc30e991986d80f4"), looks := false }, kinds := [], alts := [], laidByText := true, laidKinds := [.data, .widerDeep, .widerDeep, .widerDeep, .widerDeep, .pinned], laidTests := true, laidLooks := .later }
def RulesReadsUptoCardSaid : Prop := Claim7.holds Tryz.pinned (.plain (OpenSpec.upto rulesReadsSpec)) rulesReadsUptoCard

/-- THE SECOND FORM's CARD OF 'wicklaw.RulesSays'. -/
def rulesSaysUptoCard : Claim7 := { stood := { row := rulesSaysUptoRow, standIns := [], harness := (true, "812a76ebfb2429ae7c582a80d6a1164087935d6f9dad4bb2fc30e991986d80f4"), looks := false }, kinds := [], alts := [], laidByText := true, laidKinds := [.data, .data, .data, .data, .widerDeep, .widerDeep, .widerDeep, .widerDeep, .pinned], laidTests := true, laidLooks := .later }
def RulesSaysUptoCardSaid : Prop := Claim7.holds Tryz.pinned (.plain (OpenSpec.upto rulesSaysSpec)) rulesSaysUptoCard
end Rows
end Go.Proofs.YtngepacmgabmaaaGreatDoor
