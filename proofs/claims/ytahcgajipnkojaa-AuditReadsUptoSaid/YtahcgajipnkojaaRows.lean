/-
  No cell of these rows narrows 'for every input' (looked for: loops, veiled, ifaces, maps, wideKeys, modest, calm, conditions, laid).
  DERIVED. THE GIVEN ROWS OF THIS SEAT. 8 by the template 'for every input the law returns true; each argument reads behind the call as it read before'; 0 by the template 'total and deterministic' (their statements: YtahcgajipnkojaaTotals.lean).
  GIVEN WITH THE SEED: the statements are not yours to turn. If you find one false, say at which input.
  Laid BY PROGRAM, IN A SANDBOX (cutbox-rows.mjs): the forced cells as the released guide's own fill.sh prints them over the translation eefd84659c9946c7… (all of the seat's roots in one cut). By AI agents, Wed Nov 11 2026. No macro, syntax, notation, axiom, sorry.
-/
import Derived.Test.YtahcgajipnkojaaChecked
import GoSem.Claim
import GoSem.ClaimJoined
import GoSem.ClaimMapViews
import Derived.JoinedTies
import Derived.KernelRfl
namespace Go.Proofs.Ytahcgajipnkojaa
/- THE CELL 'sum', in the pinned program and in every row, IS THE sha256 OF THE DUMP (.gsa) THAT YtahcgajipnkojaaProg.lean LOADS. Nothing in Lean hashes anything: it is a label: what it is worth is what the hold of that sum in a sandbox is worth. -/
noncomputable def Try.pinned : Pinned := { name := "ytahcgajipnkojaa", sum := "eefd84659c9946c7d83eed53e4d942adabdb43cc255d5dbbee7318458cf1009b", checked := Try.checked }
namespace Rows
def none {H : Type} : Left H := { results := [], args := [] }

/-- 'wicklaw.Names': WHATEVER THE INPUT: true; the input reads as it did. -/
def namesSpec : ChangeSpec := { name := "names", fn := fun _ => fun
  | [] => { results := [.lit (.bool true)], args := [] }
  | _ => none }
def namesRow : OpenClaim := { program := "ytahcgajipnkojaa", sum := "eefd84659c9946c7d83eed53e4d942adabdb43cc255d5dbbee7318458cf1009b", func := "gatewicket/wicklaw.Names", spec := "names", apart := false }
def NamesSaid : Prop := namesRow.holds Try.pinned (OpenSpec.ofChange namesSpec)

/-- ITS FALSE NEIGHBOUR: 'it returns false'. Refute it at one input. -/
def namesWrong : ChangeSpec := { name := "names", fn := fun _ => fun
  | [] => { results := [.lit (.bool false)], args := [] }
  | _ => none }
def NamesWrongFalsely : Prop := namesRow.holds Try.pinned (OpenSpec.ofChange namesWrong)

/-- 'wicklaw.OctetNumbers': WHATEVER THE INPUT: true; the input reads as it did. -/
def octetNumbersSpec : ChangeSpec := { name := "octetNumbers", fn := fun _ => fun
  | [d] => { results := [.lit (.bool true)], args := [d] }
  | _ => none }
def octetNumbersRow : OpenClaim := { program := "ytahcgajipnkojaa", sum := "eefd84659c9946c7d83eed53e4d942adabdb43cc255d5dbbee7318458cf1009b", func := "gatewicket/wicklaw.OctetNumbers", spec := "octetNumbers", apart := false }
def OctetNumbersSaid : Prop := octetNumbersRow.holds Try.pinned (OpenSpec.ofChange octetNumbersSpec)

/-- ITS FALSE NEIGHBOUR: 'it returns false'. Refute it at one input. -/
def octetNumbersWrong : ChangeSpec := { name := "octetNumbers", fn := fun _ => fun
  | [d] => { results := [.lit (.bool false)], args := [d] }
  | _ => none }
def OctetNumbersWrongFalsely : Prop := octetNumbersRow.holds Try.pinned (OpenSpec.ofChange octetNumbersWrong)

/-- 'wicklaw.AuditSays': WHATEVER THE INPUT: true; the input reads as it did. -/
def auditSaysSpec : ChangeSpec := { name := "auditSays", fn := fun _ => fun
  | [d] => { results := [.lit (.bool true)], args := [d] }
  | _ => none }
def auditSaysRow : OpenClaim := { program := "ytahcgajipnkojaa", sum := "eefd84659c9946c7d83eed53e4d942adabdb43cc255d5dbbee7318458cf1009b", func := "gatewicket/wicklaw.AuditSays", spec := "auditSays", unfollowed := true, recurses := true, apart := false }
def AuditSaysSaid : Prop := auditSaysRow.holds Try.pinned (OpenSpec.ofChange auditSaysSpec)

/-- ITS FALSE NEIGHBOUR: 'it returns false'. Refute it at one input. -/
def auditSaysWrong : ChangeSpec := { name := "auditSays", fn := fun _ => fun
  | [d] => { results := [.lit (.bool false)], args := [d] }
  | _ => none }
def AuditSaysWrongFalsely : Prop := auditSaysRow.holds Try.pinned (OpenSpec.ofChange auditSaysWrong)

/-- 'wicklaw.AuditReads': WHATEVER THE INPUT: true; the input reads as it did. -/
def auditReadsSpec : ChangeSpec := { name := "auditReads", fn := fun _ => fun
  | [d] => { results := [.lit (.bool true)], args := [d] }
  | _ => none }
def auditReadsRow : OpenClaim := { program := "ytahcgajipnkojaa", sum := "eefd84659c9946c7d83eed53e4d942adabdb43cc255d5dbbee7318458cf1009b", func := "gatewicket/wicklaw.AuditReads", spec := "auditReads", unfollowed := true, recurses := true, apart := false }
def AuditReadsSaid : Prop := auditReadsRow.holds Try.pinned (OpenSpec.ofChange auditReadsSpec)

/-- ITS FALSE NEIGHBOUR: 'it returns false'. Refute it at one input. -/
def auditReadsWrong : ChangeSpec := { name := "auditReads", fn := fun _ => fun
  | [d] => { results := [.lit (.bool false)], args := [d] }
  | _ => none }
def AuditReadsWrongFalsely : Prop := auditReadsRow.holds Try.pinned (OpenSpec.ofChange auditReadsWrong)

/-- 'wicklaw.CodingBytes': WHATEVER THE INPUT: true; the input reads as it did. -/
def codingBytesSpec : ChangeSpec := { name := "codingBytes", fn := fun _ => fun
  | [d] => { results := [.lit (.bool true)], args := [d] }
  | _ => none }
def codingBytesRow : OpenClaim := { program := "ytahcgajipnkojaa", sum := "eefd84659c9946c7d83eed53e4d942adabdb43cc255d5dbbee7318458cf1009b", func := "gatewicket/wicklaw.CodingBytes", spec := "codingBytes", inPlace := ["internal/bytealg.IndexByteString"], unfollowed := true, recurses := true, apart := false }
def CodingBytesSaid : Prop := codingBytesRow.holds Try.pinned (OpenSpec.ofChange codingBytesSpec)

/-- ITS FALSE NEIGHBOUR: 'it returns false'. Refute it at one input. -/
def codingBytesWrong : ChangeSpec := { name := "codingBytes", fn := fun _ => fun
  | [d] => { results := [.lit (.bool false)], args := [d] }
  | _ => none }
def CodingBytesWrongFalsely : Prop := codingBytesRow.holds Try.pinned (OpenSpec.ofChange codingBytesWrong)

/-- 'wicklaw.OctetQuotes': WHATEVER THE INPUT: true; the input reads as it did. -/
def octetQuotesSpec : ChangeSpec := { name := "octetQuotes", fn := fun _ => fun
  | [d] => { results := [.lit (.bool true)], args := [d] }
  | _ => none }
def octetQuotesRow : OpenClaim := { program := "ytahcgajipnkojaa", sum := "eefd84659c9946c7d83eed53e4d942adabdb43cc255d5dbbee7318458cf1009b", func := "gatewicket/wicklaw.OctetQuotes", spec := "octetQuotes", inPlace := ["internal/bytealg.IndexByteString"], apart := false }
def OctetQuotesSaid : Prop := octetQuotesRow.holds Try.pinned (OpenSpec.ofChange octetQuotesSpec)

/-- ITS FALSE NEIGHBOUR: 'it returns false'. Refute it at one input. -/
def octetQuotesWrong : ChangeSpec := { name := "octetQuotes", fn := fun _ => fun
  | [d] => { results := [.lit (.bool false)], args := [d] }
  | _ => none }
def OctetQuotesWrongFalsely : Prop := octetQuotesRow.holds Try.pinned (OpenSpec.ofChange octetQuotesWrong)

/-- 'wicklaw.CodingUrl': WHATEVER THE INPUT: true; the input reads as it did. -/
def codingUrlSpec : ChangeSpec := { name := "codingUrl", fn := fun _ => fun
  | [d] => { results := [.lit (.bool true)], args := [d] }
  | _ => none }
def codingUrlRow : OpenClaim := { program := "ytahcgajipnkojaa", sum := "eefd84659c9946c7d83eed53e4d942adabdb43cc255d5dbbee7318458cf1009b", func := "gatewicket/wicklaw.CodingUrl", spec := "codingUrl", inPlace := ["internal/bytealg.IndexByteString"], apart := false }
def CodingUrlSaid : Prop := codingUrlRow.holds Try.pinned (OpenSpec.ofChange codingUrlSpec)

/-- ITS FALSE NEIGHBOUR: 'it returns false'. Refute it at one input. -/
def codingUrlWrong : ChangeSpec := { name := "codingUrl", fn := fun _ => fun
  | [d] => { results := [.lit (.bool false)], args := [d] }
  | _ => none }
def CodingUrlWrongFalsely : Prop := codingUrlRow.holds Try.pinned (OpenSpec.ofChange codingUrlWrong)

/-- 'wicklaw.OctetTexts': WHATEVER THE INPUT: true; the input reads as it did. -/
def octetTextsSpec : ChangeSpec := { name := "octetTexts", fn := fun _ => fun
  | [d1, d2, d3] => { results := [.lit (.bool true)], args := [d1, d2, d3] }
  | _ => none }
def octetTextsRow : OpenClaim := { program := "ytahcgajipnkojaa", sum := "eefd84659c9946c7d83eed53e4d942adabdb43cc255d5dbbee7318458cf1009b", func := "gatewicket/wicklaw.OctetTexts", spec := "octetTexts", inPlace := ["internal/bytealg.IndexByteString", "internal/bytealg.IndexString"], named := ["internal/bytealg.MaxLen"], apart := false }
def OctetTextsSaid : Prop := octetTextsRow.holds Try.pinned (OpenSpec.ofChange octetTextsSpec)

/-- ITS FALSE NEIGHBOUR: 'it returns false'. Refute it at one input. -/
def octetTextsWrong : ChangeSpec := { name := "octetTexts", fn := fun _ => fun
  | [d1, d2, d3] => { results := [.lit (.bool false)], args := [d1, d2, d3] }
  | _ => none }
def OctetTextsWrongFalsely : Prop := octetTextsRow.holds Try.pinned (OpenSpec.ofChange octetTextsWrong)

/- THE SECOND FORM. 'bulk': how many values and letters a reading holds, each counted each time it is reached (what is shared counts as often as it is met; a slice's spare places count too). A statement '..UptoSaid' is the law's where the arguments, and the package variables that the reading takes, are together of bulk at most 1048576: NARROWER than '..Said'. Prove '..Said' where nothing that the law and all that it calls make is longer than what came in: it says more and counts as full. Else prove '..UptoSaid'. A law counts once. -/
mutual
def uptoBulk {H : Type} : DataW H → Nat
  | .lit (.string bytes) => bytes.length + 1
  | .lit _ => 1
  | .nil => 1
  | .ptr d => uptoBulk d + 1
  | .slice elems spare => uptoBulkAll elems + uptoBulkAll spare + 1
  | .agg parts => uptoBulkAll parts + 1
  | .iface _ d => uptoBulk d + 1
  | .map entries => uptoBulkEntries entries + 1
  | .held _ => 1
def uptoBulkAll {H : Type} : List (DataW H) → Nat
  | [] => 0
  | d :: r => uptoBulk d + uptoBulkAll r
def uptoBulkEntries {H : Type} : List (Lit × DataW H) → Nat
  | [] => 0
  | x :: r => uptoBulkEntry x + uptoBulkEntries r
def uptoBulkEntry {H : Type} : Lit × DataW H → Nat
  | (.string bytes, d) => bytes.length + uptoBulk d + 1
  | (_, d) => uptoBulk d + 1
 end
def uptoSmall : (H : Type) → List (DataW H) → Bool := fun _ ds => decide (uptoBulkAll ds ≤ 1048576)
def OpenSpec.upto (s : _root_.Go.ChangeSpec) : _root_.Go.OpenSpec := { _root_.Go.OpenSpec.ofChange s with cond := some uptoSmall }

/-- 'wicklaw.Names', WHERE WHAT IT READS IS OF BULK AT MOST 1048576: true; the input reads as it did. -/
def namesUptoRow : OpenClaim := { program := "ytahcgajipnkojaa", sum := "eefd84659c9946c7d83eed53e4d942adabdb43cc255d5dbbee7318458cf1009b", func := "gatewicket/wicklaw.Names", spec := "names", apart := false, narrowed := true }
def NamesUptoSaid : Prop := namesUptoRow.holds Try.pinned (OpenSpec.upto namesSpec)

/-- 'wicklaw.OctetNumbers', WHERE WHAT IT READS IS OF BULK AT MOST 1048576: true; the input reads as it did. -/
def octetNumbersUptoRow : OpenClaim := { program := "ytahcgajipnkojaa", sum := "eefd84659c9946c7d83eed53e4d942adabdb43cc255d5dbbee7318458cf1009b", func := "gatewicket/wicklaw.OctetNumbers", spec := "octetNumbers", apart := false, narrowed := true }
def OctetNumbersUptoSaid : Prop := octetNumbersUptoRow.holds Try.pinned (OpenSpec.upto octetNumbersSpec)

/-- 'wicklaw.AuditSays', WHERE WHAT IT READS IS OF BULK AT MOST 1048576: true; the input reads as it did. -/
def auditSaysUptoRow : OpenClaim := { program := "ytahcgajipnkojaa", sum := "eefd84659c9946c7d83eed53e4d942adabdb43cc255d5dbbee7318458cf1009b", func := "gatewicket/wicklaw.AuditSays", spec := "auditSays", unfollowed := true, recurses := true, apart := false, narrowed := true }
def AuditSaysUptoSaid : Prop := auditSaysUptoRow.holds Try.pinned (OpenSpec.upto auditSaysSpec)

/-- 'wicklaw.AuditReads', WHERE WHAT IT READS IS OF BULK AT MOST 1048576: true; the input reads as it did. -/
def auditReadsUptoRow : OpenClaim := { program := "ytahcgajipnkojaa", sum := "eefd84659c9946c7d83eed53e4d942adabdb43cc255d5dbbee7318458cf1009b", func := "gatewicket/wicklaw.AuditReads", spec := "auditReads", unfollowed := true, recurses := true, apart := false, narrowed := true }
def AuditReadsUptoSaid : Prop := auditReadsUptoRow.holds Try.pinned (OpenSpec.upto auditReadsSpec)

/-- 'wicklaw.CodingBytes', WHERE WHAT IT READS IS OF BULK AT MOST 1048576: true; the input reads as it did. -/
def codingBytesUptoRow : OpenClaim := { program := "ytahcgajipnkojaa", sum := "eefd84659c9946c7d83eed53e4d942adabdb43cc255d5dbbee7318458cf1009b", func := "gatewicket/wicklaw.CodingBytes", spec := "codingBytes", inPlace := ["internal/bytealg.IndexByteString"], unfollowed := true, recurses := true, apart := false, narrowed := true }
def CodingBytesUptoSaid : Prop := codingBytesUptoRow.holds Try.pinned (OpenSpec.upto codingBytesSpec)

/-- 'wicklaw.OctetQuotes', WHERE WHAT IT READS IS OF BULK AT MOST 1048576: true; the input reads as it did. -/
def octetQuotesUptoRow : OpenClaim := { program := "ytahcgajipnkojaa", sum := "eefd84659c9946c7d83eed53e4d942adabdb43cc255d5dbbee7318458cf1009b", func := "gatewicket/wicklaw.OctetQuotes", spec := "octetQuotes", inPlace := ["internal/bytealg.IndexByteString"], apart := false, narrowed := true }
def OctetQuotesUptoSaid : Prop := octetQuotesUptoRow.holds Try.pinned (OpenSpec.upto octetQuotesSpec)

/-- 'wicklaw.CodingUrl', WHERE WHAT IT READS IS OF BULK AT MOST 1048576: true; the input reads as it did. -/
def codingUrlUptoRow : OpenClaim := { program := "ytahcgajipnkojaa", sum := "eefd84659c9946c7d83eed53e4d942adabdb43cc255d5dbbee7318458cf1009b", func := "gatewicket/wicklaw.CodingUrl", spec := "codingUrl", inPlace := ["internal/bytealg.IndexByteString"], apart := false, narrowed := true }
def CodingUrlUptoSaid : Prop := codingUrlUptoRow.holds Try.pinned (OpenSpec.upto codingUrlSpec)

/-- 'wicklaw.OctetTexts', WHERE WHAT IT READS IS OF BULK AT MOST 1048576: true; the input reads as it did. -/
def octetTextsUptoRow : OpenClaim := { program := "ytahcgajipnkojaa", sum := "eefd84659c9946c7d83eed53e4d942adabdb43cc255d5dbbee7318458cf1009b", func := "gatewicket/wicklaw.OctetTexts", spec := "octetTexts", inPlace := ["internal/bytealg.IndexByteString", "internal/bytealg.IndexString"], named := ["internal/bytealg.MaxLen"], apart := false, narrowed := true }
def OctetTextsUptoSaid : Prop := octetTextsUptoRow.holds Try.pinned (OpenSpec.upto octetTextsSpec)

end Rows
end Go.Proofs.Ytahcgajipnkojaa
