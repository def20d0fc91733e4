/-
  NARROWER THAN 'FOR EVERY INPUT', by the rows' own cells (each row's printed sentence says how): RulesReads: laid · RulesSays: laid.
  DERIVED. THE GIVEN ROWS OF THIS SEAT. 2 by the template 'for every input the law returns true; each argument reads behind the call as it read before'; 0 by the template 'total and deterministic' (their statements: YtngepacmgabmaaaGreatDoorTotals.lean).
  GIVEN WITH THE SEED: the statements are not yours to turn. If you find one false, say at which input.
  Laid BY PROGRAM, IN A SANDBOX (cutbox-rows.mjs): the forced cells as the released guide's own fill.sh prints them over the translation 177af71fbf5c2396… (all of the seat's roots in one cut). By AI agents, Wed Nov 11 2026. No macro, syntax, notation, axiom, sorry.
-/
import Derived.Test.YtngepacmgabmaaaGreatDoorChecked
import GoSem.PinnedTables
import GoSem.Claim
import GoSem.ClaimJoined
import GoSem.ClaimMapViews
import Derived.JoinedTies
import Derived.KernelRfl
namespace Go.Proofs.YtngepacmgabmaaaGreatDoor
/- THE CELL 'sum', in the pinned program and in every row, IS THE sha256 OF THE DUMP (.gsa) THAT YtngepacmgabmaaaGreatDoorProg.lean LOADS. Nothing in Lean hashes anything: it is a label: what it is worth is what the hold of that sum in a sandbox is worth. -/
noncomputable def Tryz.pinned : Pinned := { name := "ytngepacmgabmaaagreatdoor", sum := "177af71fbf5c23966751e26271bf597e83827b1ffd51bca0db42c4e3c962bc49", checked := Tryz.checked }
namespace Rows
def none {H : Type} : Left H := { results := [], args := [] }

/- WHAT THE LISTED PACKAGE-LEVEL VARIABLES READ AS WHEN THE CALL BEGINS. Each datum BY PROGRAM (the guide's laid-datum.mjs) off the statement by which the dump's own 'gosem.cut.vars' lays the variable. In a bare row this is a premise. The card (YtngepacmgabmaaaGreatDoorCards.lean) ties it to the program's text. -/
def laid_unicode_utf8_acceptRanges {H : Type} : DataW H := .agg [.agg [.lit (.int .u8 128), .lit (.int .u8 191)], .agg [.lit (.int .u8 160), .lit (.int .u8 191)], .agg [.lit (.int .u8 128), .lit (.int .u8 159)], .agg [.lit (.int .u8 144), .lit (.int .u8 191)], .agg [.lit (.int .u8 128), .lit (.int .u8 143)], .agg [.lit (.int .u8 0), .lit (.int .u8 0)], .agg [.lit (.int .u8 0), .lit (.int .u8 0)], .agg [.lit (.int .u8 0), .lit (.int .u8 0)], .agg [.lit (.int .u8 0), .lit (.int .u8 0)], .agg [.lit (.int .u8 0), .lit (.int .u8 0)], .agg [.lit (.int .u8 0), .lit (.int .u8 0)], .agg [.lit (.int .u8 0), .lit (.int .u8 0)], .agg [.lit (.int .u8 0), .lit (.int .u8 0)], .agg [.lit (.int .u8 0), .lit (.int .u8 0)], .agg [.lit (.int .u8 0), .lit (.int .u8 0)], .agg [.lit (.int .u8 0), .lit (.int .u8 0)]]
def laid_gatewicket_wickref_pipeWords {H : Type} : DataW H := .agg [.lit (.string []), .lit (.string [108, 111, 119, 101, 114]), .lit (.string [117, 114, 108]), .lit (.string [104, 101, 120]), .lit (.string [98, 97, 115, 101]), .lit (.string [104, 116, 109, 108]), .lit (.string [112, 97, 116, 104]), .lit (.string [115, 113, 117, 101, 101, 122, 101]), .lit (.string [110, 111, 110, 117, 108, 108]), .lit (.string [116, 114, 105, 109]), .lit (.string [108, 101, 110, 103, 116, 104]), .lit (.string [99, 109, 100])]
def laid_gatewicket_wickref_varWords {H : Type} : DataW H := .agg [.lit (.string []), .lit (.string [109, 101, 116, 104, 111, 100]), .lit (.string [116, 97, 114, 103, 101, 116]), .lit (.string [112, 97, 116, 104]), .lit (.string [113, 117, 101, 114, 121]), .lit (.string [98, 111, 100, 121]), .lit (.string [97, 114, 103, 115]), .lit (.string [97, 114, 103, 110, 97, 109, 101, 115]), .lit (.string [102, 105, 101, 108, 100, 115]), .lit (.string [102, 105, 101, 108, 100, 110, 97, 109, 101, 115]), .lit (.string [99, 111, 111, 107, 105, 101, 115]), .lit (.string [99, 108, 105, 101, 110, 116]), .lit (.string [115, 99, 111, 114, 101])]
def laid_gatewicket_wickref_opWords {H : Type} : DataW H := .agg [.lit (.string []), .lit (.string [114, 120]), .lit (.string [112, 104, 114, 97, 115, 101]), .lit (.string [105, 115]), .lit (.string [104, 97, 115]), .lit (.string [98, 101, 103, 105, 110, 115]), .lit (.string [101, 110, 100, 115]), .lit (.string [103, 116]), .lit (.string [108, 116]), .lit (.string [101, 113]), .lit (.string [110, 101, 116]), .lit (.string [114, 97, 110, 103, 101]), .lit (.string [97, 110, 121])]
def laid_gatewicket_wickref_actWords {H : Type} : DataW H := .agg [.lit (.string []), .lit (.string [112, 97, 115, 115]), .lit (.string [100, 101, 110, 121]), .lit (.string [115, 99, 111, 114, 101]), .lit (.string [115, 107, 105, 112]), .lit (.string [97, 108, 108, 111, 119])]
/-- One of Go's own tables, pinned by name: the form's constant. -/
def laid_unicode_utf8_first : DataW Unit := Go.Pinned.utf8First
def laid_math_bits_deBruijn32tab {H : Type} : DataW H := .agg [.lit (.int .u8 0), .lit (.int .u8 1), .lit (.int .u8 28), .lit (.int .u8 2), .lit (.int .u8 29), .lit (.int .u8 14), .lit (.int .u8 24), .lit (.int .u8 3), .lit (.int .u8 30), .lit (.int .u8 22), .lit (.int .u8 20), .lit (.int .u8 15), .lit (.int .u8 25), .lit (.int .u8 17), .lit (.int .u8 4), .lit (.int .u8 8), .lit (.int .u8 31), .lit (.int .u8 27), .lit (.int .u8 13), .lit (.int .u8 23), .lit (.int .u8 21), .lit (.int .u8 19), .lit (.int .u8 16), .lit (.int .u8 7), .lit (.int .u8 26), .lit (.int .u8 12), .lit (.int .u8 18), .lit (.int .u8 6), .lit (.int .u8 11), .lit (.int .u8 5), .lit (.int .u8 10), .lit (.int .u8 9)]
def laid_math_bits_deBruijn64tab {H : Type} : DataW H := .agg [.lit (.int .u8 0), .lit (.int .u8 1), .lit (.int .u8 56), .lit (.int .u8 2), .lit (.int .u8 57), .lit (.int .u8 49), .lit (.int .u8 28), .lit (.int .u8 3), .lit (.int .u8 61), .lit (.int .u8 58), .lit (.int .u8 42), .lit (.int .u8 50), .lit (.int .u8 38), .lit (.int .u8 29), .lit (.int .u8 17), .lit (.int .u8 4), .lit (.int .u8 62), .lit (.int .u8 47), .lit (.int .u8 59), .lit (.int .u8 36), .lit (.int .u8 45), .lit (.int .u8 43), .lit (.int .u8 51), .lit (.int .u8 22), .lit (.int .u8 53), .lit (.int .u8 39), .lit (.int .u8 33), .lit (.int .u8 30), .lit (.int .u8 24), .lit (.int .u8 18), .lit (.int .u8 12), .lit (.int .u8 5), .lit (.int .u8 63), .lit (.int .u8 55), .lit (.int .u8 48), .lit (.int .u8 27), .lit (.int .u8 60), .lit (.int .u8 41), .lit (.int .u8 37), .lit (.int .u8 16), .lit (.int .u8 46), .lit (.int .u8 35), .lit (.int .u8 44), .lit (.int .u8 21), .lit (.int .u8 52), .lit (.int .u8 32), .lit (.int .u8 23), .lit (.int .u8 11), .lit (.int .u8 54), .lit (.int .u8 26), .lit (.int .u8 40), .lit (.int .u8 15), .lit (.int .u8 34), .lit (.int .u8 20), .lit (.int .u8 31), .lit (.int .u8 10), .lit (.int .u8 25), .lit (.int .u8 14), .lit (.int .u8 19), .lit (.int .u8 9), .lit (.int .u8 13), .lit (.int .u8 8), .lit (.int .u8 7), .lit (.int .u8 6)]
def laid_internal_strconv_uint64pow10 {H : Type} : DataW H := .agg [.lit (.int .u64 1), .lit (.int .u64 10), .lit (.int .u64 100), .lit (.int .u64 1000), .lit (.int .u64 10000), .lit (.int .u64 100000), .lit (.int .u64 1000000), .lit (.int .u64 10000000), .lit (.int .u64 100000000), .lit (.int .u64 1000000000), .lit (.int .u64 10000000000), .lit (.int .u64 100000000000), .lit (.int .u64 1000000000000), .lit (.int .u64 10000000000000), .lit (.int .u64 100000000000000), .lit (.int .u64 1000000000000000), .lit (.int .u64 10000000000000000), .lit (.int .u64 100000000000000000), .lit (.int .u64 1000000000000000000), .lit (.int .u64 10000000000000000000)]

/-- 'wicklaw.RulesReads': WHATEVER THE INPUT: true; the input reads as it did. -/
def rulesReadsSpec : ChangeSpec := { name := "rulesReads", fn := fun _ => fun
  | [d] => { results := [.lit (.bool true)], args := [d] }
  | _ => none }
def rulesReadsRow : OpenClaim := { program := "ytngepacmgabmaaagreatdoor", sum := "177af71fbf5c23966751e26271bf597e83827b1ffd51bca0db42c4e3c962bc49", func := "gatewicket/wicklaw.RulesReads", spec := "rulesReads", inPlace := ["internal/bytealg.IndexByteString", "internal/bytealg.IndexString", "internal/bytealg.CountString"], unfollowed := true, recurses := true, named := ["internal/bytealg.MaxLen", "unicode/utf8.first", "unicode/utf8.acceptRanges", "gatewicket/wickref.varWords", "gatewicket/wickref.actWords", "gatewicket/wickref.opWords", "gatewicket/wickref.pipeWords"], plainKeys := false, apart := false, laid := [("unicode/utf8.acceptRanges", laid_unicode_utf8_acceptRanges), ("gatewicket/wickref.pipeWords", laid_gatewicket_wickref_pipeWords), ("gatewicket/wickref.varWords", laid_gatewicket_wickref_varWords), ("gatewicket/wickref.opWords", laid_gatewicket_wickref_opWords), ("gatewicket/wickref.actWords", laid_gatewicket_wickref_actWords), ("unicode/utf8.first", laid_unicode_utf8_first)] }
def RulesReadsSaid : Prop := rulesReadsRow.holds Tryz.pinned (OpenSpec.ofChange rulesReadsSpec)

/-- ITS FALSE NEIGHBOUR: 'it returns false'. Refute it at one input. -/
def rulesReadsWrong : ChangeSpec := { name := "rulesReads", fn := fun _ => fun
  | [d] => { results := [.lit (.bool false)], args := [d] }
  | _ => none }
def RulesReadsWrongFalsely : Prop := rulesReadsRow.holds Tryz.pinned (OpenSpec.ofChange rulesReadsWrong)

/-- 'wicklaw.RulesSays': WHATEVER THE INPUT: true; the input reads as it did. -/
def rulesSaysSpec : ChangeSpec := { name := "rulesSays", fn := fun _ => fun
  | [d] => { results := [.lit (.bool true)], args := [d] }
  | _ => none }
def rulesSaysRow : OpenClaim := { program := "ytngepacmgabmaaagreatdoor", sum := "177af71fbf5c23966751e26271bf597e83827b1ffd51bca0db42c4e3c962bc49", func := "gatewicket/wicklaw.RulesSays", spec := "rulesSays", inPlace := ["internal/bytealg.IndexByteString", "internal/bytealg.CountString", "internal/bytealg.IndexString", "internal/abi.NoEscape", "internal/bytealg.MakeNoZero"], unfollowed := true, recurses := true, named := ["gatewicket/wickref.varWords", "gatewicket/wickref.actWords", "gatewicket/wickref.opWords", "internal/strconv.uint64pow10", "math/bits.deBruijn32tab", "math/bits.deBruijn64tab", "gatewicket/wickref.pipeWords", "unicode/utf8.first", "unicode/utf8.acceptRanges", "internal/bytealg.MaxLen"], plainKeys := false, apart := false, laid := [("math/bits.deBruijn32tab", laid_math_bits_deBruijn32tab), ("math/bits.deBruijn64tab", laid_math_bits_deBruijn64tab), ("internal/strconv.uint64pow10", laid_internal_strconv_uint64pow10), ("unicode/utf8.acceptRanges", laid_unicode_utf8_acceptRanges), ("gatewicket/wickref.pipeWords", laid_gatewicket_wickref_pipeWords), ("gatewicket/wickref.varWords", laid_gatewicket_wickref_varWords), ("gatewicket/wickref.opWords", laid_gatewicket_wickref_opWords), ("gatewicket/wickref.actWords", laid_gatewicket_wickref_actWords), ("unicode/utf8.first", laid_unicode_utf8_first)] }
def RulesSaysSaid : Prop := rulesSaysRow.holds Tryz.pinned (OpenSpec.ofChange rulesSaysSpec)

/-- ITS FALSE NEIGHBOUR: 'it returns false'. Refute it at one input. -/
def rulesSaysWrong : ChangeSpec := { name := "rulesSays", fn := fun _ => fun
  | [d] => { results := [.lit (.bool false)], args := [d] }
  | _ => none }
def RulesSaysWrongFalsely : Prop := rulesSaysRow.holds Tryz.pinned (OpenSpec.ofChange rulesSaysWrong)

/- THE SECOND FORM. 'bulk': how many values and letters a reading holds, each counted each time it is reached (what is shared counts as often as it is met; a slice's spare places count too). A statement '..UptoSaid' is the law's where the arguments, and the package variables that the reading takes, are together of bulk at most 1048576: NARROWER than '..Said'. Prove '..Said' where nothing that the law and all that it calls make is longer than what came in: it says more and counts as full. Else prove '..UptoSaid'. A law counts once. -/
mutual
def uptoBulk {H : Type} : DataW H → Nat
  | .lit (.string bytes) => bytes.length + 1
  | .lit _ => 1
  | .nil => 1
  | .ptr d => uptoBulk d + 1
  | .slice elems spare => uptoBulkAll elems + uptoBulkAll spare + 1
  | .agg parts => uptoBulkAll parts + 1
  | .iface _ d => uptoBulk d + 1
  | .map entries => uptoBulkEntries entries + 1
  | .held _ => 1
def uptoBulkAll {H : Type} : List (DataW H) → Nat
  | [] => 0
  | d :: r => uptoBulk d + uptoBulkAll r
def uptoBulkEntries {H : Type} : List (Lit × DataW H) → Nat
  | [] => 0
  | x :: r => uptoBulkEntry x + uptoBulkEntries r
def uptoBulkEntry {H : Type} : Lit × DataW H → Nat
  | (.string bytes, d) => bytes.length + uptoBulk d + 1
  | (_, d) => uptoBulk d + 1
 end
def uptoSmall : (H : Type) → List (DataW H) → Bool := fun _ ds => decide (uptoBulkAll ds ≤ 1048576)
def OpenSpec.upto (s : _root_.Go.ChangeSpec) : _root_.Go.OpenSpec := { _root_.Go.OpenSpec.ofChange s with cond := some uptoSmall }

/-- 'wicklaw.RulesReads', WHERE WHAT IT READS IS OF BULK AT MOST 1048576: true; the input reads as it did. -/
def rulesReadsUptoRow : OpenClaim := { program := "ytngepacmgabmaaagreatdoor", sum := "177af71fbf5c23966751e26271bf597e83827b1ffd51bca0db42c4e3c962bc49", func := "gatewicket/wicklaw.RulesReads", spec := "rulesReads", inPlace := ["internal/bytealg.IndexByteString", "internal/bytealg.IndexString", "internal/bytealg.CountString"], unfollowed := true, recurses := true, named := ["internal/bytealg.MaxLen", "unicode/utf8.first", "unicode/utf8.acceptRanges", "gatewicket/wickref.varWords", "gatewicket/wickref.actWords", "gatewicket/wickref.opWords", "gatewicket/wickref.pipeWords"], plainKeys := false, apart := false, laid := [("unicode/utf8.acceptRanges", laid_unicode_utf8_acceptRanges), ("gatewicket/wickref.pipeWords", laid_gatewicket_wickref_pipeWords), ("gatewicket/wickref.varWords", laid_gatewicket_wickref_varWords), ("gatewicket/wickref.opWords", laid_gatewicket_wickref_opWords), ("gatewicket/wickref.actWords", laid_gatewicket_wickref_actWords), ("unicode/utf8.first", laid_unicode_utf8_first)], narrowed := true }
def RulesReadsUptoSaid : Prop := rulesReadsUptoRow.holds Tryz.pinned (OpenSpec.upto rulesReadsSpec)

/-- 'wicklaw.RulesSays', WHERE WHAT IT READS IS OF BULK AT MOST 1048576: true; the input reads as it did. -/
def rulesSaysUptoRow : OpenClaim := { program := "ytngepacmgabmaaagreatdoor", sum := "177af71fbf5c23966751e26271bf597e83827b1ffd51bca0db42c4e3c962bc49", func := "gatewicket/wicklaw.RulesSays", spec := "rulesSays", inPlace := ["internal/bytealg.IndexByteString", "internal/bytealg.CountString", "internal/bytealg.IndexString", "internal/abi.NoEscape", "internal/bytealg.MakeNoZero"], unfollowed := true, recurses := true, named := ["gatewicket/wickref.varWords", "gatewicket/wickref.actWords", "gatewicket/wickref.opWords", "internal/strconv.uint64pow10", "math/bits.deBruijn32tab", "math/bits.deBruijn64tab", "gatewicket/wickref.pipeWords", "unicode/utf8.first", "unicode/utf8.acceptRanges", "internal/bytealg.MaxLen"], plainKeys := false, apart := false, laid := [("math/bits.deBruijn32tab", laid_math_bits_deBruijn32tab), ("math/bits.deBruijn64tab", laid_math_bits_deBruijn64tab), ("internal/strconv.uint64pow10", laid_internal_strconv_uint64pow10), ("unicode/utf8.acceptRanges", laid_unicode_utf8_acceptRanges), ("gatewicket/wickref.pipeWords", laid_gatewicket_wickref_pipeWords), ("gatewicket/wickref.varWords", laid_gatewicket_wickref_varWords), ("gatewicket/wickref.opWords", laid_gatewicket_wickref_opWords), ("gatewicket/wickref.actWords", laid_gatewicket_wickref_actWords), ("unicode/utf8.first", laid_unicode_utf8_first)], narrowed := true }
def RulesSaysUptoSaid : Prop := rulesSaysUptoRow.holds Tryz.pinned (OpenSpec.upto rulesSaysSpec)

end Rows
end Go.Proofs.YtngepacmgabmaaaGreatDoor
