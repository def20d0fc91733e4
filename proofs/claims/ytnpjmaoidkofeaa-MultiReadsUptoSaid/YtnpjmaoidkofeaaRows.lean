/-
  No cell of these rows narrows 'for every input' (looked for: loops, veiled, ifaces, maps, wideKeys, modest, calm, conditions, laid).
  DERIVED. THE GIVEN ROWS OF THIS SEAT. 3 by the template 'for every input the law returns true; each argument reads behind the call as it read before'; 0 by the template 'total and deterministic' (their statements: YtnpjmaoidkofeaaTotals.lean).
  GIVEN WITH THE SEED: the statements are not yours to turn. If you find one false, say at which input.
  Laid BY PROGRAM, IN A SANDBOX (cutbox-rows.mjs): the forced cells as the released guide's own fill.sh prints them over the translation b9746192bad1a588… (all of the seat's roots in one cut). By AI agents, Wed Nov 11 2026. No macro, syntax, notation, axiom, sorry.
-/
import Derived.Test.YtnpjmaoidkofeaaChecked
import GoSem.Claim
import GoSem.ClaimJoined
import GoSem.ClaimMapViews
import Derived.JoinedTies
import Derived.KernelRfl
namespace Go.Proofs.Ytnpjmaoidkofeaa
/- THE CELL 'sum', in the pinned program and in every row, IS THE sha256 OF THE DUMP (.gsa) THAT YtnpjmaoidkofeaaProg.lean LOADS. Nothing in Lean hashes anything: it is a label: what it is worth is what the hold of that sum in a sandbox is worth. -/
noncomputable def Try.pinned : Pinned := { name := "ytnpjmaoidkofeaa", sum := "b9746192bad1a588cc50af24bb02a5d7dd6b647a4caeae654be18ededda6cfd7", checked := Try.checked }
namespace Rows
def none {H : Type} : Left H := { results := [], args := [] }

/-- 'wicklaw.MultiSays': WHATEVER THE INPUT: true; the input reads as it did. -/
def multiSaysSpec : ChangeSpec := { name := "multiSays", fn := fun _ => fun
  | [d1, d2, d3] => { results := [.lit (.bool true)], args := [d1, d2, d3] }
  | _ => none }
def multiSaysRow : OpenClaim := { program := "ytnpjmaoidkofeaa", sum := "b9746192bad1a588cc50af24bb02a5d7dd6b647a4caeae654be18ededda6cfd7", func := "gatewicket/wicklaw.MultiSays", spec := "multiSays", inPlace := ["internal/bytealg.IndexByteString", "internal/bytealg.IndexString", "internal/abi.NoEscape"], named := ["internal/bytealg.MaxLen"], apart := false }
def MultiSaysSaid : Prop := multiSaysRow.holds Try.pinned (OpenSpec.ofChange multiSaysSpec)

/-- ITS FALSE NEIGHBOUR: 'it returns false'. Refute it at one input. -/
def multiSaysWrong : ChangeSpec := { name := "multiSays", fn := fun _ => fun
  | [d1, d2, d3] => { results := [.lit (.bool false)], args := [d1, d2, d3] }
  | _ => none }
def MultiSaysWrongFalsely : Prop := multiSaysRow.holds Try.pinned (OpenSpec.ofChange multiSaysWrong)

/-- 'wicklaw.MultiReads': WHATEVER THE INPUT: true; the input reads as it did. -/
def multiReadsSpec : ChangeSpec := { name := "multiReads", fn := fun _ => fun
  | [d1, d2, d3] => { results := [.lit (.bool true)], args := [d1, d2, d3] }
  | _ => none }
def multiReadsRow : OpenClaim := { program := "ytnpjmaoidkofeaa", sum := "b9746192bad1a588cc50af24bb02a5d7dd6b647a4caeae654be18ededda6cfd7", func := "gatewicket/wicklaw.MultiReads", spec := "multiReads", inPlace := ["internal/bytealg.IndexByteString", "internal/bytealg.IndexString"], named := ["internal/bytealg.MaxLen"], apart := false }
def MultiReadsSaid : Prop := multiReadsRow.holds Try.pinned (OpenSpec.ofChange multiReadsSpec)

/-- ITS FALSE NEIGHBOUR: 'it returns false'. Refute it at one input. -/
def multiReadsWrong : ChangeSpec := { name := "multiReads", fn := fun _ => fun
  | [d1, d2, d3] => { results := [.lit (.bool false)], args := [d1, d2, d3] }
  | _ => none }
def MultiReadsWrongFalsely : Prop := multiReadsRow.holds Try.pinned (OpenSpec.ofChange multiReadsWrong)

/-- 'wicklaw.RexReads': WHATEVER THE INPUT: true; the input reads as it did. -/
def rexReadsSpec : ChangeSpec := { name := "rexReads", fn := fun _ => fun
  | [d] => { results := [.lit (.bool true)], args := [d] }
  | _ => none }
def rexReadsRow : OpenClaim := { program := "ytnpjmaoidkofeaa", sum := "b9746192bad1a588cc50af24bb02a5d7dd6b647a4caeae654be18ededda6cfd7", func := "gatewicket/wicklaw.RexReads", spec := "rexReads", inPlace := ["internal/bytealg.IndexByteString"], unfollowed := true, recurses := true, apart := false }
def RexReadsSaid : Prop := rexReadsRow.holds Try.pinned (OpenSpec.ofChange rexReadsSpec)

/-- ITS FALSE NEIGHBOUR: 'it returns false'. Refute it at one input. -/
def rexReadsWrong : ChangeSpec := { name := "rexReads", fn := fun _ => fun
  | [d] => { results := [.lit (.bool false)], args := [d] }
  | _ => none }
def RexReadsWrongFalsely : Prop := rexReadsRow.holds Try.pinned (OpenSpec.ofChange rexReadsWrong)

/- THE SECOND FORM. 'bulk': how many values and letters a reading holds, each counted each time it is reached (what is shared counts as often as it is met; a slice's spare places count too). A statement '..UptoSaid' is the law's where the arguments, and the package variables that the reading takes, are together of bulk at most 1048576: NARROWER than '..Said'. Prove '..Said' where nothing that the law and all that it calls make is longer than what came in: it says more and counts as full. Else prove '..UptoSaid'. A law counts once. -/
mutual
def uptoBulk {H : Type} : DataW H → Nat
  | .lit (.string bytes) => bytes.length + 1
  | .lit _ => 1
  | .nil => 1
  | .ptr d => uptoBulk d + 1
  | .slice elems spare => uptoBulkAll elems + uptoBulkAll spare + 1
  | .agg parts => uptoBulkAll parts + 1
  | .iface _ d => uptoBulk d + 1
  | .map entries => uptoBulkEntries entries + 1
  | .held _ => 1
def uptoBulkAll {H : Type} : List (DataW H) → Nat
  | [] => 0
  | d :: r => uptoBulk d + uptoBulkAll r
def uptoBulkEntries {H : Type} : List (Lit × DataW H) → Nat
  | [] => 0
  | x :: r => uptoBulkEntry x + uptoBulkEntries r
def uptoBulkEntry {H : Type} : Lit × DataW H → Nat
  | (.string bytes, d) => bytes.length + uptoBulk d + 1
  | (_, d) => uptoBulk d + 1
 end
def uptoSmall : (H : Type) → List (DataW H) → Bool := fun _ ds => decide (uptoBulkAll ds ≤ 1048576)
def OpenSpec.upto (s : _root_.Go.ChangeSpec) : _root_.Go.OpenSpec := { _root_.Go.OpenSpec.ofChange s with cond := some uptoSmall }

/-- 'wicklaw.MultiSays', WHERE WHAT IT READS IS OF BULK AT MOST 1048576: true; the input reads as it did. -/
def multiSaysUptoRow : OpenClaim := { program := "ytnpjmaoidkofeaa", sum := "b9746192bad1a588cc50af24bb02a5d7dd6b647a4caeae654be18ededda6cfd7", func := "gatewicket/wicklaw.MultiSays", spec := "multiSays", inPlace := ["internal/bytealg.IndexByteString", "internal/bytealg.IndexString", "internal/abi.NoEscape"], named := ["internal/bytealg.MaxLen"], apart := false, narrowed := true }
def MultiSaysUptoSaid : Prop := multiSaysUptoRow.holds Try.pinned (OpenSpec.upto multiSaysSpec)

/-- 'wicklaw.MultiReads', WHERE WHAT IT READS IS OF BULK AT MOST 1048576: true; the input reads as it did. -/
def multiReadsUptoRow : OpenClaim := { program := "ytnpjmaoidkofeaa", sum := "b9746192bad1a588cc50af24bb02a5d7dd6b647a4caeae654be18ededda6cfd7", func := "gatewicket/wicklaw.MultiReads", spec := "multiReads", inPlace := ["internal/bytealg.IndexByteString", "internal/bytealg.IndexString"], named := ["internal/bytealg.MaxLen"], apart := false, narrowed := true }
def MultiReadsUptoSaid : Prop := multiReadsUptoRow.holds Try.pinned (OpenSpec.upto multiReadsSpec)

/-- 'wicklaw.RexReads', WHERE WHAT IT READS IS OF BULK AT MOST 1048576: true; the input reads as it did. -/
def rexReadsUptoRow : OpenClaim := { program := "ytnpjmaoidkofeaa", sum := "b9746192bad1a588cc50af24bb02a5d7dd6b647a4caeae654be18ededda6cfd7", func := "gatewicket/wicklaw.RexReads", spec := "rexReads", inPlace := ["internal/bytealg.IndexByteString"], unfollowed := true, recurses := true, apart := false, narrowed := true }
def RexReadsUptoSaid : Prop := rexReadsUptoRow.holds Try.pinned (OpenSpec.upto rexReadsSpec)

end Rows
end Go.Proofs.Ytnpjmaoidkofeaa
