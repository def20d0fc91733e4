/-
  NARROWER THAN 'FOR EVERY INPUT', by the rows' own cells (each row's printed sentence says how): ProgMakes: loops · RexFinds: loops · RexSays: loops.
  DERIVED. THE GIVEN ROWS OF THIS SEAT. 7 by the template 'for every input the law returns true; each argument reads behind the call as it read before'; 0 by the template 'total and deterministic' (their statements: YtckinkapbfaceaaTotals.lean).
  GIVEN WITH THE SEED: the statements are not yours to turn. If you find one false, say at which input.
  Laid BY PROGRAM, IN A SANDBOX (cutbox-rows.mjs): the forced cells as the released guide's own fill.sh prints them over the translation e3f3827a4c65eced… (all of the seat's roots in one cut). By AI agents, Wed Nov 11 2026. No macro, syntax, notation, axiom, sorry.
-/
import Derived.Test.YtckinkapbfaceaaChecked
import GoSem.Claim
import GoSem.ClaimJoined
import GoSem.ClaimMapViews
import Derived.JoinedTies
import Derived.KernelRfl
namespace Go.Proofs.Ytckinkapbfaceaa
/- THE CELL 'sum', in the pinned program and in every row, IS THE sha256 OF THE DUMP (.gsa) THAT YtckinkapbfaceaaProg.lean LOADS. Nothing in Lean hashes anything: it is a label: what it is worth is what the hold of that sum in a sandbox is worth. -/
noncomputable def Try.pinned : Pinned := { name := "ytckinkapbfaceaa", sum := "e3f3827a4c65eceda45a85bae6923d61b626392eba97812f7ee0b9187ff3835c", checked := Try.checked }
namespace Rows
def none {H : Type} : Left H := { results := [], args := [] }

/-- 'wicklaw.ProgMakes': WHATEVER THE INPUT: true; the input reads as it did. -/
def progMakesSpec : ChangeSpec := { name := "progMakes", fn := fun _ => fun
  | [d] => { results := [.lit (.bool true)], args := [d] }
  | _ => none }
def progMakesRow : OpenClaim := { program := "ytckinkapbfaceaa", sum := "e3f3827a4c65eceda45a85bae6923d61b626392eba97812f7ee0b9187ff3835c", func := "gatewicket/wicklaw.ProgMakes", spec := "progMakes", unfollowed := true, recurses := true, loops := true, plainKeys := false, apart := false }
def ProgMakesSaid : Prop := progMakesRow.holds Try.pinned (OpenSpec.ofChange progMakesSpec)

/-- ITS FALSE NEIGHBOUR: 'it returns false'. Refute it at one input. -/
def progMakesWrong : ChangeSpec := { name := "progMakes", fn := fun _ => fun
  | [d] => { results := [.lit (.bool false)], args := [d] }
  | _ => none }
def ProgMakesWrongFalsely : Prop := progMakesRow.holds Try.pinned (OpenSpec.ofChange progMakesWrong)

/-- 'wicklaw.PhraseHits': WHATEVER THE INPUT: true; the input reads as it did. -/
def phraseHitsSpec : ChangeSpec := { name := "phraseHits", fn := fun _ => fun
  | [d1, d2, d3] => { results := [.lit (.bool true)], args := [d1, d2, d3] }
  | _ => none }
def phraseHitsRow : OpenClaim := { program := "ytckinkapbfaceaa", sum := "e3f3827a4c65eceda45a85bae6923d61b626392eba97812f7ee0b9187ff3835c", func := "gatewicket/wicklaw.PhraseHits", spec := "phraseHits", unfollowed := true, recurses := true, plainKeys := false, apart := false }
def PhraseHitsSaid : Prop := phraseHitsRow.holds Try.pinned (OpenSpec.ofChange phraseHitsSpec)

/-- ITS FALSE NEIGHBOUR: 'it returns false'. Refute it at one input. -/
def phraseHitsWrong : ChangeSpec := { name := "phraseHits", fn := fun _ => fun
  | [d1, d2, d3] => { results := [.lit (.bool false)], args := [d1, d2, d3] }
  | _ => none }
def PhraseHitsWrongFalsely : Prop := phraseHitsRow.holds Try.pinned (OpenSpec.ofChange phraseHitsWrong)

/-- 'wicklaw.ProgFinds': WHATEVER THE INPUT: true; the input reads as it did. -/
def progFindsSpec : ChangeSpec := { name := "progFinds", fn := fun _ => fun
  | [d1, d2] => { results := [.lit (.bool true)], args := [d1, d2] }
  | _ => none }
def progFindsRow : OpenClaim := { program := "ytckinkapbfaceaa", sum := "e3f3827a4c65eceda45a85bae6923d61b626392eba97812f7ee0b9187ff3835c", func := "gatewicket/wicklaw.ProgFinds", spec := "progFinds", unfollowed := true, recurses := true, plainKeys := false, apart := false }
def ProgFindsSaid : Prop := progFindsRow.holds Try.pinned (OpenSpec.ofChange progFindsSpec)

/-- ITS FALSE NEIGHBOUR: 'it returns false'. Refute it at one input. -/
def progFindsWrong : ChangeSpec := { name := "progFinds", fn := fun _ => fun
  | [d1, d2] => { results := [.lit (.bool false)], args := [d1, d2] }
  | _ => none }
def ProgFindsWrongFalsely : Prop := progFindsRow.holds Try.pinned (OpenSpec.ofChange progFindsWrong)

/-- 'wicklaw.RexFinds': WHATEVER THE INPUT: true; the input reads as it did. -/
def rexFindsSpec : ChangeSpec := { name := "rexFinds", fn := fun _ => fun
  | [d1, d2] => { results := [.lit (.bool true)], args := [d1, d2] }
  | _ => none }
def rexFindsRow : OpenClaim := { program := "ytckinkapbfaceaa", sum := "e3f3827a4c65eceda45a85bae6923d61b626392eba97812f7ee0b9187ff3835c", func := "gatewicket/wicklaw.RexFinds", spec := "rexFinds", unfollowed := true, recurses := true, loops := true, plainKeys := false, apart := false }
def RexFindsSaid : Prop := rexFindsRow.holds Try.pinned (OpenSpec.ofChange rexFindsSpec)

/-- ITS FALSE NEIGHBOUR: 'it returns false'. Refute it at one input. -/
def rexFindsWrong : ChangeSpec := { name := "rexFinds", fn := fun _ => fun
  | [d1, d2] => { results := [.lit (.bool false)], args := [d1, d2] }
  | _ => none }
def RexFindsWrongFalsely : Prop := rexFindsRow.holds Try.pinned (OpenSpec.ofChange rexFindsWrong)

/-- 'wicklaw.HeadSays': WHATEVER THE INPUT: true; the input reads as it did. -/
def headSaysSpec : ChangeSpec := { name := "headSays", fn := fun _ => fun
  | [d1, d2] => { results := [.lit (.bool true)], args := [d1, d2] }
  | _ => none }
def headSaysRow : OpenClaim := { program := "ytckinkapbfaceaa", sum := "e3f3827a4c65eceda45a85bae6923d61b626392eba97812f7ee0b9187ff3835c", func := "gatewicket/wicklaw.HeadSays", spec := "headSays", inPlace := ["internal/bytealg.IndexByteString", "internal/abi.NoEscape"], plainKeys := false, apart := false }
def HeadSaysSaid : Prop := headSaysRow.holds Try.pinned (OpenSpec.ofChange headSaysSpec)

/-- ITS FALSE NEIGHBOUR: 'it returns false'. Refute it at one input. -/
def headSaysWrong : ChangeSpec := { name := "headSays", fn := fun _ => fun
  | [d1, d2] => { results := [.lit (.bool false)], args := [d1, d2] }
  | _ => none }
def HeadSaysWrongFalsely : Prop := headSaysRow.holds Try.pinned (OpenSpec.ofChange headSaysWrong)

/-- 'wicklaw.RexSays': WHATEVER THE INPUT: true; the input reads as it did. -/
def rexSaysSpec : ChangeSpec := { name := "rexSays", fn := fun _ => fun
  | [d] => { results := [.lit (.bool true)], args := [d] }
  | _ => none }
def rexSaysRow : OpenClaim := { program := "ytckinkapbfaceaa", sum := "e3f3827a4c65eceda45a85bae6923d61b626392eba97812f7ee0b9187ff3835c", func := "gatewicket/wicklaw.RexSays", spec := "rexSays", inPlace := ["internal/bytealg.IndexByteString"], unfollowed := true, recurses := true, loops := true, plainKeys := false, apart := false }
def RexSaysSaid : Prop := rexSaysRow.holds Try.pinned (OpenSpec.ofChange rexSaysSpec)

/-- ITS FALSE NEIGHBOUR: 'it returns false'. Refute it at one input. -/
def rexSaysWrong : ChangeSpec := { name := "rexSays", fn := fun _ => fun
  | [d] => { results := [.lit (.bool false)], args := [d] }
  | _ => none }
def RexSaysWrongFalsely : Prop := rexSaysRow.holds Try.pinned (OpenSpec.ofChange rexSaysWrong)

/-- 'wicklaw.RexReads': WHATEVER THE INPUT: true; the input reads as it did. -/
def rexReadsSpec : ChangeSpec := { name := "rexReads", fn := fun _ => fun
  | [d] => { results := [.lit (.bool true)], args := [d] }
  | _ => none }
def rexReadsRow : OpenClaim := { program := "ytckinkapbfaceaa", sum := "e3f3827a4c65eceda45a85bae6923d61b626392eba97812f7ee0b9187ff3835c", func := "gatewicket/wicklaw.RexReads", spec := "rexReads", inPlace := ["internal/bytealg.IndexByteString"], unfollowed := true, recurses := true, plainKeys := false, apart := false }
def RexReadsSaid : Prop := rexReadsRow.holds Try.pinned (OpenSpec.ofChange rexReadsSpec)

/-- ITS FALSE NEIGHBOUR: 'it returns false'. Refute it at one input. -/
def rexReadsWrong : ChangeSpec := { name := "rexReads", fn := fun _ => fun
  | [d] => { results := [.lit (.bool false)], args := [d] }
  | _ => none }
def RexReadsWrongFalsely : Prop := rexReadsRow.holds Try.pinned (OpenSpec.ofChange rexReadsWrong)

/- THE SECOND FORM. 'bulk': how many values and letters a reading holds, each counted each time it is reached (what is shared counts as often as it is met; a slice's spare places count too). A statement '..UptoSaid' is the law's where the arguments, and the package variables that the reading takes, are together of bulk at most 1048576: NARROWER than '..Said'. Prove '..Said' where nothing that the law and all that it calls make is longer than what came in: it says more and counts as full. Else prove '..UptoSaid'. A law counts once. -/
mutual
def uptoBulk {H : Type} : DataW H → Nat
  | .lit (.string bytes) => bytes.length + 1
  | .lit _ => 1
  | .nil => 1
  | .ptr d => uptoBulk d + 1
  | .slice elems spare => uptoBulkAll elems + uptoBulkAll spare + 1
  | .agg parts => uptoBulkAll parts + 1
  | .iface _ d => uptoBulk d + 1
  | .map entries => uptoBulkEntries entries + 1
  | .held _ => 1
def uptoBulkAll {H : Type} : List (DataW H) → Nat
  | [] => 0
  | d :: r => uptoBulk d + uptoBulkAll r
def uptoBulkEntries {H : Type} : List (Lit × DataW H) → Nat
  | [] => 0
  | x :: r => uptoBulkEntry x + uptoBulkEntries r
def uptoBulkEntry {H : Type} : Lit × DataW H → Nat
  | (.string bytes, d) => bytes.length + uptoBulk d + 1
  | (_, d) => uptoBulk d + 1
 end
def uptoSmall : (H : Type) → List (DataW H) → Bool := fun _ ds => decide (uptoBulkAll ds ≤ 1048576)
def OpenSpec.upto (s : _root_.Go.ChangeSpec) : _root_.Go.OpenSpec := { _root_.Go.OpenSpec.ofChange s with cond := some uptoSmall }

/-- 'wicklaw.ProgMakes', WHERE WHAT IT READS IS OF BULK AT MOST 1048576: true; the input reads as it did. -/
def progMakesUptoRow : OpenClaim := { program := "ytckinkapbfaceaa", sum := "e3f3827a4c65eceda45a85bae6923d61b626392eba97812f7ee0b9187ff3835c", func := "gatewicket/wicklaw.ProgMakes", spec := "progMakes", unfollowed := true, recurses := true, loops := true, plainKeys := false, apart := false, narrowed := true }
def ProgMakesUptoSaid : Prop := progMakesUptoRow.holds Try.pinned (OpenSpec.upto progMakesSpec)

/-- 'wicklaw.PhraseHits', WHERE WHAT IT READS IS OF BULK AT MOST 1048576: true; the input reads as it did. -/
def phraseHitsUptoRow : OpenClaim := { program := "ytckinkapbfaceaa", sum := "e3f3827a4c65eceda45a85bae6923d61b626392eba97812f7ee0b9187ff3835c", func := "gatewicket/wicklaw.PhraseHits", spec := "phraseHits", unfollowed := true, recurses := true, plainKeys := false, apart := false, narrowed := true }
def PhraseHitsUptoSaid : Prop := phraseHitsUptoRow.holds Try.pinned (OpenSpec.upto phraseHitsSpec)

/-- 'wicklaw.ProgFinds', WHERE WHAT IT READS IS OF BULK AT MOST 1048576: true; the input reads as it did. -/
def progFindsUptoRow : OpenClaim := { program := "ytckinkapbfaceaa", sum := "e3f3827a4c65eceda45a85bae6923d61b626392eba97812f7ee0b9187ff3835c", func := "gatewicket/wicklaw.ProgFinds", spec := "progFinds", unfollowed := true, recurses := true, plainKeys := false, apart := false, narrowed := true }
def ProgFindsUptoSaid : Prop := progFindsUptoRow.holds Try.pinned (OpenSpec.upto progFindsSpec)

/-- 'wicklaw.RexFinds', WHERE WHAT IT READS IS OF BULK AT MOST 1048576: true; the input reads as it did. -/
def rexFindsUptoRow : OpenClaim := { program := "ytckinkapbfaceaa", sum := "e3f3827a4c65eceda45a85bae6923d61b626392eba97812f7ee0b9187ff3835c", func := "gatewicket/wicklaw.RexFinds", spec := "rexFinds", unfollowed := true, recurses := true, loops := true, plainKeys := false, apart := false, narrowed := true }
def RexFindsUptoSaid : Prop := rexFindsUptoRow.holds Try.pinned (OpenSpec.upto rexFindsSpec)

/-- 'wicklaw.HeadSays', WHERE WHAT IT READS IS OF BULK AT MOST 1048576: true; the input reads as it did. -/
def headSaysUptoRow : OpenClaim := { program := "ytckinkapbfaceaa", sum := "e3f3827a4c65eceda45a85bae6923d61b626392eba97812f7ee0b9187ff3835c", func := "gatewicket/wicklaw.HeadSays", spec := "headSays", inPlace := ["internal/bytealg.IndexByteString", "internal/abi.NoEscape"], plainKeys := false, apart := false, narrowed := true }
def HeadSaysUptoSaid : Prop := headSaysUptoRow.holds Try.pinned (OpenSpec.upto headSaysSpec)

/-- 'wicklaw.RexSays', WHERE WHAT IT READS IS OF BULK AT MOST 1048576: true; the input reads as it did. -/
def rexSaysUptoRow : OpenClaim := { program := "ytckinkapbfaceaa", sum := "e3f3827a4c65eceda45a85bae6923d61b626392eba97812f7ee0b9187ff3835c", func := "gatewicket/wicklaw.RexSays", spec := "rexSays", inPlace := ["internal/bytealg.IndexByteString"], unfollowed := true, recurses := true, loops := true, plainKeys := false, apart := false, narrowed := true }
def RexSaysUptoSaid : Prop := rexSaysUptoRow.holds Try.pinned (OpenSpec.upto rexSaysSpec)

/-- 'wicklaw.RexReads', WHERE WHAT IT READS IS OF BULK AT MOST 1048576: true; the input reads as it did. -/
def rexReadsUptoRow : OpenClaim := { program := "ytckinkapbfaceaa", sum := "e3f3827a4c65eceda45a85bae6923d61b626392eba97812f7ee0b9187ff3835c", func := "gatewicket/wicklaw.RexReads", spec := "rexReads", inPlace := ["internal/bytealg.IndexByteString"], unfollowed := true, recurses := true, plainKeys := false, apart := false, narrowed := true }
def RexReadsUptoSaid : Prop := rexReadsUptoRow.holds Try.pinned (OpenSpec.upto rexReadsSpec)

end Rows
end Go.Proofs.Ytckinkapbfaceaa
