/- An expression that came in as an argument. -/
import Derived.Test.YtckinkapbfaceaaRexA
import Derived.WideShapes
import Derived.Lib.SmallJoins
namespace Go.Proofs.Ytckinkapbfaceaa
open Go.ChangeShapes Go.WideShapes Go.RowKit Go.Joins
set_option linter.unusedVariables false

/-- a struct that came in, as its cells -/
theorem open_aggV {H : Type} {enc : TypeId × Value → H} {P : Program} {w : World} {base : Nat} {spare : Nat → Bool} {held : Bool} {r : Reach} {b0 : Nat} {t : TypeId} {fs : Array Field} {v : Value} {d : DataW H} {p : List MemPlace}
    (hs : P.underlying t = some (.struct fs)) (hv : Value.okWide P w r b0 t v) (h : DataW.Trod enc P w base spare held t v d p) :
    ∃ (cs : List Value) (n : Nat), v = .agg cs.toArray ∧ DataW.trod enc P w base spare held n t cs = some (d, p) := by
  obtain ⟨cs, rfl, hsz⟩ := okWide_struct hs hv
  obtain ⟨l⟩ := cs
  obtain ⟨fuel, hf⟩ := h
  exact ⟨l, fuel, rfl, by simpa [Value.cells] using hf⟩
set_option maxRecDepth 100000 in
theorem open_rexV {H : Type} {enc : TypeId × Value → H} {W : World} {v : Value} {d : DataW H} {p : List MemPlace} {base : Nat}
    (hv : Value.okWide Try.prog W .any base 27 v) (h : DataW.Trod enc Try.prog W 0 (fun _ => true) true 27 v d p) :
    ∃ (n : Nat) (r : Rx) (cs : List Value), v = .agg cs.toArray ∧ RxC W W.heap.size n r cs := by
  obtain ⟨cs, n, e, hf⟩ := open_aggV Try.underlying27 hv h
  obtain ⟨r, hr⟩ := open_rex n cs _ hf
  exact ⟨n, r, cs, e, hr⟩
end Go.Proofs.Ytckinkapbfaceaa
