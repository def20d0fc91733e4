/- A slice of ints that came in as an argument. -/
import Derived.Test.YthfolopnjmkllaaDoorFrmB
import Derived.Test.YthfolopnjmkllaaDoorPipK
import Derived.WideShapes
namespace Go.Proofs.YthfolopnjmkllaaDoor
open Go.ChangeShapes Go.WideShapes Go.ChangeAt Go.RowKit
set_option linter.unusedVariables false
set_option linter.unusedSimpArgs false

set_option maxRecDepth 100000 in
theorem open_intsIR {H : Type} {enc : TypeId × Value → H} {W : World} {v : Value} {d : DataW H} {p : List MemPlace} {base : Nat}
    (hv : Value.okWide Tryd.prog W .any base 38 v) (h : DataW.Trod enc Tryd.prog W 0 (fun _ => true) true 38 v d p) :
    ∃ (A : Option Addr) (cap : Nat) (zs : List Int), v = .slice A zs.length cap ∧ zs.length ≤ 9223372036854775807 ∧ IR W A zs ∧ ∀ n ∈ zs, (Lit.int .i64 n).wf = true := by
  obtain ⟨a0, len, cap, rfl⟩ := okWide_slice Tryd.underlying38 hv
  obtain ⟨fuel, hf⟩ := h
  have hf2 : DataW.trod enc Tryd.prog W 0 (fun _ => true) true fuel 38 [.slice a0 len cap] = some (d, p) := by simpa [Value.cells] using hf
  obtain ⟨A, cap', zs, e, h1, h2, h3, h4⟩ := open_intsR hf2
  simp only [List.cons.injEq, and_true] at e
  unfold maxLen at h2
  exact ⟨A, cap', zs, e, by omega, h3, h4⟩
end Go.Proofs.YthfolopnjmkllaaDoor
