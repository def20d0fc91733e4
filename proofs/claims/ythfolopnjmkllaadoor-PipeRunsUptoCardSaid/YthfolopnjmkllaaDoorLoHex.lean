/- The sixteen digits in small letters. -/
import Derived.Test.YthfolopnjmkllaaDoorPlain
namespace Go.Proofs.YthfolopnjmkllaaDoor
set_option linter.unusedVariables false
set_option linter.unusedSimpArgs false

def loHex : List UInt8 := [48, 49, 50, 51, 52, 53, 54, 55, 56, 57, 97, 98, 99, 100, 101, 102]
theorem loB_get : ∀ k : Fin 16, ((ByteArray.mk #[48, 49, 50, 51, 52, 53, 54, 55, 56, 57, 97, 98, 99, 100, 101, 102])[k.val]'(by rw [lo_size]; exact k.isLt)) = loHex.getD k.val 0 := by decide +kernel
theorem lo_at' (i : Nat) (h : i < (ByteArray.mk #[48, 49, 50, 51, 52, 53, 54, 55, 56, 57, 97, 98, 99, 100, 101, 102]).size) (j : Nat) (e : i = j) : ((ByteArray.mk #[48, 49, 50, 51, 52, 53, 54, 55, 56, 57, 97, 98, 99, 100, 101, 102])[i]'h) = loHex.getD j 0 := by
  subst e; exact loB_get ⟨i, h⟩
end Go.Proofs.YthfolopnjmkllaaDoor
