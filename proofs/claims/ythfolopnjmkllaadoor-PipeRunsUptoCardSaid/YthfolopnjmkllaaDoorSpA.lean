/- strings.Split in the words of wickref.Pieces. -/
import Derived.Test.YthfolopnjmkllaaDoorClnE
namespace Go.Proofs.YthfolopnjmkllaaDoor
open Go.RowKit
set_option linter.unusedVariables false
set_option linter.unusedSimpArgs false

theorem sp_any (s t : ByteArray) (m : Int) (w : World) (hs : s.size ≤ 1048576) (hm : w.cell? ⟨0, 0, none⟩ = some (.int .i64 m)) (h1 : 1 ≤ t.size) :
    Calls Tryd.prog 79 #[.string s, .string t] w fun e w' => e = .returned (.slice (some ⟨w.heap.size, 0, none⟩) (pcs s t).length (pcs s t).length) ∧ OS w' w.heap.size (.slice (some ⟨w.heap.size, 0, none⟩) (pcs s t).length (pcs s t).length) (pcs s t) ∧ Below w.heap.size w w' := by
  have hl := pcs_len (s := s) h1
  have hle := pcs_le (s := s) h1
  refine (Tryd.strings_Split s t m w (by omega) hm h1).mono fun e w' ⟨h2, h3⟩ => ?_
  refine ⟨by rw [h2, hl], ?_, by rw [h3]; exact (Below.refl _ _).alloc (Nat.le_refl _) _⟩
  rw [h3]
  have := World.ownsRow_lit (base := w.heap.size) (e := 9) (size := 1) w ((pcs s t).map Value.string).toArray (pcs s t).length (Nat.le_refl _) (by unfold maxLen; omega) (by simp)
  exact this
end Go.Proofs.YthfolopnjmkllaaDoor
