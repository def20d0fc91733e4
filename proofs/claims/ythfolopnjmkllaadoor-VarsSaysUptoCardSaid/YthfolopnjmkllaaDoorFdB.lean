/- Small facts: empty strings; the two cells of a field. -/
import Derived.Test.YthfolopnjmkllaaDoorFd
namespace Go.Proofs.YthfolopnjmkllaaDoor
open Go.RowKit
set_option linter.unusedVariables false
set_option linter.unusedSimpArgs false

theorem empty_is {t : ByteArray} (h : t.size = 0) : t.toList.isEmpty = true := by
  rw [Lib.toList_data, List.isEmpty_iff]; exact List.eq_nil_of_length_eq_zero (by rw [lst_len]; exact h)
theorem empty_no {t : ByteArray} (h : ¬ t.size = 0) : t.toList.isEmpty = false := by
  rw [Lib.toList_data, List.isEmpty_eq_false_iff]; intro e; have := lst_len t; rw [e, List.length_nil] at this; omega
/-- the two cells of a field as the walk shows them -/
theorem fd_cells {w : World} {B : Nat} {A : Option Addr} {cap : Nat} {fs : List Fd} (h : FdR w B A cap fs) {k : Nat} (hk : k < fs.length) :
    ∃ ad, A = some ad ∧ ad.block < B ∧ w.cell? (ad.add (k * 2)) = some (.string fs[k].n) ∧ w.cell? ⟨(ad.add (k * 2)).block, (ad.add (k * 2)).off + 1, none⟩ = some (.string fs[k].v) ∧ fs[k].n.size ≤ 1048576 ∧ fs[k].v.size ≤ 1048576 := by
  obtain ⟨ad, e, hb, h0, h1, h2, h3⟩ := h.at_ hk
  exact ⟨ad, e, hb, h0, h1, h2, h3⟩
end Go.Proofs.YthfolopnjmkllaaDoor
