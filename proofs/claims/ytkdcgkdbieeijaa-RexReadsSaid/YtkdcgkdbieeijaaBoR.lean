/- Rows of bools in blocks of the call's own. -/
import Derived.Test.YtkdcgkdbieeijaaProg
import Derived.Test.YtkdcgkdbieeijaaMem
import Derived.WalkKit
import Derived.Deep.OwnRows
import Derived.Laws.IdiomCopy
namespace Go.Proofs.Ytkdcgkdbieeijaa
open Go.RowKit
set_option linter.unusedVariables false
set_option linter.unusedSimpArgs false

theorem infoBool : (Try.prog.info? 4).map (fun i => (i.zero, i.size, i.bytes)) = some (some (.bool false), 1, 1) := by kernel_rfl
/-- the block b holds, from its head on, the N bools f -/
structure BoR (w : World) (b N : Nat) (f : Nat → Bool) : Prop where
  lt : b < w.heap.size
  cell : ∀ i, i < N → w.cell? ⟨b, i, none⟩ = some (.bool (f i))
  frozen : ∀ i, i < N → w.frozen? ⟨b, i, none⟩ = false
section
variable {w w' : World} {b N : Nat} {f g : Nat → Bool}
theorem BoR.congr (h : BoR w b N f) (e : ∀ i, i < N → f i = g i) : BoR w b N g := ⟨h.lt, fun i hi => by rw [h.cell i hi, e i hi], h.frozen⟩
theorem BoR.below {B : Nat} (h : BoR w b N f) (hb : Below B w w') (hB : b < B) : BoR w' b N f :=
  ⟨Nat.lt_of_lt_of_le h.lt hb.size, fun i hi => (hb.cell (p := ⟨b, i, none⟩) hB).trans (h.cell i hi), fun i hi => (hb.frozen (p := ⟨b, i, none⟩) hB).trans (h.frozen i hi)⟩
theorem BoR.kept (h : BoR w b N f) (hb : Below w.heap.size w w') : BoR w' b N f := h.below hb h.lt
theorem BoR.alloc (h : BoR w b N f) (o : Obj) : BoR (w.alloc o) b N f := h.kept ((Below.refl _ _).alloc (Nat.le_refl _) _)
theorem BoR.drew (h : BoR w b N f) : BoR w.drew b N f := ⟨h.lt, h.cell, h.frozen⟩
theorem BoR.drewN (h : BoR w b N f) (n : Nat) : BoR (w.drewN n) b N f := ⟨h.lt, h.cell, h.frozen⟩
theorem BoR.set_ (h : BoR w b N f) {k : Nat} (hk : k < N) (v : Bool) : BoR (w.setCell ⟨b, k, none⟩ (.bool v)) b N (fun j => if j = k then v else f j) := by
  refine ⟨by simpa [World.setCell] using h.lt, fun i hi => ?_, fun i hi => by rw [World.frozen?_setCell]; exact h.frozen i hi⟩
  by_cases e : i = k
  · subst e; rw [if_pos rfl]; exact World.cell?_setCell_same _ _ _ (h.cell i hi)
  · rw [if_neg e, World.cell?_setCell_other _ _ _ _ (by intro h; injection h; omega)]; exact h.cell i hi
theorem BoR.far (h : BoR w b N f) {p : Addr} (hp : p.block ≠ b) (v : Value) : BoR (w.setCell p v) b N f :=
  ⟨by simpa [World.setCell] using h.lt, fun i hi => by rw [World.cell?_setCell_other _ _ _ _ (by intro h; subst h; exact hp rfl)]; exact h.cell i hi, fun i hi => by rw [World.frozen?_setCell]; exact h.frozen i hi⟩
theorem BoR.made (w : World) (n : Nat) : BoR (w.alloc (.cells (madeCells #[.bool false] n) 4)) w.heap.size n (fun _ => false) := by
  have h := World.rowIs_made w (.bool false) n 4
  exact ⟨h.lt, fun i hi => h.cell hi, fun i _ => h.frozen i⟩
theorem BoR.less (h : BoR w b N f) {M : Nat} (hM : M ≤ N) : BoR w b M f := ⟨h.lt, fun i hi => h.cell i (by omega), fun i hi => h.frozen i (by omega)⟩
end
end Go.Proofs.Ytkdcgkdbieeijaa
