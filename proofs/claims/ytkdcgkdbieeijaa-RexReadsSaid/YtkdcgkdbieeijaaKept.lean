/- What a call keeps: all of the old memory but one block. -/
import Derived.Test.YtkdcgkdbieeijaaMem
namespace Go.Proofs.Ytkdcgkdbieeijaa
open Go.RowKit
set_option linter.unusedVariables false

/-- all of the old memory but the block g stands as it stood -/
abbrev KeptOff (w w' : World) (g : Nat) : Prop := w.grownBy w' (some g)
section
variable {w w1 w2 w' : World} {g : Nat}
theorem KeptOff.refl : KeptOff w w g := World.grownBy.refl _ _
theorem KeptOff.set_ (h : KeptOff w w' g) (i : Nat) (u : Value) : KeptOff w (w'.setCell ⟨g, i, none⟩ u) g :=
  ⟨h.os, h.tape, h.output, by simpa [World.setCell] using h.size, fun k hk hne => (Below.heap_setCell _ _ _ _ (by intro e; exact hne (by rw [e]))).trans (h.block k hk hne)⟩
theorem KeptOff.alloc (h : KeptOff w w' g) (o : Obj) : KeptOff w (w'.alloc o) g :=
  ⟨h.os, h.tape, h.output, by have := h.size; simp; omega, fun k hk hne => (Below.heap_alloc _ _ _ (Nat.lt_of_lt_of_le hk h.size)).trans (h.block k hk hne)⟩
theorem KeptOff.drew (h : KeptOff w w' g) : KeptOff w w'.drew g := ⟨h.os, h.tape, h.output, h.size, h.block⟩
theorem KeptOff.drewN (h : KeptOff w w' g) (n : Nat) : KeptOff w (w'.drewN n) g := ⟨h.os, h.tape, h.output, h.size, h.block⟩
theorem KeptOff.tr (h : KeptOff w w1 g) (k : KeptOff w1 w2 g) : KeptOff w w2 g :=
  ⟨k.os.trans h.os, k.tape.trans h.tape, k.output.trans h.output, Nat.le_trans h.size k.size, fun i hi hne => (k.block i (Nat.lt_of_lt_of_le hi h.size) hne).trans (h.block i hi hne)⟩
theorem KeptOff.of_below (h : Below w.heap.size w w') : KeptOff w w' g := ⟨h.os, h.tape, h.output, h.size, fun k hk _ => h.block k hk⟩
theorem KeptOff.blk {g' : Nat} {t : TypeId} {cs : Array Value} (h : KeptOff w w' g) (hb : Blk w g' t cs) (hne : g' ≠ g) : Blk w' g' t cs := hb.grown h (by intro e; injection e with e; exact hne e)
theorem KeptOff.below {B : Nat} (h : KeptOff w w' g) (hB : B ≤ w.heap.size) (hg : B ≤ g) : Below B w w' :=
  (Below.refl _ _).grown h hB fun k e => by injection e with e; omega
/-- a store into a block made meanwhile -/
theorem KeptOff.new_ (h : KeptOff w w' g) {p : Addr} (hp : w.heap.size ≤ p.block) (u : Value) : KeptOff w (w'.setCell p u) g :=
  ⟨h.os, h.tape, h.output, by simpa [World.setCell] using h.size, fun k hk hne => (Below.heap_setCell _ _ _ _ (by omega)).trans (h.block k hk hne)⟩
end
end Go.Proofs.Ytkdcgkdbieeijaa
