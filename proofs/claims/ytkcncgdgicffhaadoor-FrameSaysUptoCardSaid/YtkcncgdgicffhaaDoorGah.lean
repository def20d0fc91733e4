/- strings.Builder in plain words: the block b holds the text l. -/
import Derived.Test.YtkcncgdgicffhaaDoorGag
import Derived.Test.YtkcncgdgicffhaaDoorGc
namespace Go.Proofs.YtkcncgdgicffhaaDoor
open Go.RowKit
set_option linter.unusedVariables false

def Bld (w : World) (b : Nat) (l : List UInt8) : Prop := IsB b b (Lib.byteCells l) w
section
variable {w w' : World} {b : Nat} {l : List UInt8}
theorem Bld.new (w : World) : Bld (w.alloc (.cells #[.pointer none, .slice none 0 0] 98)) w.heap.size [] := Lib.fresh_isBuilder _ _ _
theorem Bld.lt (h : Bld w b l) : b < w.heap.size := by
  rcases h with h | h <;> exact h.lt
theorem bldAt_alloc {p : Value} {bs : List Value} {B : Nat} {T e : TypeId} (h : Lib.BuilderAt T e B b p bs w) (o : Obj) : Lib.BuilderAt T e B b p bs (w.alloc o) := by
  have hlt := h.lt
  obtain ⟨hB, v, hb, ho, hn⟩ := h
  exact ⟨hB, v, (Below.heap_alloc w o b hlt).trans hb, ho.alloc o, hn⟩
theorem Bld.alloc (h : Bld w b l) (o : Obj) : Bld (w.alloc o) b l := h.elim (fun h => .inl (bldAt_alloc h o)) (fun h => .inr (bldAt_alloc h o))
theorem Bld.drew (h : Bld w b l) : Bld w.drew b l := h
theorem Bld.drewN (h : Bld w b l) (n : Nat) : Bld (w.drewN n) b l := h
theorem write_any (s : ByteArray) (h : Bld w b l) (hl : l.length + s.size ≤ 140737488355328) :
    Calls Tryd.prog 54 #[.pointer (some ⟨b, 0, none⟩), .string s] w fun e w' => e = .returned (.tuple #[.int .i64 s.size, .nilIface]) ∧ Bld w' b (l ++ s.data.toList) ∧ Below b w w' :=
  (writeString_any b b _ s w h (by rw [Lib.byteCells_length]; exact hl) (Nat.le_of_lt h.lt)).mono fun e w' ⟨h1, h2, h3⟩ => ⟨h1, by unfold Bld; rw [Lib.byteCells_append, ← Lib.strCells_eq]; exact h2, h3⟩
theorem bldString_any (h : Bld w b l) : Calls Tryd.prog 56 #[.pointer (some ⟨b, 0, none⟩)] w fun e w' => e = .returned (.string (str l)) ∧ Below b w w' :=
  Tryd.Builder_String_any b b l w h (Nat.le_of_lt h.lt)
end
end Go.Proofs.YtkcncgdgicffhaaDoor
