/- []byte(s): a new block of bytes that is written in place; string(..) of it. -/
import Derived.Test.YthfolopnjmkllaaDoorBytes
import Derived.Test.YthfolopnjmkllaaDoorDec
import Derived.Laws.IdiomStrings
namespace Go.Proofs.YthfolopnjmkllaaDoor
open Go.RowKit
set_option linter.unusedVariables false
set_option linter.unusedSimpArgs false

/-- block g holds the bytes l, and they may be written -/
def MB (w : World) (g : Nat) (l : List UInt8) : Prop := ∀ j (h : j < l.length), w.cell? ⟨g, j, none⟩ = some (bv l[j]) ∧ w.frozen? ⟨g, j, none⟩ = false
theorem mb_make (s : ByteArray) (w : World) : ∃ c w1, (convert 9 72 (.string s)).run Tryd.prog w = .ok (.slice (some ⟨w.heap.size, 0, none⟩) s.size c) w1 ∧
    MB w1 w.heap.size s.data.toList ∧ Below w.heap.size w w1 ∧ w1.heap.size = w.heap.size + 1 := by
  refine ⟨_, _, run_bytes_of_string (P := Tryd.prog) w 9 72 5 s Tryd.underlying9 Tryd.underlying72 Tryd.underlying5, ?_, ?_, ?_⟩
  · intro j h
    have hj : j < s.data.size := by simpa using h
    have e : (w.drew).heap.size = w.heap.size := rfl
    constructor
    · rw [← e, World.cell?_alloc_mark, bytesRow_at s _ j hj]
      simp [bv]
    · rw [← e, World.frozen?_alloc_mark]
      have : j < (bytesRow s (grownCap w s.size 0 5)).size := by
        unfold bytesRow; rw [Array.size_append, Array.size_map]; omega
      simp; intro h1; omega
  · exact (Below.refl _ _).drew.alloc (Nat.le_refl _) _
  · simp
theorem MB.set_ {w : World} {g : Nat} {l : List UInt8} (h : MB w g l) {k : Nat} (hk : k < l.length) (b : UInt8) : MB (w.setCell ⟨g, k, none⟩ (bv b)) g (l.set k b) := by
  intro j hj0
  have hj : j < l.length := by rw [List.length_set] at hj0; exact hj0
  constructor
  · by_cases e : j = k
    · subst e
      rw [List.getElem_set_self]
      exact World.cell?_setCell_same _ _ _ (h j hj).1
    · rw [List.getElem_set_ne (fun h => e h.symm), World.cell?_setCell_other _ _ _ _ (by intro h; injection h; omega)]
      exact (h j hj).1
  · rw [World.frozen?_setCell]; exact (h j hj).2
theorem mb_str {w : World} {g : Nat} {l : List UInt8} (h : MB w g l) {n : Nat} (hn : l.length = n) (c : Nat) : (convert 72 9 (.slice (some ⟨g, 0, none⟩) n c)).run Tryd.prog w = .ok (.string (str l)) w := by
  subst hn
  exact run_convert_bytes_back (P := Tryd.prog) w 72 9 5 ⟨g, 0, none⟩ c l Tryd.underlying72 Tryd.underlying5 Tryd.underlying9 (fun j hj => by
    have hadd : (⟨g, 0, none⟩ : Addr).add j = ⟨g, j, none⟩ := by unfold Addr.add; split <;> simp_all
    rw [hadd]; exact (h j hj).1)
theorem bv_of {n : Int} (h0 : 0 ≤ n) (h1 : n ≤ 255) : Value.int .u8 n = bv (UInt8.ofNat n.toNat) := by
  unfold bv; rw [toNat_of _ (by omega)]; congr 1; omega
end Go.Proofs.YthfolopnjmkllaaDoor
