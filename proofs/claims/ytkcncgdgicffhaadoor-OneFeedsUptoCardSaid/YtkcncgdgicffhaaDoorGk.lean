/- Heads: the text, what a right one is bounded by (plain). -/
import Derived.Test.YtkcncgdgicffhaaDoorGh
import Derived.Test.YtkcncgdgicffhaaDoorGf
import Derived.Test.YtkcncgdgicffhaaDoorGd
import Derived.Laws.IdiomStrings
namespace Go.Proofs.YtkcncgdgicffhaaDoor
open Go.RowKit
set_option linter.unusedVariables false
set_option linter.unusedSimpArgs false

/-- a field's line, a head's text -/
def fdText (f : Fd) : List UInt8 := f.n.data.toList ++ ([58, 32] ++ (f.v.data.toList ++ [13, 10]))
def hdLine (m t : ByteArray) : List UInt8 := m.data.toList ++ ([32] ++ (t.data.toList ++ [32, 72, 84, 84, 80, 47, 49, 46, 49, 13, 10]))
def fdsText (fs : List Fd) : List UInt8 := fs.flatMap fdText
def hdText (h : Hd) : List UInt8 := hdLine h.m h.t ++ (fdsText h.fs ++ [13, 10])
/-- within the bounds that a right head has -/
def HdSmall (m t : ByteArray) (fs : List Fd) : Prop := m.size ≤ 20 ∧ t.size ≤ 1000 ∧ fs.length ≤ 30 ∧ ∀ k (h : k < fs.length), fs[k].n.size + fs[k].v.size ≤ 1000
theorem fdE_small : ∀ {fs : List Fd}, fdE fs = 0 → ∀ k (h : k < fs.length), fs[k].n.size + fs[k].v.size ≤ 1000
  | [], _, k, h => absurd h (by simp)
  | f :: fs, h0, k, h => by
    unfold fdE at h0
    by_cases h1 : tokL f.n.data.toList = false ∨ valL f.v.data.toList = false
    · rw [if_pos h1] at h0; cases h0
    · rw [if_neg h1] at h0
      by_cases h2 : 1000 < f.n.size + f.v.size
      · rw [if_pos h2] at h0; cases h0
      · rw [if_neg h2] at h0
        cases k with
        | zero => simp; omega
        | succ k => simpa using fdE_small h0 k (by simpa using h)
theorem hdE_small {m t : ByteArray} {fs : List Fd} (h : hdE ⟨m, t, fs⟩ = 0) : HdSmall m t fs := by
  unfold hdE at h
  by_cases h1 : tokL m.data.toList = false ∨ 20 < m.size ∨ t.size = 0 ∨ plainL t.data.toList = false
  · rw [if_pos h1] at h; cases h
  · rw [if_neg h1] at h
    by_cases h2 : 1000 < t.size ∨ 30 < fs.length
    · rw [if_pos h2] at h; cases h
    · rw [if_neg h2] at h
      exact ⟨by have := fun k => h1 (.inr (.inl k)); omega, by omega, by omega, fdE_small h⟩
theorem fdText_len (f : Fd) : (fdText f).length = f.n.size + f.v.size + 4 := by
  unfold fdText; simp only [List.length_append, lst_len, List.length_cons, List.length_nil]; omega
theorem hdLine_len (m t : ByteArray) : (hdLine m t).length = m.size + t.size + 12 := by
  unfold hdLine; simp only [List.length_append, lst_len, List.length_cons, List.length_nil]; omega
theorem line_eq (m t : ByteArray) : (m ++ { data := #[32] } ++ t ++ { data := #[32, 72, 84, 84, 80, 47, 49, 46, 49, 13, 10] } : ByteArray).data.toList = hdLine m t := by
  simp only [lst_app, List.append_assoc]; rfl
theorem fd_eq (f : Fd) : (f.n ++ { data := #[58, 32] } ++ f.v ++ { data := #[13, 10] } : ByteArray).data.toList = fdText f := by
  simp only [lst_app, List.append_assoc]; rfl
theorem fdsText_snoc {fs : List Fd} {k : Nat} (h : k < fs.length) : fdsText (fs.take (k + 1)) = fdsText (fs.take k) ++ fdText fs[k] := by
  unfold fdsText; rw [List.take_succ_eq_append_getElem h, List.flatMap_append]; simp
theorem fdsText_len {fs : List Fd} (hs : ∀ k (h : k < fs.length), fs[k].n.size + fs[k].v.size ≤ 1000) : ∀ k, k ≤ fs.length → (fdsText (fs.take k)).length ≤ k * 1004
  | 0, _ => by simp [fdsText]
  | k + 1, h => by
    have h1 := fdsText_len hs k (by omega)
    have h2 := hs k (by omega)
    rw [fdsText_snoc (by omega), List.length_append, fdText_len]; omega

end Go.Proofs.YtkcncgdgicffhaaDoor

/- []byte(s): a new block of bytes that is written in place; string(..) of it. -/
namespace Go.Proofs.YtkcncgdgicffhaaDoor
open Go.RowKit
set_option linter.unusedVariables false
set_option linter.unusedSimpArgs false

/-- block g holds the bytes l, and they may be written -/
def MB (w : World) (g : Nat) (l : List UInt8) : Prop := ∀ j (h : j < l.length), w.cell? ⟨g, j, none⟩ = some (bv l[j]) ∧ w.frozen? ⟨g, j, none⟩ = false
theorem mb_make (s : ByteArray) (w : World) : ∃ c w1, (convert 9 90 (.string s)).run Tryd.prog w = .ok (.slice (some ⟨w.heap.size, 0, none⟩) s.size c) w1 ∧
    MB w1 w.heap.size s.data.toList ∧ Below w.heap.size w w1 ∧ w1.heap.size = w.heap.size + 1 := by
  refine ⟨_, _, run_bytes_of_string (P := Tryd.prog) w 9 90 5 s Tryd.underlying9 Tryd.underlying90 Tryd.underlying5, ?_, ?_, ?_⟩
  · intro j h
    have hj : j < s.data.size := by simpa using h
    have e : (w.drew).heap.size = w.heap.size := rfl
    constructor
    · rw [← e, World.cell?_alloc_mark, bytesRow_at s _ j hj]
      simp [bv]
    · rw [← e, World.frozen?_alloc_mark]
      have : j < (bytesRow s (grownCap w s.size 0 5)).size := by
        unfold bytesRow; rw [Array.size_append, Array.size_map]; omega
      simp; intro h1; omega
  · exact (Below.refl _ _).drew.alloc (Nat.le_refl _) _
  · simp
theorem MB.set_ {w : World} {g : Nat} {l : List UInt8} (h : MB w g l) {k : Nat} (hk : k < l.length) (b : UInt8) : MB (w.setCell ⟨g, k, none⟩ (bv b)) g (l.set k b) := by
  intro j hj0
  have hj : j < l.length := by rw [List.length_set] at hj0; exact hj0
  constructor
  · by_cases e : j = k
    · subst e
      rw [List.getElem_set_self]
      exact World.cell?_setCell_same _ _ _ (h j hj).1
    · rw [List.getElem_set_ne (fun h => e h.symm), World.cell?_setCell_other _ _ _ _ (by intro h; injection h; omega)]
      exact (h j hj).1
  · rw [World.frozen?_setCell]; exact (h j hj).2
theorem mb_str {w : World} {g : Nat} {l : List UInt8} (h : MB w g l) {n : Nat} (hn : l.length = n) (c : Nat) : (convert 90 9 (.slice (some ⟨g, 0, none⟩) n c)).run Tryd.prog w = .ok (.string (str l)) w := by
  subst hn
  exact run_convert_bytes_back (P := Tryd.prog) w 90 9 5 ⟨g, 0, none⟩ c l Tryd.underlying90 Tryd.underlying5 Tryd.underlying9 (fun j hj => by
    have hadd : (⟨g, 0, none⟩ : Addr).add j = ⟨g, j, none⟩ := by unfold Addr.add; split <;> simp_all
    rw [hadd]; exact (h j hj).1)
theorem bv_of {n : Int} (h0 : 0 ≤ n) (h1 : n ≤ 255) : Value.int .u8 n = bv (UInt8.ofNat n.toNat) := by
  unfold bv; rw [toNat_of _ (by omega)]; congr 1; omega
end Go.Proofs.YtkcncgdgicffhaaDoor
