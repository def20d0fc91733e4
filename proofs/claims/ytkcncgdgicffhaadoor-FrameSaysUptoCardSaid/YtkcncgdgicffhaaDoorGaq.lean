/- Heads: the text, what a right one is bounded by (plain). -/
import Derived.Test.YtkcncgdgicffhaaDoorGj
namespace Go.Proofs.YtkcncgdgicffhaaDoor
open Go.RowKit
set_option linter.unusedVariables false
set_option linter.unusedSimpArgs false

/-- a field's line, a head's text -/
def fdText (f : Fd) : List UInt8 := f.n.data.toList ++ ([58, 32] ++ (f.v.data.toList ++ [13, 10]))
def hdLine (m t : ByteArray) : List UInt8 := m.data.toList ++ ([32] ++ (t.data.toList ++ [32, 72, 84, 84, 80, 47, 49, 46, 49, 13, 10]))
def fdsText (fs : List Fd) : List UInt8 := fs.flatMap fdText
def hdText (h : Hd) : List UInt8 := hdLine h.m h.t ++ (fdsText h.fs ++ [13, 10])
/-- within the bounds that a right head has -/
def HdSmall (m t : ByteArray) (fs : List Fd) : Prop := m.size ≤ 20 ∧ t.size ≤ 1000 ∧ fs.length ≤ 30 ∧ ∀ k (h : k < fs.length), fs[k].n.size + fs[k].v.size ≤ 1000
theorem fdE_small : ∀ {fs : List Fd}, fdE fs = 0 → ∀ k (h : k < fs.length), fs[k].n.size + fs[k].v.size ≤ 1000
  | [], _, k, h => absurd h (by simp)
  | f :: fs, h0, k, h => by
    unfold fdE at h0
    by_cases h1 : tokL f.n.data.toList = false ∨ valL f.v.data.toList = false
    · rw [if_pos h1] at h0; cases h0
    · rw [if_neg h1] at h0
      by_cases h2 : 1000 < f.n.size + f.v.size
      · rw [if_pos h2] at h0; cases h0
      · rw [if_neg h2] at h0
        cases k with
        | zero => simp; omega
        | succ k => simpa using fdE_small h0 k (by simpa using h)
theorem hdE_small {m t : ByteArray} {fs : List Fd} (h : hdE ⟨m, t, fs⟩ = 0) : HdSmall m t fs := by
  unfold hdE at h
  by_cases h1 : tokL m.data.toList = false ∨ 20 < m.size ∨ t.size = 0 ∨ plainL t.data.toList = false
  · rw [if_pos h1] at h; cases h
  · rw [if_neg h1] at h
    by_cases h2 : 1000 < t.size ∨ 30 < fs.length
    · rw [if_pos h2] at h; cases h
    · rw [if_neg h2] at h
      exact ⟨by have := fun k => h1 (.inr (.inl k)); omega, by omega, by omega, fdE_small h⟩
theorem fdText_len (f : Fd) : (fdText f).length = f.n.size + f.v.size + 4 := by
  unfold fdText; simp only [List.length_append, lst_len, List.length_cons, List.length_nil]; omega
theorem hdLine_len (m t : ByteArray) : (hdLine m t).length = m.size + t.size + 12 := by
  unfold hdLine; simp only [List.length_append, lst_len, List.length_cons, List.length_nil]; omega
theorem line_eq (m t : ByteArray) : (m ++ { data := #[32] } ++ t ++ { data := #[32, 72, 84, 84, 80, 47, 49, 46, 49, 13, 10] } : ByteArray).data.toList = hdLine m t := by
  simp only [lst_app, List.append_assoc]; rfl
theorem fd_eq (f : Fd) : (f.n ++ { data := #[58, 32] } ++ f.v ++ { data := #[13, 10] } : ByteArray).data.toList = fdText f := by
  simp only [lst_app, List.append_assoc]; rfl
theorem fdsText_snoc {fs : List Fd} {k : Nat} (h : k < fs.length) : fdsText (fs.take (k + 1)) = fdsText (fs.take k) ++ fdText fs[k] := by
  unfold fdsText; rw [List.take_succ_eq_append_getElem h, List.flatMap_append]; simp
theorem fdsText_len {fs : List Fd} (hs : ∀ k (h : k < fs.length), fs[k].n.size + fs[k].v.size ≤ 1000) : ∀ k, k ≤ fs.length → (fdsText (fs.take k)).length ≤ k * 1004
  | 0, _ => by simp [fdsText]
  | k + 1, h => by
    have h1 := fdsText_len hs k (by omega)
    have h2 := hs k (by omega)
    rw [fdsText_snoc (by omega), List.length_append, fdText_len]; omega

end Go.Proofs.YtkcncgdgicffhaaDoor
