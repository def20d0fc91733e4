/- The spans of an expression (P16), plainly: from where to where it matches. -/
import Derived.Test.YtckinkapbfaceaaHas
namespace Go.Proofs.Ytckinkapbfaceaa
set_option linter.unusedVariables false

/-- none or more steps -/
inductive Star (R : Nat → Nat → Prop) : Nat → Nat → Prop where
  | refl (i : Nat) : Star R i i
  | step {i m j : Nat} : R i m → Star R m j → Star R i j
theorem Star.one {R : Nat → Nat → Prop} {i j : Nat} (h : R i j) : Star R i j := .step h (.refl _)
theorem Star.trans {R : Nat → Nat → Prop} {i m j : Nat} (h : Star R i m) (k : Star R m j) : Star R i j := by
  induction h with
  | refl => exact k
  | step a _ ih => exact .step a (ih k)
theorem Star.snoc {R : Nat → Nat → Prop} {i m j : Nat} (h : Star R i m) (k : R m j) : Star R i j := h.trans (.one k)
/-- q matches the bytes from i to j -/
def Sp (s : List UInt8) : Re → Nat → Nat → Prop
  | .none, _, _ => False
  | .empty, i, j => i = j ∧ i ≤ s.length
  | .beg, i, j => i = 0 ∧ j = 0
  | .fin, i, j => i = s.length ∧ j = s.length
  | .byte q, i, j => ∃ h : i < s.length, j = i + 1 ∧ setB q s[i].toNat = true
  | .cat a b, i, j => ∃ m, Sp s a i m ∧ Sp s b m j
  | .alt a b, i, j => Sp s a i j ∨ Sp s b i j
  | .star a, i, j => Star (Sp s a) i j ∧ i ≤ s.length
theorem star_le {R : Nat → Nat → Prop} {n : Nat} (h : ∀ i j, R i j → i ≤ j ∧ j ≤ n) {i j : Nat} (k : Star R i j) (hi : i ≤ n) : i ≤ j ∧ j ≤ n := by
  induction k with
  | refl => exact ⟨Nat.le_refl _, hi⟩
  | step a _ ih =>
    have h1 := h _ _ a
    have h2 := ih h1.2
    exact ⟨Nat.le_trans h1.1 h2.1, h2.2⟩
theorem sp_le (s : List UInt8) : ∀ (q : Re) (i j : Nat), Sp s q i j → i ≤ j ∧ j ≤ s.length
  | .none, _, _, h => h.elim
  | .empty, i, j, ⟨h1, h2⟩ => by omega
  | .beg, i, j, ⟨h1, h2⟩ => by omega
  | .fin, i, j, ⟨h1, h2⟩ => by omega
  | .byte q, i, j, ⟨h, h1, _⟩ => by omega
  | .cat a b, i, j, ⟨m, h1, h2⟩ => by
    have k1 := sp_le s a i m h1
    have k2 := sp_le s b m j h2
    omega
  | .alt a b, i, j, h => h.elim (sp_le s a i j) (sp_le s b i j)
  | .star a, i, j, ⟨h, hi⟩ => star_le (sp_le s a) h hi
/-- the ends of the spans that begin at one of the places f -/
def EndsP (s : List UInt8) (q : Re) (f g : Nat → Bool) : Prop := ∀ j, j ≤ s.length → (g j = true ↔ ∃ i, i ≤ s.length ∧ f i = true ∧ Sp s q i j)
section
variable {s : List UInt8} {f g h : Nat → Bool}
theorem ends_none (e : ∀ j, j ≤ s.length → g j = false) : EndsP s .none f g := fun j hj => by
  rw [e j hj]; exact ⟨fun h => (by cases h), fun ⟨_, _, _, h⟩ => h.elim⟩
theorem ends_empty (e : ∀ j, j ≤ s.length → g j = f j) : EndsP s .empty f g := fun j hj => by
  rw [e j hj]
  exact ⟨fun h => ⟨j, hj, h, rfl, hj⟩, fun ⟨i, _, h1, h2, _⟩ => by rw [← h2]; exact h1⟩
theorem ends_beg (e : ∀ j, j ≤ s.length → g j = if j = 0 then f 0 else false) : EndsP s .beg f g := fun j hj => by
  rw [e j hj]
  by_cases h : j = 0
  · rw [if_pos h]; exact ⟨fun k => ⟨0, by omega, k, rfl, h⟩, fun ⟨i, _, h1, h2, _⟩ => by rw [← h2]; exact h1⟩
  · rw [if_neg h]; exact ⟨fun k => (by cases k), fun ⟨i, _, _, _, h3⟩ => absurd h3 h⟩
theorem ends_fin (e : ∀ j, j ≤ s.length → g j = if j = s.length then f s.length else false) : EndsP s .fin f g := fun j hj => by
  rw [e j hj]
  by_cases h : j = s.length
  · rw [if_pos h]; exact ⟨fun k => ⟨s.length, Nat.le_refl _, k, rfl, h⟩, fun ⟨i, _, h1, h2, _⟩ => by rw [← h2]; exact h1⟩
  · rw [if_neg h]; exact ⟨fun k => (by cases k), fun ⟨i, _, _, _, h3⟩ => absurd h3 h⟩
theorem ends_byte {q : Q4} (e0 : g 0 = false) (e : ∀ i (hi : i < s.length), g (i + 1) = (f i && setB q s[i].toNat)) : EndsP s (.byte q) f g := fun j hj => by
  cases j with
  | zero => rw [e0]; exact ⟨fun k => (by cases k), fun ⟨i, _, _, _, h3, _⟩ => by omega⟩
  | succ j =>
    rw [e j (by omega), Bool.and_eq_true]
    constructor
    · rintro ⟨k1, k2⟩
      exact ⟨j, by omega, k1, by omega, rfl, k2⟩
    · rintro ⟨i, _, k1, hi, h3, k2⟩
      obtain rfl : j = i := by omega
      exact ⟨k1, k2⟩
theorem ends_cat {a b : Re} (h1 : EndsP s a f h) (h2 : EndsP s b h g) : EndsP s (.cat a b) f g := fun j hj => by
  rw [h2 j hj]
  constructor
  · rintro ⟨m, hm, k1, k2⟩
    obtain ⟨i, hi, k3, k4⟩ := (h1 m hm).1 k1
    exact ⟨i, hi, k3, m, k4, k2⟩
  · rintro ⟨i, hi, k1, m, k2, k3⟩
    have hm := (sp_le s a i m k2).2
    exact ⟨m, hm, (h1 m hm).2 ⟨i, hi, k1, k2⟩, k3⟩
theorem ends_alt {a b : Re} {g1 g2 : Nat → Bool} (h1 : EndsP s a f g1) (h2 : EndsP s b f g2) (e : ∀ j, j ≤ s.length → g j = (g1 j || g2 j)) : EndsP s (.alt a b) f g := fun j hj => by
  rw [e j hj, Bool.or_eq_true, h1 j hj, h2 j hj]
  constructor
  · rintro (⟨i, hi, k1, k2⟩ | ⟨i, hi, k1, k2⟩)
    · exact ⟨i, hi, k1, .inl k2⟩
    · exact ⟨i, hi, k1, .inr k2⟩
  · rintro ⟨i, hi, k1, k2 | k2⟩
    · exact .inl ⟨i, hi, k1, k2⟩
    · exact .inr ⟨i, hi, k1, k2⟩
/-- what is gathered on the way to the closure: f, and only what none or more spans lead to -/
def Gath (s : List UInt8) (a : Re) (f g : Nat → Bool) : Prop := (∀ j, j ≤ s.length → f j = true → g j = true) ∧ ∀ j, j ≤ s.length → g j = true → ∃ i, i ≤ s.length ∧ f i = true ∧ Star (Sp s a) i j
theorem gath_start (f : Nat → Bool) (a : Re) : Gath s a f f := ⟨fun _ _ h => h, fun j hj h => ⟨j, hj, h, .refl _⟩⟩
theorem gath_step {a : Re} {o : Nat → Bool} (hg : Gath s a f g) (ho : EndsP s a g o) {h : Nat → Bool} (e : ∀ j, j ≤ s.length → h j = true → g j = true ∨ o j = true) (e2 : ∀ j, j ≤ s.length → g j = true → h j = true) : Gath s a f h :=
  ⟨fun j hj k => e2 j hj (hg.1 j hj k), fun j hj k => by
    rcases e j hj k with k | k
    · exact hg.2 j hj k
    · obtain ⟨m, hm, k1, k2⟩ := (ho j hj).1 k
      obtain ⟨i, hi, k3, k4⟩ := hg.2 m hm k1
      exact ⟨i, hi, k3, k4.snoc k2⟩⟩
theorem star_closed {R : Nat → Nat → Prop} {i j : Nat} (h : ∀ i j, g i = true → R i j → g j = true) (k : Star R i j) : g i = true → g j = true := by
  induction k with
  | refl => exact fun h => h
  | step a _ ih => exact fun k => ih (h _ _ k a)
theorem ends_star {a : Re} {o : Nat → Bool} (hg : Gath s a f g) (ho : EndsP s a g o) (e : ∀ j, j ≤ s.length → o j = true → g j = true) : EndsP s (.star a) f g := fun j hj => by
  constructor
  · intro k
    obtain ⟨i, hi, k1, k2⟩ := hg.2 j hj k
    exact ⟨i, hi, k1, k2, hi⟩
  · rintro ⟨i, hi, k1, k2, _⟩
    exact star_closed (fun i j k a1 => by
      have hl := sp_le s a _ _ a1
      exact e _ hl.2 ((ho _ hl.2).2 ⟨_, by omega, k, a1⟩)) k2 (hg.1 i hi k1)
end
end Go.Proofs.Ytckinkapbfaceaa
