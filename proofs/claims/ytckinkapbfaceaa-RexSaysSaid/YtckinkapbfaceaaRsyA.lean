/- How an expression is written (P18), plainly. -/
import Derived.Test.YtckinkapbfaceaaSbA
import Derived.Test.YtckinkapbfaceaaLoHex
import Derived.Test.YtckinkapbfaceaaRexA
namespace Go.Proofs.Ytckinkapbfaceaa
set_option linter.unusedVariables false
set_option linter.unusedSimpArgs false

def signL : List UInt8 := [40, 41, 91, 93, 124, 42, 43, 63, 46, 94, 36, 45, 92]
/-- what is written for a byte -/
def chr (b : UInt8) : List UInt8 :=
  if b = 10 then [92, 110] else if b = 9 then [92, 116] else if b = 13 then [92, 114]
  else if b.toNat < 33 ∨ 126 < b.toNat then [92, 120, loHex.getD (b.toNat / 16) 0, loHex.getD (b.toNat % 16) 0] else if b ∈ signL then [92, b] else [b]
abbrev chrN (b : Nat) : List UInt8 := chr (UInt8.ofNat b)
/-- the end of the row that begins at b (n: how far at the most) -/
def runE (f : Nat → Bool) : Nat → Nat → Nat
  | 0, b => b
  | n + 1, b => if f b = true then runE f n (b + 1) else b
structure IsRun (f : Nat → Bool) (b e : Nat) : Prop where
  le : b ≤ e
  top : e ≤ 256
  all : ∀ j, b ≤ j → j < e → f j = true
  stop : e < 256 → f e = false
theorem runE_run (f : Nat → Bool) : ∀ n b, b + n = 256 → IsRun f b (runE f n b)
  | 0, b, h => ⟨Nat.le_refl _, by unfold runE; omega, fun j h1 h2 => (by unfold runE at h2; omega), fun h2 => (by unfold runE at h2; omega)⟩
  | n + 1, b, h => by
    unfold runE
    by_cases e : f b = true
    · rw [if_pos e]
      have := runE_run f n (b + 1) (by omega)
      refine ⟨by have := this.le; omega, this.top, fun j h1 h2 => ?_, this.stop⟩
      by_cases ej : j = b
      · subst ej; exact e
      · exact this.all j (by omega) h2
    · rw [if_neg e]
      exact ⟨Nat.le_refl _, by omega, fun j h1 h2 => absurd h2 (by omega), fun _ => by simpa using e⟩
theorem IsRun.same {f : Nat → Bool} {b e e' : Nat} (h : IsRun f b e) (h' : IsRun f b e') : e = e' := by
  rcases Nat.lt_trichotomy e e' with k | k | k
  · have h1 := h.stop (by have := h'.top; omega)
    rw [h'.all e h.le k] at h1; cases h1
  · exact k
  · have h1 := h'.stop (by have := h.top; omega)
    rw [h.all e' h'.le k] at h1; cases h1
/-- a row of bytes from b up to e -/
def pieceF (b e : Nat) : List UInt8 := if e ≤ b then [] else if e = b + 1 then chrN b else if e = b + 2 then chrN b ++ chrN (b + 1) else chrN b ++ 45 :: chrN (e - 1)
/-- what is written when the walk comes to i -/
def pcF (f : Nat → Bool) (i : Nat) : List UInt8 := if i < 256 ∧ f i = true ∧ (i = 0 ∨ f (i - 1) = false) then pieceF i (runE f (256 - i) i) else []
def itemsK (f : Nat → Bool) : Nat → List UInt8
  | 0 => []
  | k + 1 => itemsK f k ++ pcF f k
def itemsF (f : Nat → Bool) : List UInt8 := itemsK f 256
theorem pcF_run {f : Nat → Bool} {b e : Nat} (h : IsRun f b e) (hb : b < 256) (hp : b = 0 ∨ f (b - 1) = false) : pcF f b = pieceF b e := by
  unfold pcF
  by_cases hf : f b = true
  · rw [if_pos ⟨hb, hf, hp⟩, (runE_run f (256 - b) b (by omega)).same h]
  · rw [if_neg fun k => hf k.2.1]
    have : e = b := by
      rcases Nat.lt_or_ge b e with k | k
      · exact absurd (h.all b (Nat.le_refl _) k) hf
      · have := h.le; omega
    subst this
    unfold pieceF; rw [if_pos (Nat.le_refl _)]
theorem pcF_none {f : Nat → Bool} {i : Nat} (h : f i = false ∨ 256 ≤ i ∨ (i ≠ 0 ∧ f (i - 1) = true)) : pcF f i = [] := by
  unfold pcF
  rw [if_neg]
  rintro ⟨h1, h2, h3⟩
  rcases h with h | h | ⟨h, h4⟩
  · rw [h2] at h; cases h
  · omega
  · rcases h3 with h3 | h3
    · exact h h3
    · rw [h4] at h3; cases h3
/-- the run from b to e written, and the place behind it -/
theorem itemsK_run {f : Nat → Bool} {b e : Nat} (h : IsRun f b e) (hb : b < 256) (hp : b = 0 ∨ f (b - 1) = false) : itemsK f (e + 1) = itemsK f b ++ pieceF b e := by
  have key : ∀ n, b + n ≤ e → itemsK f (b + n + 1) = itemsK f b ++ pieceF b e := by
    intro n
    induction n with
    | zero => intro _; show itemsK f b ++ pcF f b = _; rw [pcF_run h hb hp]
    | succ n ih =>
      intro hn
      show itemsK f (b + n + 1) ++ pcF f (b + n + 1) = _
      rw [ih (by omega)]
      rw [pcF_none (.inr (.inr ⟨by omega, by rw [show b + n + 1 - 1 = b + n by omega]; exact h.all _ (by omega) (by omega)⟩)), List.append_nil]
  have := key (e - b) (by have := h.le; omega)
  rwa [show b + (e - b) = e by have := h.le; omega] at this
theorem itemsK_more {f : Nat → Bool} {k : Nat} (h : 256 ≤ k) : itemsK f k = itemsF f := by
  induction k with
  | zero => omega
  | succ k ih =>
    by_cases e : k + 1 = 256
    · rw [e]; rfl
    · show itemsK f k ++ pcF f k = _
      rw [ih (by omega), pcF_none (.inr (.inl (by omega))), List.append_nil]
/-- how many of the first k -/
def cntT (f : Nat → Bool) : Nat → Nat
  | 0 => 0
  | k + 1 => cntT f k + if f k = true then 1 else 0
theorem cntT_le (f : Nat → Bool) : ∀ k, cntT f k ≤ k
  | 0 => Nat.le_refl _
  | k + 1 => by have := cntT_le f k; unfold cntT; split <;> omega
def notF (f : Nat → Bool) (i : Nat) : Bool := !f i
def bytesF (f : Nat → Bool) : List UInt8 :=
  if cntT f 256 = 1 then itemsF f else if cntT f 256 = 255 ∧ f 10 = false then [46]
  else if 128 < cntT f 256 ∧ cntT f 256 < 256 then 91 :: 94 :: itemsF (notF f) ++ [93] else 91 :: itemsF f ++ [93]
theorem itemsK_congr {f g : Nat → Bool} (h : ∀ j, j < 256 → f j = g j) (k : Nat) (hk : k ≤ 256) : itemsK f k = itemsK g k := by
  have hr : ∀ n b, b + n = 256 → runE f n b = runE g n b := by
    intro n
    induction n with
    | zero => intro b _; rfl
    | succ n ih => intro b hb; unfold runE; rw [h b (by omega), ih (b + 1) (by omega)]
  induction k with
  | zero => rfl
  | succ k ih =>
    unfold itemsK
    rw [ih (by omega)]
    congr 1
    unfold pcF
    rw [h k (by omega), hr (256 - k) k (by omega)]
    rw [h (k - 1) (by omega)]
def brT (ks : List Int) (k : Int) (t : List UInt8) : List UInt8 := if k ∈ ks then 40 :: t ++ [41] else t
/-- an expression as text -/
def textR : Re → List UInt8
  | .none => [91, 94, 92, 120, 48, 48, 45, 92, 120, 102, 102, 93]
  | .empty => []
  | .byte s => bytesF (setB s)
  | .beg => [94]
  | .fin => [36]
  | .star a => brT [2, 4, 5, 6] a.kind (textR a) ++ [42]
  | .cat a b => brT [2, 5] a.kind (textR a) ++ brT [2, 5, 4] b.kind (textR b)
  | .alt a b => brT [] a.kind (textR a) ++ 124 :: brT [5] b.kind (textR b)
end Go.Proofs.Ytckinkapbfaceaa
