/- Sets of bytes, plainly: a byte put in, two joined; sets with the same bytes are the same. -/
import Derived.Test.YtkdcgkdbieeijaaQ4
import Derived.Laws.Bits64b
namespace Go.Proofs.Ytkdcgkdbieeijaa
open Go.RowKit
set_option linter.unusedVariables false
set_option linter.unusedSimpArgs false

theorem setB_bit (s : Q4) (b : Nat) : setB s b = (s.word (b / 64)).testBit (b % 64) := by
  unfold setB; rw [Nat.testBit_eq_decide_div_mod_eq]
def Q4.or (s t : Q4) : Q4 := ⟨s.a ||| t.a, s.b ||| t.b, s.c ||| t.c, s.d ||| t.d⟩
theorem Q4.or_word (s t : Q4) (k : Nat) : (s.or t).word k = s.word k ||| t.word k := by
  unfold Q4.word Q4.or
  split
  · rfl
  · split
    · rfl
    · split <;> rfl
theorem setB_or (s t : Q4) (b : Nat) : setB (s.or t) b = (setB s b || setB t b) := by
  rw [setB_bit, setB_bit, setB_bit, Q4.or_word, Nat.testBit_or]
theorem or_lt64 {a b : Nat} (ha : a < 18446744073709551616) (hb : b < 18446744073709551616) : a ||| b < 18446744073709551616 := Nat.or_lt_two_pow (n := 64) (by omega) (by omega)
theorem Q4.or_ok {s t : Q4} (hs : s.ok) (ht : t.ok) : (s.or t).ok :=
  ⟨or_lt64 hs.1 ht.1, or_lt64 hs.2.1 ht.2.1, or_lt64 hs.2.2.1 ht.2.2.1, or_lt64 hs.2.2.2 ht.2.2.2⟩
/-- the word k made v -/
def Q4.setW (s : Q4) (k v : Nat) : Q4 := if k = 0 then ⟨v, s.b, s.c, s.d⟩ else if k = 1 then ⟨s.a, v, s.c, s.d⟩ else if k = 2 then ⟨s.a, s.b, v, s.d⟩ else ⟨s.a, s.b, s.c, v⟩
def Q4.put (s : Q4) (b : Nat) : Q4 := s.setW (b / 64) (s.word (b / 64) ||| 2 ^ (b % 64))
theorem Q4.setW_word (s : Q4) {k j : Nat} (v : Nat) (hk : k < 4) (hj : j < 4) : (s.setW k v).word j = if j = k then v else s.word j := by
  obtain rfl | rfl | rfl | rfl : k = 0 ∨ k = 1 ∨ k = 2 ∨ k = 3 := by omega
  all_goals obtain rfl | rfl | rfl | rfl : j = 0 ∨ j = 1 ∨ j = 2 ∨ j = 3 := by omega
  all_goals rfl
theorem setB_put (s : Q4) {b j : Nat} (hb : b < 256) (hj : j < 256) : setB (s.put b) j = (decide (j = b) || setB s j) := by
  rw [setB_bit, setB_bit]
  unfold Q4.put
  rw [Q4.setW_word s _ (by omega) (by omega)]
  by_cases e : j / 64 = b / 64
  · rw [if_pos e, Nat.testBit_or, Nat.testBit_two_pow, ← e]
    rw [Bool.or_comm]
    congr 1
    rw [Bool.eq_iff_iff, decide_eq_true_eq, decide_eq_true_eq]; omega
  · rw [if_neg e, decide_eq_false (show ¬ j = b from fun h => e (by rw [h])), Bool.false_or]
theorem Q4.word_lt {s : Q4} (h : s.ok) (k : Nat) : s.word k < 18446744073709551616 := by
  unfold Q4.word
  split
  · exact h.1
  · split
    · exact h.2.1
    · split
      · exact h.2.2.1
      · exact h.2.2.2
theorem pow_lt64 (b : Nat) : 2 ^ (b % 64) < 18446744073709551616 := by
  have : 2 ^ (b % 64) < 2 ^ 64 := Nat.pow_lt_pow_right (by omega) (by omega)
  omega
theorem Q4.setW_ok {s : Q4} (h : s.ok) (k : Nat) {v : Nat} (hv : v < 18446744073709551616) : (s.setW k v).ok := by
  unfold Q4.setW
  split
  · exact ⟨hv, h.2.1, h.2.2.1, h.2.2.2⟩
  · split
    · exact ⟨h.1, hv, h.2.2.1, h.2.2.2⟩
    · split
      · exact ⟨h.1, h.2.1, hv, h.2.2.2⟩
      · exact ⟨h.1, h.2.1, h.2.2.1, hv⟩
theorem Q4.put_ok {s : Q4} (h : s.ok) (b : Nat) : (s.put b).ok := Q4.setW_ok h _ (or_lt64 (Q4.word_lt h _) (pow_lt64 b))
theorem word_ext {a b : Nat} (ha : a < 18446744073709551616) (hb : b < 18446744073709551616) (h : ∀ i, i < 64 → a.testBit i = b.testBit i) : a = b := by
  apply Nat.eq_of_testBit_eq
  intro i
  by_cases hi : i < 64
  · exact h i hi
  · have h1 : (2 : Nat) ^ 64 ≤ 2 ^ i := Nat.pow_le_pow_right (by omega) (by omega)
    rw [Nat.testBit_lt_two_pow (by omega), Nat.testBit_lt_two_pow (by omega)]
theorem q4_ext {s t : Q4} (hs : s.ok) (ht : t.ok) (h : ∀ b, b < 256 → setB s b = setB t b) : s = t := by
  have key : ∀ k, k < 4 → s.word k = t.word k := fun k hk => word_ext (Q4.word_lt hs k) (Q4.word_lt ht k) fun i hi => by
    have := h (k * 64 + i) (by omega)
    rw [setB_bit, setB_bit, show (k * 64 + i) / 64 = k by omega, show (k * 64 + i) % 64 = i by omega] at this
    exact this
  obtain ⟨a, b, c, d⟩ := s
  obtain ⟨a', b', c', d'⟩ := t
  have h0 : a = a' := key 0 (by omega)
  have h1 : b = b' := key 1 (by omega)
  have h2 : c = c' := key 2 (by omega)
  have h3 : d = d' := key 3 (by omega)
  subst h0; subst h1; subst h2; subst h3; rfl
theorem setB_none (b : Nat) : setB ⟨0, 0, 0, 0⟩ b = false := by
  rw [setB_bit]
  have : (⟨0, 0, 0, 0⟩ : Q4).word (b / 64) = 0 := by unfold Q4.word; split; rfl; split; rfl; split <;> rfl
  rw [this, Nat.zero_testBit]
/-- the bytes from lo to hi -/
def rngF (lo hi : Int) (b : Nat) : Bool := decide (lo ≤ (b : Int) ∧ (b : Int) ≤ hi)
/-- a set by its bytes -/
def SetOf (s : Q4) (f : Nat → Bool) : Prop := s.ok ∧ ∀ b, b < 256 → setB s b = f b
theorem SetOf.same {s t : Q4} {f g : Nat → Bool} (h : SetOf s f) (h' : SetOf t g) (e : ∀ b, b < 256 → f b = g b) : s = t :=
  q4_ext h.1 h'.1 fun b hb => by rw [h.2 b hb, h'.2 b hb, e b hb]
end Go.Proofs.Ytkdcgkdbieeijaa
