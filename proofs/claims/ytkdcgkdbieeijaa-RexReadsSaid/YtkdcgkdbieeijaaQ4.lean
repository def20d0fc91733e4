/- Sets of bytes: four words of 64 bits; is a byte in it? -/
import Derived.Test.YtkdcgkdbieeijaaProg
import Derived.Test.YtkdcgkdbieeijaaMem
import Derived.Test.YtkdcgkdbieeijaaDec
import Derived.WalkKit
import Derived.WalkSmall
import Derived.WalkSpells
import Derived.WalkLawsBesides
import Derived.Lib.Hide
namespace Go.Proofs.Ytkdcgkdbieeijaa
open Go.RowKit
set_option linter.unusedVariables false
set_option linter.unusedSimpArgs false

/-- four words of 64 bits -/
structure Q4 where
  (a b c d : Nat)
def Q4.ok (s : Q4) : Prop := s.a < 18446744073709551616 ∧ s.b < 18446744073709551616 ∧ s.c < 18446744073709551616 ∧ s.d < 18446744073709551616
def Q4.zero (s : Q4) : Bool := s.a == 0 && s.b == 0 && s.c == 0 && s.d == 0
abbrev Q4.vals (s : Q4) : List Value := [.int .u64 (s.a : Int), .int .u64 (s.b : Int), .int .u64 (s.c : Int), .int .u64 (s.d : Int)]
theorem zero_q4 {s : Q4} (h : s.zero = true) : s = ⟨0, 0, 0, 0⟩ := by
  obtain ⟨a, b, c, d⟩ := s
  simp [Q4.zero] at h
  obtain ⟨⟨⟨rfl, rfl⟩, rfl⟩, rfl⟩ := h
  rfl
def Q4.word (s : Q4) (k : Nat) : Nat := if k = 0 then s.a else if k = 1 then s.b else if k = 2 then s.c else s.d
def setB (s : Q4) (b : Nat) : Bool := decide (s.word (b / 64) / 2 ^ (b % 64) % 2 = 1)

theorem and63 : ∀ b : UInt8, bits .and .u8 (b.toNat : Int) 63 = ((b.toNat % 64 : Nat) : Int) := all_bytes (by decide +kernel)
theorem and63' {b : Nat} (hb : b ≤ 255) : bits .and .u8 (b : Int) 63 = ((b % 64 : Nat) : Int) := by
  have := and63 (UInt8.ofNat b)
  rwa [toNat_of b (by omega)] at this
theorem quarter {b : Nat} (hb : b ≤ 255) : (b / 64 = 0 ∧ (b : Int) / 64 = 0) ∨ (b / 64 = 1 ∧ (b : Int) / 64 = 1) ∨ (b / 64 = 2 ∧ (b : Int) / 64 = 2) ∨ (b / 64 = 3 ∧ (b : Int) / 64 = 3) := by omega

theorem div_cast (x k : Nat) : ((x / 2 ^ k : Nat) : Int) = (x : Int) / 2 ^ k := by simp
theorem odd_beq (m : Nat) : ((m : Int) % 2 == 1) = decide (m % 2 = 1) := by
  rw [Bool.eq_iff_iff, beq_iff_eq, decide_eq_true_eq]; omega
theorem bit_and (x k : Nat) (hx : x < 18446744073709551616) : (bits .and .u64 ((x : Int) / 2 ^ k) 1 == 1) = decide (x / 2 ^ k % 2 = 1) := by
  have h1 : x / 2 ^ k ≤ x := Nat.div_le_self _ _
  rw [← div_cast]
  obtain ⟨m, hm⟩ : ∃ m, m = x / 2 ^ k := ⟨_, rfl⟩
  rw [← hm] at h1 ⊢
  rw [and_one_u64 _ (by omega) (by omega), odd_beq]
theorem bit_rem (x k : Nat) : (((x : Int) / 2 ^ k).tmod 2 == 1) = decide (x / 2 ^ k % 2 = 1) := by
  rw [← div_cast]
  obtain ⟨m, hm⟩ : ∃ m, m = x / 2 ^ k := ⟨_, rfl⟩
  rw [← hm]
  rw [Int.tmod_eq_emod_of_nonneg (by omega), odd_beq]
end Go.Proofs.Ytkdcgkdbieeijaa
