/- Bits of addresses below a mask, plainly. -/
import Derived.Test.YthfolopnjmkllaaDoorNetA
import Derived.Test.YthfolopnjmkllaaDoorMem
import Derived.Deep.QuietTactic
import Derived.BigQuiet
namespace Go.Proofs.YthfolopnjmkllaaDoor
open Go.RowKit
set_option linter.unusedVariables false
set_option linter.unusedSimpArgs false

theorem mod_zero (a j : Nat) : a % 2 ^ j = 0 ↔ ∀ i, i < j → a.testBit i = false := by
  constructor
  · intro h i hi
    have := Nat.testBit_mod_two_pow a j i
    rw [h, Nat.zero_testBit] at this
    simpa [hi] using this.symm
  · intro h
    refine Nat.eq_of_testBit_eq fun i => ?_
    rw [Nat.testBit_mod_two_pow, Nat.zero_testBit]
    by_cases hi : i < j
    · rw [h i hi]; simp
    · simp [hi]
theorem msk_not : ∀ b : Fin 33, BitVec.ofNat 32 (4294967296 - 2 ^ (32 - b.val)) = ~~~ BitVec.ofNat 32 (2 ^ (32 - b.val) - 1) := by decide +kernel
theorem msk_bv (bits : Int) : BitVec.ofInt 32 (mskN bits : Int) = ~~~ BitVec.ofNat 32 (2 ^ (32 - mskB bits) - 1) := by
  rw [BitVec.ofInt_natCast]
  exact msk_not ⟨mskB bits, by have := mskB_le bits; omega⟩
theorem andNot_msk (a : Nat) (bits : Int) (ha : a < 4294967296) : Go.bits .andNot .u32 (a : Int) (mskN bits : Int) = ((a % 2 ^ (32 - mskB bits) : Nat) : Int) := by
  show IntKind.u32.wrap ((BitVec.ofInt 32 (a : Int) &&& ~~~ BitVec.ofInt 32 (mskN bits : Int)).toNat : Int) = _
  have hk : 2 ^ (32 - mskB bits) ≤ 4294967296 := Nat.pow_le_pow_right (by decide) (show 32 - mskB bits ≤ 32 by omega)
  have h : (BitVec.ofInt 32 (a : Int) &&& ~~~ BitVec.ofInt 32 (mskN bits : Int)).toNat = a % 2 ^ (32 - mskB bits) := by
    rw [msk_bv, BitVec.not_not, BitVec.toNat_and, BitVec.ofInt_natCast, BitVec.toNat_ofNat, BitVec.toNat_ofNat, Nat.mod_eq_of_lt (by omega), Nat.mod_eq_of_lt (a := 2 ^ (32 - mskB bits) - 1) (by omega), Nat.and_two_pow_sub_one_eq_mod]
  rw [h]
  have hm : a % 2 ^ (32 - mskB bits) ≤ a := Nat.mod_le _ _
  exact IntWalk.u32_in _ ⟨by omega, by omega⟩
end Go.Proofs.YthfolopnjmkllaaDoor
