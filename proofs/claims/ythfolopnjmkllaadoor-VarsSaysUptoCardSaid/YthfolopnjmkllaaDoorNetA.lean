/- Masks of addresses: nets.mask; plain laws on bits. -/
import Derived.Test.YthfolopnjmkllaaDoorNum
import Derived.Test.YthfolopnjmkllaaDoorStr
import Derived.LoopTactic
import Derived.Laws.BitsAllLaws
namespace Go.Proofs.YthfolopnjmkllaaDoor
open Go.RowKit
set_option linter.unusedVariables false
set_option linter.unusedSimpArgs false

/-- the number of bits that a mask takes -/
def mskB (bits : Int) : Nat := (min (max bits 0) 32).toNat
theorem mskB_le (bits : Int) : mskB bits ≤ 32 := by unfold mskB; omega
def mskN (bits : Int) : Nat := 4294967296 - 2 ^ (32 - mskB bits)
theorem msk_mid : ∀ b : Fin 33, IntKind.u64.wrap (4294967295 * 2 ^ ((32 : Int) - (b.val : Int)).toNat) % 4294967296 = ((4294967296 - 2 ^ (32 - b.val) : Nat) : Int) := by decide +kernel
theorem msk_at {bits : Int} (h0 : 0 ≤ bits) (h1 : bits ≤ 32) : IntKind.u64.wrap (4294967295 * 2 ^ (32 - bits).toNat) % 4294967296 = (mskN bits : Int) := by
  obtain ⟨b, rfl⟩ := Int.eq_ofNat_of_zero_le h0
  have hm : mskB (b : Int) = b := by unfold mskB; omega
  have := msk_mid ⟨b, by omega⟩
  unfold mskN
  rw [hm]
  exact this
theorem msk_hi {bits : Int} (h : 32 ≤ bits) : (mskN bits : Int) = 4294967295 := by
  have hm : mskB bits = 32 := by unfold mskB; omega
  unfold mskN; rw [hm]; rfl
theorem msk_lo {bits : Int} (h : bits ≤ 0) : (mskN bits : Int) = 0 := by
  have hm : mskB bits = 0 := by unfold mskB; omega
  unfold mskN; rw [hm]; rfl
theorem mask_any (bits : Int) (w : World) : Calls Tryd.prog 42 #[.int .i64 bits] w fun e w' => e = .returned (.int .u32 (mskN bits)) ∧ w = w' := by
  have hw1 : IntKind.u64.wrap 4294967295 % 4294967296 = 4294967295 := by decide +kernel
  have hw2 : IntKind.u64.wrap 18446744069414584320 % 4294967296 = 0 := by decide +kernel
  have H1 := Lib.hid (@msk_at bits)
  have H2 := Lib.hid (@msk_hi bits)
  have H3 := Lib.hid (@msk_lo bits)
  have j1 : 0 ≤ bits → bits ≤ 32 → IntKind.i64.wrap ((32 : Int) - bits) = (32 : Int) - bits := fun _ _ => IntWalk.i64_in _ (by omega)
  by_cases c1 : bits < 0
  · have hx : max bits 0 = 0 := by omega
    go_enter Tryd.func42, Tryd.ntmps42
    go_wp2_with fail
    all_goals go_ret
    all_goals exact ⟨ret_int (by first | (rw [H3.out (by omega)]; done) | (rw [H3.out (by omega)]; exact hw2)), rfl⟩
  · by_cases c2 : 32 < bits
    · have hx : max bits 0 = bits := by omega
      have hx2 : min bits 32 = 32 := by omega
      go_enter Tryd.func42, Tryd.ntmps42
      go_wp2_with fail
      all_goals go_ret
      all_goals exact ⟨ret_int (by first | (rw [H2.out (by omega)]; done) | (rw [H2.out (by omega)]; exact hw1)), rfl⟩
    · have hx : max bits 0 = bits := by omega
      have hx2 : min bits 32 = bits := by omega
      have j2 := j1 (by omega) (by omega)
      have i1 : 0 ≤ bits := by omega
      have i2 : bits ≤ 32 := by omega
      go_enter Tryd.func42, Tryd.ntmps42
      go_wp2_with fail
      all_goals go_ret
      all_goals exact ⟨ret_int (H1.out (by omega) (by omega)), rfl⟩
end Go.Proofs.YthfolopnjmkllaaDoor
