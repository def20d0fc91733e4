/- Walk: wickref.value. -/
import Derived.Test.YtkdcgkdbieeijaaRows
import Derived.Test.YtkdcgkdbieeijaaPlain
import Derived.WalkKit
import Derived.WalkSpells
import Derived.WalkLawsBesides
import Derived.Lib.Hide
namespace Go.Proofs.Ytkdcgkdbieeijaa
open Go.RowKit
set_option linter.unusedVariables false
set_option linter.unusedSimpArgs false

set_option maxHeartbeats 400000 in
theorem value_any (n : Int) (h0 : 0 ≤ n) (h1 : n ≤ 255) (w : World) :
    Calls Try.prog 107 #[.int .u8 n] w fun e w' => e = .returned (.int .i64 (hexv n)) ∧ w = w' := by
  go_enter Try.func107, Try.ntmps107
  go_wp2
  go_loop [3] (fun i => ∃ k : Nat, k ≤ 16 ∧ i = .int .i64 k ∧ (hexv n < 0 ∨ (k : Int) ≤ hexv n)) (fun i => 16 - (intOf i).toNat)
  case atStart => exact ⟨0, by omega, rfl, by omega⟩
  case round =>
    obtain ⟨k, hk, rfl, hh⟩ := hrel
    go_wp2
    · go_ret
      have hlt : (k : Int) < 16 := by assumption
      exact ⟨ret_int (hex_lo k (by omega)).symm, rfl⟩
    · go_ret
      have hlt : (k : Int) < 16 := by assumption
      rename_i hor _
      refine ⟨ret_int ?_, rfl⟩
      simp only [beq_iff_eq] at hor
      rcases hor with hor | hor
      · rw [hor]; exact (hex_lo k (by omega)).symm
      · rw [hor]; exact (hex_up k (by omega)).symm
    · have hlt : (k : Int) < 16 := by assumption
      have hne : hexv n ≠ k := by
        refine hex_not n k (by omega) (by assumption) ?_
        rename_i hor
        simp only [beq_eq_false_iff_ne, ne_eq] at hor
        exact hor.2
      go_round
      case rel => exact ⟨k + 1, by omega, by go_num, by omega⟩
      case measure => simp [intOf]; omega
    · go_ret
      have hge : (16 : Int) ≤ k := by assumption
      have := hexv_le n
      have := hexv_ge n
      exact ⟨ret_int (by omega), rfl⟩
end Go.Proofs.Ytkdcgkdbieeijaa
