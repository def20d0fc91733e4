/- Walk: octet.Dec. -/
import Derived.Test.YtkcncgdgicffhaaDoorGe
import Derived.Test.YtkcncgdgicffhaaDoorGf
namespace Go.Proofs.YtkcncgdgicffhaaDoor
open Go.RowKit
set_option linter.unusedVariables false
set_option linter.unusedSimpArgs false

theorem numN_ge (s : ByteArray) : 0 ≤ numN 10 9 s := by
  unfold numN
  split
  · rename_i h
    unfold numB at h
    rw [Bool.and_eq_true, Bool.and_eq_true] at h
    exact (numv_bd (by omega) (by omega) _ h.1.1).1
  · omega
theorem numE_cases (s : ByteArray) : (numB 10 9 s = false ∧ numE 10 9 s = 4) ∨ (numB 10 9 s = true ∧ numE 10 9 s = 0 ∧ 0 < s.size) := by
  unfold numE
  cases h : numB 10 9 s with
  | false => exact .inl ⟨rfl, rfl⟩
  | true =>
    refine .inr ⟨rfl, rfl, ?_⟩
    unfold numB at h
    rw [Bool.and_eq_true, Bool.and_eq_true, decide_eq_true_eq] at h
    omega
theorem decS_any (s : ByteArray) (w : World) (hs : s.size ≤ maxLen) :
    Calls Tryd.prog 44 #[.string s] w fun e w' => e = .returned (.tuple #[.int .i64 (numN 10 9 s), .int .i64 (numE 10 9 s)]) ∧ w = w' := by
  go_enter Tryd.func44, Tryd.ntmps44
  go_wp2_with fail
  refine (number_any s 10 9 _ hs (by omega) (by omega) (by omega) (by omega)).mono ?_
  rintro e w' ⟨rfl, rfl⟩
  go_wp2_with fail
  go_ret2
  exact ⟨rfl, rfl⟩
end Go.Proofs.YtkcncgdgicffhaaDoor
