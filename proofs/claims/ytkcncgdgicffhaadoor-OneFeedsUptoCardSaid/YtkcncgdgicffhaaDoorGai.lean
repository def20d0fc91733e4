/- Walk: wickref.newline. -/
import Derived.Test.YtkcncgdgicffhaaDoorGv
import Derived.Test.YtkcncgdgicffhaaDoorGd
import Derived.Test.YtkcncgdgicffhaaDoorGt
import Derived.LoopTactic
namespace Go.Proofs.YtkcncgdgicffhaaDoor
open Go.RowKit
set_option linter.unusedVariables false
set_option linter.unusedSimpArgs false

section
variable (s : ByteArray) (a : Nat) (w : World)
set_option maxRecDepth 100000 in
set_option maxHeartbeats 1000000 in
theorem newline_any (ha : a ≤ s.size) (hs : s.size ≤ 1048576) (J : Int) (hJ : nlE (s.data.toList.drop a) = J) :
    Calls Tryd.prog 52 #[.string s, .int .i64 a] w fun x w' => x = .returned (.int .i64 J) ∧ ∃ q, w' = w.drewN q := by
  have HJ := Lib.hid hJ
  have z0 : (({ data := #[13, 10] } : ByteArray)[0]'(by decide)).toNat = 13 := rfl
  have z1 : (({ data := #[13, 10] } : ByteArray)[1]'(by decide)).toNat = 10 := rfl
  clear hJ
  go_enter Tryd.func52, Tryd.ntmps52
  go_wp2_with fail
  go_loopw [5] (fun u wr => ∃ k : Nat, u = .int .i64 (k : Int) ∧ (k = 0 ∨ (k = 1 ∧ ∃ h : a < s.size, s[a] = 13) ∨ (k = 2 ∧ ∃ h : a + 1 < s.size, s[a] = 13 ∧ s[a + 1] = 10)) ∧ ∃ q, wr = w.drewN q) (fun u _ => 2 - (intOf u).toNat)
  case atStart => exact ⟨0, rfl, .inl rfl, 0, rfl⟩
  case round =>
    obtain ⟨k, rfl, hm, q, hq⟩ := hrel
    have HQ := Lib.hid hq
    clear hq
    have j1 : IntKind.i64.wrap ((a : Int) + 1) = (a : Int) + 1 := IntWalk.i64_in _ (by omega)
    have i0 : (0 : Int) ≤ (a : Int) := by omega
    rcases hm with rfl | ⟨rfl, h1, h13⟩ | ⟨rfl, h1, h13, h10⟩
    · by_cases he : a < s.size
      · have i1 : (a : Int) < (s.size : Int) := by omega
        have d1 : decide ((s.size : Int) ≤ (a : Int)) = false := decide_eq_false (by omega)
        have d1' : decide (s.size ≤ a) = false := decide_eq_false (by omega)
        by_cases h13 : s[a] = 13
        · have n1 : ((s[a].toNat : Int) != 13) = false := byte_neqf (c := 13) h13
          go_wp2_with fail
          go_quiet (fail)
          go_wp2_with fail
          all_goals exact ⟨⟨1, rfl, .inr (.inl ⟨rfl, he, h13⟩), _, by rw [HQ.out]; exact World.drewN_drewN _ _ _⟩, by simp [intOf]⟩
        · have HR : Hid (J = 4) := Lib.hid (by rw [← HJ.out]; exact nl_cr he h13)
          have n1 : ((s[a].toNat : Int) != 13) = true := byte_neq (c := 13) h13
          go_wp2_with fail
          go_quiet (fail)
          go_wp2_with fail
          go_ret
          exact ⟨ret_int HR.out.symm, _, by rw [HQ.out]; exact World.drewN_drewN _ _ _⟩
      · have HR : Hid (J = 7) := Lib.hid (by rw [← HJ.out]; exact nl_none (by omega))
        have d1 : (s.size : Int) ≤ (a : Int) := by omega
        go_wp2_with fail
        go_ret
        exact ⟨ret_int HR.out.symm, _, HQ.out⟩
    · by_cases he : a + 1 < s.size
      · have i1 : (a : Int) + 1 < (s.size : Int) := by omega
        have d1 : decide ((s.size : Int) ≤ (a : Int) + 1) = false := decide_eq_false (by omega)
        have d1' : decide (s.size ≤ a + 1) = false := decide_eq_false (by omega)
        have j2 : ((a : Int) + 1).toNat = a + 1 := by omega
        have i2 : (0 : Int) ≤ (a : Int) + 1 := by omega
        by_cases h10 : s[a + 1] = 10
        · have n1 : ((s[a + 1].toNat : Int) != 10) = false := byte_neqf (c := 10) h10
          have HP : Hid (∃ h : a + 1 < s.size, s[a] = 13 ∧ s[a + 1] = 10) := ⟨he, h13, h10⟩
          clear h13
          go_wp2_with fail
          go_quiet (fail)
          go_wp2_with fail
          all_goals exact ⟨⟨2, rfl, .inr (.inr ⟨rfl, HP.out⟩), _, by rw [HQ.out]; exact World.drewN_drewN _ _ _⟩, by simp [intOf]⟩
        · have HR : Hid (J = 4) := Lib.hid (by rw [← HJ.out]; exact nl_lf he h13 h10)
          have n1 : ((s[a + 1].toNat : Int) != 10) = true := byte_neq (c := 10) h10
          clear h13
          go_wp2_with fail
          go_quiet (fail)
          go_wp2_with fail
          go_ret
          exact ⟨ret_int HR.out.symm, _, by rw [HQ.out]; exact World.drewN_drewN _ _ _⟩
      · have HR : Hid (J = 7) := Lib.hid (by rw [← HJ.out]; exact nl_one h1 h13 (by omega))
        have d1 : (s.size : Int) ≤ (a : Int) + 1 := by omega
        clear h13
        go_wp2_with fail
        go_ret
        exact ⟨ret_int HR.out.symm, _, HQ.out⟩
    · have HR : Hid (J = 0) := Lib.hid (by rw [← HJ.out]; exact nl_ok h1 h13 h10)
      clear h13 h10
      go_wp2_with fail
      go_ret
      exact ⟨ret_int HR.out.symm, _, HQ.out⟩
end
end Go.Proofs.YtkcncgdgicffhaaDoor
