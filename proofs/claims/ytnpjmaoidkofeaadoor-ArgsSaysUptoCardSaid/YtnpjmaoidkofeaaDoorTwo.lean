/- Walk of wickref.two. -/
import Derived.Test.YtnpjmaoidkofeaaDoorStr
namespace Go.Proofs.YtnpjmaoidkofeaaDoor
open Go.RowKit
set_option linter.unusedVariables false
set_option linter.unusedSimpArgs false

set_option maxHeartbeats 400000 in
theorem two_any (n : Int) (s : ByteArray) (w : World) (hs : 16 ≤ s.size) (hs2 : s.size ≤ maxLen) (h0 : 0 ≤ n) (h1 : n ≤ 255) :
    Calls Tryd.prog 76 #[.int .u8 n, .string s] w fun e w' => e = .returned (.string (str [s.data.toList.getD (n / 16).toNat 0, s.data.toList.getD (n % 16).toNat 0])) ∧ ∃ q, w' = w.drewN q := by
  unfold maxLen at hs2
  have a1 : 0 ≤ n / 16 := by omega
  have a2 : n / 16 + 1 ≤ (s.size : Int) := by omega
  have a3 : 0 ≤ n % 16 := by omega
  have a4 : n % 16 + 1 ≤ (s.size : Int) := by omega
  have a5 : n / 16 ≤ n / 16 + 1 := by omega
  have a6 : n % 16 ≤ n % 16 + 1 := by omega
  go_enter Tryd.func76, Tryd.ntmps76
  go_wp2
  go_quiet (fail)
  go_wp2
  go_ret
  refine ⟨ret_str ?_, _, rfl⟩
  apply lst_inj
  rw [lst_app, lst_ext, lst_ext, lst_mk, show (n / 16 + 1).toNat = (n / 16).toNat + 1 from by omega, show (n % 16 + 1).toNat = (n % 16).toNat + 1 from by omega,
    take_drop_one (by rw [lst_len]; omega), take_drop_one (by rw [lst_len]; omega)]
  rfl

end Go.Proofs.YtnpjmaoidkofeaaDoor
