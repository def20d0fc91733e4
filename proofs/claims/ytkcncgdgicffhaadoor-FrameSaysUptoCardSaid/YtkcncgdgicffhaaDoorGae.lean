/- Walks: strconv's formatBits at base 16: isPowerOfTwo, TrailingZeros, the loop of digits. -/
import Derived.Test.YtkcncgdgicffhaaDoorGg
import Derived.Test.YtkcncgdgicffhaaDoorGd
import Derived.Test.YtkcncgdgicffhaaDoorGq
import Derived.LoopTactic
import Derived.Laws.BitsAllLaws
import Derived.Laws.BytesArg
namespace Go.Proofs.YtkcncgdgicffhaaDoor
open Go.RowKit
set_option linter.unusedVariables false
set_option linter.unusedSimpArgs false

/-- the place of 4 in the table of trailing noughts -/
def ToB (w : World) : Prop := w.cell? ⟨3, 15, none⟩ = some (.int .u8 4)
theorem ToB.below {w w' : World} {B : Nat} (h : ToB w) (hb : Below B w w') (hB : 3 < B) : ToB w' := (hb.cell (p := ⟨3, 15, none⟩) hB).trans h
theorem pow2_16 (w : World) : Calls Tryd.prog 126 #[.int .i64 16] w fun e w' => e = .returned (.bool true) ∧ w = w' := by
  have h : bits .and .i64 16 15 = 0 := by decide +kernel
  go_enter Tryd.func126, Tryd.ntmps126
  go_wp2_with fail
  go_ret
  exact ⟨rfl, rfl⟩
theorem tz64_16 (w : World) (hT : ToB w) : Calls Tryd.prog 138 #[.int .u64 16] w fun e w' => e = .returned (.int .i64 4) ∧ w = w' := by
  have hT' : w.cell? ⟨3, 15, none⟩ = some (.int .u8 4) := hT
  have h1 : IntKind.u64.wrap (-16) = 18446744073709551600 := by decide +kernel
  have h2 : bits .and .u64 16 18446744073709551600 = 16 := by decide +kernel
  clear hT
  go_enter Tryd.func138, Tryd.ntmps138
  go_wp2_with fail
  go_ret
  exact ⟨rfl, rfl⟩
theorem tz_16 (w : World) (hT : ToB w) : Calls Tryd.prog 127 #[.int .u64 16] w fun e w' => e = .returned (.int .i64 4) ∧ w = w' := by
  have C := Lib.hid (tz64_16 w hT)
  clear hT
  go_enter Tryd.func127, Tryd.ntmps127
  go_wp2_with fail
  refine C.out.mono ?_
  rintro e w1 ⟨rfl, rfl⟩
  go_wp2_with fail
  go_ret
  exact ⟨rfl, rfl⟩
end Go.Proofs.YtkcncgdgicffhaaDoor
