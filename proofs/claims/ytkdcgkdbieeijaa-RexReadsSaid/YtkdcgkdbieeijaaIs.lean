/- Walk: wickref.Is: is a byte in a set? -/
import Derived.Test.YtkdcgkdbieeijaaQ4
import Derived.Test.YtkdcgkdbieeijaaRexA
import Derived.WalkKit
import Derived.WalkSmall
import Derived.WalkSpells
import Derived.WalkLawsBesides
import Derived.Lib.Hide
namespace Go.Proofs.Ytkdcgkdbieeijaa
open Go.RowKit
set_option linter.unusedVariables false
set_option linter.unusedSimpArgs false

theorem is_any (s : Q4) (b : Nat) (hb : b ≤ 255) (w : World) :
    Calls Try.prog 101 #[.agg #[.int .u64 (s.a : Int), .int .u64 (s.b : Int), .int .u64 (s.c : Int), .int .u64 (s.d : Int)], .int .i64 (b : Int)] w fun e w' => e = .returned (.bool (setB s b)) ∧ Below w.heap.size w w' := by
  rcases quarter hb with ⟨h, e6⟩ | ⟨h, e6⟩ | ⟨h, e6⟩ | ⟨h, e6⟩
  all_goals
    go_enter Try.func101, Try.ntmps101
    go_wp2
    go_ret
    refine ⟨ret_bool ?_, (Below.refl _ _).alloc (Nat.le_refl _) _⟩
    unfold setB Q4.word
    rw [h]
    exact bit_rem _ _
end Go.Proofs.Ytkdcgkdbieeijaa
