/- Walks: rex.Has, wickref.Is: is a byte in a set? -/
import Derived.Test.YtckinkapbfaceaaQ4
import Derived.Test.YtckinkapbfaceaaRexA
import Derived.WalkKit
import Derived.WalkSmall
import Derived.WalkSpells
import Derived.WalkLawsBesides
import Derived.Lib.Hide
namespace Go.Proofs.Ytckinkapbfaceaa
open Go.RowKit
set_option linter.unusedVariables false
set_option linter.unusedSimpArgs false

theorem has_any (s : Q4) (b : Nat) (hs : s.ok) (hb : b ≤ 255) (w : World) :
    Calls Try.prog 79 #[.agg #[.int .u64 (s.a : Int), .int .u64 (s.b : Int), .int .u64 (s.c : Int), .int .u64 (s.d : Int)], .int .u8 (b : Int)] w fun e w' => e = .returned (.bool (setB s b)) ∧ Below w.heap.size w w' := by
  have h63 := and63' hb
  rcases quarter hb with ⟨h, e6⟩ | ⟨h, e6⟩ | ⟨h, e6⟩ | ⟨h, e6⟩
  all_goals
    go_enter Try.func79, Try.ntmps79
    go_wp2
    go_ret
    refine ⟨ret_bool ?_, (Below.refl _ _).alloc (Nat.le_refl _) _⟩
    unfold setB Q4.word
    rw [h]
    exact bit_and _ _ (by first | exact hs.1 | exact hs.2.1 | exact hs.2.2.1 | exact hs.2.2.2)
theorem is_any (s : Q4) (b : Nat) (hb : b ≤ 255) (w : World) :
    Calls Try.prog 54 #[.agg #[.int .u64 (s.a : Int), .int .u64 (s.b : Int), .int .u64 (s.c : Int), .int .u64 (s.d : Int)], .int .i64 (b : Int)] w fun e w' => e = .returned (.bool (setB s b)) ∧ Below w.heap.size w w' := by
  rcases quarter hb with ⟨h, e6⟩ | ⟨h, e6⟩ | ⟨h, e6⟩ | ⟨h, e6⟩
  all_goals
    go_enter Try.func54, Try.ntmps54
    go_wp2
    go_ret
    refine ⟨ret_bool ?_, (Below.refl _ _).alloc (Nat.le_refl _) _⟩
    unfold setB Q4.word
    rw [h]
    exact bit_rem _ _
end Go.Proofs.Ytckinkapbfaceaa
