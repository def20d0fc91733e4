/- Walks: the small functions of audit, audit.Check and wickref.Record. (Printed by gen_auda.py.) -/
import Derived.Test.YtahcgajipnkojaaPlain
import Derived.Test.YtahcgajipnkojaaMem
import Derived.Test.YtahcgajipnkojaaBytes
import Derived.Test.YtahcgajipnkojaaRows
import Derived.WalkKit
import Derived.WalkSpells
import Derived.WalkLawsBesides
import Derived.Lib.Hide
import Derived.Deep.QuietTactic
import Derived.BigQuiet
import Derived.StillTailTactics
namespace Go.Proofs.Ytahcgajipnkojaa
open Go.RowKit
set_option linter.unusedVariables false
set_option linter.unusedSimpArgs false

def inB (n lo hi : Int) : Bool := decide (lo ≤ n ∧ n ≤ hi)
theorem inB_t {n lo hi : Int} (h : lo ≤ n ∧ n ≤ hi) : inB n lo hi = true := decide_eq_true h
theorem inB_f {n lo hi : Int} (h : ¬ (lo ≤ n ∧ n ≤ hi)) : inB n lo hi = false := decide_eq_false h
theorem inB_iff {n lo hi : Int} : inB n lo hi = true ↔ lo ≤ n ∧ n ≤ hi := by unfold inB; exact decide_eq_true_iff

theorem inA_any (n lo hi : Int) (w : World) :
    Calls Try.prog 57 #[.int .i64 n, .int .i64 lo, .int .i64 hi] w fun e w' => e = .returned (.bool (inB n lo hi)) ∧ w = w' := by
  by_cases h1 : lo ≤ n
  · by_cases h2 : n ≤ hi
    · have HB := Lib.hid (inB_t ⟨h1, h2⟩)
      go_enter Try.func57, Try.ntmps57
      go_wp2
      go_ret
      exact ⟨by rw [HB.out]; rfl, rfl⟩
    · have HB := Lib.hid (inB_f (n := n) (lo := lo) (hi := hi) (fun h => h2 h.2))
      have h3 : decide (n ≤ hi) = false := decide_eq_false h2
      go_enter Try.func57, Try.ntmps57
      go_wp2
      go_ret
      exact ⟨by rw [HB.out]; rfl, rfl⟩
  · have HB := Lib.hid (inB_f (n := n) (lo := lo) (hi := hi) (fun h => h1 h.1))
    have h3 : decide (lo ≤ n) = false := decide_eq_false h1
    go_enter Try.func57, Try.ntmps57
    go_wp2
    go_ret
    exact ⟨by rw [HB.out]; rfl, rfl⟩
theorem inR_any (n lo hi : Int) (w : World) :
    Calls Try.prog 54 #[.int .i64 n, .int .i64 lo, .int .i64 hi] w fun e w' => e = .returned (.bool (inB n lo hi)) ∧ w = w' := by
  by_cases h1 : lo ≤ n
  · by_cases h2 : n ≤ hi
    · have HB := Lib.hid (inB_t ⟨h1, h2⟩)
      go_enter Try.func54, Try.ntmps54
      go_wp2
      go_ret
      exact ⟨by rw [HB.out]; rfl, rfl⟩
    · have HB := Lib.hid (inB_f (n := n) (lo := lo) (hi := hi) (fun h => h2 h.2))
      have h3 : decide (n ≤ hi) = false := decide_eq_false h2
      go_enter Try.func54, Try.ntmps54
      go_wp2
      go_ret
      exact ⟨by rw [HB.out]; rfl, rfl⟩
  · have HB := Lib.hid (inB_f (n := n) (lo := lo) (hi := hi) (fun h => h1 h.1))
    have h3 : decide (lo ≤ n) = false := decide_eq_false h1
    go_enter Try.func54, Try.ntmps54
    go_wp2
    go_ret
    exact ⟨by rw [HB.out]; rfl, rfl⟩

theorem bad_any (n : Int) (p : Addr) (w : World) (hc : w.cell? p = some (.func (.func 57) #[] #[])) :
    Calls Try.prog 59 #[.int .i64 n, .pointer (some p)] w fun e w' => e = .returned (.bool (!inB n 1 9999)) ∧ w = w' := by
  go_enter Try.func59, Try.ntmps59
  go_wp2_with fail
  refine (inA_any _ _ _ _).mono ?_
  rintro e w' ⟨rfl, rfl⟩
  go_wp2_with fail
  go_ret
  exact ⟨rfl, rfl⟩

/-- is some number no rule's number? -/
def badL (l : List Int) : Bool := l.any fun n => !inB n 1 9999
def fstB : List Int → Nat → Int
  | [], _ => -1
  | n :: l, k => if (!inB n 1 9999) = true then (k : Int) else fstB l (k + 1)
end Go.Proofs.Ytahcgajipnkojaa
