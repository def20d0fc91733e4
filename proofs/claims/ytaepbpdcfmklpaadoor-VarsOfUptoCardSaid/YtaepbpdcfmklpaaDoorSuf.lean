/- strings.CutSuffix in plain words. -/
import Derived.Test.YtaepbpdcfmklpaaDoorStr
import Derived.Test.YtaepbpdcfmklpaaDoorShelf
import Derived.Lib.Strings
namespace Go.Proofs.YtaepbpdcfmklpaaDoor
open Go.RowKit
set_option linter.unusedVariables false
set_option linter.unusedSimpArgs false

/-- does s end with p? -/
def sufB (s p : ByteArray) : Bool := decide (p.size ≤ s.size) && ((s.extract (s.size - p.size) s.size).toList == p.toList)
theorem sufB_yes {s p : ByteArray} (h : sufB s p = true) : p.size ≤ s.size ∧ ((s.extract (s.size - p.size) s.size).toList == p.toList) = true := by
  unfold sufB at h
  rw [Bool.and_eq_true, decide_eq_true_eq] at h
  exact h
theorem cutSuf_yes (s p : ByteArray) (w : World) (hs : s.size ≤ 9223372036854775807) (h : sufB s p = true) :
    Calls Tryd.prog 95 #[.string s, .string p] w fun e w' => e = .returned (.tuple #[.string (s.extract 0 (s.size - p.size)), .bool true]) ∧ w = w' :=
  (Tryd.strings_CutSuffix s p w hs).mono fun e w' ⟨h1, h2⟩ => by
    obtain ⟨a, b⟩ := sufB_yes h
    have hh : Lib.hasSuffix s.data.toList p.data.toList = true := by rw [← Lib.hasSuffix_raw]; exact h
    exact ⟨by rw [h1, Lib.trimSuffix_hit s p a b, hh], h2.symm⟩
theorem cutSuf_no (s p : ByteArray) (w : World) (hs : s.size ≤ 9223372036854775807) (h : sufB s p = false) :
    Calls Tryd.prog 95 #[.string s, .string p] w fun e w' => e = .returned (.tuple #[.string s, .bool false]) ∧ w = w' :=
  (Tryd.strings_CutSuffix s p w hs).mono fun e w' ⟨h1, h2⟩ => by
    have hh : Lib.hasSuffix s.data.toList p.data.toList = false := by rw [← Lib.hasSuffix_raw]; exact h
    exact ⟨by rw [h1, Lib.trimSuffix_miss s p h, hh], h2.symm⟩
end Go.Proofs.YtaepbpdcfmklpaaDoor
