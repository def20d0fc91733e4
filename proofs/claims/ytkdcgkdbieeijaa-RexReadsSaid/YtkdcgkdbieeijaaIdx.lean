/- strings.IndexByte by its contract. -/
import Derived.Test.YtkdcgkdbieeijaaBytes
import Derived.Test.YtkdcgkdbieeijaaStr
import Derived.Test.YtkdcgkdbieeijaaShelf
import Derived.WalkKit
import Derived.WalkSpells
import Derived.WalkLawsBesides
import Derived.Lib.Hide
import Derived.Deep.QuietTactic
import Derived.BigQuiet
import Derived.StillTailTactics
namespace Go.Proofs.Ytkdcgkdbieeijaa
open Go.RowKit
set_option linter.unusedVariables false
set_option linter.unusedSimpArgs false

/-- the place of a byte in a text; -1: none -/
def ixb (l : List UInt8) (n : Int) : Int := Lib.indexByte l n.toNat.toUInt8
theorem indexByte_any (s : ByteArray) (l : List UInt8) (h : s.data.toList = l) (n : Int) (w : World) :
    Calls Try.prog 99 #[.string s, .int .u8 n] w fun e w' => e = .returned (.int .i64 (ixb l n)) ∧ w = w' :=
  (Try.strings_IndexByte s n w).mono fun _ _ hh => ⟨by rw [hh.1, h]; rfl, hh.2.symm⟩
end Go.Proofs.Ytkdcgkdbieeijaa
