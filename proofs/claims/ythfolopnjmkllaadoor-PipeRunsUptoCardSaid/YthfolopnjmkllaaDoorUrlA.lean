/- Walks: coding.UrlEncode. -/
import Derived.Test.YthfolopnjmkllaaDoorBytes
import Derived.Test.YthfolopnjmkllaaDoorStr
import Derived.Test.YthfolopnjmkllaaDoorIdx
import Derived.WalkKit
import Derived.WalkSpells
import Derived.WalkLawsBesides
import Derived.Lib.Hide
import Derived.Deep.QuietTactic
import Derived.BigQuiet
import Derived.StillTailTactics
namespace Go.Proofs.YthfolopnjmkllaaDoor
open Go.RowKit
set_option linter.unusedVariables false
set_option linter.unusedSimpArgs false

/-- kept by UrlEncode: letters, digits, - . _ ~ -/
def urlKeep (n : Nat) : Bool := (65 ≤ n && n ≤ 90) || (97 ≤ n && n ≤ 122) || (48 ≤ n && n ≤ 57) || n == 45 || n == 46 || n == 95 || n == 126
def upHex : List UInt8 := [48, 49, 50, 51, 52, 53, 54, 55, 56, 57, 65, 66, 67, 68, 69, 70]
/-- what UrlEncode writes for a byte -/
def urlE (b : UInt8) : List UInt8 := if urlKeep b.toNat then [b] else if b = 32 then [43] else [37, upHex.getD (b.toNat / 16) 0, upHex.getD (b.toNat % 16) 0]

theorem url_cases : ∀ b : UInt8,
    (urlKeep b.toNat = true ∧ 97 ≤ bits .or .u8 (b.toNat : Int) 32 ∧ bits .or .u8 (b.toNat : Int) 32 ≤ 122) ∨
    (urlKeep b.toNat = true ∧ bits .or .u8 (b.toNat : Int) 32 < 97 ∧ 48 ≤ (b.toNat : Int) ∧ (b.toNat : Int) ≤ 57) ∨
    (urlKeep b.toNat = true ∧ bits .or .u8 (b.toNat : Int) 32 < 97 ∧ (b.toNat : Int) < 48 ∧ 0 ≤ ixb [45, 46, 95, 126] (b.toNat : Int)) ∨
    (urlKeep b.toNat = true ∧ 97 ≤ bits .or .u8 (b.toNat : Int) 32 ∧ 122 < bits .or .u8 (b.toNat : Int) 32 ∧ 57 < (b.toNat : Int) ∧ 0 ≤ ixb [45, 46, 95, 126] (b.toNat : Int)) ∨
    (urlKeep b.toNat = false ∧ bits .or .u8 (b.toNat : Int) 32 < 97 ∧ (b.toNat : Int) < 48 ∧ ixb [45, 46, 95, 126] (b.toNat : Int) < 0) ∨
    (urlKeep b.toNat = false ∧ bits .or .u8 (b.toNat : Int) 32 < 97 ∧ 48 ≤ (b.toNat : Int) ∧ 57 < (b.toNat : Int) ∧ ixb [45, 46, 95, 126] (b.toNat : Int) < 0) ∨
    (urlKeep b.toNat = false ∧ 97 ≤ bits .or .u8 (b.toNat : Int) 32 ∧ 122 < bits .or .u8 (b.toNat : Int) 32 ∧ 57 < (b.toNat : Int) ∧ ixb [45, 46, 95, 126] (b.toNat : Int) < 0) ∨
    (urlKeep b.toNat = false ∧ 97 ≤ bits .or .u8 (b.toNat : Int) 32 ∧ 122 < bits .or .u8 (b.toNat : Int) 32 ∧ (b.toNat : Int) < 48 ∧ ixb [45, 46, 95, 126] (b.toNat : Int) < 0) := all_bytes (by decide +kernel)
end Go.Proofs.YthfolopnjmkllaaDoor
