/- Walk of wickref.in; small words on strings. -/
import Derived.Test.YtmkaghpnihlhcaaPlain
import Derived.Test.YtmkaghpnihlhcaaMem
import Derived.Test.YtmkaghpnihlhcaaRows
import Derived.WalkKit
import Derived.WalkSpells
import Derived.WalkLawsBesides
import Derived.Lib.Hide
import Derived.Deep.QuietTactic
import Derived.BigQuiet
namespace Go.Proofs.Ytmkaghpnihlhcaa
open Go.RowKit
set_option linter.unusedVariables false
set_option linter.unusedSimpArgs false
theorem cat_str (L M:List UInt8):str L++str M=str (L++M):=ByteArray.mk_append_mk L M
end Go.Proofs.Ytmkaghpnihlhcaa
