/- string([]byte{..}) of one byte, of two. -/
import Derived.Test.YtmkaghpnihlhcaaProg
import Derived.Test.YtmkaghpnihlhcaaMem
import Derived.WalkKit
import Derived.WalkSpells
import Derived.WalkLawsBesides
import Derived.Laws.BytesString
namespace Go.Proofs.Ytmkaghpnihlhcaa
open Go.RowKit
set_option linter.unusedVariables false
set_option linter.unusedSimpArgs false
theorem conv_one (W:World) (n:Int):(convert 41 9 (.slice (some ⟨W.heap.size,0,none⟩) 1 1)).run Try.prog (W.alloc (.cells #[.int .u8 n] 5))= .ok (.string (str [UInt8.ofNat n.toNat])) (W.alloc (.cells #[.int .u8 n] 5)):=by
 rw [run_convert_bytes_arg (P:=Try.prog) _ 41 5 Try.underlying41 Try.underlying5 W.heap.size 0 1 1 [n] rfl (fun i hi=>by
  obtain rfl:i=0:=by omega
  rw [(Blk.new W 5 #[.int .u8 n]).cell 0];rfl) 9 Try.underlying9]
 rfl
theorem conv_one_drew (W:World) (n:Int):(convert 41 9 (.slice (some ⟨W.heap.size,0,none⟩) 1 1)).run Try.prog (W.alloc (.cells #[.int .u8 n] 5)).drew= .ok (.string (str [UInt8.ofNat n.toNat])) (W.alloc (.cells #[.int .u8 n] 5)).drew:=conv_one W.drew n
end Go.Proofs.Ytmkaghpnihlhcaa
