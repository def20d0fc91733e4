/- string([]byte{..}) of one byte, of two. -/
import Derived.Test.YthfolopnjmkllaaDoorProg
import Derived.Test.YthfolopnjmkllaaDoorMem
import Derived.WalkKit
import Derived.WalkSpells
import Derived.WalkLawsBesides
import Derived.Laws.BytesString
namespace Go.Proofs.YthfolopnjmkllaaDoor
open Go.RowKit
set_option linter.unusedVariables false
set_option linter.unusedSimpArgs false

/-- string([]byte{x}) -/
theorem conv_one (W : World) (n : Int) : (convert 72 9 (.slice (some ⟨W.heap.size, 0, none⟩) 1 1)).run Tryd.prog (W.alloc (.cells #[.int .u8 n] 5)) = .ok (.string (str [UInt8.ofNat n.toNat])) (W.alloc (.cells #[.int .u8 n] 5)) := by
  rw [run_convert_bytes_arg (P := Tryd.prog) _ 72 5 Tryd.underlying72 Tryd.underlying5 W.heap.size 0 1 1 [n] rfl (fun i hi => by
    obtain rfl : i = 0 := by omega
    rw [(Blk.new W 5 #[.int .u8 n]).cell 0]; rfl) 9 Tryd.underlying9]
  rfl

theorem conv_one_drew (W : World) (n : Int) : (convert 72 9 (.slice (some ⟨W.heap.size, 0, none⟩) 1 1)).run Tryd.prog (W.alloc (.cells #[.int .u8 n] 5)).drew = .ok (.string (str [UInt8.ofNat n.toNat])) (W.alloc (.cells #[.int .u8 n] 5)).drew := conv_one W.drew n

theorem conv_two (W : World) (n m : Int) : (convert 72 9 (.slice (some ⟨W.heap.size, 0, none⟩) 2 2)).run Tryd.prog (W.alloc (.cells #[.int .u8 n, .int .u8 m] 5)) = .ok (.string (str [UInt8.ofNat n.toNat, UInt8.ofNat m.toNat])) (W.alloc (.cells #[.int .u8 n, .int .u8 m] 5)) := by
  rw [run_convert_bytes_arg (P := Tryd.prog) _ 72 5 Tryd.underlying72 Tryd.underlying5 W.heap.size 0 2 2 [n, m] rfl (fun i hi => by
    obtain rfl | rfl : i = 0 ∨ i = 1 := by omega
    · rw [(Blk.new W 5 #[.int .u8 n, .int .u8 m]).cell 0]; rfl
    · rw [(Blk.new W 5 #[.int .u8 n, .int .u8 m]).cell 1]; rfl) 9 Tryd.underlying9]
  rfl
theorem conv_two_drew (W : World) (n m : Int) : (convert 72 9 (.slice (some ⟨W.heap.size, 0, none⟩) 2 2)).run Tryd.prog (W.alloc (.cells #[.int .u8 n, .int .u8 m] 5)).drew = .ok (.string (str [UInt8.ofNat n.toNat, UInt8.ofNat m.toNat])) (W.alloc (.cells #[.int .u8 n, .int .u8 m] 5)).drew := conv_two W.drew n m
end Go.Proofs.YthfolopnjmkllaaDoor
