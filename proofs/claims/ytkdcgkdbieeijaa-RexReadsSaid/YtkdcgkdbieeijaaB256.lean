/- Blocks of 256 bools. -/
import Derived.Test.YtkdcgkdbieeijaaBoR
namespace Go.Proofs.Ytkdcgkdbieeijaa
open Go.RowKit
set_option linter.unusedVariables false
set_option linter.unusedSimpArgs false

theorem zc256 : Try.zeroCells133 = (List.replicate 256 (Value.bool false)).toArray := by kernel_rfl
theorem bo256 (w : World) : BoR (w.alloc (.cells Try.zeroCells133 133)) w.heap.size 256 (fun _ => false) := by
  have h := Blk.new w 133 Try.zeroCells133
  refine ⟨h.lt, fun i hi => ?_, fun i _ => h.frozen i⟩
  rw [h.cell i, zc256, List.getElem?_toArray, List.getElem?_replicate, if_pos hi]
end Go.Proofs.Ytkdcgkdbieeijaa
