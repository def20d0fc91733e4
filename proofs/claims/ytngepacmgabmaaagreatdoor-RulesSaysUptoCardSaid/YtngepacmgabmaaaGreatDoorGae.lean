/- Walk: wickref.Is: is a byte in a set? -/
import Derived.Test.YtngepacmgabmaaaGreatDoorGm
namespace Go.Proofs.YtngepacmgabmaaaGreatDoor
open Go.RowKit
set_option linter.unusedVariables false
set_option linter.unusedSimpArgs false
theorem jg2 (s:Q4) (b:Nat) (hb:b<=255) (w:World):
 Calls Tryz.prog 223 #[.agg #[.int .u64 (s.a:Int),.int .u64 (s.b:Int),.int .u64 (s.c:Int),.int .u64 (s.d:Int)],.int .i64 (b:Int)] w λ e w'=>e= .returned (.bool (k32 s b))/\Below w.heap.size w w':=by
 rcases yA6 hb with⟨h,e6⟩|⟨h,e6⟩|⟨h,e6⟩|⟨h,e6⟩
 all_goals
  go_enter Tryz.func223,Tryz.ntmps223
  go_wp2
  go_ret;refine⟨Kh9 ?_,(Below.refl _ _).alloc (Nat.le_refl _) _⟩;unfold k32 Q4.word;rw [h];exact Z80 _ _
end Go.Proofs.YtngepacmgabmaaaGreatDoor
