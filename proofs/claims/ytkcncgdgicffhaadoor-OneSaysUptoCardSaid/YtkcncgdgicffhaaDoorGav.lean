/- Walk: wickref.SameHead of two heads that are the same. -/
import Derived.Test.YtkcncgdgicffhaaDoorGq
namespace Go.Proofs.YtkcncgdgicffhaaDoor
open Go.RowKit
set_option linter.unusedVariables false
set_option linter.unusedSimpArgs false

set_option maxHeartbeats 1000000 in
theorem sameHead_any (m t : ByteArray) (fs : List Fd) (A A' : Option Addr) (c c' B B' : Nat) (w : World) (hl : fs.length ≤ 9000000000) (h : OP 108 w B (.slice A fs.length c) fs) (h' : OP 108 w B' (.slice A' fs.length c') fs) :
    Calls Tryd.prog 17 #[.agg #[.string m, .string t, .slice A fs.length c], .agg #[.string m, .string t, .slice A' fs.length c']] w fun e w' => e = .returned (.bool true) ∧ Below w.heap.size w w' := by
  obtain ⟨W, hW⟩ : ∃ W, (w.alloc (.cells #[.string m, .string t, .slice A fs.length c] 24)).alloc (.cells #[.string m, .string t, .slice A' fs.length c'] 24) = W := ⟨_, rfl⟩
  have hb : Below w.heap.size w W := by rw [← hW]; exact ((Below.refl _ _).alloc (Nat.le_refl _) _).alloc (by simp) _
  have h1 : OP 108 W B (.slice A fs.length c) fs := by rw [← hW]; exact (h.alloc _).alloc _
  have h2 : OP 108 W B' (.slice A' fs.length c') fs := by rw [← hW]; exact (h'.alloc _).alloc _
  have K1 : Blk W w.heap.size 24 #[.string m, .string t, .slice A fs.length c] := by rw [← hW]; exact (Blk.new _ _ _).alloc _
  have K2 : Blk W (w.heap.size + 1) 24 #[.string m, .string t, .slice A' fs.length c'] := by
    have := Blk.new (w.alloc (.cells #[.string m, .string t, .slice A fs.length c] 24)) 24 #[.string m, .string t, .slice A' fs.length c']
    rw [hW] at this
    simpa using this
  have CE := Lib.hid (eqFd_any A A' c c' fs W B B' hl h1 h2)
  have x0 : W.cell? ⟨w.heap.size, 0, none⟩ = some (.string m) := K1.cell 0
  have x1 : W.cell? ⟨w.heap.size, 1, none⟩ = some (.string t) := K1.cell 1
  have x2 : W.cell? ⟨w.heap.size, 2, none⟩ = some (.slice A fs.length c) := K1.cell 2
  have y0 : W.cell? ⟨w.heap.size + 1, 0, none⟩ = some (.string m) := K2.cell 0
  have y1 : W.cell? ⟨w.heap.size + 1, 1, none⟩ = some (.string t) := K2.cell 1
  have y2 : W.cell? ⟨w.heap.size + 1, 2, none⟩ = some (.slice A' fs.length c') := K2.cell 2
  have HB := Lib.hid hb
  clear h h' h1 h2 K1 K2 hb
  go_enter Tryd.func17, Tryd.ntmps17
  go_wp2_with fail
  refine CE.out.mono ?_
  rintro e w1 ⟨rfl, b1⟩
  have HB1 := Lib.hid (HB.out.trans (b1.mono HB.out.size))
  clear b1
  go_wp2_with fail
  go_ret
  exact ⟨rfl, HB1.out⟩
end Go.Proofs.YtkcncgdgicffhaaDoor
