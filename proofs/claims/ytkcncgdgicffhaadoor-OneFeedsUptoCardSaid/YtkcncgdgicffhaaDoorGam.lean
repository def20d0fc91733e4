/- Walks: one.Check, wickref.Bounds. (printed by gen_onc.py) -/
import Derived.Test.YtkcncgdgicffhaaDoorGw
namespace Go.Proofs.YtkcncgdgicffhaaDoor
open Go.RowKit
set_option linter.unusedVariables false
set_option linter.unusedSimpArgs false

section
variable (H B A : Int) (w : World)
set_option maxHeartbeats 2000000 in
theorem check_any : Calls Tryd.prog 22 #[.agg #[.int .i64 H, .int .i64 B, .int .i64 A]] w fun e w' => e = .returned (.int .i64 (bdE H B A)) ∧ Below w.heap.size w w' := by
  obtain ⟨W, hW⟩ : ∃ W, w.alloc (.cells #[.int .i64 H, .int .i64 B, .int .i64 A] 43) = W := ⟨_, rfl⟩
  have hWb : Below w.heap.size w W := by rw [← hW]; exact (Below.refl _ _).alloc (Nat.le_refl _) _
  have hWk : Blk W w.heap.size 43 #[.int .i64 H, .int .i64 B, .int .i64 A] := by rw [← hW]; exact Blk.new _ _ _
  have x0 : W.cell? ⟨w.heap.size, 0, none⟩ = some (.int .i64 H) := hWk.cell 0
  have x1 : W.cell? ⟨w.heap.size, 1, none⟩ = some (.int .i64 B) := hWk.cell 1
  have x2 : W.cell? ⟨w.heap.size, 2, none⟩ = some (.int .i64 A) := hWk.cell 2
  have HB := Lib.hid hWb
  clear hWk hWb
  by_cases h1 : H < 30
  · have HE : Hid (bdE H B A = 1) := Lib.hid (by unfold bdE; rw [if_pos (by omega)])
    have d1 : decide (H < 30) = true := decide_eq_true (by omega)
    clear h1
    go_enter Tryd.func22, Tryd.ntmps22
    go_wp2_with fail
    go_ret
    exact ⟨ret_int HE.out.symm, HB.out⟩
  · skip
    by_cases h2 : 4096 < H
    · have HE : Hid (bdE H B A = 1) := Lib.hid (by unfold bdE; rw [if_pos (by omega)])
      have d1 : decide (H < 30) = false := decide_eq_false (by omega)
      have d2 : decide (4096 < H) = true := decide_eq_true (by omega)
      clear h1 h2
      go_enter Tryd.func22, Tryd.ntmps22
      go_wp2_with fail
      go_ret
      exact ⟨ret_int HE.out.symm, HB.out⟩
    · skip
      by_cases h3 : B < 0
      · have HE : Hid (bdE H B A = 1) := Lib.hid (by unfold bdE; rw [if_pos (by omega)])
        have d1 : decide (H < 30) = false := decide_eq_false (by omega)
        have d2 : decide (4096 < H) = false := decide_eq_false (by omega)
        have d3 : decide (B < 0) = true := decide_eq_true (by omega)
        clear h1 h2 h3
        go_enter Tryd.func22, Tryd.ntmps22
        go_wp2_with fail
        go_ret
        exact ⟨ret_int HE.out.symm, HB.out⟩
      · skip
        by_cases h4 : 4096 < B
        · have HE : Hid (bdE H B A = 1) := Lib.hid (by unfold bdE; rw [if_pos (by omega)])
          have d1 : decide (H < 30) = false := decide_eq_false (by omega)
          have d2 : decide (4096 < H) = false := decide_eq_false (by omega)
          have d3 : decide (B < 0) = false := decide_eq_false (by omega)
          have d4 : decide (4096 < B) = true := decide_eq_true (by omega)
          clear h1 h2 h3 h4
          go_enter Tryd.func22, Tryd.ntmps22
          go_wp2_with fail
          go_ret
          exact ⟨ret_int HE.out.symm, HB.out⟩
        · skip
          by_cases h5 : A < 1
          · have HE : Hid (bdE H B A = 1) := Lib.hid (by unfold bdE; rw [if_pos (by omega)])
            have d1 : decide (H < 30) = false := decide_eq_false (by omega)
            have d2 : decide (4096 < H) = false := decide_eq_false (by omega)
            have d3 : decide (B < 0) = false := decide_eq_false (by omega)
            have d4 : decide (4096 < B) = false := decide_eq_false (by omega)
            have d5 : decide (A < 1) = true := decide_eq_true (by omega)
            clear h1 h2 h3 h4 h5
            go_enter Tryd.func22, Tryd.ntmps22
            go_wp2_with fail
            go_ret
            exact ⟨ret_int HE.out.symm, HB.out⟩
          · skip
            by_cases h6 : 40 < A
            · have HE : Hid (bdE H B A = 1) := Lib.hid (by unfold bdE; rw [if_pos (by omega)])
              have d1 : decide (H < 30) = false := decide_eq_false (by omega)
              have d2 : decide (4096 < H) = false := decide_eq_false (by omega)
              have d3 : decide (B < 0) = false := decide_eq_false (by omega)
              have d4 : decide (4096 < B) = false := decide_eq_false (by omega)
              have d5 : decide (A < 1) = false := decide_eq_false (by omega)
              have d6 : decide (40 < A) = true := decide_eq_true (by omega)
              clear h1 h2 h3 h4 h5 h6
              go_enter Tryd.func22, Tryd.ntmps22
              go_wp2_with fail
              go_ret
              exact ⟨ret_int HE.out.symm, HB.out⟩
            · skip
              have HE : Hid (bdE H B A = 0) := Lib.hid (by unfold bdE; rw [if_neg (by omega)])
              have d1 : decide (H < 30) = false := decide_eq_false (by omega)
              have d2 : decide (4096 < H) = false := decide_eq_false (by omega)
              have d3 : decide (B < 0) = false := decide_eq_false (by omega)
              have d4 : decide (4096 < B) = false := decide_eq_false (by omega)
              have d5 : decide (A < 1) = false := decide_eq_false (by omega)
              have d6 : decide (40 < A) = false := decide_eq_false (by omega)
              clear h1 h2 h3 h4 h5 h6
              go_enter Tryd.func22, Tryd.ntmps22
              go_wp2_with fail
              go_ret
              exact ⟨ret_int HE.out.symm, HB.out⟩
set_option maxHeartbeats 2000000 in
theorem bounds_any : Calls Tryd.prog 20 #[.agg #[.int .i64 H, .int .i64 B, .int .i64 A]] w fun e w' => e = .returned (.int .i64 (bdE H B A)) ∧ Below w.heap.size w w' := by
  obtain ⟨W, hW⟩ : ∃ W, w.alloc (.cells #[.int .i64 H, .int .i64 B, .int .i64 A] 43) = W := ⟨_, rfl⟩
  have hWb : Below w.heap.size w W := by rw [← hW]; exact (Below.refl _ _).alloc (Nat.le_refl _) _
  have hWk : Blk W w.heap.size 43 #[.int .i64 H, .int .i64 B, .int .i64 A] := by rw [← hW]; exact Blk.new _ _ _
  have x0 : W.cell? ⟨w.heap.size, 0, none⟩ = some (.int .i64 H) := hWk.cell 0
  have x1 : W.cell? ⟨w.heap.size, 1, none⟩ = some (.int .i64 B) := hWk.cell 1
  have x2 : W.cell? ⟨w.heap.size, 2, none⟩ = some (.int .i64 A) := hWk.cell 2
  have HB := Lib.hid hWb
  clear hWk hWb
  by_cases h1 : H < 30
  · have HE : Hid (bdE H B A = 1) := Lib.hid (by unfold bdE; rw [if_pos (by omega)])
    have d1 : decide (H < 30) = true := decide_eq_true (by omega)
    clear h1
    go_enter Tryd.func20, Tryd.ntmps20
    go_wp2_with fail
    go_ret
    exact ⟨ret_int HE.out.symm, HB.out⟩
  · skip
    by_cases h2 : 4096 < H
    · have HE : Hid (bdE H B A = 1) := Lib.hid (by unfold bdE; rw [if_pos (by omega)])
      have d1 : decide (H < 30) = false := decide_eq_false (by omega)
      have d2 : decide (4096 < H) = true := decide_eq_true (by omega)
      clear h1 h2
      go_enter Tryd.func20, Tryd.ntmps20
      go_wp2_with fail
      go_ret
      exact ⟨ret_int HE.out.symm, HB.out⟩
    · skip
      by_cases h3 : B < 0
      · have HE : Hid (bdE H B A = 1) := Lib.hid (by unfold bdE; rw [if_pos (by omega)])
        have d1 : decide (H < 30) = false := decide_eq_false (by omega)
        have d2 : decide (4096 < H) = false := decide_eq_false (by omega)
        have d3 : decide (B < 0) = true := decide_eq_true (by omega)
        clear h1 h2 h3
        go_enter Tryd.func20, Tryd.ntmps20
        go_wp2_with fail
        go_ret
        exact ⟨ret_int HE.out.symm, HB.out⟩
      · skip
        by_cases h4 : 4096 < B
        · have HE : Hid (bdE H B A = 1) := Lib.hid (by unfold bdE; rw [if_pos (by omega)])
          have d1 : decide (H < 30) = false := decide_eq_false (by omega)
          have d2 : decide (4096 < H) = false := decide_eq_false (by omega)
          have d3 : decide (B < 0) = false := decide_eq_false (by omega)
          have d4 : decide (4096 < B) = true := decide_eq_true (by omega)
          clear h1 h2 h3 h4
          go_enter Tryd.func20, Tryd.ntmps20
          go_wp2_with fail
          go_ret
          exact ⟨ret_int HE.out.symm, HB.out⟩
        · skip
          by_cases h5 : A < 1
          · have HE : Hid (bdE H B A = 1) := Lib.hid (by unfold bdE; rw [if_pos (by omega)])
            have d1 : decide (H < 30) = false := decide_eq_false (by omega)
            have d2 : decide (4096 < H) = false := decide_eq_false (by omega)
            have d3 : decide (B < 0) = false := decide_eq_false (by omega)
            have d4 : decide (4096 < B) = false := decide_eq_false (by omega)
            have d5 : decide (A < 1) = true := decide_eq_true (by omega)
            clear h1 h2 h3 h4 h5
            go_enter Tryd.func20, Tryd.ntmps20
            go_wp2_with fail
            go_ret
            exact ⟨ret_int HE.out.symm, HB.out⟩
          · skip
            by_cases h6 : 40 < A
            · have HE : Hid (bdE H B A = 1) := Lib.hid (by unfold bdE; rw [if_pos (by omega)])
              have d1 : decide (H < 30) = false := decide_eq_false (by omega)
              have d2 : decide (4096 < H) = false := decide_eq_false (by omega)
              have d3 : decide (B < 0) = false := decide_eq_false (by omega)
              have d4 : decide (4096 < B) = false := decide_eq_false (by omega)
              have d5 : decide (A < 1) = false := decide_eq_false (by omega)
              have d6 : decide (40 < A) = true := decide_eq_true (by omega)
              clear h1 h2 h3 h4 h5 h6
              go_enter Tryd.func20, Tryd.ntmps20
              go_wp2_with fail
              go_ret
              exact ⟨ret_int HE.out.symm, HB.out⟩
            · skip
              have HE : Hid (bdE H B A = 0) := Lib.hid (by unfold bdE; rw [if_neg (by omega)])
              have d1 : decide (H < 30) = false := decide_eq_false (by omega)
              have d2 : decide (4096 < H) = false := decide_eq_false (by omega)
              have d3 : decide (B < 0) = false := decide_eq_false (by omega)
              have d4 : decide (4096 < B) = false := decide_eq_false (by omega)
              have d5 : decide (A < 1) = false := decide_eq_false (by omega)
              have d6 : decide (40 < A) = false := decide_eq_false (by omega)
              clear h1 h2 h3 h4 h5 h6
              go_enter Tryd.func20, Tryd.ntmps20
              go_wp2_with fail
              go_ret
              exact ⟨ret_int HE.out.symm, HB.out⟩
end
end Go.Proofs.YtkcncgdgicffhaaDoor
