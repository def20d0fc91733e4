/- Two instructions compared; slices.Equal on two lists of the same instructions. -/
import Derived.Test.YtckinkapbfaceaaCodC
import Derived.Test.YtckinkapbfaceaaSet
import Derived.Deep.QuietTactic
import Derived.BigQuiet
namespace Go.Proofs.Ytckinkapbfaceaa
open Go.RowKit
set_option linter.unusedVariables false
set_option linter.unusedSimpArgs false

theorem set_same (w : World) (d : Nat) (a b c e : Int) : (Op.equalIn (d + 2) 24 (.agg #[.int .u64 a, .int .u64 b, .int .u64 c, .int .u64 e]) (.agg #[.int .u64 a, .int .u64 b, .int .u64 c, .int .u64 e])).run Try.prog w = .ok true w := by
  obtain ⟨i, hi⟩ := info_u64
  rw [run_equalIn_array w (d + 1) _ _ Try.underlying24 hi, cells_u64]
  rw [show List.range 4 = [0, 1, 2, 3] from rfl]
  rw [items_u64 w d _ _ 0 _ a a rfl rfl, items_u64 w d _ _ 1 _ b b rfl rfl, items_u64 w d _ _ 2 _ c c rfl rfl, items_u64 w d _ _ 3 _ e e rfl rfl]
  simp [Op.eqItems]
@[go_sem] theorem run_set_same9 (w : World) (a b c e : Int) : (Op.equalIn 9999 24 (.agg #[.int .u64 a, .int .u64 b, .int .u64 c, .int .u64 e]) (.agg #[.int .u64 a, .int .u64 b, .int .u64 c, .int .u64 e])).run Try.prog w = .ok true w := set_same w 9997 a b c e

set_option maxHeartbeats 1000000 in
theorem eqInst_any (A A' : Option Addr) (cap cap' : Nat) (l : List In) (w : World) (B B' : Nat) (hl : l.length ≤ 1000000) (h : OIn w B (.slice A l.length cap) l) (h' : OIn w B' (.slice A' l.length cap') l) :
    Calls Try.prog 12 #[.slice A l.length cap, .slice A' l.length cap'] w fun e w' => e = .returned (.bool true) ∧ Below w.heap.size w w' := by
  have hb0 : ((l.length : Int) != (l.length : Int)) = false := by simp
  have H := Lib.hid h
  have H' := Lib.hid h'
  clear h h'
  go_enter Try.func12, Try.ntmps12
  go_wp2_with fail
  go_loopw [13] (fun i wr => ∃ k q : Nat, k ≤ l.length ∧ i = .int .i64 k ∧ wr = w.drewN q) (fun i _ => l.length - (intOf i).toNat)
  case atStart => exact ⟨0, 0, by omega, rfl, rfl⟩
  case round =>
    obtain ⟨k, q, hk, rfl, rfl⟩ := hrel
    by_cases hlt : k < l.length
    · obtain ⟨i, hi⟩ : ∃ i, l[k]? = some i := ⟨l[k], List.getElem?_eq_getElem hlt⟩
      obtain ⟨g, c, e1, _⟩ := H.out.formAt (by omega)
      obtain ⟨g', c', e1', _⟩ := H'.out.formAt (by omega)
      injection e1 with e1 e2 e3
      injection e1' with e1' e2' e3'
      subst e1 e3 e1' e3'
      have cc : ∀ j, j < 7 → w.cell? ⟨g, k * 7 + j, none⟩ = i.cs[j]? := fun j hj => (OIn.at_ H.out rfl hi hj).1
      have cc' : ∀ j, j < 7 → w.cell? ⟨g', k * 7 + j, none⟩ = i.cs[j]? := fun j hj => (OIn.at_ H'.out rfl hi hj).1
      have x0 : w.cell? ⟨g, k * 7, none⟩ = some (.int .i64 i.k) := cc 0 (by omega)
      have x1 : w.cell? ⟨g, k * 7 + 1, none⟩ = some (.int .i64 i.a) := cc 1 (by omega)
      have x2 : w.cell? ⟨g, k * 7 + 2, none⟩ = some (.int .i64 i.b) := cc 2 (by omega)
      have x3 : w.cell? ⟨g, k * 7 + 3, none⟩ = some (.int .u64 (i.s.a : Int)) := cc 3 (by omega)
      have x4 : w.cell? ⟨g, k * 7 + 4, none⟩ = some (.int .u64 (i.s.b : Int)) := cc 4 (by omega)
      have x5 : w.cell? ⟨g, k * 7 + 5, none⟩ = some (.int .u64 (i.s.c : Int)) := cc 5 (by omega)
      have x6 : w.cell? ⟨g, k * 7 + 6, none⟩ = some (.int .u64 (i.s.d : Int)) := cc 6 (by omega)
      have y0 : w.cell? ⟨g', k * 7, none⟩ = some (.int .i64 i.k) := cc' 0 (by omega)
      have y1 : w.cell? ⟨g', k * 7 + 1, none⟩ = some (.int .i64 i.a) := cc' 1 (by omega)
      have y2 : w.cell? ⟨g', k * 7 + 2, none⟩ = some (.int .i64 i.b) := cc' 2 (by omega)
      have y3 : w.cell? ⟨g', k * 7 + 3, none⟩ = some (.int .u64 (i.s.a : Int)) := cc' 3 (by omega)
      have y4 : w.cell? ⟨g', k * 7 + 4, none⟩ = some (.int .u64 (i.s.b : Int)) := cc' 4 (by omega)
      have y5 : w.cell? ⟨g', k * 7 + 5, none⟩ = some (.int .u64 (i.s.c : Int)) := cc' 5 (by omega)
      have y6 : w.cell? ⟨g', k * 7 + 6, none⟩ = some (.int .u64 (i.s.d : Int)) := cc' 6 (by omega)
      clear cc cc' hi
      go_wp2_with fail
      go_quiet (fail)
      go_wp2_with fail
      go_roundw
      case rel => exact ⟨k + 1, _, by omega, by go_num, rfl⟩
      case measure => simp [intOf]; omega
    · obtain rfl : k = l.length := by omega
      go_wp2_with fail
      go_ret
      exact ⟨rfl, below_drewN (Below.refl _ _) q⟩
end Go.Proofs.Ytckinkapbfaceaa
