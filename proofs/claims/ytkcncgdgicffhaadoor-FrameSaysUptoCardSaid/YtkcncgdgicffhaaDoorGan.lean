/- strings.Split in the words of wickref.Pieces. -/
import Derived.Test.YtkcncgdgicffhaaDoorGal
import Derived.WalkKit
import Derived.WalkSpells
import Derived.WalkLawsBesides
import Derived.Lib.Hide
import Derived.Deep.QuietTactic
import Derived.BigQuiet
import Derived.StillTailTactics
import Derived.Laws.StructEq
namespace Go.Proofs.YtkcncgdgicffhaaDoor
open Go.RowKit
set_option linter.unusedVariables false
set_option linter.unusedSimpArgs false

theorem sp_any (s t : ByteArray) (m : Int) (w : World) (hs : s.size ≤ 1048576) (hm : w.cell? ⟨1, 0, none⟩ = some (.int .i64 m)) (h1 : 1 ≤ t.size) :
    Calls Tryd.prog 63 #[.string s, .string t] w fun e w' => e = .returned (.slice (some ⟨w.heap.size, 0, none⟩) (pcs s t).length (pcs s t).length) ∧ OS w' w.heap.size (.slice (some ⟨w.heap.size, 0, none⟩) (pcs s t).length (pcs s t).length) (pcs s t) ∧ Below w.heap.size w w' := by
  have hl := pcs_len (s := s) h1
  have hle := pcs_le (s := s) h1
  refine (Tryd.strings_Split s t m w (by omega) hm h1).mono fun e w' ⟨h2, h3⟩ => ?_
  refine ⟨by rw [h2, hl], ?_, by rw [h3]; exact (Below.refl _ _).alloc (Nat.le_refl _) _⟩
  rw [h3]
  have := World.ownsRow_lit (base := w.heap.size) (e := 9) (size := 1) w ((pcs s t).map Value.string).toArray (pcs s t).length (Nat.le_refl _) (by unfold maxLen; omega) (by simp)
  exact this
end Go.Proofs.YtkcncgdgicffhaaDoor

/- Lists of fields that a call makes: slices.Equal of two of them. -/
namespace Go.Proofs.YtkcncgdgicffhaaDoor
open Go.RowKit
set_option linter.unusedVariables false
set_option linter.unusedSimpArgs false

theorem infoField : (Tryd.prog.info? 108).map (fun i => (i.zero, i.size, i.bytes)) = some (some (.agg #[.string ByteArray.empty, .string ByteArray.empty]), 2, 32) := by kernel_rfl
set_option maxHeartbeats 1000000 in
theorem eqFd_any (A A' : Option Addr) (cap cap' : Nat) (l : List Fd) (w : World) (B B' : Nat) (hl : l.length ≤ 9000000000) (h : OP 108 w B (.slice A l.length cap) l) (h' : OP 108 w B' (.slice A' l.length cap') l) :
    Calls Tryd.prog 62 #[.slice A l.length cap, .slice A' l.length cap'] w fun e w' => e = .returned (.bool true) ∧ Below w.heap.size w w' := by
  have hb0 : ((l.length : Int) != (l.length : Int)) = false := by simp
  have H := Lib.hid h
  have H' := Lib.hid h'
  clear h h'
  go_enter Tryd.func62, Tryd.ntmps62
  go_wp2_with fail
  go_loopw [13] (fun i wr => ∃ k q : Nat, k ≤ l.length ∧ i = .int .i64 k ∧ wr = w.drewN q) (fun i _ => l.length - (intOf i).toNat)
  case atStart => exact ⟨0, 0, by omega, rfl, rfl⟩
  case round =>
    obtain ⟨k, q, hk, rfl, rfl⟩ := hrel
    by_cases hlt : k < l.length
    · obtain ⟨i, hi⟩ : ∃ i, l[k]? = some i := ⟨l[k], List.getElem?_eq_getElem hlt⟩
      obtain ⟨g, rfl, _, _, x0, x1⟩ := H.out.at_ hi
      obtain ⟨g', rfl, _, _, y0, y1⟩ := H'.out.at_ hi
      clear hi
      go_wp2_with fail
      go_quiet (fail)
      go_wp2_with fail
      go_roundw
      case rel => exact ⟨k + 1, _, by omega, by go_num, rfl⟩
      case measure => simp [intOf]; omega
    · obtain rfl : k = l.length := by omega
      go_wp2_with fail
      go_ret
      exact ⟨rfl, below_drewN (Below.refl _ _) q⟩
end Go.Proofs.YtkcncgdgicffhaaDoor
