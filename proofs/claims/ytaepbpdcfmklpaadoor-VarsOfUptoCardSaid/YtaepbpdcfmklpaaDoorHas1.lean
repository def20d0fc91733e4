/- Walk: wickref.Has; boundaries by their answer. -/
import Derived.Test.YtaepbpdcfmklpaaDoorMulA
import Derived.Test.YtaepbpdcfmklpaaDoorSpl
namespace Go.Proofs.YtaepbpdcfmklpaaDoor
open Go.RowKit
set_option linter.unusedVariables false
set_option linter.unusedSimpArgs false

/-- wickref.Has -/
theorem has_any (x t : ByteArray) (w : World) (hx : x.size ≤ 140737488355328) (ht : t.size ≤ 140737488355328) :
    Calls Tryd.prog 57 #[.string x, .string t] w fun e w' => e = .returned (.bool (Lib.contains x.data.toList t.data.toList)) ∧ w = w' := by
  have C := Find_any x t 0 w hx ht (by omega) (by omega)
  rw [show fndL x.data.toList t.data.toList (0 : Int).toNat = Lib.index x.data.toList t.data.toList from fnd0 _ _] at C
  unfold Lib.contains
  obtain ⟨i, hi⟩ : ∃ i, i = Lib.index x.data.toList t.data.toList := ⟨_, rfl⟩
  rw [← hi] at C ⊢
  have C := Lib.hid C
  clear hi
  go_enter Tryd.func57, Tryd.ntmps57
  go_wp2_with fail
  refine C.out.mono ?_
  rintro e w' ⟨rfl, rfl⟩
  go_wp2_with fail
  go_ret
  exact ⟨rfl, rfl⟩
theorem has1_any (x : ByteArray) (b : UInt8) (w : World) (hx : x.size ≤ 140737488355328) :
    Calls Tryd.prog 57 #[.string x, .string ⟨#[b]⟩] w fun e w' => e = .returned (.bool (decide (0 ≤ Lib.indexByte x.data.toList b))) ∧ w = w' := by
  have h := has_any x ⟨#[b]⟩ w hx (by show 1 ≤ _; omega)
  unfold Lib.contains at h
  rw [show (⟨#[b]⟩ : ByteArray).data.toList = [b] from rfl, Lib.index_one] at h
  exact h
theorem right_eq {s : ByteArray} {b : Bool} (h : bndL s = b) (w : World) (hs : s.size ≤ 1048576) : Calls Tryd.prog 79 #[.string s] w fun e w' => e = .returned (.bool b) ∧ w = w' := h ▸ right_any s w (by omega)
theorem isBnd_eq {s : ByteArray} {b : Bool} (h : bndL s = b) (w : World) (hs : s.size ≤ 1048576) : Calls Tryd.prog 55 #[.string s] w fun e w' => e = .returned (.bool b) ∧ w = w' := h ▸ isBnd_any s w (by omega)
end Go.Proofs.YtaepbpdcfmklpaaDoor
