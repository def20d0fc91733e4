/- Walk: wickref.Split. -/
import Derived.Test.YthfolopnjmkllaaDoorTxtB
import Derived.Test.YthfolopnjmkllaaDoorShelf
import Derived.Lib.SplitLaws
import Derived.Lib.Join
namespace Go.Proofs.YthfolopnjmkllaaDoor
open Go.RowKit
set_option linter.unusedVariables false
set_option linter.unusedSimpArgs false

theorem fnd0 (l t : List UInt8) : fndL l t 0 = Lib.index l t := by
  have := Lib.index_ge l t
  unfold fndL
  rw [if_neg (by omega), List.drop_zero]
  split <;> omega
theorem split_miss (s t : ByteArray) (w : World) (hs : s.size ≤ 140737488355328) (ht : t.size ≤ 140737488355328) (h : Lib.indexB s t = -1) :
    Calls Tryd.prog 45 #[.string s, .string t] w fun e w' => e = .returned (.tuple #[.string s, .string ⟨#[]⟩, .bool false]) ∧ ∃ q, w' = w.drewN q := by
  have hi : fndL s.data.toList t.data.toList (0 : Int).toNat = -1 := (fnd0 _ _).trans h
  have HI := Lib.hid hi
  clear hi h
  go_enter Tryd.func45, Tryd.ntmps45
  go_wp2_with fail
  refine (Find_any s t 0 _ hs ht (by omega) (by omega)).mono ?_
  rintro e w1 ⟨rfl, rfl⟩
  rw [HI.out]
  go_wp2_with fail
  go_ret3
  exact ⟨rfl, 0, rfl⟩
theorem split_hit (s t : ByteArray) (w : World) (hs : s.size ≤ 140737488355328) (ht : t.size ≤ 140737488355328) (i : Nat) (h : Lib.indexB s t = i) (hr : i + t.size ≤ s.size) :
    Calls Tryd.prog 45 #[.string s, .string t] w fun e w' => e = .returned (.tuple #[.string (s.extract 0 i), .string (s.extract (i + t.size) s.size), .bool true]) ∧ ∃ q, w' = w.drewN q := by
  have hi : fndL s.data.toList t.data.toList (0 : Int).toNat = (i : Int) := (fnd0 _ _).trans h
  have HI := Lib.hid hi
  clear hi h
  have i0 : (0 : Int) ≤ (i : Int) := by omega
  have i1 : (i : Int) ≤ (s.size : Int) := by omega
  have i2 : (0 : Int) ≤ (i : Int) + (t.size : Int) := by omega
  have i3 : (i : Int) + (t.size : Int) ≤ (s.size : Int) := by omega
  have i4 : ((i : Int) + (t.size : Int)).toNat = i + t.size := by omega
  have j1 : IntKind.i64.wrap ((i : Int) + (t.size : Int)) = (i : Int) + (t.size : Int) := IntWalk.i64_in _ (by omega)
  go_enter Tryd.func45, Tryd.ntmps45
  go_wp2_with fail
  refine (Find_any s t 0 _ hs ht (by omega) (by omega)).mono ?_
  rintro e w1 ⟨rfl, rfl⟩
  rw [HI.out]
  go_wp2_with fail
  go_quiet (fail)
  go_wp2_with fail
  go_ret3
  exact ⟨rfl, nq, rfl⟩

end Go.Proofs.YthfolopnjmkllaaDoor
