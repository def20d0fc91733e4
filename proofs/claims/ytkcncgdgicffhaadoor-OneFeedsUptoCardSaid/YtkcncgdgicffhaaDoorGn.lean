/- Walk: wickref.Split. -/
import Derived.Test.YtkcncgdgicffhaaDoorGm
import Derived.Test.YtkcncgdgicffhaaDoorShelf
import Derived.Lib.SplitLaws
import Derived.Lib.Join
namespace Go.Proofs.YtkcncgdgicffhaaDoor
open Go.RowKit
set_option linter.unusedVariables false
set_option linter.unusedSimpArgs false

theorem fnd0 (l t : List UInt8) : fndL l t 0 = Lib.index l t := by
  have := Lib.index_ge l t
  unfold fndL
  rw [if_neg (by omega), List.drop_zero]
  split <;> omega
theorem split_miss (s t : ByteArray) (w : World) (hs : s.size ≤ 140737488355328) (ht : t.size ≤ 140737488355328) (h : Lib.indexB s t = -1) :
    Calls Tryd.prog 85 #[.string s, .string t] w fun e w' => e = .returned (.tuple #[.string s, .string ⟨#[]⟩, .bool false]) ∧ ∃ q, w' = w.drewN q := by
  have hi : fndL s.data.toList t.data.toList (0 : Int).toNat = -1 := (fnd0 _ _).trans h
  have HI := Lib.hid hi
  clear hi h
  go_enter Tryd.func85, Tryd.ntmps85
  go_wp2_with fail
  refine (Find_any s t 0 _ hs ht (by omega) (by omega)).mono ?_
  rintro e w1 ⟨rfl, rfl⟩
  rw [HI.out]
  go_wp2_with fail
  go_ret3
  exact ⟨rfl, 0, rfl⟩
theorem split_hit (s t : ByteArray) (w : World) (hs : s.size ≤ 140737488355328) (ht : t.size ≤ 140737488355328) (i : Nat) (h : Lib.indexB s t = i) (hr : i + t.size ≤ s.size) :
    Calls Tryd.prog 85 #[.string s, .string t] w fun e w' => e = .returned (.tuple #[.string (s.extract 0 i), .string (s.extract (i + t.size) s.size), .bool true]) ∧ ∃ q, w' = w.drewN q := by
  have hi : fndL s.data.toList t.data.toList (0 : Int).toNat = (i : Int) := (fnd0 _ _).trans h
  have HI := Lib.hid hi
  clear hi h
  have i0 : (0 : Int) ≤ (i : Int) := by omega
  have i1 : (i : Int) ≤ (s.size : Int) := by omega
  have i2 : (0 : Int) ≤ (i : Int) + (t.size : Int) := by omega
  have i3 : (i : Int) + (t.size : Int) ≤ (s.size : Int) := by omega
  have i4 : ((i : Int) + (t.size : Int)).toNat = i + t.size := by omega
  have j1 : IntKind.i64.wrap ((i : Int) + (t.size : Int)) = (i : Int) + (t.size : Int) := IntWalk.i64_in _ (by omega)
  go_enter Tryd.func85, Tryd.ntmps85
  go_wp2_with fail
  refine (Find_any s t 0 _ hs ht (by omega) (by omega)).mono ?_
  rintro e w1 ⟨rfl, rfl⟩
  rw [HI.out]
  go_wp2_with fail
  go_quiet (fail)
  go_wp2_with fail
  go_ret3
  exact ⟨rfl, nq, rfl⟩

end Go.Proofs.YtkcncgdgicffhaaDoor

/- strings.Cut and wickref.Split in the same words. -/
namespace Go.Proofs.YtkcncgdgicffhaaDoor
open Go.RowKit
set_option linter.unusedVariables false
set_option linter.unusedSimpArgs false

/-- what stands ahead of t, behind it; is it there? -/
def cutS (s t : ByteArray) : ByteArray × ByteArray × Bool := (str (Lib.cut s.data.toList t.data.toList).1, str (Lib.cut s.data.toList t.data.toList).2.1, (Lib.cut s.data.toList t.data.toList).2.2)
theorem cutS_miss {s t : ByteArray} (h : Lib.indexB s t = -1) : cutS s t = (s, ⟨#[]⟩, false) := by
  have h' : Lib.index s.data.toList t.data.toList = -1 := h
  unfold cutS Lib.cut
  rw [h', if_neg (by omega)]
theorem cutS_hit {s t : ByteArray} {i : Nat} (h : Lib.indexB s t = i) (hr : i + t.size ≤ s.size) : cutS s t = (s.extract 0 i, s.extract (i + t.size) s.size, true) := by
  have h' : Lib.index s.data.toList t.data.toList = i := h
  unfold cutS Lib.cut
  rw [h', if_pos (by omega)]
  refine Prod.ext ?_ (Prod.ext ?_ rfl)
  · apply lst_inj
    show (str _).data.toList = _
    rw [lst_ext, lst_mk]; simp
  · apply lst_inj
    show (str _).data.toList = _
    rw [lst_ext, lst_mk, lst_len, take_all s (Nat.le_refl _)]; simp
theorem cutS_size (s t : ByteArray) : (cutS s t).1.size ≤ s.size ∧ (cutS s t).2.1.size ≤ s.size := by
  rcases Lib.indexB_cases s t with h | ⟨i, h, hr⟩
  · rw [cutS_miss h]; exact ⟨Nat.le_refl _, Nat.zero_le _⟩
  · rw [cutS_hit h hr]
    dsimp only
    rw [ByteArray.size_extract, ByteArray.size_extract]; omega
theorem rsplit_any (s t : ByteArray) (w : World) (hs : s.size ≤ 140737488355328) (ht : t.size ≤ 140737488355328) :
    Calls Tryd.prog 85 #[.string s, .string t] w fun e w' => e = .returned (.tuple #[.string (cutS s t).1, .string (cutS s t).2.1, .bool (cutS s t).2.2]) ∧ ∃ q, w' = w.drewN q := by
  rcases Lib.indexB_cases s t with h | ⟨i, h, hr⟩
  · rw [cutS_miss h]; exact split_miss s t w hs ht h
  · rw [cutS_hit h hr]; exact split_hit s t w hs ht i h hr
theorem cut_any (s t : ByteArray) (m : Int) (w : World) (hs : s.size ≤ 1048576) (hm : w.cell? ⟨1, 0, none⟩ = some (.int .i64 m)) :
    Calls Tryd.prog 82 #[.string s, .string t] w fun e w' => e = .returned (.tuple #[.string (cutS s t).1, .string (cutS s t).2.1, .bool (cutS s t).2.2]) ∧ ∃ q, w' = w.drewN q :=
  Tryd.strings_Cut s t m w (by omega) hm
end Go.Proofs.YtkcncgdgicffhaaDoor
