/- strings.Cut and wickref.Split in the same words. -/
import Derived.Test.YthfolopnjmkllaaDoorSpl
namespace Go.Proofs.YthfolopnjmkllaaDoor
open Go.RowKit
set_option linter.unusedVariables false
set_option linter.unusedSimpArgs false

/-- what stands ahead of t, behind it; is it there? -/
def cutS (s t : ByteArray) : ByteArray × ByteArray × Bool := (str (Lib.cut s.data.toList t.data.toList).1, str (Lib.cut s.data.toList t.data.toList).2.1, (Lib.cut s.data.toList t.data.toList).2.2)
theorem cutS_miss {s t : ByteArray} (h : Lib.indexB s t = -1) : cutS s t = (s, ⟨#[]⟩, false) := by
  have h' : Lib.index s.data.toList t.data.toList = -1 := h
  unfold cutS Lib.cut
  rw [h', if_neg (by omega)]
theorem cutS_hit {s t : ByteArray} {i : Nat} (h : Lib.indexB s t = i) (hr : i + t.size ≤ s.size) : cutS s t = (s.extract 0 i, s.extract (i + t.size) s.size, true) := by
  have h' : Lib.index s.data.toList t.data.toList = i := h
  unfold cutS Lib.cut
  rw [h', if_pos (by omega)]
  refine Prod.ext ?_ (Prod.ext ?_ rfl)
  · apply lst_inj
    show (str _).data.toList = _
    rw [lst_ext, lst_mk]; simp
  · apply lst_inj
    show (str _).data.toList = _
    rw [lst_ext, lst_mk, lst_len, take_all s (Nat.le_refl _)]; simp
theorem cutS_size (s t : ByteArray) : (cutS s t).1.size ≤ s.size ∧ (cutS s t).2.1.size ≤ s.size := by
  rcases Lib.indexB_cases s t with h | ⟨i, h, hr⟩
  · rw [cutS_miss h]; exact ⟨Nat.le_refl _, Nat.zero_le _⟩
  · rw [cutS_hit h hr]
    dsimp only
    rw [ByteArray.size_extract, ByteArray.size_extract]; omega
theorem rsplit_any (s t : ByteArray) (w : World) (hs : s.size ≤ 140737488355328) (ht : t.size ≤ 140737488355328) :
    Calls Tryd.prog 45 #[.string s, .string t] w fun e w' => e = .returned (.tuple #[.string (cutS s t).1, .string (cutS s t).2.1, .bool (cutS s t).2.2]) ∧ ∃ q, w' = w.drewN q := by
  rcases Lib.indexB_cases s t with h | ⟨i, h, hr⟩
  · rw [cutS_miss h]; exact split_miss s t w hs ht h
  · rw [cutS_hit h hr]; exact split_hit s t w hs ht i h hr
theorem cut_any (s t : ByteArray) (m : Int) (w : World) (hs : s.size ≤ 1048576) (hm : w.cell? ⟨0, 0, none⟩ = some (.int .i64 m)) :
    Calls Tryd.prog 40 #[.string s, .string t] w fun e w' => e = .returned (.tuple #[.string (cutS s t).1, .string (cutS s t).2.1, .bool (cutS s t).2.2]) ∧ ∃ q, w' = w.drewN q :=
  Tryd.strings_Cut s t m w (by omega) hm
end Go.Proofs.YthfolopnjmkllaaDoor
