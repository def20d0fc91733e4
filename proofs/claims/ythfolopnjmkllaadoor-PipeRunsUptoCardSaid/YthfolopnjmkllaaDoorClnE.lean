/- Walks: wickref.Split, wickref.Pieces, wickref.Joined; strings.Split, strings.Join in the same words. -/
import Derived.Test.YthfolopnjmkllaaDoorOS
import Derived.Test.YthfolopnjmkllaaDoorTxtB
import Derived.Test.YthfolopnjmkllaaDoorSpl
import Derived.Test.YthfolopnjmkllaaDoorShelf
import Derived.Lib.SplitLaws
import Derived.Lib.Join
namespace Go.Proofs.YthfolopnjmkllaaDoor
open Go.RowKit
set_option linter.unusedVariables false
set_option linter.unusedSimpArgs false

/-- all pieces of s between t -/
def pcs (s t : ByteArray) : List ByteArray := Lib.splitB t 0 (Lib.countB s t) s
theorem pcs_miss {s t : ByteArray} (h : Lib.indexB s t = -1) : pcs s t = [s] := by unfold pcs; exact Lib.splitB_miss _ _ _ _ h
theorem pcs_hit {s t : ByteArray} {i : Nat} (h1 : 1 ≤ t.size) (h : Lib.indexB s t = i) : pcs s t = s.extract 0 i :: pcs (s.extract (i + t.size) s.size) t := by
  unfold pcs
  rw [Lib.countB_hit s t i h1 h, Nat.add_comm 1, Lib.splitB_hit _ _ _ _ _ h]; rfl
theorem pcs_len {s t : ByteArray} (h1 : 1 ≤ t.size) : (pcs s t).length = Lib.countB s t + 1 := Lib.splitB_all t h1 0 _ s rfl
theorem pcs_le {s t : ByteArray} (h1 : 1 ≤ t.size) : (pcs s t).length ≤ s.size + 1 := by rw [pcs_len h1]; have := Lib.countB_le t h1 s.size s (Nat.le_refl _); omega
theorem pcs_pos (s t : ByteArray) (h1 : 1 ≤ t.size) : 0 < (pcs s t).length := by rw [pcs_len h1]; omega
theorem pcs_mem (t : ByteArray) (h1 : 1 ≤ t.size) : ∀ (n : Nat) (s : ByteArray), s.size ≤ n → ∀ x ∈ pcs s t, x.size ≤ s.size
  | n, s, hn, x, hx => by
    rcases Lib.indexB_cases s t with h | ⟨i, h, hr⟩
    · rw [pcs_miss h, List.mem_singleton] at hx; rw [hx]; exact Nat.le_refl _
    · rw [pcs_hit h1 h, List.mem_cons] at hx
      have e2 : (s.extract (i + t.size) s.size).size = s.size - (i + t.size) := by rw [ByteArray.size_extract]; omega
      rcases hx with rfl | hx
      · rw [ByteArray.size_extract]; omega
      · match n with
        | 0 => omega
        | n + 1 => have := pcs_mem t h1 n _ (by omega) x hx; omega

set_option maxHeartbeats 1000000 in
theorem pieces_any (s t : ByteArray) (w : World) (hs : s.size ≤ 1048576) (ht : t.size ≤ 140737488355328) (h1 : 1 ≤ t.size) :
    Calls Tryd.prog 66 #[.string s, .string t] w fun e w' => ∃ v, e = .returned v ∧ OS w' w.heap.size v (pcs s t) ∧ Below w.heap.size w w' := by
  go_enter Tryd.func66, Tryd.ntmps66
  go_wp2_with fail
  go_loopw [0, 5] (fun x v wr => ∃ (S : ByteArray) (D : List ByteArray), x = .string S ∧ D.length + S.size ≤ s.size ∧ Hid (pcs s t = D ++ pcs S t) ∧ OS wr w.heap.size v D ∧ Below w.heap.size w wr) (fun x _ _ => match x with | .string S => S.size | _ => 0)
  case atStart => exact ⟨s, [], rfl, by simp, rfl, OS.nil _ _, Below.refl _ _⟩
  case round =>
    obtain ⟨S, D, rfl, hS, HP, ho, hb⟩ := hrel
    have HO := Lib.hid ho
    have HB := Lib.hid hb
    have hsz : w.heap.size ≤ wr.heap.size := hb.size
    clear ho hb
    rcases Lib.indexB_cases S t with h | ⟨i, h, hr⟩
    · have CS := Lib.hid (split_miss S t wr (by omega) ht h)
      have HR : Hid (pcs s t = D ++ [S]) := by show _ = _; rw [HP.out, pcs_miss h]
      clear h
      go_wp2_with fail
      refine CS.out.mono ?_
      rintro e w1 ⟨rfl, q, rfl⟩
      go_wp2_with (at_builtin; refine wpL_appS rfl (.tmp 16) (.tmp 18) rfl (HO.out.drewN q) rfl S rfl (by omega) hsz ?_; intro v' w2 ho2 hg2 hb2; have HO2 := Lib.hid ho2; have HB2 := Lib.hid hb2; clear ho2 hg2 hb2)
      go_ret
      exact ⟨_, rfl, by rw [HR.out]; exact HO2.out, (below_drewN HB.out q).trans HB2.out⟩
    · have CS := Lib.hid (split_hit S t wr (by omega) ht i h hr)
      have HR : Hid (pcs s t = (D ++ [S.extract 0 i]) ++ pcs (S.extract (i + t.size) S.size) t) := by show _ = _; rw [HP.out, pcs_hit h1 h]; simp
      have e2 : (S.extract (i + t.size) S.size).size = S.size - (i + t.size) := by rw [ByteArray.size_extract]; omega
      obtain ⟨S2, hS2⟩ : ∃ S2, S2 = S.extract (i + t.size) S.size := ⟨_, rfl⟩
      obtain ⟨P, hP⟩ : ∃ P, P = S.extract 0 i := ⟨_, rfl⟩
      rw [← hS2] at HR e2 CS
      rw [← hP] at HR CS
      clear h hS2 hP
      have hS2 : S2.size < S.size := by omega
      have hS3 : D.length + 1 + S2.size ≤ s.size := by omega
      clear e2
      go_wp2_with fail
      refine CS.out.mono ?_
      rintro e w1 ⟨rfl, q, rfl⟩
      go_wp2_with (at_builtin; refine wpL_appS rfl (.tmp 16) (.tmp 18) rfl (HO.out.drewN q) rfl P rfl (by omega) hsz ?_; intro v' w2 ho2 hg2 hb2; have HO2 := Lib.hid ho2; have HB2 := Lib.hid hb2; clear ho2 hg2 hb2)
      go_roundw
      case rel => exact ⟨S2, D ++ [P], rfl, by rw [List.length_append, List.length_singleton]; exact hS3, HR, HO2.out, (below_drewN HB.out q).trans HB2.out⟩
      case measure => exact hS2
end Go.Proofs.YthfolopnjmkllaaDoor
