/- Walks: wickref.At, wickref.Find, octet.Find, Trim, Token. -/
import Derived.Test.YthfolopnjmkllaaDoorTxtA
import Derived.Lib.Index
import Derived.Lib.IndexLaws
namespace Go.Proofs.YthfolopnjmkllaaDoor
open Go.RowKit
set_option linter.unusedVariables false
set_option linter.unusedSimpArgs false

/-- does t stand at place i of l? -/
def atB (l : List UInt8) (i : Int) (t : List UInt8) : Bool := decide (0 ≤ i) && decide (i ≤ l.length) && Lib.occAt l t i.toNat
theorem occ_iff (s t : ByteArray) (k : Nat) : Lib.occAt s.data.toList t.data.toList k = true ↔ (s.extract k (k + t.size)).data.toList = t.data.toList := by
  unfold Lib.occAt
  rw [List.isPrefixOf_iff_prefix, lst_ext, List.prefix_iff_eq_take, List.drop_take, show k + t.size - k = t.size from by omega, lst_len]
  exact eq_comm
theorem occ_long {s t : ByteArray} {k : Nat} (h : s.size < k + t.size) (hk : k ≤ s.size) : Lib.occAt s.data.toList t.data.toList k = false := by
  rw [Bool.eq_false_iff]; intro ho
  unfold Lib.occAt at ho
  have := (List.isPrefixOf_iff_prefix.1 ho).length_le
  rw [lst_len, List.length_drop, lst_len] at this
  omega

set_option maxHeartbeats 400000 in
theorem at_any (s t : ByteArray) (i : Int) (w : World) (hs : s.size ≤ 140737488355328) (ht : t.size ≤ 140737488355328) (h0 : -9223372036854775808 ≤ i) (h1 : i ≤ 9223372036854775807) :
    Calls Tryd.prog 64 #[.string s, .int .i64 i, .string t] w fun e w' => e = .returned (.bool (atB s.data.toList i t.data.toList)) ∧ w = w' := by
  by_cases c0 : 0 ≤ i
  · by_cases c1 : i ≤ s.size
    · obtain ⟨k, rfl⟩ := Int.eq_ofNat_of_zero_le c0
      have hat : atB s.data.toList (k : Int) t.data.toList = Lib.occAt s.data.toList t.data.toList k := by
        unfold atB; rw [lst_len]; simp [c1]
      rw [hat]
      clear hat
      by_cases c2 : (t.size : Int) ≤ (s.size : Int) - k
      · go_enter Tryd.func64, Tryd.ntmps64
        go_wp2
        go_ret
        exact ⟨ret_bool (by rw [Bool.eq_iff_iff, occ_iff, beq_iff_eq, Lib.toList_data, Lib.toList_data]), rfl⟩
      · rw [occ_long (by omega) (by omega)]
        go_enter Tryd.func64, Tryd.ntmps64
        go_wp2
        go_ret
        exact ⟨rfl, rfl⟩
    · have hat : atB s.data.toList i t.data.toList = false := by unfold atB; rw [lst_len]; simp [c1]
      rw [hat]; clear hat
      go_enter Tryd.func64, Tryd.ntmps64
      go_wp2
      go_ret
      exact ⟨rfl, rfl⟩
  · have hat : atB s.data.toList i t.data.toList = false := by unfold atB; simp [c0]
    rw [hat]; clear hat
    go_enter Tryd.func64, Tryd.ntmps64
    go_wp2
    go_ret
    exact ⟨rfl, rfl⟩

/-- the first place from f on at which t stands; -1: none -/
def fndL (l t : List UInt8) (f : Nat) : Int := if l.length < f then -1 else if 0 ≤ Lib.index (l.drop f) t then f + Lib.index (l.drop f) t else -1
theorem occ_drop (l t : List UInt8) (f j : Nat) : Lib.occAt (l.drop f) t j = Lib.occAt l t (f + j) := by unfold Lib.occAt; rw [List.drop_drop]
theorem fnd_hit {l t : List UInt8} {f i : Nat} (hf : f ≤ i) (hi : i ≤ l.length) (h : Lib.occAt l t i = true) (hn : ∀ j, f ≤ j → j < i → Lib.occAt l t j = false) : fndL l t f = i := by
  have h1 : Lib.index (l.drop f) t = ((i - f : Nat) : Int) := by
    refine Lib.index_first (by rw [List.length_drop]; omega) ?_ ?_
    · rw [occ_drop, show f + (i - f) = i from by omega]; exact h
    · intro j hj; rw [occ_drop]; exact hn _ (by omega) (by omega)
  unfold fndL
  rw [if_neg (by omega), h1, if_pos (by omega)]; omega
theorem fnd_none {l t : List UInt8} {f : Nat} (hn : ∀ j, f ≤ j → j ≤ l.length → Lib.occAt l t j = false) : fndL l t f = -1 := by
  unfold fndL
  split
  · rfl
  · have h1 : Lib.index (l.drop f) t = -1 := by
      refine Lib.index_none ?_
      intro j hj; rw [List.length_drop] at hj; rw [occ_drop]; exact hn _ (by omega) (by omega)
    rw [h1]; rfl
theorem fndL_ge (l t : List UInt8) (f : Nat) : -1 ≤ fndL l t f ∧ fndL l t f ≤ l.length ∧ (0 ≤ fndL l t f → f ≤ fndL l t f) := by
  by_cases h : ∃ i, f ≤ i ∧ i ≤ l.length ∧ Lib.occAt l t i = true
  · classical
    obtain ⟨i, h1, h2, h3⟩ := h
    have : ∀ n, (∀ j, f ≤ j → j < n → Lib.occAt l t j = false) ∨ ∃ m, f ≤ m ∧ m < n ∧ Lib.occAt l t m = true ∧ ∀ j, f ≤ j → j < m → Lib.occAt l t j = false := by
      intro n
      induction n with
      | zero => exact .inl fun j _ hj => absurd hj (by omega)
      | succ n ih =>
        rcases ih with ih | ⟨m, a, b, c, d⟩
        · by_cases hn : f ≤ n ∧ Lib.occAt l t n = true
          · exact .inr ⟨n, hn.1, by omega, hn.2, ih⟩
          · refine .inl fun j hj hj2 => ?_
            by_cases e : j = n
            · subst e; rw [Bool.eq_false_iff]; exact fun h => hn ⟨hj, h⟩
            · exact ih j hj (by omega)
        · exact .inr ⟨m, a, by omega, c, d⟩
    rcases this (i + 1) with h | ⟨m, a, b, c, d⟩
    · exact absurd (h i h1 (by omega)) (by rw [h3]; decide)
    · rw [fnd_hit a (by omega) c d]; omega
  · rw [fnd_none (fun j h1 h2 => by rw [Bool.eq_false_iff]; exact fun h3 => h ⟨j, h1, h2, h3⟩)]; omega

set_option maxHeartbeats 400000 in
/-- wickref.Find -/
theorem Find_any (s t : ByteArray) (i : Int) (w : World) (hs : s.size ≤ 140737488355328) (ht : t.size ≤ 140737488355328) (h0 : -9223372036854775808 ≤ i) (h1 : i ≤ 9223372036854775807) :
    Calls Tryd.prog 61 #[.string s, .string t, .int .i64 i] w fun e w' => e = .returned (.int .i64 (fndL s.data.toList t.data.toList i.toNat)) ∧ w = w' := by
  have key : ∀ (f : Nat) (x : Int), (x = f ∧ x ≤ 9223372036854775807) ∨ (x < 0 ∧ f = 0 ∧ -9223372036854775808 ≤ x) → Calls Tryd.prog 61 #[.string s, .string t, .int .i64 x] w fun e w' => e = .returned (.int .i64 (fndL s.data.toList t.data.toList f)) ∧ w = w' := by
    intro f x hx
    have HX := Lib.hid hx
    have hx0 : x ≤ 9223372036854775807 := by omega
    have hx1 : -9223372036854775808 ≤ x := by omega
    by_cases hneg : x < 0
    all_goals
      have hf : (f : Int) ≤ 9223372036854775807 := by omega
      clear hx
      go_enter Tryd.func61, Tryd.ntmps61
      go_wp2_with fail
      go_loop [7] (fun j => ∃ k : Nat, f ≤ k ∧ (k ≤ s.size + 1 ∨ k = f) ∧ j = .int .i64 k ∧ Hid (∀ j, f ≤ j → j < k → Lib.occAt s.data.toList t.data.toList j = false)) (fun j => s.size + 1 - (intOf j).toNat)
      case atStart =>
        refine ⟨f, by omega, .inr rfl, ?_, fun j h1 h2 => absurd h2 (by omega)⟩
        have := HX.out
        first | (congr 1; omega) | (rw [show f = 0 by omega]; rfl)
      case round =>
        obtain ⟨k, hk, hk2, rfl, HN⟩ := hrel
        by_cases hle : k ≤ s.size
        · have hat : atB s.data.toList (k : Int) t.data.toList = Lib.occAt s.data.toList t.data.toList k := by
            unfold atB; rw [lst_len]; simp [show (k : Int) ≤ s.size by omega]
          have HA := Lib.hid hat
          clear hat
          cases ho : Lib.occAt s.data.toList t.data.toList k with
          | true =>
            have HF := Lib.hid (fnd_hit hk (by rw [lst_len]; exact hle) ho HN.out)
            have HO := Lib.hid ho
            clear ho
            go_wp2_with (go_at_call 64; refine (at_any s t (k : Int) _ hs ht (by omega) (by omega)).mono ?_; rintro e w' ⟨rfl, rfl⟩; rw [HA.out, HO.out])
            go_ret
            exact ⟨ret_int HF.out.symm, rfl⟩
          | false =>
            have HO := Lib.hid ho
            clear ho
            go_wp2_with (go_at_call 64; refine (at_any s t (k : Int) _ hs ht (by omega) (by omega)).mono ?_; rintro e w' ⟨rfl, rfl⟩; rw [HA.out, HO.out])
            go_round
            case rel =>
              refine ⟨k + 1, by omega, .inl (by omega), by go_num, fun j h1 h2 => ?_⟩
              by_cases e : j = k
              · subst e; exact HO.out
              · exact HN.out j h1 (by omega)
            case measure => simp [intOf]; omega
        · have HF := Lib.hid (fnd_none (l := s.data.toList) (t := t.data.toList) (f := f) (fun j h1 h2 => HN.out j h1 (by rw [lst_len] at h2; omega)))
          go_wp2
          go_ret
          exact ⟨ret_int HF.out.symm, rfl⟩
  by_cases hn : i < 0
  · exact key _ i (.inr ⟨hn, by omega, h0⟩)
  · exact key _ i (.inl ⟨by omega, h1⟩)
end Go.Proofs.YthfolopnjmkllaaDoor
