/- Walks of octet.digit, wickref.value. -/
import Derived.Test.YthfolopnjmkllaaDoorRows
import Derived.Test.YthfolopnjmkllaaDoorPlain
import Derived.WalkKit
import Derived.WalkSpells
import Derived.WalkLawsBesides
import Derived.Lib.Hide
namespace Go.Proofs.YthfolopnjmkllaaDoor
open Go.RowKit
set_option linter.unusedVariables false
set_option linter.unusedSimpArgs false

set_option maxHeartbeats 400000 in
theorem digit_any (n : Int) (h0 : 0 ≤ n) (h1 : n ≤ 255) (w : World) :
    Calls Tryd.prog 108 #[.int .u8 n] w fun e w' => e = .returned (.int .i64 (hexv n)) ∧ w = w' := by
  go_enter Tryd.func108, Tryd.ntmps108
  go_wp2
  all_goals go_ret
  all_goals refine ⟨ret_int ?_, rfl⟩
  all_goals (unfold hexv; split <;> omega)


set_option maxHeartbeats 400000 in
theorem value_any (n : Int) (h0 : 0 ≤ n) (h1 : n ≤ 255) (w : World) :
    Calls Tryd.prog 58 #[.int .u8 n] w fun e w' => e = .returned (.int .i64 (hexv n)) ∧ w = w' := by
  go_enter Tryd.func58, Tryd.ntmps58
  go_wp2
  go_loop [3] (fun i => ∃ k : Nat, k ≤ 16 ∧ i = .int .i64 k ∧ (hexv n < 0 ∨ (k : Int) ≤ hexv n)) (fun i => 16 - (intOf i).toNat)
  case atStart => exact ⟨0, by omega, rfl, by omega⟩
  case round =>
    obtain ⟨k, hk, rfl, hh⟩ := hrel
    go_wp2
    · go_ret
      have hlt : (k : Int) < 16 := by assumption
      exact ⟨ret_int (hex_lo k (by omega)).symm, rfl⟩
    · go_ret
      have hlt : (k : Int) < 16 := by assumption
      rename_i hor _
      refine ⟨ret_int ?_, rfl⟩
      simp only [beq_iff_eq] at hor
      rcases hor with hor | hor
      · rw [hor]; exact (hex_lo k (by omega)).symm
      · rw [hor]; exact (hex_up k (by omega)).symm
    · have hlt : (k : Int) < 16 := by assumption
      have hne : hexv n ≠ k := by
        refine hex_not n k (by omega) (by assumption) ?_
        rename_i hor
        simp only [beq_eq_false_iff_ne, ne_eq] at hor
        exact hor.2
      go_round
      case rel => exact ⟨k + 1, by omega, by go_num, by omega⟩
      case measure => simp [intOf]; omega
    · go_ret
      have hge : (16 : Int) ≤ k := by assumption
      have := hexv_le n
      have := hexv_ge n
      exact ⟨ret_int (by omega), rfl⟩


set_option maxHeartbeats 400000 in
/-- octet.number -/
theorem number_any (s : ByteArray) (base most : Int) (w : World) (hs : s.size ≤ maxLen) (hb : 2 ≤ base) (hb2 : base ≤ 16) (hm0 : 0 ≤ most) (hm : most ≤ 9) :
    Calls Tryd.prog 112 #[.string s, .int .i64 base, .int .i64 most] w fun e w' => e = .returned (.tuple #[.int .i64 (numN base most s), .int .i64 (numE base most s)]) ∧ w = w' := by
  unfold maxLen at hs
  by_cases h0 : s.size = 0 ∨ most < s.size
  · obtain ⟨e1, e2⟩ := num_bad (base := base) (most := most) (s := s) (.inr (by omega))
    rw [e1, e2]; clear e1 e2
    have hz : ((s.size : Int) == 0) = true ∨ most < s.size := by rcases h0 with h | h; exact .inl (by simp [h]); exact .inr h
    rcases hz with hz | hz
    all_goals
      go_enter Tryd.func112, Tryd.ntmps112
      go_wp2
      all_goals go_ret2
      all_goals exact ⟨rfl, rfl⟩
  · have hz : ((s.size : Int) == 0) = false := beq_eq_false_iff_ne.2 (by omega)
    have hl : ¬ most < (s.size : Int) := by omega
    have hp : 1 ≤ s.size := by omega
    clear h0
    go_enter Tryd.func112, Tryd.ntmps112
    go_wp2
    go_loop [8, 22] (fun n i => ∃ k : Nat, k ≤ s.size ∧ i = .int .i64 k ∧ digs base (s.data.toList.take k) = true ∧ n = .int .i64 (numv base (s.data.toList.take k))) (fun _ i => s.size - (intOf i).toNat)
    case atStart => exact ⟨0, by omega, rfl, rfl, rfl⟩
    case round =>
      obtain ⟨k, hk, rfl, hd, rfl⟩ := hrel
      obtain ⟨b1, b2, b3, b4⟩ := numv_bd8 hb hb2 _ hd (by rw [take_len s k hk]; omega)
      have HD := Lib.hid hd; clear hd
      by_cases hlt : k < s.size
      · obtain ⟨c1, c2⟩ := byte_lt s[k]
        have d1 := hexv_le s[k].toNat
        have d2 := hexv_ge s[k].toNat
        go_wp2_with (go_at_call 108; refine (digit_any _ (by omega) (by omega) _).mono ?_; rintro e w' ⟨rfl, rfl⟩)
        all_goals first
          | (go_ret2; obtain ⟨e1, e2⟩ := num_bad (base := base) (most := most) (s := s) (.inl (digs_hit hlt (by omega))); rw [e1, e2]; exact ⟨rfl, rfl⟩)
          | (go_round; (case rel => exact ⟨k + 1, by omega, by go_num, digs_step hlt HD.out (by omega) (by omega), by rw [numv_step hlt]⟩); (case measure => simp [intOf]; omega))
      · go_wp2
        go_ret2
        have h := HD.out
        rw [take_all s (by omega)] at h
        obtain ⟨e1, e2⟩ := num_good (base := base) (most := most) (s := s) h hp (by omega)
        rw [e1, e2, take_all s (by omega)]; exact ⟨rfl, rfl⟩


set_option maxHeartbeats 400000 in
/-- wickref.Number -/
theorem Number_any (s : ByteArray) (base most : Int) (w : World) (hs : s.size ≤ maxLen) (hb : 2 ≤ base) (hb2 : base ≤ 16) (hm0 : 0 ≤ most) (hm : most ≤ 9) :
    Calls Tryd.prog 65 #[.string s, .int .i64 base, .int .i64 most] w fun e w' => e = .returned (.tuple #[.int .i64 (numN base most s), .int .i64 (numE base most s)]) ∧ w = w' := by
  unfold maxLen at hs
  go_enter Tryd.func65, Tryd.ntmps65
  go_wp2
  go_loop [8, 9] (fun n i => ∃ k : Nat, k ≤ s.size ∧ (k : Int) ≤ most ∧ i = .int .i64 k ∧ digs base (s.data.toList.take k) = true ∧ n = .int .i64 (numv base (s.data.toList.take k))) (fun _ i => s.size - (intOf i).toNat)
  case atStart => exact ⟨0, by omega, by omega, rfl, rfl, rfl⟩
  case round =>
    obtain ⟨k, hk, hkm, rfl, hd, rfl⟩ := hrel
    obtain ⟨b1, b2, b3, b4⟩ := numv_bd8 hb hb2 _ hd (by rw [take_len s k hk]; omega)
    have HD := Lib.hid hd; clear hd
    by_cases hlt : k < s.size ∧ (k : Int) < most
    · obtain ⟨hlt, hlm⟩ := hlt
      obtain ⟨c1, c2⟩ := byte_lt s[k]
      have d1 := hexv_le s[k].toNat
      have d2 := hexv_ge s[k].toNat
      go_wp2_with (go_at_call 58; refine (value_any _ (by omega) (by omega) _).mono ?_; rintro e w' ⟨rfl, rfl⟩)
      all_goals first
        | (go_ret2; obtain ⟨e1, e2⟩ := num_bad (base := base) (most := most) (s := s) (.inl (digs_hit hlt (by omega))); rw [e1, e2]; exact ⟨rfl, rfl⟩)
        | (go_round; (case rel => exact ⟨k + 1, by omega, by omega, by go_num, digs_step hlt HD.out (by omega) (by omega), by rw [numv_step hlt]⟩); (case measure => simp [intOf]; omega))
    · by_cases h0 : s.size < 1 ∨ most < s.size
      · have HE := Lib.hid (num_bad (base := base) (most := most) (s := s) (.inr h0))
        have hz : (s.size : Int) < 1 ∨ most < (s.size : Int) := by omega
        go_wp2
        all_goals (go_ret2; rw [HE.out.1, HE.out.2]; exact ⟨rfl, rfl⟩)
      · have h := HD.out
        rw [take_all s (by omega)] at h
        have HE := Lib.hid (num_good (base := base) (most := most) (s := s) h (by omega) (by omega))
        go_wp2
        go_ret2
        rw [HE.out.1, HE.out.2, take_all s (by omega)]; exact ⟨rfl, rfl⟩

end Go.Proofs.YthfolopnjmkllaaDoor
