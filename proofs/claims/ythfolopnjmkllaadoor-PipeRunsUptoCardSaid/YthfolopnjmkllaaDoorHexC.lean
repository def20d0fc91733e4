/- Walks: wickref.HexDecode. -/
import Derived.Test.YthfolopnjmkllaaDoorHexB
import Derived.Test.YthfolopnjmkllaaDoorUrlE
namespace Go.Proofs.YthfolopnjmkllaaDoor
open Go.RowKit
set_option linter.unusedVariables false
set_option linter.unusedSimpArgs false

theorem pairL_fst {s : ByteArray} {k : Nat} (h : k < s.size) (h1 : hexv s[k].toNat < 0) : pairL (s.data.toList.drop k) < 0 := by
  by_cases h2 : k + 1 < s.size
  · rw [pairL_no h2 (.inl h1)]; decide
  · rw [pairL_short (by omega)]; decide

set_option maxHeartbeats 2000000 in
theorem HexDecode_any (s : ByteArray) (w : World) (hs : s.size ≤ 140737488355320) :
    Calls Tryd.prog 32 #[.string s] w fun e w' => e = .returned (.tuple #[.string (str (hexDS s.data.toList)), .int .i64 (hexDE s.data.toList)]) ∧ Below w.heap.size w w' := by
  go_enter Tryd.func32, Tryd.ntmps32
  go_wp2
  go_loopw [4, 5] (fun v i wr => ∃ (j k : Nat) (A : List UInt8), k ≤ s.size ∧ A.length ≤ j ∧ i = .int .i64 k ∧ v = .string (str A) ∧ Hid (k % 2 = 0 ∧ k = j ∨ k % 2 = 1 ∧ k = j + 1 ∧ ∃ h : j < s.size, 0 ≤ hexv s[j].toNat) ∧ Hid (hexD s.data.toList = (hexD (s.data.toList.drop j)).map (A ++ ·)) ∧ Below w.heap.size w wr) (fun _ i _ => s.size - (intOf i).toNat)
  case atStart => exact ⟨0, 0, [], by omega, by simp, rfl, rfl, .inl ⟨rfl, rfl⟩, by show hexD s.data.toList = _; simp, Below.refl _ _⟩
  case round =>
    obtain ⟨j, k, A, hk, hA, rfl, rfl, HK, HE, hbl⟩ := hrel
    have hsz := hbl.size
    have HB := Lib.hid hbl
    clear hbl
    by_cases hlt : k < s.size
    · obtain ⟨c1, c2⟩ := byte_lt s[k]
      have d1 := hexv_le s[k].toNat
      have d2 := hexv_ge s[k].toNat
      by_cases hv : hexv s[k].toNat < 0
      · have HD : Hid (hexDS s.data.toList = [] ∧ hexDE s.data.toList = 4) := by
          rcases HK.out with ⟨h1, rfl⟩ | ⟨h1, rfl, h2, h3⟩
          · exact hexD_fail HE hlt rfl (pairL_fst hlt hv)
          · exact hexD_fail HE h2 rfl (by rw [pairL_no hlt (.inr hv)]; decide)
        go_wp2_with (go_at_call 58; refine (value_any _ (by omega) (by omega) _).mono ?_; rintro e w' ⟨rfl, rfl⟩)
        go_ret2
        exact ⟨by rw [HD.out.1, HD.out.2]; rfl, HB.out⟩
      · rcases HK.out with ⟨h1, rfl⟩ | ⟨h1, rfl, h2, h3⟩
        · have t0 : ((k : Int) % 2 == 1) = false := by rw [beq_eq_false_iff_ne]; omega
          have HV := Lib.hid (show 0 ≤ hexv s[k].toNat by omega)
          go_wp2_with (go_at_call 58; refine (value_any _ (by omega) (by omega) _).mono ?_; rintro e w' ⟨rfl, rfl⟩)
          go_roundw
          case rel => exact ⟨k, k + 1, A, by omega, by omega, by go_num, rfl, .inr ⟨by omega, rfl, hlt, HV.out⟩, HE, HB.out⟩
          case measure => simp [intOf]; omega
        · have t0 : (((j + 1 : Nat) : Int) % 2 == 1) = true := by rw [beq_iff_eq]; omega
          obtain ⟨e1, e2⟩ := byte_lt s[j]
          have f1 := hexv_le s[j].toNat
          have hp : pairL (s.data.toList.drop j) = 16 * hexv s[j].toNat + hexv s[j+1].toNat := pairL_yes hlt h3 (by omega)
          have HG := hexD_keep HE hp (by omega)
          clear hp
          go_wp2_with (go_at_call 58; refine (value_any _ (by omega) (by omega) _).mono ?_; rintro e w' ⟨rfl, rfl⟩)
          have hcv := conv_one_drew
          have hj : j < s.size := h2
          have i0 : (0 : Int) ≤ j ∧ (j : Int) < s.size := by omega
          have j1 : IntKind.i64.wrap ((j : Int) + 1 - 1) = (j : Int) := by rw [IntWalk.i64_in _ (by omega)]; omega
          have j2 : IntKind.i64.wrap (j : Int) = (j : Int) := IntWalk.i64_in _ (by omega)
          have j3 : ((j : Int) + 1).toNat = j + 1 := by omega
          have j5 : IntKind.i64.wrap (16 * hexv s[j].toNat) = 16 * hexv s[j].toNat := IntWalk.i64_in _ (by omega)
          have j6 : IntKind.i64.wrap (16 * hexv s[j].toNat + hexv s[j+1].toNat) = 16 * hexv s[j].toNat + hexv s[j+1].toNat := IntWalk.i64_in _ (by omega)
          have j7 : IntKind.u8.wrap (16 * hexv s[j].toNat + hexv s[j+1].toNat) = 16 * hexv s[j].toNat + hexv s[j+1].toNat := IntWalk.u8_in _ (by omega)
          have j8 : ¬ 9223372036854775807 < A.length + 1 := by omega
          go_region_law (first | (go_simp; go_at_call 58; refine (value_any _ (by omega) (by omega) _).mono ?_; rintro e w' ⟨rfl, rfl⟩))
          all_goals go_wp2
          all_goals go_roundw
          all_goals first
            | exact ⟨j + 2, j + 2, A ++ [UInt8.ofNat (16 * hexv s[j].toNat + hexv s[j+1].toNat).toNat], by omega, by rw [List.length_append]; simp; omega, by go_num, ret_s (cat_str A _), .inl ⟨by omega, rfl⟩, HG, (HB.out.alloc hsz _).drew⟩
            | (simp [intOf]; omega)
    · have HD : Hid ((s.size % 2 = 0 → hexDS s.data.toList = A ∧ hexDE s.data.toList = 0) ∧ (s.size % 2 = 1 → hexDS s.data.toList = [] ∧ hexDE s.data.toList = 4)) := by
        refine ⟨fun h => ?_, fun h => ?_⟩
        · rcases HK.out with ⟨h1, rfl⟩ | ⟨h1, rfl, h2, h3⟩
          · exact hexD_fin HE (by omega)
          · omega
        · rcases HK.out with ⟨h1, rfl⟩ | ⟨h1, rfl, h2, h3⟩
          · omega
          · exact hexD_fail HE h2 rfl (by rw [pairL_short (by omega)]; decide)
      by_cases hz : s.size % 2 = 0
      · have q0 : ((s.size : Int) % 2 == 1) = false := by rw [beq_eq_false_iff_ne]; omega
        have HR := Lib.hid (HD.out.1 hz)
        go_wp2
        go_ret2
        exact ⟨by rw [HR.out.1, HR.out.2]; rfl, HB.out⟩
      · have q0 : ((s.size : Int) % 2 == 1) = true := by rw [beq_iff_eq]; omega
        have HR := Lib.hid (HD.out.2 (by omega))
        go_wp2
        go_ret2
        exact ⟨by rw [HR.out.1, HR.out.2]; rfl, HB.out⟩
end Go.Proofs.YthfolopnjmkllaaDoor
