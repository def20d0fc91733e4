/- Walks: wickref.UrlEncode. -/
import Derived.Test.YtnpjmaoidkofeaaDoorUrlB
import Derived.Test.YtnpjmaoidkofeaaDoorTwo
namespace Go.Proofs.YtnpjmaoidkofeaaDoor
open Go.RowKit
set_option linter.unusedVariables false
set_option linter.unusedSimpArgs false

theorem hasb_url : ∀ b : UInt8, hasb b.toNat (lst ⟨#[97, 98, 99, 100, 101, 102, 103, 104, 105, 106, 107, 108, 109, 110, 111, 112, 113, 114, 115, 116, 117, 118, 119, 120, 121, 122, 65, 66, 67, 68, 69, 70, 71, 72, 73, 74, 75, 76, 77, 78, 79, 80, 81, 82, 83, 84, 85, 86, 87, 88, 89, 90, 48, 49, 50, 51, 52, 53, 54, 55, 56, 57, 45, 46, 95, 126]⟩) = urlKeep b.toNat := all_bytes (by decide +kernel)

set_option maxHeartbeats 1000000 in
theorem UrlEncode_any (s : ByteArray) (w : World) (hs : s.size ≤ 1048576) :
    Calls Tryd.prog 56 #[.string s] w fun e w' => e = .returned (.string (str (s.data.toList.flatMap urlE))) ∧ Below w.heap.size w w' := by
  go_enter Tryd.func56, Tryd.ntmps56
  go_wp2
  go_loopw [3, 4] (fun v i wr => ∃ k : Nat, k ≤ s.size ∧ i = .int .i64 k ∧ v = .string (str ((s.data.toList.take k).flatMap urlE)) ∧ Below w.heap.size w wr) (fun _ i _ => s.size - (intOf i).toNat)
  case atStart => exact ⟨0, by omega, rfl, rfl, Below.refl _ _⟩
  case round =>
    obtain ⟨k, hk, rfl, rfl, hbl⟩ := hrel
    have hsz := hbl.size
    have HB := Lib.hid hbl
    clear hbl
    by_cases hlt : k < s.size
    · have hlen := flat_le urlE_le (s.data.toList.take k)
      rw [take_len s k hk] at hlen
      obtain ⟨L, hL⟩ : ∃ L, L = (s.data.toList.take k).flatMap urlE := ⟨_, rfl⟩
      rw [← hL] at hlen ⊢
      have HL := Lib.hid hL
      clear hL
      have hLs : (str L).size ≤ 3145728 := by rw [size_str]; omega
      obtain ⟨c1, c2⟩ := byte_lt s[k]
      go_wp2_with fail
      refine (in_any _ _ _ (by decide) c1 c2).mono ?_
      rintro e w' ⟨rfl, rfl⟩
      rw [hasb_url]
      by_cases hkeep : urlKeep s[k].toNat = true
      · rw [hkeep]
        have HA := Lib.hid (show urlE s[k] = [s[k]] by unfold urlE; rw [if_pos hkeep])
        clear hkeep
        go_wp2
        go_roundw
        case rel => exact ⟨k + 1, by omega, by go_num, ret_s (by rw [flat_step hlt, HA.out, ← HL.out, cat_ext1 L s k hlt]), HB.out⟩
        case measure => simp [intOf]; omega
      · by_cases h32 : s[k] = 32
        · have HA := Lib.hid (show urlE s[k] = [43] by unfold urlE; rw [if_neg hkeep, if_pos h32])
          have e32 : ((s[k].toNat : Int) == 32) = true := by rw [h32]; rfl
          rw [Bool.not_eq_true] at hkeep
          rw [hkeep]
          clear hkeep h32
          go_wp2
          go_roundw
          case rel => exact ⟨k + 1, by omega, by go_num, ret_s (by rw [flat_step hlt, HA.out, ← HL.out]; exact cat_str L [43]), HB.out⟩
          case measure => simp [intOf]; omega
        · have HA := Lib.hid (show urlE s[k] = [37, upHex.getD (s[k].toNat / 16) 0, upHex.getD (s[k].toNat % 16) 0] by unfold urlE; rw [if_neg hkeep, if_neg h32])
          have e32 : ((s[k].toNat : Int) == 32) = false := by
            rw [beq_eq_false_iff_ne]; intro h; apply h32; apply UInt8.toNat_inj.1; show _ = 32; omega
          rw [Bool.not_eq_true] at hkeep
          rw [hkeep]
          clear hkeep h32
          go_wp2
          go_quiet (first | (go_at_call 76; exact Calls.quiet_of (two_any _ _ _ (by decide) (by decide) c1 c2)))
          go_wp2
          go_roundw
          case rel => exact ⟨k + 1, by omega, by go_num, ret_s (by rw [flat_step hlt, HA.out, ← HL.out]; apply lst_inj; rw [lst_app, lst_app, lst_app, lst_ext, lst_ext, lst_mk, lst_mk, take_drop_one (by show _ < 16; omega), take_drop_one (by show _ < 16; omega)]; rfl), below_drewN HB.out _⟩
          case measure => simp [intOf]; omega
    · go_wp2
      go_ret
      exact ⟨ret_str (by rw [take_all s (by omega)]), HB.out⟩
end Go.Proofs.YtnpjmaoidkofeaaDoor
