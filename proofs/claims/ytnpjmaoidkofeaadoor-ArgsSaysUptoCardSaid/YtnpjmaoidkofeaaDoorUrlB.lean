/- Walks: coding.UrlEncode. -/
import Derived.Test.YtnpjmaoidkofeaaDoorUrlA
import Derived.Deep.RegionLaw
namespace Go.Proofs.YtnpjmaoidkofeaaDoor
open Go.RowKit
set_option linter.unusedVariables false
set_option linter.unusedSimpArgs false

theorem flat_step {f : UInt8 → List UInt8} {s : ByteArray} {k : Nat} (h : k < s.size) : (s.data.toList.take (k + 1)).flatMap f = (s.data.toList.take k).flatMap f ++ f s[k] := by
  rw [take_snoc s k h, List.flatMap_append]; simp
theorem flat_le {f : UInt8 → List UInt8} {m : Nat} (hf : ∀ b, (f b).length ≤ m) (l : List UInt8) : (l.flatMap f).length ≤ m * l.length := by
  induction l with
  | nil => simp
  | cons b l ih => have := hf b; rw [List.flatMap_cons, List.length_append, List.length_cons, Nat.mul_add]; omega
theorem urlE_le (b : UInt8) : (urlE b).length ≤ 3 := by unfold urlE; split <;> (try split) <;> simp

theorem upB_size : (ByteArray.mk #[48, 49, 50, 51, 52, 53, 54, 55, 56, 57, 65, 66, 67, 68, 69, 70]).size = 16 := rfl
theorem and15 : ∀ b : UInt8, bits .and .u8 (b.toNat : Int) 15 = ((b.toNat % 16 : Nat) : Int) := all_bytes (by decide +kernel)
theorem upB_get : ∀ k : Fin 16, ((ByteArray.mk #[48, 49, 50, 51, 52, 53, 54, 55, 56, 57, 65, 66, 67, 68, 69, 70])[k.val]'(by rw [upB_size]; exact k.isLt)) = upHex.getD k.val 0 := by decide +kernel
theorem up_at' (i : Nat) (h : i < (ByteArray.mk #[48, 49, 50, 51, 52, 53, 54, 55, 56, 57, 65, 66, 67, 68, 69, 70]).size) (j : Nat) (e : i = j) : ((ByteArray.mk #[48, 49, 50, 51, 52, 53, 54, 55, 56, 57, 65, 66, 67, 68, 69, 70])[i]'h) = upHex.getD j 0 := by
  subst e; exact upB_get ⟨i, h⟩

set_option maxHeartbeats 1000000 in
theorem urlEncode_any (s : ByteArray) (w : World) (hs : s.size ≤ 1048576) :
    Calls Tryd.prog 54 #[.string s] w fun e w' => e = .returned (.string (str (s.data.toList.flatMap urlE))) ∧ Below w.heap.size w w' := by
  go_enter Tryd.func54, Tryd.ntmps54
  go_wp2
  go_loopw [3, 8] (fun v i wr => ∃ k : Nat, k ≤ s.size ∧ i = .int .i64 k ∧ OB wr w.heap.size v ((s.data.toList.take k).flatMap urlE) ∧ Below w.heap.size w wr) (fun _ i _ => s.size - (intOf i).toNat)
  case atStart => exact ⟨0, by omega, rfl, OB.nil _ _, Below.refl _ _⟩
  case round =>
    obtain ⟨k, hk, rfl, hown, hbl⟩ := hrel
    have HO := Lib.hid hown
    have hsz := hbl.size
    have HB := Lib.hid hbl
    clear hown hbl
    by_cases hlt : k < s.size
    · have hlen := flat_le urlE_le (s.data.toList.take k)
      rw [take_len s k hk] at hlen
      obtain ⟨c1, c2⟩ := byte_lt s[k]
      by_cases hkeep : urlKeep s[k].toNat = true
      · have hap : urlE s[k] = [s[k]] := by unfold urlE; rw [if_pos hkeep]
        have HA := Lib.hid hap
        have HC := Lib.hid (url_cases s[k])
        have HK := Lib.hid hkeep
        clear hap hkeep
        rcases HC.out with h | h | h | h | h | h | h | h
        all_goals first | (exfalso; have := h.1; rw [HK.out] at this; cases this; done) | replace h := h.2
        all_goals
          go_wp2_with (first
            | (go_at_call 59; refine (indexByte_any _ [45, 46, 95, 126] rfl _ _).mono ?_; rintro e w' ⟨rfl, rfl⟩)
            | (at_builtin; refine wpL_app (w := wr) rfl (.tmp 45) (.tmp 47) rfl HO.out rfl [.int .u8 s[k].toNat] [s[k]] rfl rfl (by simp only [List.length_cons, List.length_nil]; omega) hsz ?_; intro v' w1 ho1 hb1))
          go_roundw
          case rel => exact ⟨k + 1, by omega, by go_num, by rw [flat_step hlt, HA.out]; exact ho1, HB.out.trans hb1⟩
          case measure => simp [intOf]; omega
      · have HC := Lib.hid (url_cases s[k])
        have HK := Lib.hid hkeep
        by_cases h32 : s[k] = 32
        · have hap : urlE s[k] = [43] := by unfold urlE; rw [if_neg hkeep, if_pos h32]
          have HA := Lib.hid hap
          have e32 : ((s[k].toNat : Int) == 32) = true := by rw [h32]; rfl
          clear hap hkeep h32
          rcases HC.out with h | h | h | h | h | h | h | h
          all_goals first | (exfalso; exact HK.out h.1) | replace h := h.2
          all_goals
            go_wp2_with (first
              | (go_at_call 59; refine (indexByte_any _ [45, 46, 95, 126] rfl _ _).mono ?_; rintro e w' ⟨rfl, rfl⟩)
              | (at_builtin; refine wpL_app (w := wr) rfl (.tmp 52) (.tmp 53) rfl HO.out rfl [.int .u8 43] [43] rfl rfl (by simp only [List.length_cons, List.length_nil]; omega) hsz ?_; intro v' w1 ho1 hb1))
            go_roundw
            case rel => exact ⟨k + 1, by omega, by go_num, by rw [flat_step hlt, HA.out]; exact ho1, HB.out.trans hb1⟩
            case measure => simp [intOf]; omega
        · have hap : urlE s[k] = [37, upHex.getD (s[k].toNat / 16) 0, upHex.getD (s[k].toNat % 16) 0] := by unfold urlE; rw [if_neg hkeep, if_neg h32]
          have HA := Lib.hid hap
          have e32 : ((s[k].toNat : Int) == 32) = false := by
            rw [beq_eq_false_iff_ne]; intro h; apply h32; apply UInt8.toNat_inj.1; show _ = 32; omega
          clear hap hkeep h32
          rcases HC.out with h | h | h | h | h | h | h | h
          all_goals first | (exfalso; exact HK.out h.1) | replace h := h.2
          all_goals
            go_wp2_with (first
              | (go_at_call 59; refine (indexByte_any _ [45, 46, 95, 126] rfl _ _).mono ?_; rintro e w' ⟨rfl, rfl⟩))
            have hq : 0 ≤ (s[k].toNat : Int) / 16 ∧ (s[k].toNat : Int) / 16 < 16 := by omega
            have hr0 : 0 ≤ bits .and .u8 (s[k].toNat : Int) 15 ∧ bits .and .u8 (s[k].toNat : Int) 15 < 16 := by rw [and15]; omega
            have hr : 0 ≤ (s[k].toNat : Int) % 16 ∧ (s[k].toNat : Int) % 16 < 16 := by omega
            have HO2 : Hid (OB wr.drew w.heap.size u3 ((s.data.toList.take k).flatMap urlE)) := HO.out
            go_region_law (first | (refine step_app (w := wr.drew) rfl (.tmp 14) (.tmp 21) rfl HO2.out rfl _ [37, upHex.getD (s[k].toNat / 16) 0, upHex.getD (s[k].toNat % 16) 0] (by simp only [List.map_cons, List.map_nil, bv]; rw [up_at' _ _ (s[k].toNat / 16) (by omega), up_at' _ _ (s[k].toNat % 16) (by rw [and15]; omega)]; rfl) rfl (by simp only [List.length_cons, List.length_nil]; omega) hsz ?_; intro v' w1 ho1 hb1))
            go_wp2
          all_goals go_roundw
          all_goals first
            | exact ⟨k + 1, by omega, by go_num, by rw [flat_step hlt, HA.out]; exact ho1, HB.out.drew.trans hb1⟩
            | (simp [intOf]; omega)
    · have HS := Lib.hid (ob_str HO.out)
      have h := HS.out
      rw [take_all s (by omega)] at h
      go_wp2
      go_ret
      exact ⟨rfl, HB.out⟩
end Go.Proofs.YtnpjmaoidkofeaaDoor
