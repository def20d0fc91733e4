/- Walks: HexEncode of both sides. -/
import Derived.Test.YtahcgajipnkojaaQuote
namespace Go.Proofs.Ytahcgajipnkojaa
open Go.RowKit
set_option linter.unusedVariables false
set_option linter.unusedSimpArgs false

def hexE (b : UInt8) : List UInt8 := [loHex.getD (b.toNat / 16) 0, loHex.getD (b.toNat % 16) 0]
theorem hexE_le (b : UInt8) : (hexE b).length ≤ 2 := by simp [hexE]

set_option maxHeartbeats 1000000 in
theorem HexEncode_any (s : ByteArray) (w : World) (hs : s.size ≤ 1048576) :
    Calls Try.prog 29 #[.string s] w fun e w' => e = .returned (.string (str (s.data.toList.flatMap hexE))) ∧ Below w.heap.size w w' := by
  go_enter Try.func29, Try.ntmps29
  go_wp2
  go_loopw [3, 4] (fun v i wr => ∃ k : Nat, k ≤ s.size ∧ i = .int .i64 k ∧ v = .string (str ((s.data.toList.take k).flatMap hexE)) ∧ Below w.heap.size w wr) (fun _ i _ => s.size - (intOf i).toNat)
  case atStart => exact ⟨0, by omega, rfl, rfl, Below.refl _ _⟩
  case round =>
    obtain ⟨k, hk, rfl, rfl, hbl⟩ := hrel
    have HB := Lib.hid hbl
    clear hbl
    by_cases hlt : k < s.size
    · have hlen := flat_le hexE_le (s.data.toList.take k)
      rw [take_len s k hk] at hlen
      obtain ⟨L, hL⟩ : ∃ L, L = (s.data.toList.take k).flatMap hexE := ⟨_, rfl⟩
      rw [← hL] at hlen ⊢
      have HL := Lib.hid hL
      clear hL
      have hLs : (str L).size ≤ 3145728 := by rw [size_str]; omega
      obtain ⟨c1, c2⟩ := byte_lt s[k]
      go_wp2_with fail
      refine (two_lo s[k] _).mono ?_
      rintro e w' ⟨rfl, q, rfl⟩
      go_wp2_with fail
      go_roundw
      case rel => exact ⟨k + 1, by omega, by go_num, ret_s (by rw [flat_step hlt, ← HL.out]; exact cat_str L (hexE s[k])), below_drewN HB.out q⟩
      case measure => simp [intOf]; omega
    · have HT := Lib.hid (take_all s (show s.size ≤ k by omega))
      rw [HT.out]
      go_wp2
      go_ret
      exact ⟨rfl, HB.out⟩

set_option maxHeartbeats 2000000 in
theorem hexEncode_any (s : ByteArray) (w : World) (hs : s.size ≤ 1048576) :
    Calls Try.prog 28 #[.string s] w fun e w' => e = .returned (.string (str (s.data.toList.flatMap hexE))) ∧ Below w.heap.size w w' := by
  go_enter Try.func28, Try.ntmps28
  go_wp2
  go_loopw [3, 7] (fun v i wr => ∃ k : Nat, k ≤ s.size ∧ i = .int .i64 k ∧ OB wr w.heap.size v ((s.data.toList.take k).flatMap hexE) ∧ Below w.heap.size w wr) (fun _ i _ => s.size - (intOf i).toNat)
  case atStart => exact ⟨0, by omega, rfl, OB.nil _ _, Below.refl _ _⟩
  case round =>
    obtain ⟨k, hk, rfl, hown, hbl⟩ := hrel
    have HO := Lib.hid hown
    have hsz := hbl.size
    have HB := Lib.hid hbl
    clear hown hbl
    by_cases hlt : k < s.size
    · have hlen := flat_le hexE_le (s.data.toList.take k)
      rw [take_len s k hk] at hlen
      obtain ⟨c1, c2⟩ := byte_lt s[k]
      go_wp2_with fail
      have hq : 0 ≤ (s[k].toNat : Int) / 16 ∧ (s[k].toNat : Int) / 16 < 16 := by omega
      have hr0 : 0 ≤ bits .and .u8 (s[k].toNat : Int) 15 ∧ bits .and .u8 (s[k].toNat : Int) 15 < 16 := by rw [and15]; omega
      have hr : 0 ≤ (s[k].toNat : Int) % 16 ∧ (s[k].toNat : Int) % 16 < 16 := by omega
      have HO2 : Hid (OB wr.drew w.heap.size u3 ((s.data.toList.take k).flatMap hexE)) := HO.out
      go_region_law (first | (refine step_app (w := wr.drew) rfl (.tmp 10) (.tmp 21) rfl HO2.out rfl _ (hexE s[k]) (by simp only [hexE, List.map_cons, List.map_nil, bv]; rw [lo_at' _ _ (s[k].toNat / 16) (by omega), lo_at' _ _ (s[k].toNat % 16) (by rw [and15]; omega)]) rfl (by have := hexE_le s[k]; omega) hsz ?_; intro v' w1 ho1 hb1))
      all_goals go_wp2
      all_goals go_roundw
      all_goals first
        | exact ⟨k + 1, by omega, by go_num, by rw [flat_step hlt]; exact ho1, HB.out.drew.trans hb1⟩
        | (simp [intOf]; omega)
    · have HS := Lib.hid (ob_str HO.out)
      have h := HS.out
      rw [take_all s (by omega)] at h
      go_wp2
      go_ret
      exact ⟨rfl, HB.out⟩
end Go.Proofs.Ytahcgajipnkojaa
