/- Walks: wickref.UrlDecode. -/
import Derived.Test.YthfolopnjmkllaaDoorUrlD
import Derived.Test.YthfolopnjmkllaaDoorConv
namespace Go.Proofs.YthfolopnjmkllaaDoor
open Go.RowKit
set_option linter.unusedVariables false
set_option linter.unusedSimpArgs false

theorem pairL_yes {s : ByteArray} {k : Nat} (h : k + 1 < s.size) (h1 : 0 ≤ hexv s[k].toNat) (h2 : 0 ≤ hexv s[k+1].toNat) : pairL (s.data.toList.drop k) = 16 * hexv s[k].toNat + hexv s[k+1].toNat := by
  rw [pairL_at h, if_pos ⟨h1, h2⟩]
theorem pairL_no {s : ByteArray} {k : Nat} (h : k + 1 < s.size) (h1 : hexv s[k].toNat < 0 ∨ hexv s[k+1].toNat < 0) : pairL (s.data.toList.drop k) = -1 := by
  rw [pairL_at h, if_neg (by omega)]

set_option maxHeartbeats 1000000 in
theorem UrlDecode_any (s : ByteArray) (w : World) (hs : s.size ≤ 140737488355320) :
    Calls Tryd.prog 31 #[.string s] w fun e w' => e = .returned (.string (str (decL urlF s.data.toList))) ∧ Below w.heap.size w w' := by
  go_enter Tryd.func31, Tryd.ntmps31
  go_wp2
  go_loopw [3, 4] (fun v i wr => ∃ (k : Nat) (A : List UInt8), k ≤ s.size ∧ A.length ≤ k ∧ i = .int .i64 k ∧ v = .string (str A) ∧ Hid (A ++ decL urlF (s.data.toList.drop k) = decL urlF s.data.toList) ∧ Below w.heap.size w wr) (fun _ i _ => s.size - (intOf i).toNat)
  case atStart => exact ⟨0, [], by omega, by simp, rfl, rfl, rfl, Below.refl _ _⟩
  case round =>
    obtain ⟨k, A, hk, hA, rfl, rfl, HE, hbl⟩ := hrel
    have hsz := hbl.size
    have HB := Lib.hid hbl
    have hAs : (str A).size ≤ k := by rw [size_str]; omega
    clear hbl
    by_cases hlt : k < s.size
    · obtain ⟨c1, c2⟩ := byte_lt s[k]
      have HF := Lib.hid (urlF_at hlt)
      have HS := Lib.hid (fun (b : UInt8) (n : Nat) (h1 : 1 ≤ n) (h : urlF (s.data.toList.drop k) = (b, n)) => decL_step hlt h1 h)
      by_cases h43 : s[k] = 43
      · have HG := Lib.hid (HS.out _ 1 (by omega) (HF.out.trans ((if_neg (fun h => by rw [h43] at h; exact absurd h.1 (by decide))).trans (if_pos h43))))
        have y43 : ((s[k].toNat : Int) == 43) = true := by rw [h43]; rfl
        clear h43
        go_wp2_with fail
        go_roundw
        case rel => exact ⟨k + 1, A ++ [32], by omega, by rw [List.length_append]; simp; omega, by go_num, ret_s (cat_str A [32]), dec_keep HE HG, HB.out⟩
        case measure => simp [intOf]; omega
      · have n43 : ((s[k].toNat : Int) == 43) = false := byte_ne (c := 43) h43
        by_cases h37 : s[k] = 37
        · have y37 : ((s[k].toNat : Int) == 37) = true := by rw [h37]; rfl
          by_cases h2 : k + 2 < s.size
          · obtain ⟨c3, c4⟩ := byte_lt s[k+1]
            obtain ⟨c5, c6⟩ := byte_lt s[k+2]
            have hk1 : k + 1 < s.size := by omega
            have d1 := hexv_le s[k+1].toNat
            have d2 := hexv_ge s[k+1].toNat
            have d3 := hexv_le s[k+2].toNat
            have d4 := hexv_ge s[k+2].toNat
            have i2 : (0 : Int) ≤ (k : Int) + 1 ∧ (k : Int) + 1 < s.size := by omega
            have i3 : (0 : Int) ≤ (k : Int) + 2 ∧ (k : Int) + 2 < s.size := by omega
            by_cases hp : 0 ≤ hexv s[k+1].toNat ∧ 0 ≤ hexv s[k+2].toNat
            · obtain ⟨p1, p2⟩ := hp
              have HG := Lib.hid (HS.out _ 3 (by omega) (HF.out.trans ((if_pos ⟨h37, by rw [pairL_yes (k := k + 1) h2 p1 p2]; show 0 ≤ 16 * hexv s[k+1].toNat + hexv s[k+2].toNat; omega⟩).trans (by rw [pairL_yes (k := k + 1) h2 p1 p2]))))
              clear h37
              go_wp2_with (first | (go_at_call 58; refine (value_any _ (by omega) (by omega) _).mono ?_; rintro e w' ⟨rfl, rfl⟩))
              have hcv := conv_one_drew
              have j1 : IntKind.i64.wrap ((k : Int) + 1) = (k : Int) + 1 := IntWalk.i64_in _ (by omega)
              have j2 : IntKind.i64.wrap ((k : Int) + 2) = (k : Int) + 2 := IntWalk.i64_in _ (by omega)
              have j3 : ((k : Int) + 1).toNat = k + 1 := by omega
              have j4 : ((k : Int) + 2).toNat = k + 2 := by omega
              have j5 : IntKind.i64.wrap (16 * hexv s[k+1].toNat) = 16 * hexv s[k+1].toNat := IntWalk.i64_in _ (by omega)
              have j6 : IntKind.i64.wrap (16 * hexv s[k+1].toNat + hexv s[k+2].toNat) = 16 * hexv s[k+1].toNat + hexv s[k+2].toNat := IntWalk.i64_in _ (by omega)
              have j7 : IntKind.u8.wrap (16 * hexv s[k+1].toNat + hexv s[k+2].toNat) = 16 * hexv s[k+1].toNat + hexv s[k+2].toNat := IntWalk.u8_in _ (by omega)
              have j8 : ¬ 9223372036854775807 < A.length + 1 := by omega
              go_region_law (first | (go_simp; go_at_call 58; refine (value_any _ (by omega) (by omega) _).mono ?_; rintro e w' ⟨rfl, rfl⟩))
              all_goals go_wp2
              all_goals go_roundw
              all_goals first
                | exact ⟨k + 3, A ++ [UInt8.ofNat (16 * hexv s[k+1].toNat + hexv s[k+2].toNat).toNat], by omega, by rw [List.length_append]; simp; omega, by go_num, ret_s (cat_str A _), dec_keep HE HG, (HB.out.alloc hsz _).drew⟩
                | (simp [intOf]; omega)
            · have HG := Lib.hid (HS.out _ 1 (by omega) (HF.out.trans ((if_neg (fun h => by have h2 := h.2; rw [pairL_no (by omega) (by show hexv s[k+1].toNat < 0 ∨ hexv s[k+2].toNat < 0; omega)] at h2; omega)).trans (if_neg (by rw [h37]; decide)))))
              clear h37
              by_cases p1 : 0 ≤ hexv s[k+1].toNat
              · have p2 : hexv s[k+2].toNat < 0 := by omega
                clear hp
                go_wp2_with (first | (go_at_call 58; refine (value_any _ (by omega) (by omega) _).mono ?_; rintro e w' ⟨rfl, rfl⟩))
                go_roundw
                case rel => exact ⟨k + 1, A ++ [s[k]], by omega, by rw [List.length_append]; simp; omega, by go_num, ret_s (cat_ext1 A s k hlt), dec_keep HE HG, HB.out⟩
                case measure => simp [intOf]; omega
              · clear hp
                go_wp2_with (first | (go_at_call 58; refine (value_any _ (by omega) (by omega) _).mono ?_; rintro e w' ⟨rfl, rfl⟩))
                go_roundw
                case rel => exact ⟨k + 1, A ++ [s[k]], by omega, by rw [List.length_append]; simp; omega, by go_num, ret_s (cat_ext1 A s k hlt), dec_keep HE HG, HB.out⟩
                case measure => simp [intOf]; omega
          · have HG := Lib.hid (HS.out _ 1 (by omega) (HF.out.trans ((if_neg (fun h => by have h2 := h.2; rw [pairL_short (by omega)] at h2; omega)).trans (if_neg (by rw [h37]; decide)))))
            have i2 : ¬ ((k : Int) + 2 < s.size) := by omega
            clear h37
            go_wp2_with (first | (go_at_call 58; refine (value_any _ (by omega) (by omega) _).mono ?_; rintro e w' ⟨rfl, rfl⟩))
            go_roundw
            case rel => exact ⟨k + 1, A ++ [s[k]], by omega, by rw [List.length_append]; simp; omega, by go_num, ret_s (cat_ext1 A s k hlt), dec_keep HE HG, HB.out⟩
            case measure => simp [intOf]; omega
        · have HG := Lib.hid (HS.out _ 1 (by omega) (HF.out.trans ((if_neg (fun h => h37 h.1)).trans (if_neg (by intro h; rw [h] at n43; cases n43)))))
          have n37 : ((s[k].toNat : Int) == 37) = false := byte_ne (c := 37) h37
          clear h37
          go_wp2_with (first | (go_at_call 58; refine (value_any _ (by omega) (by omega) _).mono ?_; rintro e w' ⟨rfl, rfl⟩))
          go_roundw
          case rel => exact ⟨k + 1, A ++ [s[k]], by omega, by rw [List.length_append]; simp; omega, by go_num, ret_s (cat_ext1 A s k hlt), dec_keep HE HG, HB.out⟩
          case measure => simp [intOf]; omega
    · go_wp2
      go_ret
      exact ⟨ret_str (by rw [dec_end HE (by omega)]), HB.out⟩
end Go.Proofs.YthfolopnjmkllaaDoor
