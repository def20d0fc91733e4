/- Walks: coding.pair, coding.UrlDecode, wickref.UrlDecode. -/
import Derived.Test.YthfolopnjmkllaaDoorUrlA
import Derived.Deep.RegionLaw
import Derived.Test.YthfolopnjmkllaaDoorDec
import Derived.Test.YthfolopnjmkllaaDoorNum
import Derived.Test.YthfolopnjmkllaaDoorMB
namespace Go.Proofs.YthfolopnjmkllaaDoor
open Go.RowKit
set_option linter.unusedVariables false
set_option linter.unusedSimpArgs false

theorem Digit_any (n : Int) (h0 : 0 ≤ n) (h1 : n ≤ 255) (w : World) :
    Calls Tryd.prog 90 #[.int .u8 n] w fun e w' => e = .returned (.int .i64 (hexv n)) ∧ w = w' := by
  go_enter Tryd.func90, Tryd.ntmps90
  go_wp2_with (go_at_call 108; refine (digit_any _ (by omega) (by omega) _).mono ?_; rintro e w' ⟨rfl, rfl⟩)
  go_ret
  exact ⟨rfl, rfl⟩

theorem or_hex : ∀ a b : Fin 16, bits .or .i64 (16 * (a.val : Int)) (b.val : Int) = 16 * (a.val : Int) + b.val := by decide +kernel
theorem or_hex' (a b : Int) (h1 : 0 ≤ a) (h2 : a ≤ 15) (h3 : 0 ≤ b) (h4 : b ≤ 15) : bits .or .i64 (16 * a) b = 16 * a + b := by
  have h := or_hex ⟨a.toNat, by omega⟩ ⟨b.toNat, by omega⟩
  simp only [Int.toNat_of_nonneg h1, Int.toNat_of_nonneg h3] at h
  exact h

set_option maxHeartbeats 400000 in
theorem pair_any (s : ByteArray) (k : Nat) (w : World) (hs : s.size ≤ 140737488355328) (hk : k ≤ s.size) :
    Calls Tryd.prog 74 #[.string s, .int .i64 k] w fun e w' => e = .returned (.int .i64 (pairL (s.data.toList.drop k))) ∧ ∃ q, w' = w.drewN q := by
  by_cases hlt : k + 1 < s.size
  · obtain ⟨c1, c2⟩ := byte_lt s[k]
    obtain ⟨c3, c4⟩ := byte_lt s[k+1]
    have hk0 : k < s.size := by omega
    have i1 : (0 : Int) ≤ k ∧ (k : Int) < s.size := by omega
    have i2 : (0 : Int) ≤ (k : Int) + 1 ∧ (k : Int) + 1 < s.size := by omega
    have e1 : IntKind.i64.wrap ((k : Int) + 1) = (k : Int) + 1 := IntWalk.i64_in _ (by omega)
    have e2 : ((k : Int) + 1).toNat = k + 1 := by omega
    have HP := Lib.hid (pairL_at hlt)
    have d1 := hexv_le s[k].toNat
    have d2 := hexv_ge s[k].toNat
    have d3 := hexv_le s[k+1].toNat
    have d4 := hexv_ge s[k+1].toNat
    go_enter Tryd.func74, Tryd.ntmps74
    go_wp2
    go_quiet (first | (go_at_call 90; exact quiet_left (Digit_any _ (by omega) (by omega) _)))
    go_wp2
    all_goals go_ret
    all_goals refine ⟨ret_int ?_, _, rfl⟩
    all_goals rw [HP.out]
    all_goals first | (rw [if_neg (by omega)]; done) | (rw [if_pos (by omega)])
    rw [Int.mul_comm]; exact or_hex' _ _ (by omega) (by omega) (by omega) (by omega)
  · have HP := Lib.hid (pairL_short (s := s) (k := k) (by omega))
    go_enter Tryd.func74, Tryd.ntmps74
    go_wp2
    go_ret
    exact ⟨ret_int HP.out.symm, 0, rfl⟩

theorem pair_int (s : ByteArray) (n : Int) (w : World) (hs : s.size ≤ 140737488355328) (h0 : 0 ≤ n) (hk : n ≤ s.size) (P : Int) (hP : pairL (s.data.toList.drop n.toNat) = P) :
    Calls Tryd.prog 74 #[.string s, .int .i64 n] w fun e w' => e = .returned (.int .i64 P) ∧ ∃ q, w' = w.drewN q := by
  subst hP
  obtain ⟨k, rfl⟩ := Int.eq_ofNat_of_zero_le h0
  exact pair_any s k w hs (by omega)
set_option maxHeartbeats 1000000 in
theorem urlDecode_any (s : ByteArray) (w : World) (hs : s.size ≤ 140737488355320) :
    Calls Tryd.prog 47 #[.string s] w fun e w' => e = .returned (.string (str (decL urlF s.data.toList))) ∧ Below w.heap.size w w' := by
  go_enter Tryd.func47, Tryd.ntmps47
  go_wp2
  go_loopw [3, 4] (fun v i wr => ∃ (k : Nat) (A : List UInt8), k ≤ s.size ∧ A.length ≤ k ∧ i = .int .i64 k ∧ OB wr w.heap.size v A ∧ Hid (A ++ decL urlF (s.data.toList.drop k) = decL urlF s.data.toList) ∧ Below w.heap.size w wr) (fun _ i _ => s.size - (intOf i).toNat)
  case atStart => exact ⟨0, [], by omega, by simp, rfl, OB.nil _ _, rfl, Below.refl _ _⟩
  case round =>
    obtain ⟨k, A, hk, hA, rfl, hown, HE, hbl⟩ := hrel
    have HO := Lib.hid hown
    have hsz := hbl.size
    have HB := Lib.hid hbl
    clear hown hbl
    by_cases hlt : k < s.size
    · obtain ⟨c1, c2⟩ := byte_lt s[k]
      obtain ⟨P, hP⟩ : ∃ P, pairL (s.data.toList.drop (k + 1)) = P := ⟨_, rfl⟩
      have hP1 := pairL_bd (s.data.toList.drop (k + 1))
      rw [hP] at hP1
      have HF := Lib.hid (urlF_at hlt)
      rw [hP] at HF
      have HS := Lib.hid (fun (b : UInt8) (n : Nat) (h1 : 1 ≤ n) (h : urlF (s.data.toList.drop k) = (b, n)) => decL_step hlt h1 h)
      have HP := Lib.hid (show pairL (s.data.toList.drop ((k : Int) + 1).toNat) = P by rw [show ((k : Int) + 1).toNat = k + 1 from by omega]; exact hP)
      clear hP
      have hk3 : P < 0 ∨ k + 3 ≤ s.size := by
        by_cases h : k + 3 ≤ s.size
        · exact .inr h
        · have := HP.out
          rw [show ((k : Int) + 1).toNat = k + 1 from by omega, pairL_short (by omega)] at this
          exact .inl (by omega)
      by_cases h37 : s[k] = 37
      · have n43 : ((s[k].toNat : Int) == 43) = false := by rw [h37]; rfl
        have y37 : ((s[k].toNat : Int) == 37) = true := by rw [h37]; rfl
        by_cases hp : 0 ≤ P
        · have HG := Lib.hid (HS.out _ 3 (by omega) (HF.out.trans (if_pos ⟨h37, hp⟩)))
          clear h37
          go_wp2_with (first
            | (go_at_call 74; refine (pair_int s ((k : Int) + 1) _ (by omega) (by omega) (by omega) P HP.out).mono ?_; rintro e w' ⟨rfl, q, rfl⟩)
            | (at_builtin; refine wpL_app rfl (.tmp 30) (.tmp 32) rfl (HO.out.drewN q) rfl _ [UInt8.ofNat P.toNat] (by rw [List.map_cons, ← bv_of (by omega) (by omega)]; rfl) rfl (by simp only [List.length_cons, List.length_nil]; omega) hsz ?_; intro v' w1 ho1 hb1))
          go_roundw
          case rel => exact ⟨k + 3, A ++ [UInt8.ofNat P.toNat], by omega, by rw [List.length_append]; simp; omega, by go_num, ho1, dec_keep HE HG, (below_drewN HB.out q).trans hb1⟩
          case measure => simp [intOf]; omega
        · have HG := Lib.hid (HS.out _ 1 (by omega) (HF.out.trans ((if_neg (fun h => hp h.2)).trans (if_neg (by rw [h37]; decide)))))
          clear h37
          go_wp2_with (first
            | (go_at_call 74; refine (pair_int s ((k : Int) + 1) _ (by omega) (by omega) (by omega) P HP.out).mono ?_; rintro e w' ⟨rfl, q, rfl⟩)
            | (at_builtin; refine wpL_app rfl (.tmp 30) (.tmp 32) rfl (HO.out.drewN q) rfl _ [s[k]] rfl rfl (by simp only [List.length_cons, List.length_nil]; omega) hsz ?_; intro v' w1 ho1 hb1))
          go_roundw
          case rel => exact ⟨k + 1, A ++ [s[k]], by omega, by rw [List.length_append]; simp; omega, by go_num, ho1, dec_keep HE HG, (below_drewN HB.out q).trans hb1⟩
          case measure => simp [intOf]; omega
      · have n37 : ((s[k].toNat : Int) == 37) = false := byte_ne (c := 37) h37
        by_cases h43 : s[k] = 43
        · have HG := Lib.hid (HS.out _ 1 (by omega) (HF.out.trans ((if_neg (fun h => h37 h.1)).trans (if_pos h43))))
          have y43 : ((s[k].toNat : Int) == 43) = true := by rw [h43]; rfl
          clear h43 h37
          go_wp2_with (first
            | (go_at_call 74; refine (pair_int s ((k : Int) + 1) _ (by omega) (by omega) (by omega) P HP.out).mono ?_; rintro e w' ⟨rfl, q, rfl⟩)
            | (at_builtin; refine wpL_app rfl (.tmp 30) (.tmp 32) rfl HO.out rfl _ [32] rfl rfl (by simp only [List.length_cons, List.length_nil]; omega) hsz ?_; intro v' w1 ho1 hb1))
          go_roundw
          case rel => exact ⟨k + 1, A ++ [32], by omega, by rw [List.length_append]; simp; omega, by go_num, ho1, dec_keep HE HG, HB.out.trans hb1⟩
          case measure => simp [intOf]; omega
        · have HG := Lib.hid (HS.out _ 1 (by omega) (HF.out.trans ((if_neg (fun h => h37 h.1)).trans (if_neg h43))))
          have n43 : ((s[k].toNat : Int) == 43) = false := byte_ne (c := 43) h43
          clear h43 h37
          go_wp2_with (first
            | (go_at_call 74; refine (pair_int s ((k : Int) + 1) _ (by omega) (by omega) (by omega) P HP.out).mono ?_; rintro e w' ⟨rfl, q, rfl⟩)
            | (at_builtin; refine wpL_app rfl (.tmp 30) (.tmp 32) rfl HO.out rfl _ [s[k]] rfl rfl (by simp only [List.length_cons, List.length_nil]; omega) hsz ?_; intro v' w1 ho1 hb1))
          go_roundw
          case rel => exact ⟨k + 1, A ++ [s[k]], by omega, by rw [List.length_append]; simp; omega, by go_num, ho1, dec_keep HE HG, HB.out.trans hb1⟩
          case measure => simp [intOf]; omega
    · have h := ob_str HO.out
      rw [dec_end HE (by omega)] at h
      go_wp2
      go_ret
      exact ⟨rfl, HB.out⟩
end Go.Proofs.YthfolopnjmkllaaDoor
