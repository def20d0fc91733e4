/- Walks: clean.white, clean.Squeeze, wickref.Squeeze, clean.without, clean.NoNull, wickref.Without. -/
import Derived.Test.YthfolopnjmkllaaDoorBytes
import Derived.Test.YthfolopnjmkllaaDoorStr
import Derived.Test.YthfolopnjmkllaaDoorDec
import Derived.Test.YthfolopnjmkllaaDoorShelf
namespace Go.Proofs.YthfolopnjmkllaaDoor
open Go.RowKit
set_option linter.unusedVariables false
set_option linter.unusedSimpArgs false

def wht (b : UInt8) : Bool := decide ((9 ≤ b.toNat ∧ b.toNat ≤ 13) ∨ b.toNat = 32)
theorem hasb_white (b : UInt8) : hasb (b.toNat : Int) [9, 10, 11, 12, 13, 32] = wht b := by
  unfold hasb wht
  rw [Bool.eq_iff_iff]
  simp only [List.any_cons, List.any_nil, Bool.or_eq_true, decide_eq_true_eq, Bool.or_false]
  have : (9 : UInt8).toNat = 9 ∧ (10 : UInt8).toNat = 10 ∧ (11 : UInt8).toNat = 11 ∧ (12 : UInt8).toNat = 12 ∧ (13 : UInt8).toNat = 13 ∧ (32 : UInt8).toNat = 32 := ⟨rfl, rfl, rfl, rfl, rfl, rfl⟩
  omega
theorem white_res (b : UInt8) (v : Bool) (hv : wht b = v) (w : World) :
    Calls Tryd.prog 80 #[.int .u8 (b.toNat : Int)] w fun e w' => e = .returned (.bool v) ∧ w = w' := by
  have HV := Lib.hid hv
  obtain ⟨c1, c2⟩ := byte_lt b
  clear hv
  by_cases h1 : (9 : Int) ≤ (b.toNat : Int)
  · by_cases h2 : (b.toNat : Int) ≤ 13
    · have HR : Hid (v = true) := by show _ = _; rw [← HV.out]; unfold wht; exact decide_eq_true (by omega)
      go_enter Tryd.func80, Tryd.ntmps80
      go_wp2_with fail
      go_ret
      exact ⟨ret_bool HR.out.symm, rfl⟩
    · by_cases h3 : (b.toNat : Int) = 32
      · have HR : Hid (v = true) := by show _ = _; rw [← HV.out]; unfold wht; exact decide_eq_true (by omega)
        have n1 : ((b.toNat : Int) == 32) = true := by rw [beq_iff_eq]; exact h3
        clear h3
        go_enter Tryd.func80, Tryd.ntmps80
        go_wp2_with fail
        go_ret
        exact ⟨ret_bool HR.out.symm, rfl⟩
      · have HR : Hid (v = false) := by show _ = _; rw [← HV.out]; unfold wht; exact decide_eq_false (by omega)
        have n1 : ((b.toNat : Int) == 32) = false := by rw [beq_eq_false_iff_ne]; exact h3
        clear h3
        go_enter Tryd.func80, Tryd.ntmps80
        go_wp2_with fail
        go_ret
        exact ⟨ret_bool HR.out.symm, rfl⟩
  · have HR : Hid (v = false) := by show _ = _; rw [← HV.out]; unfold wht; exact decide_eq_false (by omega)
    have n1 : ((b.toNat : Int) == 32) = false := by rw [beq_eq_false_iff_ne]; omega
    go_enter Tryd.func80, Tryd.ntmps80
    go_wp2_with fail
    go_ret
    exact ⟨ret_bool HR.out.symm, rfl⟩

/-- was the byte ahead of place k white? -/
def wrow (l : List UInt8) : Nat → Bool
  | 0 => false
  | k + 1 => wht (l.getD k 0)
def sqz (l : List UInt8) : Nat → List UInt8
  | 0 => []
  | k + 1 => sqz l k ++ (if wht (l.getD k 0) then (if wrow l k then [] else [32]) else [l.getD k 0])
theorem sqz_le (l : List UInt8) : ∀ k, (sqz l k).length ≤ k
  | 0 => Nat.le_refl _
  | k + 1 => by
    have := sqz_le l k
    rw [sqz, List.length_append]
    split
    · split <;> simp <;> omega
    · simp; omega
theorem getD_s (s : ByteArray) (k : Nat) (h : k < s.size) : s.data.toList.getD k 0 = s[k] := by rw [List.getD, lst_get? s k h]; rfl
theorem sqz_keep {s : ByteArray} {k : Nat} (h : k < s.size) (hw : wht s[k] = false) : sqz s.data.toList (k + 1) = sqz s.data.toList k ++ [s[k]] := by
  rw [sqz, getD_s s k h, hw]; rfl
theorem sqz_new {s : ByteArray} {k : Nat} (h : k < s.size) (hw : wht s[k] = true) (hr : wrow s.data.toList k = false) : sqz s.data.toList (k + 1) = sqz s.data.toList k ++ [32] := by
  rw [sqz, getD_s s k h, hw, hr]; rfl
theorem sqz_old {s : ByteArray} {k : Nat} (h : k < s.size) (hw : wht s[k] = true) (hr : wrow s.data.toList k = true) : sqz s.data.toList (k + 1) = sqz s.data.toList k := by
  rw [sqz, getD_s s k h, hw, hr]; simp

set_option maxHeartbeats 1000000 in
theorem squeeze_any (s : ByteArray) (w : World) (hs : s.size ≤ 140737488355320) :
    Calls Tryd.prog 53 #[.string s] w fun e w' => e = .returned (.string (str (sqz s.data.toList s.size))) ∧ Below w.heap.size w w' := by
  go_enter Tryd.func53, Tryd.ntmps53
  go_wp2_with fail
  go_loopw [3, 7] (fun v i wr => ∃ k : Nat, k ≤ s.size ∧ i = .int .i64 k ∧ OB wr w.heap.size v (sqz s.data.toList k) ∧ Below w.heap.size w wr) (fun _ i _ => s.size - (intOf i).toNat)
  case atStart => exact ⟨0, by omega, rfl, OB.nil _ _, Below.refl _ _⟩
  case round =>
    obtain ⟨k, hk, rfl, ho, hb⟩ := hrel
    have HO := Lib.hid ho
    have HB := Lib.hid hb
    have hsz : w.heap.size ≤ wr.heap.size := hb.size
    have hlen := sqz_le s.data.toList k
    clear ho hb
    by_cases hlt : k < s.size
    · by_cases hw : wht s[k] = true
      · have HW := Lib.hid hw
        clear hw
        have CW := Lib.hid (white_res s[k] true HW.out)
        rcases k with _ | j
        · have HA := Lib.hid (sqz_new (k := 0) hlt HW.out rfl)
          go_wp2_with fail
          refine (CW.out _).mono ?_
          rintro e w' ⟨rfl, rfl⟩
          go_wp2_with (at_builtin; refine wpL_app rfl (.tmp 33) (.tmp 34) rfl HO.out rfl [.int .u8 32] [32] rfl rfl (by simp only [List.length_cons, List.length_nil]; omega) hsz ?_; intro v' w1 ho1 hb1)
          go_roundw
          case rel => exact ⟨1, by omega, by go_num, by rw [HA.out]; exact ho1, HB.out.trans hb1⟩
          case measure => simp [intOf]; omega
        · have hj : j < s.size := by omega
          have n0 : (((j : Nat) : Int) + 1 == 0) = false := by rw [beq_eq_false_iff_ne]; omega
          cases hp : wht s[j] with
          | true =>
            have HA := Lib.hid (sqz_old hlt HW.out (by rw [wrow, getD_s s j hj]; exact hp))
            have CP := Lib.hid (white_res s[j] true hp)
            clear hp
            go_wp2_with fail
            refine (CW.out _).mono ?_
            rintro e w' ⟨rfl, rfl⟩
            go_wp2_with fail
            refine (CP.out _).mono ?_
            rintro e w' ⟨rfl, rfl⟩
            go_wp2_with fail
            go_roundw
            case rel => exact ⟨j + 1 + 1, by omega, by go_num, by rw [HA.out]; exact HO.out, HB.out⟩
            case measure => simp [intOf]; omega
          | false =>
            have HA := Lib.hid (sqz_new hlt HW.out (by rw [wrow, getD_s s j hj]; exact hp))
            have CP := Lib.hid (white_res s[j] false hp)
            clear hp
            go_wp2_with fail
            refine (CW.out _).mono ?_
            rintro e w' ⟨rfl, rfl⟩
            go_wp2_with fail
            refine (CP.out _).mono ?_
            rintro e w' ⟨rfl, rfl⟩
            go_wp2_with (at_builtin; refine wpL_app rfl (.tmp 33) (.tmp 34) rfl HO.out rfl [.int .u8 32] [32] rfl rfl (by simp only [List.length_cons, List.length_nil]; omega) hsz ?_; intro v' w1 ho1 hb1)
            go_roundw
            case rel => exact ⟨j + 1 + 1, by omega, by go_num, by rw [HA.out]; exact ho1, HB.out.trans hb1⟩
            case measure => simp [intOf]; omega
      · have hf : wht s[k] = false := by simpa using hw
        have HA := Lib.hid (sqz_keep hlt hf)
        have CW := Lib.hid (white_res s[k] false hf)
        clear hw hf
        obtain ⟨c1, c2⟩ := byte_lt s[k]
        go_wp2_with fail
        refine (CW.out _).mono ?_
        rintro e w' ⟨rfl, rfl⟩
        go_wp2_with (at_builtin; refine wpL_app rfl (.tmp 16) (.tmp 20) rfl HO.out rfl [.int .u8 s[k].toNat] [s[k]] rfl rfl (by simp only [List.length_cons, List.length_nil]; omega) hsz ?_; intro v' w1 ho1 hb1)
        go_roundw
        case rel => exact ⟨k + 1, by omega, by go_num, by rw [HA.out]; exact ho1, HB.out.trans hb1⟩
        case measure => simp [intOf]; omega
    · obtain rfl : k = s.size := by omega
      have HS := Lib.hid (ob_str HO.out)
      have hS := HS.out
      go_wp2_with fail
      go_ret
      exact ⟨rfl, HB.out⟩

set_option maxHeartbeats 1000000 in
theorem Squeeze_any (s : ByteArray) (w : World) (hs : s.size ≤ 140737488355320) :
    Calls Tryd.prog 36 #[.string s] w fun e w' => e = .returned (.string (str (sqz s.data.toList s.size))) ∧ w = w' := by
  go_enter Tryd.func36, Tryd.ntmps36
  go_wp2_with fail
  go_loop [3, 4, 5] (fun v r i => ∃ k : Nat, k ≤ s.size ∧ i = .int .i64 k ∧ r = .bool (wrow s.data.toList k) ∧ v = .string (str (sqz s.data.toList k))) (fun _ _ i => s.size - (intOf i).toNat)
  case atStart => exact ⟨0, by omega, rfl, rfl, rfl⟩
  case round =>
    obtain ⟨k, hk, rfl, rfl, rfl⟩ := hrel
    have hlen := sqz_le s.data.toList k
    obtain ⟨L, hL⟩ : ∃ L, L = sqz s.data.toList k := ⟨_, rfl⟩
    rw [← hL] at hlen ⊢
    have hls : (str L).size ≤ k := by rw [size_str]; exact hlen
    have HL := Lib.hid hL
    obtain ⟨R, hR⟩ : ∃ R, wrow s.data.toList k = R := ⟨_, rfl⟩
    rw [hR]
    have HR := Lib.hid hR
    clear hL hR
    by_cases hlt : k < s.size
    · obtain ⟨c1, c2⟩ := byte_lt s[k]
      have i1 : (0 : Int) ≤ k ∧ (k : Int) < s.size := by omega
      have HRN : Hid (wrow s.data.toList (k + 1) = wht s[k]) := by show _ = _; rw [wrow, getD_s s k hlt]
      cases hw : wht s[k] with
      | true =>
        have HW := Lib.hid hw
        have CW := Lib.hid (fun w => in_res (s[k].toNat : Int) ⟨#[9, 10, 11, 12, 13, 32]⟩ true (by rw [← hw]; exact hasb_white s[k]) w (by decide) c1 c2)
        clear hw
        cases R with
        | true =>
          have HA := Lib.hid (sqz_old hlt HW.out HR.out)
          go_wp2_with fail
          refine (CW.out _).mono ?_
          rintro e w' ⟨rfl, rfl⟩
          go_wp2_with fail
          go_round
          case rel => exact ⟨k + 1, by omega, by go_num, by rw [HRN.out, HW.out], by rw [HA.out, HL.out]⟩
          case measure => simp [intOf]; omega
        | false =>
          have HA := Lib.hid (sqz_new hlt HW.out HR.out)
          go_wp2_with fail
          refine (CW.out _).mono ?_
          rintro e w' ⟨rfl, rfl⟩
          go_wp2_with fail
          go_round
          case rel => exact ⟨k + 1, by omega, by go_num, by rw [HRN.out, HW.out], ret_s (by rw [HA.out, ← HL.out]; exact cat_str L [32])⟩
          case measure => simp [intOf]; omega
      | false =>
        have HA := Lib.hid (sqz_keep hlt hw)
        have HW := Lib.hid hw
        have CW := Lib.hid (fun w => in_res (s[k].toNat : Int) ⟨#[9, 10, 11, 12, 13, 32]⟩ false (by rw [← hw]; exact hasb_white s[k]) w (by decide) c1 c2)
        clear hw
        go_wp2_with fail
        refine (CW.out _).mono ?_
        rintro e w' ⟨rfl, rfl⟩
        go_wp2_with fail
        go_round
        case rel => exact ⟨k + 1, by omega, by go_num, by rw [HRN.out, HW.out], ret_s (by rw [HA.out, ← HL.out]; exact cat_ext1 L s k hlt)⟩
        case measure => simp [intOf]; omega
    · obtain rfl : k = s.size := by omega
      go_wp2_with fail
      go_ret
      exact ⟨ret_str (by rw [HL.out]), rfl⟩
end Go.Proofs.YthfolopnjmkllaaDoor
