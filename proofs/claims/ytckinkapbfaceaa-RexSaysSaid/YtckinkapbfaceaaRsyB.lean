/- Walks: rex.char, wickref.char. -/
import Derived.Test.YtckinkapbfaceaaRsyA
import Derived.Test.YtckinkapbfaceaaConv
import Derived.Test.YtckinkapbfaceaaTwo
import Derived.Test.YtckinkapbfaceaaIdx
namespace Go.Proofs.Ytckinkapbfaceaa
open Go.RowKit
set_option linter.unusedVariables false
set_option linter.unusedSimpArgs false

/-- the ways of char -/
theorem chr_cases : ∀ b : UInt8, (((b.toNat : Int) == 10) = true ∧ chr b = [92, 110]) ∨ (((b.toNat : Int) == 10) = false ∧ ((b.toNat : Int) == 9) = true ∧ chr b = [92, 116]) ∨
    (((b.toNat : Int) == 10) = false ∧ ((b.toNat : Int) == 9) = false ∧ ((b.toNat : Int) == 13) = true ∧ chr b = [92, 114]) ∨
    (((b.toNat : Int) == 10) = false ∧ ((b.toNat : Int) == 9) = false ∧ ((b.toNat : Int) == 13) = false ∧ decide ((b.toNat : Int) < 33) = true ∧ chr b = [92, 120, loHex.getD (b.toNat / 16) 0, loHex.getD (b.toNat % 16) 0]) ∨
    (((b.toNat : Int) == 10) = false ∧ ((b.toNat : Int) == 9) = false ∧ ((b.toNat : Int) == 13) = false ∧ decide ((b.toNat : Int) < 33) = false ∧ decide ((126 : Int) < (b.toNat : Int)) = true ∧ chr b = [92, 120, loHex.getD (b.toNat / 16) 0, loHex.getD (b.toNat % 16) 0]) ∨
    (((b.toNat : Int) == 10) = false ∧ ((b.toNat : Int) == 9) = false ∧ ((b.toNat : Int) == 13) = false ∧ decide ((b.toNat : Int) < 33) = false ∧ decide ((126 : Int) < (b.toNat : Int)) = false ∧ hasb (b.toNat : Int) signL = true ∧ (∃ K : Fin 13, ixb signL (b.toNat : Int) = (K.val : Int)) ∧ chr b = [92, b]) ∨
    (((b.toNat : Int) == 10) = false ∧ ((b.toNat : Int) == 9) = false ∧ ((b.toNat : Int) == 13) = false ∧ decide ((b.toNat : Int) < 33) = false ∧ decide ((126 : Int) < (b.toNat : Int)) = false ∧ hasb (b.toNat : Int) signL = false ∧ ixb signL (b.toNat : Int) = -1 ∧ chr b = [b]) := all_bytes (by decide +kernel)
theorem and15i : ∀ b : UInt8, bits .and .i64 (b.toNat : Int) 15 = ((b.toNat % 16 : Nat) : Int) := all_bytes (by decide +kernel)
theorem ofNat_toNat (b : UInt8) : UInt8.ofNat ((b.toNat : Int)).toNat = b := by
  rw [Int.toNat_natCast]; exact UInt8.ofNat_toNat
theorem conv_b (b : UInt8) (W : World) : (convert 112 9 (.slice (some ⟨W.heap.size, 0, none⟩) 1 1)).run Try.prog (W.alloc (.cells #[.int .u8 (b.toNat : Int)] 5)) = .ok (.string (str [b])) (W.alloc (.cells #[.int .u8 (b.toNat : Int)] 5)) := by
  have := conv_one W (b.toNat : Int)
  rwa [ofNat_toNat] at this
theorem ixr_any (n J : Int) (hJ : ixb signL n = J) (w : World) :
    Calls Try.prog 83 #[.string ⟨#[40, 41, 91, 93, 124, 42, 43, 63, 46, 94, 36, 45, 92]⟩, .int .u8 n] w fun e w' => e = .returned (.int .i64 J) ∧ w = w' := by
  subst hJ; exact indexByte_any _ signL rfl n w
set_option maxHeartbeats 2000000 in
theorem rchar_any (b : UInt8) (w : World) :
    Calls Try.prog 104 #[.int .i64 (b.toNat : Int)] w fun e w' => e = .returned (.string (str (chr b))) ∧ Below w.heap.size w w' := by
  obtain ⟨c1, c2⟩ := byte_lt b
  rcases chr_cases b with ⟨h1, hc⟩ | ⟨h1, h2, hc⟩ | ⟨h1, h2, h3, hc⟩ | ⟨h1, h2, h3, h4, hc⟩ | ⟨h1, h2, h3, h4, h5, hc⟩ | ⟨h1, h2, h3, h4, h5, _, ⟨K, hK⟩, hc⟩ | ⟨h1, h2, h3, h4, h5, _, hK, hc⟩
  · rw [hc]; clear hc
    go_enter Try.func104, Try.ntmps104
    go_wp2_with fail
    go_ret
    exact ⟨rfl, Below.refl _ _⟩
  · rw [hc]; clear hc
    go_enter Try.func104, Try.ntmps104
    go_wp2_with fail
    go_ret
    exact ⟨rfl, Below.refl _ _⟩
  · rw [hc]; clear hc
    go_enter Try.func104, Try.ntmps104
    go_wp2_with fail
    go_ret
    exact ⟨rfl, Below.refl _ _⟩
  · rw [hc]; clear hc
    have hr0 : 0 ≤ bits .and .i64 (b.toNat : Int) 15 ∧ bits .and .i64 (b.toNat : Int) 15 < 16 := by rw [and15i]; omega
    have hq : 0 ≤ (b.toNat : Int) / 16 ∧ (b.toNat : Int) / 16 < 16 := by omega
    have hr : 0 ≤ (b.toNat : Int) % 16 ∧ (b.toNat : Int) % 16 < 16 := by omega
    have hcv := conv_two
    have hcv2 := conv_two_drew
    go_enter Try.func104, Try.ntmps104
    go_wp2_with fail
    go_region
    all_goals go_wp2_with fail
    all_goals go_ret
    all_goals exact ⟨ret_str (by rw [lo_at' _ _ (b.toNat / 16) rfl, lo_at' _ _ (b.toNat % 16) (by rw [and15i]; omega)]; exact cat_str [92, 120] _), by first | exact ((Below.refl _ _).alloc (Nat.le_refl _) _).drew | exact ((Below.refl _ _).drew).alloc (Nat.le_refl _) _⟩
  · rw [hc]; clear hc
    have hr0 : 0 ≤ bits .and .i64 (b.toNat : Int) 15 ∧ bits .and .i64 (b.toNat : Int) 15 < 16 := by rw [and15i]; omega
    have hq : 0 ≤ (b.toNat : Int) / 16 ∧ (b.toNat : Int) / 16 < 16 := by omega
    have hr : 0 ≤ (b.toNat : Int) % 16 ∧ (b.toNat : Int) % 16 < 16 := by omega
    have hcv := conv_two
    have hcv2 := conv_two_drew
    go_enter Try.func104, Try.ntmps104
    go_wp2_with fail
    go_region
    all_goals go_wp2_with fail
    all_goals go_ret
    all_goals exact ⟨ret_str (by rw [lo_at' _ _ (b.toNat / 16) rfl, lo_at' _ _ (b.toNat % 16) (by rw [and15i]; omega)]; exact cat_str [92, 120] _), by first | exact ((Below.refl _ _).alloc (Nat.le_refl _) _).drew | exact ((Below.refl _ _).drew).alloc (Nat.le_refl _) _⟩
  · rw [hc]; clear hc
    have hcv := conv_b b
    have CI := Lib.hid fun w' => ixr_any (b.toNat : Int) (K.val : Int) hK w'
    have k1 : (0 : Int) ≤ (K.val : Int) := by omega
    clear hK
    go_enter Try.func104, Try.ntmps104
    go_wp2_with fail
    refine (CI.out _).mono ?_
    rintro e w' ⟨rfl, rfl⟩
    go_wp2_with fail
    go_ret
    exact ⟨ret_str (cat_str [92] _), (Below.refl _ _).alloc (Nat.le_refl _) _⟩
  · rw [hc]; clear hc
    have hcv := conv_b b
    have CI := Lib.hid fun w' => ixr_any (b.toNat : Int) (-1) hK w'
    clear hK
    go_enter Try.func104, Try.ntmps104
    go_wp2_with fail
    refine (CI.out _).mono ?_
    rintro e w' ⟨rfl, rfl⟩
    go_wp2_with fail
    go_ret
    exact ⟨rfl, (Below.refl _ _).alloc (Nat.le_refl _) _⟩
set_option maxHeartbeats 2000000 in
theorem Char_any (b : UInt8) (w : World) :
    Calls Try.prog 85 #[.int .i64 (b.toNat : Int)] w fun e w' => e = .returned (.string (str (chr b))) ∧ Below w.heap.size w w' := by
  obtain ⟨c1, c2⟩ := byte_lt b
  have hcv := conv_b b
  have CT := Lib.hid fun w' => two_any (b.toNat : Int) ⟨#[48, 49, 50, 51, 52, 53, 54, 55, 56, 57, 97, 98, 99, 100, 101, 102]⟩ w' (by decide) (by decide) c1 c2
  have CN := fun w' => in_any (b.toNat : Int) ⟨#[40, 41, 91, 93, 124, 42, 43, 63, 46, 94, 36, 45, 92]⟩ w' (by decide) c1 c2
  have hN : hasb (b.toNat : Int) (ByteArray.mk #[40, 41, 91, 93, 124, 42, 43, 63, 46, 94, 36, 45, 92]).data.toList = hasb (b.toNat : Int) signL := rfl
  rw [hN] at CN
  clear hN
  have HX : Hid (str [(ByteArray.mk #[48, 49, 50, 51, 52, 53, 54, 55, 56, 57, 97, 98, 99, 100, 101, 102]).data.toList.getD ((b.toNat : Int) / 16).toNat 0, (ByteArray.mk #[48, 49, 50, 51, 52, 53, 54, 55, 56, 57, 97, 98, 99, 100, 101, 102]).data.toList.getD ((b.toNat : Int) % 16).toNat 0] = str [loHex.getD (b.toNat / 16) 0, loHex.getD (b.toNat % 16) 0]) := by
    show _ = _
    rw [show ((b.toNat : Int) / 16).toNat = b.toNat / 16 by omega, show ((b.toNat : Int) % 16).toNat = b.toNat % 16 by omega]; rfl
  have CT : Hid (∀ w', Calls Try.prog 96 #[.int .u8 (b.toNat : Int), .string ⟨#[48, 49, 50, 51, 52, 53, 54, 55, 56, 57, 97, 98, 99, 100, 101, 102]⟩] w' fun e w'' => e = .returned (.string (str [loHex.getD (b.toNat / 16) 0, loHex.getD (b.toNat % 16) 0])) ∧ ∃ q, w'' = w'.drewN q) := fun w' => by
    rw [← HX.out]; exact CT.out w'
  obtain ⟨HH, hHH⟩ : ∃ HH, HH = [loHex.getD (b.toNat / 16) 0, loHex.getD (b.toNat % 16) 0] := ⟨_, rfl⟩
  rw [← hHH] at CT
  rcases chr_cases b with ⟨h1, hc⟩ | ⟨h1, h2, hc⟩ | ⟨h1, h2, h3, hc⟩ | ⟨h1, h2, h3, h4, hc⟩ | ⟨h1, h2, h3, h4, h5, hc⟩ | ⟨h1, h2, h3, h4, h5, hn, _, hc⟩ | ⟨h1, h2, h3, h4, h5, hn, _, hc⟩
  · rw [hc]; clear hc
    go_enter Try.func85, Try.ntmps85
    go_wp2_with fail
    go_ret
    exact ⟨rfl, (Below.refl _ _).alloc (Nat.le_refl _) _⟩
  · rw [hc]; clear hc
    go_enter Try.func85, Try.ntmps85
    go_wp2_with fail
    go_ret
    exact ⟨rfl, (Below.refl _ _).alloc (Nat.le_refl _) _⟩
  · rw [hc]; clear hc
    go_enter Try.func85, Try.ntmps85
    go_wp2_with fail
    go_ret
    exact ⟨rfl, (Below.refl _ _).alloc (Nat.le_refl _) _⟩
  · have hc2 : chr b = [92, 120] ++ HH := by rw [hc, hHH]; rfl
    have hHs : (str HH).size = 2 := by rw [size_str, hHH]; rfl
    rw [hc2]; clear hc hc2 hHH
    go_enter Try.func85, Try.ntmps85
    go_wp2_with fail
    refine (CT.out _).mono ?_
    rintro e w' ⟨rfl, q, rfl⟩
    go_wp2_with fail
    go_ret
    exact ⟨ret_str (cat_str [92, 120] _), below_drewN ((Below.refl _ _).alloc (Nat.le_refl _) _) q⟩
  · have hc2 : chr b = [92, 120] ++ HH := by rw [hc, hHH]; rfl
    have hHs : (str HH).size = 2 := by rw [size_str, hHH]; rfl
    rw [hc2]; clear hc hc2 hHH
    go_enter Try.func85, Try.ntmps85
    go_wp2_with fail
    refine (CT.out _).mono ?_
    rintro e w' ⟨rfl, q, rfl⟩
    go_wp2_with fail
    go_ret
    exact ⟨ret_str (cat_str [92, 120] _), below_drewN ((Below.refl _ _).alloc (Nat.le_refl _) _) q⟩
  · rw [hc]; clear hc hHH
    rw [hn] at CN
    have CN := Lib.hid CN
    clear hn
    go_enter Try.func85, Try.ntmps85
    go_wp2_with fail
    refine (CN.out _).mono ?_
    rintro e w' ⟨rfl, rfl⟩
    go_wp2_with fail
    go_ret
    exact ⟨ret_str (cat_str [92] _), (Below.refl _ _).alloc (Nat.le_refl _) _⟩
  · rw [hc]; clear hc hHH
    rw [hn] at CN
    have CN := Lib.hid CN
    clear hn
    go_enter Try.func85, Try.ntmps85
    go_wp2_with fail
    refine (CN.out _).mono ?_
    rintro e w' ⟨rfl, rfl⟩
    go_wp2_with fail
    go_ret
    exact ⟨rfl, (Below.refl _ _).alloc (Nat.le_refl _) _⟩
end Go.Proofs.Ytckinkapbfaceaa
