/- Walk: nets.Print. (printed by gen_netg.py) -/
import Derived.Test.YthfolopnjmkllaaDoorNetF
namespace Go.Proofs.YthfolopnjmkllaaDoor
open Go.RowKit
set_option linter.unusedVariables false
set_option linter.unusedSimpArgs false

set_option maxRecDepth 100000 in
set_option maxHeartbeats 4000000 in
theorem netPrint_any (a : Nat) (b : Int) (w : World) (ha : a < 4294967296) (hT : TwN w) :
    Calls Tryd.prog 20 #[.agg #[.int .u32 a, .int .i64 b]] w fun e w' => e = .returned (.tuple #[.string (prR a b).1, .int .i64 (prR a b).2]) ∧ Below w.heap.size w w' := by
  obtain ⟨W, hW⟩ : ∃ W, w.alloc (.cells #[.int .u32 a, .int .i64 b] 52) = W := ⟨_, rfl⟩
  have hWb : Below w.heap.size w W := by rw [← hW]; exact (Below.refl _ _).alloc (Nat.le_refl _) _
  have hWk : Blk W w.heap.size 52 #[.int .u32 a, .int .i64 b] := by rw [← hW]; exact Blk.new _ _ _
  have x0 : W.cell? ⟨w.heap.size, 0, none⟩ = some (.int .u32 a) := hWk.cell 0
  have x1 : W.cell? ⟨w.heap.size, 1, none⟩ = some (.int .i64 b) := hWk.cell 1
  have CM := Lib.hid fun w' => mask_any b w'
  have HB0 := Lib.hid hWb
  have HK := Lib.hid hWk
  obtain ⟨R, hR⟩ : ∃ R, R = prR a b := ⟨_, rfl⟩
  rw [← hR]
  clear hWb hWk
  by_cases h1 : b < 0
  · have d1 : decide (b < 0) = true := decide_eq_true h1
    have HR := Lib.hid (hR.trans (pr_out (.inl h1)))
    clear hR h1
    go_enter Tryd.func20, Tryd.ntmps20
    go_wp2_with fail
    go_quiet (fail)
    go_wp2_with fail
    go_ret2
    exact ⟨by rw [HR.out]; rfl, below_drewN HB0.out _⟩
  · have d1 : decide (b < 0) = false := decide_eq_false h1
    by_cases h2 : 32 < b
    · have d2 : decide (32 < b) = true := decide_eq_true h2
      have HR := Lib.hid (hR.trans (pr_out (.inr h2)))
      clear hR h1 h2
      go_enter Tryd.func20, Tryd.ntmps20
      go_wp2_with fail
      go_quiet (fail)
      go_wp2_with fail
      go_ret2
      exact ⟨by rw [HR.out]; rfl, below_drewN HB0.out _⟩
    · have d2 : decide (32 < b) = false := decide_eq_false h2
      have hmk := andNot_msk a b ha
      by_cases hmod : a % 2 ^ (32 - mskB b) = 0
      · rw [hmod] at hmk
        have HR1 := Lib.hid fun h0 h1 => hR.trans (pr_lt (a := a) (b := b) h0 h1 hmod)
        have HR2 := Lib.hid fun h1 => hR.trans (pr_full (a := a) (b := b) h1 hmod)
        have HH1 := Lib.hid h1
        have HH2 := Lib.hid h2
        clear hmod hR h1 h2
        go_enter Tryd.func20, Tryd.ntmps20
        go_wp2_with fail
        go_quiet (first | (go_at_call 42; exact (CM.out _).mono fun _ _ h => ⟨h.1, _, h.2.symm⟩))
        obtain ⟨W2, hW2⟩ : ∃ W2, W.drewN nq = W2 := ⟨_, rfl⟩
        rw [hW2]
        have HB1 : Hid (Below w.heap.size w W2) := Lib.hid (by rw [← hW2]; exact below_drewN HB0.out _)
        have hK1 : Blk W2 w.heap.size 52 #[.int .u32 a, .int .i64 b] := by rw [← hW2]; exact HK.out.drewN _
        have HK1 := Lib.hid hK1
        clear x0 x1 d1 d2 hmk hW hW2 HK HB0 CM hK1
        have CI := Lib.hid fun n w' (hn : n < 256) (hb : Below W2.heap.size W2 w') => itoaN_any n w' (by omega) (hT.below (HB1.out.trans (hb.mono (Nat.le_of_lt HK1.out.lt))))
        go_wp2_with fail
        go_loopw [4, 5] (fun v u wr => ∃ k : Nat, k ≤ 4 ∧ u = .int .i64 (24 - 8 * (k : Int)) ∧ OS wr W2.heap.size v ((prL a).take k) ∧ Below W2.heap.size W2 wr) (fun _ u _ => (intOf u + 8).toNat)
        case atStart => exact ⟨0, by omega, rfl, OS.nil _ _, Below.refl _ _⟩
        case round =>
          obtain ⟨k, hk, rfl, ho, hb⟩ := hrel
          have HO := Lib.hid ho
          have HB := Lib.hid hb
          obtain ⟨A, c, rfl⟩ := ho.form
          have hkk := HK1.out.below hb HK1.out.lt
          have x0 : wr.cell? ⟨w.heap.size, 0, none⟩ = some (.int .u32 a) := hkk.cell 0
          have x1 : wr.cell? ⟨w.heap.size, 1, none⟩ = some (.int .i64 b) := hkk.cell 1
          have HKr := Lib.hid hkk
          clear ho hb hkk
          by_cases h4 : k < 4
          · obtain h | h | h | h : k = 0 ∨ k = 1 ∨ k = 2 ∨ k = 3 := by omega
            · subst h
              have e1 : Go.bits .and .u32 ((a : Int) / 16777216) 255 = ((a / 16777216 % 256 : Nat) : Int) := and255 (a / 16777216) (by omega)
              obtain ⟨N, hN⟩ : ∃ N : Nat, N = a / 16777216 % 256 := ⟨_, rfl⟩
              have hN2 : N < 256 := by omega
              have HL : Hid ((prL a).take 1 = (prL a).take 0 ++ [dcS N]) := Lib.hid (by rw [hN]; rfl)
              rw [← hN] at e1
              have CI1 := Lib.hid (CI.out N wr hN2 HB.out)
              have jn : IntKind.i64.wrap (N : Int) = (N : Int) := IntWalk.i64_in _ (by omega)
              clear hN
              go_wp2_with fail
              refine CI1.out.mono ?_
              rintro e w2 ⟨rfl, b2⟩
              have HO2 := Lib.hid (HO.out.kept b2)
              have HB2 := Lib.hid (HB.out.trans (b2.mono HB.out.size))
              clear b2
              go_wp2_with (at_builtin; refine wpL_appS rfl (.tmp 28) (.tmp 36) rfl HO2.out rfl (dcS N) rfl (by simp [prL]) HB2.out.size ?_; intro v5 w5 ho5 _ hb5)
              have HO5 : Hid (OS w5 W2.heap.size v5 ((prL a).take 1)) := Lib.hid (by rw [HL.out]; exact ho5)
              have HB5 := Lib.hid (HB2.out.trans hb5)
              clear ho5 hb5
              go_wp2_with fail
              go_roundw
              case rel => exact ⟨1, by omega, by first | rfl | go_num, HO5.out, HB5.out⟩
              case measure => simp [intOf]
            · subst h
              have e1 : Go.bits .and .u32 ((a : Int) / 65536) 255 = ((a / 65536 % 256 : Nat) : Int) := and255 (a / 65536) (by omega)
              obtain ⟨N, hN⟩ : ∃ N : Nat, N = a / 65536 % 256 := ⟨_, rfl⟩
              have hN2 : N < 256 := by omega
              have HL : Hid ((prL a).take 2 = (prL a).take 1 ++ [dcS N]) := Lib.hid (by rw [hN]; rfl)
              rw [← hN] at e1
              have CI1 := Lib.hid (CI.out N wr hN2 HB.out)
              have jn : IntKind.i64.wrap (N : Int) = (N : Int) := IntWalk.i64_in _ (by omega)
              clear hN
              go_wp2_with fail
              refine CI1.out.mono ?_
              rintro e w2 ⟨rfl, b2⟩
              have HO2 := Lib.hid (HO.out.kept b2)
              have HB2 := Lib.hid (HB.out.trans (b2.mono HB.out.size))
              clear b2
              go_wp2_with (at_builtin; refine wpL_appS rfl (.tmp 28) (.tmp 36) rfl HO2.out rfl (dcS N) rfl (by simp [prL]) HB2.out.size ?_; intro v5 w5 ho5 _ hb5)
              have HO5 : Hid (OS w5 W2.heap.size v5 ((prL a).take 2)) := Lib.hid (by rw [HL.out]; exact ho5)
              have HB5 := Lib.hid (HB2.out.trans hb5)
              clear ho5 hb5
              go_wp2_with fail
              go_roundw
              case rel => exact ⟨2, by omega, by first | rfl | go_num, HO5.out, HB5.out⟩
              case measure => simp [intOf]
            · subst h
              have e1 : Go.bits .and .u32 ((a : Int) / 256) 255 = ((a / 256 % 256 : Nat) : Int) := and255 (a / 256) (by omega)
              obtain ⟨N, hN⟩ : ∃ N : Nat, N = a / 256 % 256 := ⟨_, rfl⟩
              have hN2 : N < 256 := by omega
              have HL : Hid ((prL a).take 3 = (prL a).take 2 ++ [dcS N]) := Lib.hid (by rw [hN]; rfl)
              rw [← hN] at e1
              have CI1 := Lib.hid (CI.out N wr hN2 HB.out)
              have jn : IntKind.i64.wrap (N : Int) = (N : Int) := IntWalk.i64_in _ (by omega)
              clear hN
              go_wp2_with fail
              refine CI1.out.mono ?_
              rintro e w2 ⟨rfl, b2⟩
              have HO2 := Lib.hid (HO.out.kept b2)
              have HB2 := Lib.hid (HB.out.trans (b2.mono HB.out.size))
              clear b2
              go_wp2_with (at_builtin; refine wpL_appS rfl (.tmp 28) (.tmp 36) rfl HO2.out rfl (dcS N) rfl (by simp [prL]) HB2.out.size ?_; intro v5 w5 ho5 _ hb5)
              have HO5 : Hid (OS w5 W2.heap.size v5 ((prL a).take 3)) := Lib.hid (by rw [HL.out]; exact ho5)
              have HB5 := Lib.hid (HB2.out.trans hb5)
              clear ho5 hb5
              go_wp2_with fail
              go_roundw
              case rel => exact ⟨3, by omega, by first | rfl | go_num, HO5.out, HB5.out⟩
              case measure => simp [intOf]
            · subst h
              have e1 : Go.bits .and .u32 ((a : Int)) 255 = ((a % 256 : Nat) : Int) := and255 (a) (by omega)
              obtain ⟨N, hN⟩ : ∃ N : Nat, N = a % 256 := ⟨_, rfl⟩
              have hN2 : N < 256 := by omega
              have HL : Hid ((prL a).take 4 = (prL a).take 3 ++ [dcS N]) := Lib.hid (by rw [hN]; rfl)
              rw [← hN] at e1
              have CI1 := Lib.hid (CI.out N wr hN2 HB.out)
              have jn : IntKind.i64.wrap (N : Int) = (N : Int) := IntWalk.i64_in _ (by omega)
              clear hN
              go_wp2_with fail
              refine CI1.out.mono ?_
              rintro e w2 ⟨rfl, b2⟩
              have HO2 := Lib.hid (HO.out.kept b2)
              have HB2 := Lib.hid (HB.out.trans (b2.mono HB.out.size))
              clear b2
              go_wp2_with (at_builtin; refine wpL_appS rfl (.tmp 28) (.tmp 36) rfl HO2.out rfl (dcS N) rfl (by simp [prL]) HB2.out.size ?_; intro v5 w5 ho5 _ hb5)
              have HO5 : Hid (OS w5 W2.heap.size v5 ((prL a).take 4)) := Lib.hid (by rw [HL.out]; exact ho5)
              have HB5 := Lib.hid (HB2.out.trans hb5)
              clear ho5 hb5
              go_wp2_with fail
              go_roundw
              case rel => exact ⟨4, by omega, by first | rfl | go_num, HO5.out, HB5.out⟩
              case measure => simp [intOf]
          · obtain rfl : k = 4 := by omega
            have HOf : Hid (OS wr W2.heap.size (.slice A (prL a).length c) (prL a)) := HO
            have CJ : Hid (Calls Tryd.prog 43 #[.slice A 4 c, .string ⟨#[46]⟩] wr fun e w' => e = .returned (.string (prA a)) ∧ Below wr.heap.size wr w') := Lib.hid (jnN_any A c (prL a) ⟨#[46]⟩ wr _ HOf.out (by simp [prL]) (Nat.le_trans (prJ_len a) (by decide)))
            have HBw := Lib.hid (HB1.out.trans (HB.out.mono (Nat.le_of_lt HK1.out.lt)))
            obtain ⟨T, hT2⟩ : ∃ T, T = prA a := ⟨_, rfl⟩
            rw [← hT2] at CJ HR1 HR2
            have hTz : T.size ≤ 15 := by rw [hT2]; exact prA_size a
            clear HO HOf hT2
            have hlen : ((prL a).take 4).length = 4 := rfl
            by_cases hb32 : b < 32
            · have d3 : decide (b < 32) = true := decide_eq_true hb32
              have b0 : 0 ≤ b := by have := HH1.out; omega
              have HR := Lib.hid (HR1.out b0 hb32)
              obtain ⟨n, rfl⟩ := Int.eq_ofNat_of_zero_le b0
              have hnz := dcS_size n
              obtain ⟨D, hD⟩ : ∃ D, D = dcS n := ⟨_, rfl⟩
              have CI2 := Lib.hid fun w' hb => CI.out n w' (by omega) hb
              simp only [Int.toNat_natCast] at HR
              rw [← hD] at CI2 hnz HR
              clear hb32 HR1 HR2 HH1 HH2 hD
              go_wp2_with fail
              refine CJ.out.mono ?_
              rintro e w3 ⟨rfl, b3⟩
              have HB3 := Lib.hid (HB.out.trans (b3.mono HB.out.size))
              have hk3 := HKr.out.below b3 HKr.out.lt
              have y1 : w3.cell? ⟨w.heap.size, 1, none⟩ = some (.int .i64 (n : Int)) := hk3.cell 1
              clear b3 hk3
              go_wp2_with fail
              refine (CI2.out _ HB3.out).mono ?_
              rintro e w4 ⟨rfl, b4⟩
              have HB4 := Lib.hid (HB1.out.trans ((HB3.out.trans (b4.mono HB3.out.size)).mono (Nat.le_of_lt HK1.out.lt)))
              clear b4
              go_wp2_with fail
              go_ret2
              exact ⟨by rw [HR.out]; rfl, HB4.out⟩
            · have d3 : decide (b < 32) = false := decide_eq_false hb32
              have HR := Lib.hid (HR2.out (by have := HH2.out; omega))
              clear hb32 HR1 HR2 HH1 HH2
              go_wp2_with fail
              refine CJ.out.mono ?_
              rintro e w3 ⟨rfl, b3⟩
              have HB3 := Lib.hid (HBw.out.trans (b3.mono HBw.out.size))
              have hk3 := HKr.out.below b3 HKr.out.lt
              have y1 : w3.cell? ⟨w.heap.size, 1, none⟩ = some (.int .i64 b) := hk3.cell 1
              clear b3 hk3
              go_wp2_with fail
              go_ret2
              exact ⟨by rw [HR.out]; rfl, HB3.out⟩
      · have HR := Lib.hid (hR.trans (pr_bad hmod))
        obtain ⟨M, hM⟩ : ∃ M, a % 2 ^ (32 - mskB b) = M := ⟨_, rfl⟩
        rw [hM] at hmk hmod
        have hmn : ((M : Int) != 0) = true := by rw [bne_iff_ne]; omega
        clear hmod hM hR h1 h2
        go_enter Tryd.func20, Tryd.ntmps20
        go_wp2_with fail
        go_quiet (first | (go_at_call 42; exact (CM.out _).mono fun _ _ h => ⟨h.1, _, h.2.symm⟩))
        go_wp2_with fail
        go_ret2
        exact ⟨by rw [HR.out]; rfl, below_drewN HB0.out _⟩
end Go.Proofs.YthfolopnjmkllaaDoor
