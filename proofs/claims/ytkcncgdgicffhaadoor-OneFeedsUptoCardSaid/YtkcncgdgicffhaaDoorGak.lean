/- Walk: frame.Chunks. -/
import Derived.Test.YtkcncgdgicffhaaDoorGah
import Derived.Test.YtkcncgdgicffhaaDoorGaj
namespace Go.Proofs.YtkcncgdgicffhaaDoor
open Go.RowKit
set_option linter.unusedVariables false
set_option linter.unusedSimpArgs false

theorem stepC_max (l : List UInt8) (m : Int) (a o : Nat) : stepC l (max m 0) a o = stepC l m a o := by
  unfold stepC; rw [show (max m 0).toNat = m.toNat by omega]
section
variable (s : ByteArray) (most : Int) (w : World)
set_option maxRecDepth 100000 in
set_option maxHeartbeats 4000000 in
theorem chunks_any (hs : s.size ≤ 1048576) (hm : -9223372036854775808 ≤ most ∧ most ≤ 9223372036854775807) :
    Calls Tryd.prog 11 #[.string s, .int .i64 most] w fun x w' => ChkRes (chkR s.data.toList most) x ∧ Below w.heap.size w w' := by
  obtain ⟨R, hR⟩ : ∃ R, R = chkR s.data.toList most := ⟨_, rfl⟩
  rw [← hR]
  have H0 : Hid (chkF s.data.toList most (s.size + 1) 0 [] = R) := by show _ = _; rw [hR]; unfold chkR; rw [lst_len]
  clear hR
  obtain ⟨M, hM⟩ : ∃ M, M = max most 0 := ⟨_, rfl⟩
  have hM0 : 0 ≤ M ∧ M ≤ 9223372036854775807 := by omega
  have HST := Lib.hid fun a o => (by rw [hM]; exact stepC_max s.data.toList most a o : stepC s.data.toList M a o = stepC s.data.toList most a o)
  have hcase : (most < 0 ∧ M = 0) ∨ (0 ≤ most ∧ M = most) := by omega
  clear hM
  rcases hcase with ⟨hneg, hMe⟩ | ⟨hneg, hMe⟩
  · rw [hMe] at hM0 HST
    have hmx : max most (0 : Int) = 0 := by omega
    clear hMe
    obtain ⟨W, hW⟩ : ∃ W, w.alloc (.cells #[.string s, .int .i64 0, .int .i64 (0 : Int), .slice none 0 0] 92) = W := ⟨_, rfl⟩
    have hS0 : ChS w W w.heap.size s 0 (0 : Int) (.slice none 0 0) (.slice none 0 0) [] := by
      rw [← hW]
      exact ⟨Blk.new _ _ _, Nat.le_refl _, OB.nil _ _, (Below.refl _ _).alloc (Nat.le_refl _) _⟩
    have HS0 := Lib.hid hS0
    clear hS0
    go_enter Tryd.func11, Tryd.ntmps11
    go_wp2_with fail
    clear hW hmx
    go_loopg [8, 9] (s.size + 1) (fun gn _ _ wr => ∃ (out : List UInt8) (a f : Nat) (v : Value), ChS w wr w.heap.size s a (0 : Int) v v out ∧ a ≤ s.size ∧ out.length ≤ a ∧ (out.length : Int) ≤ (0 : Int) ∧ s.size < f + a ∧ gn + a = s.size + 1 ∧ Hid (chkF s.data.toList most f a out = R))
    case atStart => exact ⟨[], 0, s.size + 1, _, HS0.out, by omega, by simp, by first | (simp; done) | (simp; omega), by omega, by omega, H0⟩
    case round =>
      obtain ⟨out, a, f, v, hS, ha, hoa, hom, hf, hg, HC⟩ := hrel
      have CC := Lib.hid (chunk_any hS ha hs hM0 (by omega) hom)
      obtain ⟨f, rfl⟩ : ∃ f', f = f' + 1 := ⟨f - 1, by omega⟩
      have HF := Lib.hid hf
      have HG := Lib.hid hg
      have HOM := Lib.hid hom
      clear hS hf hg hom
      go_wp2_with fail
      refine CC.out.mono ?_
      rintro x w1 ⟨e, n, b, N, hst, rfl, hnx, hbe⟩
      try rw [HST.out] at hst
      clear CC
      by_cases e0 : e = 0
      · subst e0
        obtain ⟨rfl, v', hS1⟩ := hnx rfl
        have hfit := step_fit hst
        obtain ⟨A, c, rfl⟩ := hS1.ho.form
        have HS1 := Lib.hid hS1
        by_cases hn : n = 0
        · have HR : Hid (R = (out, b, 0)) := Lib.hid (HC.out.symm.trans (chkF_done (by rw [hst, hn])))
          have HOUT : Hid (out ++ (s.data.toList.drop (b - 2 - n)).take n = out) := by show _ = _; rw [hn]; simp
          have hSd := hS1.drew
          have hcv := ob_str hSd.ho
          have ez : ((n : Int) == 0) = true := by rw [hn]; rfl
          rw [HOUT.out] at hSd hcv
          obtain ⟨k0, k1, k2, k3, f1, f3⟩ := hSd.facts
          have HSd := Lib.hid hSd
          clear hn hnx hst hfit hS1 hSd
          go_wp2_with fail
          go_region
          all_goals go_wp2_with fail
          all_goals go_ret3
          all_goals exact ⟨by rw [HR.out]; rfl, HSd.out.be⟩
        · have HR := Lib.hid ((chkF_step hst (by omega)).symm.trans HC.out)
          have ez : ((n : Int) == 0) = false := by rw [beq_eq_false_iff_ne]; omega
          have hol : (out ++ (s.data.toList.drop (b - 2 - n)).take n).length = out.length + n := by
            rw [List.length_append, List.length_take, List.length_drop, lst_len]; omega
          obtain ⟨out2, hout2⟩ : ∃ out2, out2 = out ++ (s.data.toList.drop (b - 2 - n)).take n := ⟨_, rfl⟩
          rw [← hout2] at HR hol HS1
          have h1 : out2.length ≤ b := by omega
          have h2 : (out2.length : Int) ≤ (0 : Int) := by have := HOM.out; omega
          clear hn hnx hst hout2 hol hS1
          go_wp2_with fail
          go_roundg (s.size + 1 - b)
          case measure => have := HG.out; omega
          case rel => exact ⟨out2, b, f, _, HS1.out, hfit.2.1, h1, h2, by have := HF.out; omega, by omega, HR⟩
      · have HR := Lib.hid (HC.out.symm.trans (chkF_bad hst e0))
        have ee : (e != 0) = true := bne_iff_ne.2 e0
        have HBE := Lib.hid hbe
        clear hst hnx hbe
        go_wp2_with fail
        go_ret3
        exact ⟨by rw [HR.out]; rfl, HBE.out⟩
  · rw [hMe] at hM0 HST
    have hmx : max most (0 : Int) = most := by omega
    clear hMe
    obtain ⟨W, hW⟩ : ∃ W, w.alloc (.cells #[.string s, .int .i64 0, .int .i64 most, .slice none 0 0] 92) = W := ⟨_, rfl⟩
    have hS0 : ChS w W w.heap.size s 0 most (.slice none 0 0) (.slice none 0 0) [] := by
      rw [← hW]
      exact ⟨Blk.new _ _ _, Nat.le_refl _, OB.nil _ _, (Below.refl _ _).alloc (Nat.le_refl _) _⟩
    have HS0 := Lib.hid hS0
    clear hS0
    go_enter Tryd.func11, Tryd.ntmps11
    go_wp2_with fail
    clear hW hmx
    go_loopg [8, 9] (s.size + 1) (fun gn _ _ wr => ∃ (out : List UInt8) (a f : Nat) (v : Value), ChS w wr w.heap.size s a most v v out ∧ a ≤ s.size ∧ out.length ≤ a ∧ (out.length : Int) ≤ most ∧ s.size < f + a ∧ gn + a = s.size + 1 ∧ Hid (chkF s.data.toList most f a out = R))
    case atStart => exact ⟨[], 0, s.size + 1, _, HS0.out, by omega, by simp, by first | (simp; done) | (simp; omega), by omega, by omega, H0⟩
    case round =>
      obtain ⟨out, a, f, v, hS, ha, hoa, hom, hf, hg, HC⟩ := hrel
      have CC := Lib.hid (chunk_any hS ha hs hM0 (by omega) hom)
      obtain ⟨f, rfl⟩ : ∃ f', f = f' + 1 := ⟨f - 1, by omega⟩
      have HF := Lib.hid hf
      have HG := Lib.hid hg
      have HOM := Lib.hid hom
      clear hS hf hg hom
      go_wp2_with fail
      refine CC.out.mono ?_
      rintro x w1 ⟨e, n, b, N, hst, rfl, hnx, hbe⟩
      try rw [HST.out] at hst
      clear CC
      by_cases e0 : e = 0
      · subst e0
        obtain ⟨rfl, v', hS1⟩ := hnx rfl
        have hfit := step_fit hst
        obtain ⟨A, c, rfl⟩ := hS1.ho.form
        have HS1 := Lib.hid hS1
        by_cases hn : n = 0
        · have HR : Hid (R = (out, b, 0)) := Lib.hid (HC.out.symm.trans (chkF_done (by rw [hst, hn])))
          have HOUT : Hid (out ++ (s.data.toList.drop (b - 2 - n)).take n = out) := by show _ = _; rw [hn]; simp
          have hSd := hS1.drew
          have hcv := ob_str hSd.ho
          have ez : ((n : Int) == 0) = true := by rw [hn]; rfl
          rw [HOUT.out] at hSd hcv
          obtain ⟨k0, k1, k2, k3, f1, f3⟩ := hSd.facts
          have HSd := Lib.hid hSd
          clear hn hnx hst hfit hS1 hSd
          go_wp2_with fail
          go_region
          all_goals go_wp2_with fail
          all_goals go_ret3
          all_goals exact ⟨by rw [HR.out]; rfl, HSd.out.be⟩
        · have HR := Lib.hid ((chkF_step hst (by omega)).symm.trans HC.out)
          have ez : ((n : Int) == 0) = false := by rw [beq_eq_false_iff_ne]; omega
          have hol : (out ++ (s.data.toList.drop (b - 2 - n)).take n).length = out.length + n := by
            rw [List.length_append, List.length_take, List.length_drop, lst_len]; omega
          obtain ⟨out2, hout2⟩ : ∃ out2, out2 = out ++ (s.data.toList.drop (b - 2 - n)).take n := ⟨_, rfl⟩
          rw [← hout2] at HR hol HS1
          have h1 : out2.length ≤ b := by omega
          have h2 : (out2.length : Int) ≤ most := by have := HOM.out; omega
          clear hn hnx hst hout2 hol hS1
          go_wp2_with fail
          go_roundg (s.size + 1 - b)
          case measure => have := HG.out; omega
          case rel => exact ⟨out2, b, f, _, HS1.out, hfit.2.1, h1, h2, by have := HF.out; omega, by omega, HR⟩
      · have HR := Lib.hid (HC.out.symm.trans (chkF_bad hst e0))
        have ee : (e != 0) = true := bne_iff_ne.2 e0
        have HBE := Lib.hid hbe
        clear hst hnx hbe
        go_wp2_with fail
        go_ret3
        exact ⟨by rw [HR.out]; rfl, HBE.out⟩
end
end Go.Proofs.YtkcncgdgicffhaaDoor
