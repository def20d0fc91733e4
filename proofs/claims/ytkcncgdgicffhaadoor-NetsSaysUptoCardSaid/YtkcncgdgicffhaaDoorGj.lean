/- Walks: nets.number, wickref.small. -/
import Derived.Test.YtkcncgdgicffhaaDoorGe
import Derived.Test.YtkcncgdgicffhaaDoorGi
import Derived.Test.YtkcncgdgicffhaaDoorGf
namespace Go.Proofs.YtkcncgdgicffhaaDoor
open Go.RowKit
set_option linter.unusedVariables false
set_option linter.unusedSimpArgs false

/-- a small number without noughts ahead; -1: none -/
def smN (s : ByteArray) (most : Int) : Int := if numB 10 9 s = true ∧ numN 10 9 s ≤ most ∧ ¬ (1 < s.size ∧ s.data.toList[0]? = some 48) then numN 10 9 s else -1
theorem smN_bd (s : ByteArray) (most : Int) (h0 : -1 ≤ most) : -1 ≤ smN s most ∧ smN s most ≤ most := by
  have := numN_ge s
  unfold smN
  split
  · omega
  · omega
section
variable (s : ByteArray) (most : Int) (w : World)
/-- the ways of both -/
theorem sm_cases : (numE 10 9 s = 4 ∧ smN s most = -1) ∨ (numE 10 9 s = 0 ∧ most < numN 10 9 s ∧ smN s most = -1) ∨
    (∃ h : 0 < s.size, numE 10 9 s = 0 ∧ ¬ most < numN 10 9 s ∧ ((s[0].toNat : Int) == 48) = false ∧ smN s most = numN 10 9 s) ∨
    (∃ h : 0 < s.size, numE 10 9 s = 0 ∧ ¬ most < numN 10 9 s ∧ ((s[0].toNat : Int) == 48) = true ∧ ¬ (1 : Int) < (s.size : Int) ∧ smN s most = numN 10 9 s) ∨
    (∃ h : 0 < s.size, numE 10 9 s = 0 ∧ ¬ most < numN 10 9 s ∧ ((s[0].toNat : Int) == 48) = true ∧ (1 : Int) < (s.size : Int) ∧ smN s most = -1) := by
  rcases numE_cases s with ⟨h1, h2⟩ | ⟨h1, h2, h3⟩
  · exact .inl ⟨h2, by unfold smN; rw [if_neg]; rintro ⟨h, _⟩; rw [h1] at h; cases h⟩
  · by_cases h4 : most < numN 10 9 s
    · exact .inr (.inl ⟨h2, h4, by unfold smN; rw [if_neg]; rintro ⟨_, h, _⟩; omega⟩)
    · have hg := lst_get? s 0 h3
      by_cases h5 : s[0] = 48
      · have e5 : ((s[0].toNat : Int) == 48) = true := by rw [h5]; rfl
        by_cases h6 : 1 < s.size
        · exact .inr (.inr (.inr (.inr ⟨h3, h2, h4, e5, by omega, by unfold smN; rw [if_neg]; rintro ⟨_, _, h⟩; exact h ⟨h6, by rw [hg, h5]⟩⟩)))
        · exact .inr (.inr (.inr (.inl ⟨h3, h2, h4, e5, by omega, by unfold smN; rw [if_pos ⟨h1, by omega, fun h => h6 h.1⟩]⟩)))
      · have e5 : ((s[0].toNat : Int) == 48) = false := by
          rw [beq_eq_false_iff_ne]; intro h; apply h5; apply UInt8.toNat_inj.1
          show s[0].toNat = 48; omega
        exact .inr (.inr (.inl ⟨h3, h2, h4, e5, by unfold smN; rw [if_pos ⟨h1, by omega, fun h => h5 (by have := h.2; rw [hg] at this; injection this)⟩]⟩))
set_option maxHeartbeats 1000000 in
theorem netNumber_any (hs : s.size ≤ maxLen) :
    Calls Tryd.prog 83 #[.string s, .int .i64 most] w fun e w' => e = .returned (.int .i64 (smN s most)) ∧ ∃ q, w' = w.drewN q := by
  have C := Lib.hid fun w' => decS_any s w' hs
  have hcs := sm_cases s most
  unfold maxLen at hs
  obtain ⟨N, hN⟩ : ∃ N, N = numN 10 9 s := ⟨_, rfl⟩
  obtain ⟨E, hE⟩ : ∃ E, E = numE 10 9 s := ⟨_, rfl⟩
  obtain ⟨R, hR⟩ : ∃ R, R = smN s most := ⟨_, rfl⟩
  rw [← hN, ← hE] at C
  rw [← hN, ← hE, ← hR] at hcs
  rw [← hR]
  clear hN hE hR
  rcases hcs with ⟨rfl, rfl⟩ | ⟨rfl, h1, rfl⟩ | ⟨h0, rfl, h1, h2, rfl⟩ | ⟨h0, rfl, h1, h2, h3, rfl⟩ | ⟨h0, rfl, h1, h2, h3, rfl⟩
  all_goals
    go_enter Tryd.func83, Tryd.ntmps83
    go_wp2_with fail
    refine (C.out _).mono ?_
    rintro e w' ⟨rfl, rfl⟩
    go_wp2_with fail
    go_ret
    exact ⟨rfl, 0, rfl⟩
set_option maxHeartbeats 1000000 in
theorem small_any (hs : s.size ≤ maxLen) :
    Calls Tryd.prog 86 #[.string s, .int .i64 most] w fun e w' => e = .returned (.int .i64 (smN s most)) ∧ ∃ q, w' = w.drewN q := by
  have C := Lib.hid fun w' => Number_any s 10 9 w' hs (by omega) (by omega) (by omega) (by omega)
  have hcs := sm_cases s most
  unfold maxLen at hs
  obtain ⟨N, hN⟩ : ∃ N, N = numN 10 9 s := ⟨_, rfl⟩
  obtain ⟨E, hE⟩ : ∃ E, E = numE 10 9 s := ⟨_, rfl⟩
  obtain ⟨R, hR⟩ : ∃ R, R = smN s most := ⟨_, rfl⟩
  rw [← hN, ← hE] at C
  rw [← hN, ← hE, ← hR] at hcs
  rw [← hR]
  clear hN hE hR
  have hsz : s.size ≤ 9223372036854775807 := hs
  rcases hcs with ⟨rfl, rfl⟩ | ⟨rfl, h1, rfl⟩ | ⟨h0, rfl, h1, h2, rfl⟩ | ⟨h0, rfl, h1, h2, h3, rfl⟩ | ⟨h0, rfl, h1, h2, h3, rfl⟩
  · go_enter Tryd.func86, Tryd.ntmps86
    go_wp2_with fail
    refine (C.out _).mono ?_
    rintro e w' ⟨rfl, rfl⟩
    go_wp2_with fail
    go_ret
    exact ⟨rfl, 0, rfl⟩
  · go_enter Tryd.func86, Tryd.ntmps86
    go_wp2_with fail
    refine (C.out _).mono ?_
    rintro e w' ⟨rfl, rfl⟩
    go_wp2_with fail
    go_ret
    exact ⟨rfl, 0, rfl⟩
  · by_cases h3 : (1 : Int) < (s.size : Int)
    all_goals
      go_enter Tryd.func86, Tryd.ntmps86
      go_wp2_with fail
      refine (C.out _).mono ?_
      rintro e w' ⟨rfl, rfl⟩
      go_wp2_with fail
      go_ret
      exact ⟨rfl, 0, rfl⟩
  · go_enter Tryd.func86, Tryd.ntmps86
    go_wp2_with fail
    refine (C.out _).mono ?_
    rintro e w' ⟨rfl, rfl⟩
    go_wp2_with fail
    go_ret
    exact ⟨rfl, 0, rfl⟩
  · go_enter Tryd.func86, Tryd.ntmps86
    go_wp2_with fail
    refine (C.out _).mono ?_
    rintro e w' ⟨rfl, rfl⟩
    go_wp2_with fail
    go_ret
    exact ⟨rfl, 0, rfl⟩
end
end Go.Proofs.YtkcncgdgicffhaaDoor
