/- Walk: rex.size. -/
import Derived.Test.YtkdcgkdbieeijaaPrsA
import Derived.Test.YtkdcgkdbieeijaaRexB
namespace Go.Proofs.Ytkdcgkdbieeijaa
open Go.RowKit
set_option linter.unusedVariables false
set_option linter.unusedSimpArgs false

theorem szL_app : ∀ a b : List Rx, szL (a ++ b) = szL a + szL b
  | [], b => by rw [List.nil_append, szL, Nat.zero_add]
  | x :: a, b => by rw [List.cons_append, szL, szL, szL_app a b]; omega
theorem szL_take {ks : List Rx} {j : Nat} (h : j < ks.length) : szL (ks.take (j + 1)) = szL (ks.take j) + szR ks[j] := by
  rw [List.take_succ_eq_append_getElem h, szL_app, szL, szL]; omega
theorem szL_le (ks : List Rx) (j : Nat) : szL (ks.take j) ≤ szL ks := by
  conv => rhs; rw [← List.take_append_drop j ks]
  rw [szL_app]; omega
def cap81 (n : Nat) : Nat := if n ≤ 81 then n else 81
theorem cap81_pos {a : Nat} (h : a ≤ 81) : cap81 a = a := if_pos h
theorem cap81_neg {a : Nat} (h : ¬ a ≤ 81) : cap81 a = 81 := if_neg h
theorem cap81_big {a b : Nat} (h : 80 < cap81 a) (h2 : a ≤ b) : cap81 b = cap81 a := by
  by_cases ha : a ≤ 81
  · rw [cap81_pos ha] at h ⊢
    by_cases hb : b ≤ 81
    · rw [cap81_pos hb]; omega
    · rw [cap81_neg hb]; omega
  · rw [cap81_neg ha, cap81_neg (by omega)]
theorem cap81_add {a : Nat} (c : Nat) (h : ¬ 80 < cap81 a) : cap81 (cap81 a + c) = cap81 (a + c) := by
  by_cases ha : a ≤ 81
  · rw [cap81_pos ha]
  · rw [cap81_neg ha] at h; omega
theorem cap81_le (a : Nat) : cap81 a ≤ 81 := by unfold cap81; split <;> omega
theorem cap81_lo {a : Nat} (h : a ≤ 80) : cap81 a = a := by unfold cap81; rw [if_pos (by omega)]
theorem cap81_iff (a : Nat) : cap81 a ≤ 80 ↔ a ≤ 80 := by
  unfold cap81
  split <;> omega
/-- the size, up to 81 -/
def sz81 (n : Nat) (r : Rx) : Nat := cap81 (n + szR r)
def SzOk (F : FuncId) (d : Nat) : Prop := ∀ (r : Rx) (cs : List Value) (n B : Nat) (w : World), RxC w B d r cs → B ≤ w.heap.size → n ≤ 80 → Calls Try.prog F #[.agg cs.toArray, .int .i64 (n : Int)] w fun e w' => e = .returned (.int .i64 (sz81 n r : Int)) ∧ Below w.heap.size w w'
set_option maxRecDepth 100000 in
set_option maxHeartbeats 4000000 in
theorem size_step (d : Nat) (ih : SzOk 65 d) : SzOk 65 (d + 1) := by
  rintro ⟨k, s, ks⟩ cs n B w ⟨hs, hk, A, cap, e, hlc, hcap, hblk, hel⟩ hB hn
  have HI := Lib.hid ih
  clear ih
  subst e
  simp only [Rx.k, Rx.s, Rx.ks] at hs hk hlc hcap hblk hel ⊢
  have ecs : (rexCs k s A ks.length cap).toArray = #[.int .i64 k, .int .u64 (s.a : Int), .int .u64 (s.b : Int), .int .u64 (s.c : Int), .int .u64 (s.d : Int), .slice A ks.length cap] := rfl
  rw [ecs]
  clear ecs
  obtain ⟨W, hW⟩ : ∃ W, w.alloc (.cells #[.int .i64 k, .int .u64 (s.a : Int), .int .u64 (s.b : Int), .int .u64 (s.c : Int), .int .u64 (s.d : Int), .slice A ks.length cap] 27) = W := ⟨_, rfl⟩
  have hK : Blk W w.heap.size 27 #[.int .i64 k, .int .u64 (s.a : Int), .int .u64 (s.b : Int), .int .u64 (s.c : Int), .int .u64 (s.d : Int), .slice A ks.length cap] := by rw [← hW]; exact Blk.new w _ _
  have hWb : Below w.heap.size w W := by rw [← hW]; exact (Below.refl _ _).alloc (Nat.le_refl _) _
  have c5 : W.cell? ⟨w.heap.size, 5, none⟩ = some (.slice A ks.length cap) := hK.cell 5
  have hS : sz81 n (.mk k s ks) = cap81 (n + 1 + szL ks) := by unfold sz81; rw [szR]; congr 1; omega
  obtain ⟨R, hR⟩ : ∃ R, R = sz81 n (.mk k s ks) := ⟨_, rfl⟩
  rw [← hR] at hS ⊢
  have HS := Lib.hid hS
  have HWB := Lib.hid hWb
  have hw1 : IntKind.i64.wrap ((n : Int) + 1) = (n : Int) + 1 := IntWalk.i64_in _ (by omega)
  clear hS hR hK hWb
  go_enter Try.func65, Try.ntmps65
  go_wp2_with fail
  go_loopw [1, 12] (fun a i wr => ∃ j m : Nat, i = .int .i64 (j : Int) ∧ a = .int .i64 (m : Int) ∧ j ≤ ks.length ∧ m = cap81 (n + 1 + szL (ks.take j)) ∧ Below w.heap.size w wr) (fun _ i _ => ks.length - (intOf i).toNat)
  case atStart => exact ⟨0, n + 1, rfl, rfl, Nat.zero_le _, by rw [List.take_zero, szL]; unfold cap81; rw [if_pos (by omega)], HWB.out⟩
  case round =>
    obtain ⟨j, m, rfl, rfl, hj, hm, hb⟩ := hrel
    have HB := Lib.hid hb
    have hle := szL_le ks j
    by_cases hlt : j < ks.length
    · obtain ⟨ad, cs', rfl, hc, hr⟩ := hel j ks[j] (List.getElem?_eq_getElem hlt)
      obtain ⟨_, e', hbk⟩ := hblk (by omega)
      injection e' with e'; subst e'
      have HR := Lib.hid (hr.below (hb.mono hB))
      obtain ⟨a0, a1, a2, a3, a4, A5, l5, cap5, rfl⟩ := hr.six
      obtain ⟨d0, d1, d2, d3, d4, d5⟩ := six_cells (w' := wr) hc hbk (hb.mono hB)
      have htk := szL_take hlt
      have hbz : B ≤ wr.heap.size := Nat.le_trans hB hb.size
      by_cases h80 : 80 < m
      · have hR81 : R = m := by rw [HS.out, hm]; rw [hm] at h80; exact cap81_big h80 (by omega)
        have HR81 := Lib.hid hR81
        have i80 : (80 : Int) < (m : Int) := by omega
        clear hm hb hle htk h80 hR81 hel hc hr
        go_wp2_with fail
        go_ret
        exact ⟨by rw [HR81.out]; rfl, HB.out.alloc HB.out.size _⟩
      · have i80 : ¬ (80 : Int) < (m : Int) := by omega
        have hm2 : sz81 m ks[j] = cap81 (n + 1 + szL (ks.take (j + 1))) := by unfold sz81; rw [hm] at h80 ⊢; rw [cap81_add _ h80, htk]; congr 1; omega
        have CI := HI.out ks[j] _ m B (wr.alloc (.cells #[.int .i64 a0, .int .u64 a1, .int .u64 a2, .int .u64 a3, .int .u64 a4, .slice A5 l5 cap5] 27)) (HR.out.alloc hbz _) (by simp; omega) (by omega)
        obtain ⟨M, hM⟩ : ∃ M, M = sz81 m ks[j] := ⟨_, rfl⟩
        rw [← hM] at CI hm2
        have CI := Lib.hid CI
        have HM2 := Lib.hid hm2
        clear hm hb hle htk h80 hm2 hM hel hc hr
        go_wp2_with fail
        refine CI.out.mono ?_
        rintro e w2 ⟨rfl, hb2⟩
        have HB2 := Lib.hid ((HB.out.alloc HB.out.size _).trans (hb2.mono (by have := HB.out.size; simp; omega)))
        clear hb2
        go_wp2_with fail
        go_roundw
        case rel => exact ⟨j + 1, M, by go_num, rfl, by omega, HM2.out, HB2.out⟩
        case measure => simp [intOf]; omega
    · obtain rfl : j = ks.length := by omega
      have HR81 : Hid (R = m) := Lib.hid (by rw [HS.out, hm, List.take_length])
      clear hm hb hle hel
      go_wp2_with fail
      go_ret
      exact ⟨by rw [HR81.out]; rfl, HB.out⟩
theorem size_any : ∀ d, SzOk 65 d
  | 0 => fun r cs n B w h => h.elim
  | d + 1 => size_step d (size_any d)
end Go.Proofs.Ytkdcgkdbieeijaa
