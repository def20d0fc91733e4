/- Walk: wickref.weight: the size of a tree, up to 82. -/
import Derived.Test.YtkdcgkdbieeijaaPrsJ
namespace Go.Proofs.Ytkdcgkdbieeijaa
open Go.RowKit
set_option linter.unusedVariables false
set_option linter.unusedSimpArgs false

def cap82 (n : Nat) : Nat := if n ≤ 82 then n else 82
theorem cap82_pos {a : Nat} (h : a ≤ 82) : cap82 a = a := if_pos h
theorem cap82_neg {a : Nat} (h : ¬ a ≤ 82) : cap82 a = 82 := if_neg h
theorem cap82_big {a b : Nat} (h : 81 < cap82 a) (h2 : a ≤ b) : cap82 b = cap82 a := by
  by_cases ha : a ≤ 82
  · rw [cap82_pos ha] at h ⊢
    by_cases hb : b ≤ 82
    · rw [cap82_pos hb]; omega
    · rw [cap82_neg hb]; omega
  · rw [cap82_neg ha, cap82_neg (by omega)]
theorem cap82_add {a : Nat} (c : Nat) (h : ¬ 81 < cap82 a) : cap82 (cap82 a + c) = cap82 (a + c) := by
  by_cases ha : a ≤ 82
  · rw [cap82_pos ha]
  · rw [cap82_neg ha] at h; omega
theorem cap82_iff (a : Nat) : cap82 a ≤ 80 ↔ a ≤ 80 := by
  unfold cap82
  split <;> omega
/-- the weight, up to 82 -/
def wt82 (n : Nat) (r : Rx) : Nat := cap82 (n + szR r)
def WtOk (F : FuncId) (d : Nat) : Prop := ∀ (r : Rx) (cs : List Value) (n B : Nat) (w : World), RxC w B d r cs → B ≤ w.heap.size → n ≤ 81 → Calls Try.prog F #[.agg cs.toArray, .int .i64 (n : Int)] w fun e w' => e = .returned (.int .i64 (wt82 n r : Int)) ∧ Below w.heap.size w w'
set_option maxRecDepth 100000 in
set_option maxHeartbeats 4000000 in
theorem weight_step (d : Nat) (ih : WtOk 68 d) : WtOk 68 (d + 1) := by
  rintro ⟨k, s, ks⟩ cs n B w ⟨hs, hk, A, cap, e, hlc, hcap, hblk, hel⟩ hB hn
  have HI := Lib.hid ih
  clear ih
  subst e
  simp only [Rx.k, Rx.s, Rx.ks] at hs hk hlc hcap hblk hel ⊢
  have ecs : (rexCs k s A ks.length cap).toArray = #[.int .i64 k, .int .u64 (s.a : Int), .int .u64 (s.b : Int), .int .u64 (s.c : Int), .int .u64 (s.d : Int), .slice A ks.length cap] := rfl
  rw [ecs]
  clear ecs
  obtain ⟨W, hW⟩ : ∃ W, w.alloc (.cells #[.int .i64 k, .int .u64 (s.a : Int), .int .u64 (s.b : Int), .int .u64 (s.c : Int), .int .u64 (s.d : Int), .slice A ks.length cap] 27) = W := ⟨_, rfl⟩
  have HK : Hid (Blk W w.heap.size 27 #[.int .i64 k, .int .u64 (s.a : Int), .int .u64 (s.b : Int), .int .u64 (s.c : Int), .int .u64 (s.d : Int), .slice A ks.length cap]) := Lib.hid (by rw [← hW]; exact Blk.new w _ _)
  have HWB : Hid (Below w.heap.size w W) := Lib.hid (by rw [← hW]; exact (Below.refl _ _).alloc (Nat.le_refl _) _)
  have hS : wt82 n (.mk k s ks) = cap82 (n + 1 + szL ks) := by unfold wt82; rw [szR]; congr 1; omega
  obtain ⟨R, hR⟩ : ∃ R, R = wt82 n (.mk k s ks) := ⟨_, rfl⟩
  rw [← hR] at hS ⊢
  have HS := Lib.hid hS
  have hw1 : IntKind.i64.wrap ((n : Int) + 1) = (n : Int) + 1 := IntWalk.i64_in _ (by omega)
  clear hS hR
  go_enter Try.func68, Try.ntmps68
  go_wp2_with fail
  go_loopw [1, 5] (fun a i wr => ∃ j m : Nat, i = .int .i64 (j : Int) ∧ a = .int .i64 (m : Int) ∧ j ≤ ks.length ∧ m = cap82 (n + 1 + szL (ks.take j)) ∧ Hid (Below w.heap.size w wr) ∧ Hid (Blk wr w.heap.size 27 #[.int .i64 k, .int .u64 (s.a : Int), .int .u64 (s.b : Int), .int .u64 (s.c : Int), .int .u64 (s.d : Int), .slice A ks.length cap])) (fun _ i _ => ks.length - (intOf i).toNat)
  case atStart => exact ⟨0, n + 1, rfl, rfl, Nat.zero_le _, by rw [List.take_zero, szL]; unfold cap82; rw [if_pos (by omega)], HWB, HK⟩
  case round =>
    obtain ⟨j, m, rfl, rfl, hj, hm, HB, HKr⟩ := hrel
    have hle := szL_le ks j
    have c5 : wr.cell? ⟨w.heap.size, 5, none⟩ = some (.slice A ks.length cap) := HKr.out.cell 5
    by_cases hlt : j < ks.length
    · have d1 : decide ((j : Int) < (ks.length : Int)) = true := decide_eq_true (by omega)
      obtain ⟨ad, cs', rfl, hc, hr⟩ := hel j ks[j] (List.getElem?_eq_getElem hlt)
      obtain ⟨_, e', hbk⟩ := hblk (by omega)
      injection e' with e'; subst e'
      have HR := Lib.hid (hr.below (HB.out.mono hB))
      obtain ⟨a0, a1, a2, a3, a4, A5, l5, cap5, rfl⟩ := hr.six
      obtain ⟨d0, d1, d2, d3, d4, d5⟩ := six_cells (w' := wr) hc hbk (HB.out.mono hB)
      have htk := szL_take hlt
      have hbz : B ≤ wr.heap.size := Nat.le_trans hB HB.out.size
      by_cases h81 : 81 < m
      · have hR81 : R = m := by rw [HS.out, hm]; rw [hm] at h81; exact cap82_big h81 (by omega)
        have HR81 := Lib.hid hR81
        have i81 : decide ((m : Int) ≤ 81) = false := decide_eq_false (by omega)
        clear hm hle htk h81 hR81 hel hc hr
        go_wp2_with fail
        go_ret
        exact ⟨by rw [HR81.out]; rfl, HB.out⟩
      · have i81 : decide ((m : Int) ≤ 81) = true := decide_eq_true (by omega)
        have hm2 : wt82 m ks[j] = cap82 (n + 1 + szL (ks.take (j + 1))) := by unfold wt82; rw [hm] at h81 ⊢; rw [cap82_add _ h81, htk]; congr 1; omega
        have CI := HI.out ks[j] _ m B wr HR.out hbz (by omega)
        obtain ⟨M, hM⟩ : ∃ M, M = wt82 m ks[j] := ⟨_, rfl⟩
        rw [← hM] at CI hm2
        have CI := Lib.hid CI
        have HM2 := Lib.hid hm2
        clear hm hle htk h81 hm2 hM hel hc hr
        go_wp2_with fail
        refine CI.out.mono ?_
        rintro e w2 ⟨rfl, hb2⟩
        have HB2 := Lib.hid (HB.out.trans (hb2.mono HB.out.size))
        have HK2 := Lib.hid (HKr.out.below hb2 HKr.out.lt)
        clear hb2
        go_wp2_with fail
        go_roundw
        case rel => exact ⟨j + 1, M, by go_num, rfl, by omega, HM2.out, HB2, HK2⟩
        case measure => simp [intOf]; omega
    · obtain rfl : j = ks.length := by omega
      have HR81 : Hid (R = m) := Lib.hid (by rw [HS.out, hm, List.take_length])
      clear hm hle hel
      go_wp2_with fail
      go_ret
      exact ⟨by rw [HR81.out]; rfl, HB.out⟩
theorem weight_any : ∀ d, WtOk 68 d
  | 0 => fun r cs n B w h => h.elim
  | d + 1 => weight_step d (weight_any d)
end Go.Proofs.Ytkdcgkdbieeijaa
