/- Walks: wickref.spans at a byte. -/
import Derived.Test.YtckinkapbfaceaaSpnA
import Derived.Test.YtckinkapbfaceaaEndB
namespace Go.Proofs.Ytckinkapbfaceaa
open Go.RowKit
set_option linter.unusedVariables false
set_option linter.unusedSimpArgs false

def goneT (s : ByteArray) (q : Q4) (k i j : Nat) : Bool := decide (j = i + 1 ∧ i < k) && setB q (s.data.toList.getD i 0).toNat
theorem goneT_set {s : ByteArray} {q : Q4} {k : Nat} {v : Bool} (hv : v = setB q (s.data.toList.getD k 0).toNat) (i j : Nat) : upd (goneT s q k) k (k + 1) v i j = goneT s q (k + 1) i j := by
  rw [upd_if]
  unfold goneT
  by_cases h : i = k ∧ j = k + 1
  · rw [if_pos h, hv, decide_eq_true (by omega), Bool.true_and, h.1]
  · rw [if_neg h]
    congr 1
    rw [Bool.eq_iff_iff, decide_eq_true_eq, decide_eq_true_eq]; omega
set_option maxRecDepth 100000 in
set_option maxHeartbeats 4000000 in
theorem spans_byte (s : ByteArray) (q : Q4) (w : World) (A : Option Addr) (c : Nat) (hs : s.size ≤ 60) :
    Calls Try.prog 57 #[.agg #[.int .i64 3, .int .u64 (q.a : Int), .int .u64 (q.b : Int), .int .u64 (q.c : Int), .int .u64 (q.d : Int), .slice A 0 c], .string s] w (SpansRes s (.byte q) w) := by
  obtain ⟨g, hg, CB⟩ := spans_pre w #[.int .i64 3, .int .u64 (q.a : Int), .int .u64 (q.b : Int), .int .u64 (q.c : Int), .int .u64 (q.d : Int), .slice A 0 c] s hs
  have CB := Lib.hid CB
  go_enter Try.func57, Try.ntmps57
  go_wp2_with fail
  refine CB.out.mono ?_
  rintro e w1 ⟨rfl, hI⟩
  have HI := Lib.hid (hI.congr (T' := goneT s q 0) fun i j _ _ => by unfold goneT; rw [decide_eq_false (by omega)]; rfl)
  have k0 : w1.cell? ⟨w.heap.size, 0, none⟩ = some (.int .i64 3) := hI.blk.cell 0
  clear hI CB
  go_wp2_with fail
  go_loopw [8] (fun i wr => ∃ k : Nat, k ≤ s.size ∧ i = .int .i64 k ∧ SpI w #[.int .i64 3, .int .u64 (q.a : Int), .int .u64 (q.b : Int), .int .u64 (q.c : Int), .int .u64 (q.d : Int), .slice A 0 c] g (s.size + 1) wr (goneT s q k)) (fun i _ => s.size - (intOf i).toNat)
  case atStart => exact ⟨0, by omega, rfl, HI.out⟩
  case round =>
    obtain ⟨k, hk, rfl, hI⟩ := hrel
    have HI2 := Lib.hid hI
    by_cases hlt : k < s.size
    · have i0 : (0 : Int) ≤ (k : Int) := by omega
      have i1 : (k : Int) < (s.size : Int) + 1 := by omega
      have i2 : (k : Int) < (s.size : Int) := by omega
      have i3 : (k : Int) + 1 < (s.size : Int) + 1 := by omega
      have i4 : (0 : Int) ≤ (k : Int) + 1 := by omega
      have i6 : IntKind.i64.wrap ((k : Int) + 1) = (k : Int) + 1 := IntWalk.i64_in _ (by omega)
      have i5 : ((k : Int) + 1).toNat = k + 1 := by omega
      obtain ⟨cb1, cb2⟩ := byte_lt s[k]
      have i7 : IntKind.i64.wrap (s[k].toNat : Int) = (s[k].toNat : Int) := IntWalk.i64_in _ (by omega)
      have k1 : wr.cell? ⟨w.heap.size, 1, none⟩ = some (.int .u64 (q.a : Int)) := hI.blk.cell 1
      have k2 : wr.cell? ⟨w.heap.size, 2, none⟩ = some (.int .u64 (q.b : Int)) := hI.blk.cell 2
      have k3 : wr.cell? ⟨w.heap.size, 3, none⟩ = some (.int .u64 (q.c : Int)) := hI.blk.cell 3
      have k4 : wr.cell? ⟨w.heap.size, 4, none⟩ = some (.int .u64 (q.d : Int)) := hI.blk.cell 4
      obtain ⟨x0, x1, x2⟩ := hI.tab.facts (i := k) (j := k + 1) (by omega) (by omega)
      obtain ⟨v, hv⟩ : ∃ v, v = setB q s[k].toNat := ⟨_, rfl⟩
      have CI := Lib.hid fun w' => is_any q s[k].toNat (by omega) w'
      rw [← hv] at CI
      have HV : Hid (v = setB q (s.data.toList.getD k 0).toNat) := by show _ = _; rw [hv, getD_at hlt]
      clear hI hv
      go_wp2_with fail
      go_region_law (first | (go_simp; go_at_call 54; (with_reducible refine (CI.out _).mono ?_); rintro e w2 ⟨rfl, hb2⟩; have HI3 := Lib.hid (HI2.out.drew.call (by omega) hb2); obtain ⟨z0, z1, z2⟩ := HI3.out.tab.facts (i := k) (j := k + 1) (by omega) (by omega); clear hb2))
      all_goals have HN := Lib.hid ((HI3.out.set_ (i := k) (j := k + 1) (by omega) (by omega) v).congr fun i j _ _ => goneT_set HV.out i j)
      all_goals go_wp2_with fail
      all_goals first
        | exact ⟨⟨k + 1, by omega, by go_num, HN.out⟩, by simp [intOf]; omega⟩
        | (go_roundw
           case rel => exact ⟨k + 1, by omega, by go_num, HN.out⟩
           case measure => simp [intOf]; omega)
    · obtain rfl : k = s.size := by omega
      clear hI
      go_wp2_with fail
      go_ret
      refine ⟨g, _, rfl, HI2.out.tab, by omega, HI2.out.below, fun i j hi hj => ?_⟩
      unfold goneT
      rw [Bool.and_eq_true, decide_eq_true_eq]
      rw [lst_len] at hi hj
      constructor
      · rintro ⟨⟨h1, h2⟩, h3⟩
        refine ⟨by rw [lst_len]; exact h2, h1, ?_⟩
        rw [getD_at h2] at h3
        rw [lst_get s i h2]; exact h3
      · rintro ⟨h1, h2, h3⟩
        have h1' := h1
        rw [lst_len] at h1'
        rw [lst_get s i h1'] at h3
        exact ⟨⟨h2, h1'⟩, by rw [getD_at h1']; exact h3⟩
end Go.Proofs.Ytckinkapbfaceaa
