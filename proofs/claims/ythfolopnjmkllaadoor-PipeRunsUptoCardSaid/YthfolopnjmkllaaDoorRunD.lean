/- Walk: pipe.Run. -/
import Derived.Test.YthfolopnjmkllaaDoorRunB
namespace Go.Proofs.YthfolopnjmkllaaDoor
open Go.RowKit
set_option linter.unusedVariables false
set_option linter.unusedSimpArgs false

/-- what Run answers -/
def runR (zs : List Int) (s : ByteArray) : ByteArray × Int := if pipE zs ≠ 0 then (ByteArray.empty, pipE zs) else if 8192 < s.size then (ByteArray.empty, 2) else (runF zs s, 0)
theorem runR_bad {zs : List Int} {s : ByteArray} (h : ¬ pipE zs = 0) : runR zs s = (ByteArray.empty, pipE zs) := by unfold runR; rw [if_pos h]
theorem runR_large {zs : List Int} {s : ByteArray} (h : pipE zs = 0) (h2 : 8192 < s.size) : runR zs s = (ByteArray.empty, 2) := by unfold runR; rw [if_neg (by simp [h]), if_pos h2]
theorem runR_ok {zs : List Int} {s : ByteArray} (h : pipE zs = 0) (h2 : ¬ 8192 < s.size) : runR zs s = (runF zs s, 0) := by unfold runR; rw [if_neg (by simp [h]), if_neg h2]
set_option maxRecDepth 100000 in
set_option maxHeartbeats 4000000 in
theorem pipeRun_any (zs : List Int) (A : Option Addr) (c : Nat) (s : ByteArray) (m : Int) (w : World) (h : IR w A zs) (hl : zs.length ≤ 9223372036854775807) (hs : s.size ≤ 1048576) (hm : w.cell? ⟨0, 0, none⟩ = some (.int .i64 m)) (hT : TabP w) :
    Calls Tryd.prog 11 #[.slice A zs.length c, .string s] w fun e w' => e = .returned (.tuple #[.string (runR zs s).1, .int .i64 (runR zs s).2]) ∧ Below w.heap.size w w' := by
  have CK := pipeCheck_any zs A c w h hl
  have HM := Lib.hid fun w' (hb : Below w.heap.size w w') => (hb.cell (p := ⟨0, 0, none⟩) (World.block_lt_of_cell? _ _ hm)).trans hm
  have HT := Lib.hid fun w' (hb : Below w.heap.size w w') => hT.below hb
  have HIR := Lib.hid fun w' (hb : Below w.heap.size w w') => h.below hb
  clear h hm hT
  by_cases h0 : pipE zs = 0
  · obtain ⟨hz8, hz⟩ := pipE_all2 h0
    have HZ := Lib.hid hz
    rw [h0] at CK
    have CK := Lib.hid CK
    by_cases h2 : 8192 < s.size
    · rw [runR_large h0 h2]
      have d2 : (8192 : Int) < (s.size : Int) := by omega
      clear h0
      go_enter Tryd.func11, Tryd.ntmps11
      go_wp2_with fail
      refine CK.out.mono ?_
      rintro e w1 ⟨rfl, rfl⟩
      go_wp2_with fail
      go_ret2
      exact ⟨rfl, Below.refl _ _⟩
    · rw [runR_ok h0 h2]
      have d2 : ¬ (8192 : Int) < (s.size : Int) := by omega
      have hs0 : s.size ≤ 8192 := by omega
      clear h0 h2 hz
      obtain ⟨R, hR⟩ : ∃ R, R = runF zs s := ⟨_, rfl⟩
      rw [← hR]
      have HRR := Lib.hid hR
      clear hR
      go_enter Tryd.func11, Tryd.ntmps11
      go_wp2_with fail
      refine CK.out.mono ?_
      rintro e w1 ⟨rfl, rfl⟩
      go_wp2_with fail
      go_loopw [1, 19] (fun t i wr => ∃ k : Nat, k ≤ zs.length ∧ i = .int .i64 k ∧ t = .string (runF (zs.take k) s) ∧ Below w.heap.size w wr) (fun _ i _ => zs.length - (intOf i).toNat)
      case atStart => exact ⟨0, by omega, rfl, rfl, Below.refl _ _⟩
      case round =>
        obtain ⟨k, hk, rfl, rfl, hb⟩ := hrel
        have HB := Lib.hid hb
        by_cases hlt : k < zs.length
        · obtain ⟨ad, rfl, hab, x0⟩ := (HIR.out wr hb).at_ hlt
          obtain ⟨hz1, hz2⟩ := HZ.out k hlt
          have HN := Lib.hid (runF_take (s := s) hlt)
          have hss := runF_size zs s hs0 hz8 k
          obtain ⟨z, hze⟩ : ∃ z, z = zs[k] := ⟨_, rfl⟩
          rw [← hze] at x0 hz1 hz2 HN
          obtain ⟨t, ht⟩ : ∃ t, t = runF (zs.take k) s := ⟨_, rfl⟩
          rw [← ht] at HN hss ⊢
          have CO := Lib.hid (pipeOne_any z t m wr hz1 hz2 (by omega) (HM.out wr hb) (HT.out wr hb))
          clear hze ht hb
          go_wp2_with fail
          refine CO.out.mono ?_
          rintro e w2 ⟨rfl, hb2⟩
          have HB2 := Lib.hid (HB.out.trans (hb2.mono HB.out.size))
          clear hb2
          go_wp2_with fail
          go_roundw
          case rel => exact ⟨k + 1, by omega, by go_num, by rw [HN.out], HB2.out⟩
          case measure => simp [intOf]; omega
        · obtain rfl : k = zs.length := by omega
          rw [List.take_length]
          clear hb
          go_wp2_with fail
          go_ret2
          exact ⟨by rw [HRR.out]; rfl, HB.out⟩
  · rw [runR_bad h0]
    obtain ⟨E, hE⟩ : ∃ E, E = pipE zs := ⟨_, rfl⟩
    rw [← hE] at CK h0 ⊢
    have f0 : (E != 0) = true := by rw [bne_iff_ne]; exact h0
    have CK := Lib.hid CK
    clear hE h0
    go_enter Tryd.func11, Tryd.ntmps11
    go_wp2_with fail
    refine CK.out.mono ?_
    rintro e w1 ⟨rfl, rfl⟩
    go_wp2_with fail
    go_ret2
    exact ⟨rfl, Below.refl _ _⟩
end Go.Proofs.YthfolopnjmkllaaDoor
