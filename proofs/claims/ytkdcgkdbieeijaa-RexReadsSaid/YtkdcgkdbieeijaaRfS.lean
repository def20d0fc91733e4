/- Walk: wickref.SameRex of two trees that are alike. -/
import Derived.Test.YtkdcgkdbieeijaaRexB
import Derived.Deep.RegionLaw
namespace Go.Proofs.Ytkdcgkdbieeijaa
open Go.RowKit
set_option linter.unusedVariables false
set_option linter.unusedSimpArgs false

def SmOk (F : FuncId) (d : Nat) : Prop := ∀ (r : Rx) (cs cs' : List Value) (B : Nat) (w : World), RxC w B d r cs → RxC w B d r cs' → B ≤ w.heap.size → Calls Try.prog F #[.agg cs.toArray, .agg cs'.toArray] w fun e w' => e = .returned (.bool true) ∧ Below w.heap.size w w'
set_option maxRecDepth 100000 in
set_option maxHeartbeats 4000000 in
theorem same_step (d : Nat) (ih : SmOk 7 d) : SmOk 7 (d + 1) := by
  rintro ⟨k, s, ks⟩ cs cs' B w ⟨hs, hk, A, cap, e, hlc, hcap, hblk, hel⟩ ⟨_, _, A', cap', e', hlc', hcap', hblk', hel'⟩ hB
  have HI := Lib.hid ih
  clear ih
  subst e e'
  simp only [Rx.k, Rx.s, Rx.ks] at hs hk hlc hcap hblk hel hlc' hcap' hblk' hel' ⊢
  have ecs : (rexCs k s A ks.length cap).toArray = #[.int .i64 k, .int .u64 (s.a : Int), .int .u64 (s.b : Int), .int .u64 (s.c : Int), .int .u64 (s.d : Int), .slice A ks.length cap] := rfl
  have ecs' : (rexCs k s A' ks.length cap').toArray = #[.int .i64 k, .int .u64 (s.a : Int), .int .u64 (s.b : Int), .int .u64 (s.c : Int), .int .u64 (s.d : Int), .slice A' ks.length cap'] := rfl
  rw [ecs, ecs']
  clear ecs ecs'
  have hWK : Blk ((w.alloc (.cells #[.int .i64 k, .int .u64 (s.a : Int), .int .u64 (s.b : Int), .int .u64 (s.c : Int), .int .u64 (s.d : Int), .slice A ks.length cap] 27)).alloc (.cells #[.int .i64 k, .int .u64 (s.a : Int), .int .u64 (s.b : Int), .int .u64 (s.c : Int), .int .u64 (s.d : Int), .slice A' ks.length cap'] 27)) w.heap.size 27 #[.int .i64 k, .int .u64 (s.a : Int), .int .u64 (s.b : Int), .int .u64 (s.c : Int), .int .u64 (s.d : Int), .slice A ks.length cap] := (Blk.new w _ _).alloc _
  have hWL : Blk ((w.alloc (.cells #[.int .i64 k, .int .u64 (s.a : Int), .int .u64 (s.b : Int), .int .u64 (s.c : Int), .int .u64 (s.d : Int), .slice A ks.length cap] 27)).alloc (.cells #[.int .i64 k, .int .u64 (s.a : Int), .int .u64 (s.b : Int), .int .u64 (s.c : Int), .int .u64 (s.d : Int), .slice A' ks.length cap'] 27)) (w.heap.size + 1) 27 #[.int .i64 k, .int .u64 (s.a : Int), .int .u64 (s.b : Int), .int .u64 (s.c : Int), .int .u64 (s.d : Int), .slice A' ks.length cap'] := by
    have := Blk.new (w.alloc (.cells #[.int .i64 k, .int .u64 (s.a : Int), .int .u64 (s.b : Int), .int .u64 (s.c : Int), .int .u64 (s.d : Int), .slice A ks.length cap] 27)) 27 #[.int .i64 k, .int .u64 (s.a : Int), .int .u64 (s.b : Int), .int .u64 (s.c : Int), .int .u64 (s.d : Int), .slice A' ks.length cap']
    rw [show (w.alloc (.cells #[.int .i64 k, .int .u64 (s.a : Int), .int .u64 (s.b : Int), .int .u64 (s.c : Int), .int .u64 (s.d : Int), .slice A ks.length cap] 27)).heap.size = w.heap.size + 1 by simp] at this
    exact this
  have hWB : Below w.heap.size w ((w.alloc (.cells #[.int .i64 k, .int .u64 (s.a : Int), .int .u64 (s.b : Int), .int .u64 (s.c : Int), .int .u64 (s.d : Int), .slice A ks.length cap] 27)).alloc (.cells #[.int .i64 k, .int .u64 (s.a : Int), .int .u64 (s.b : Int), .int .u64 (s.c : Int), .int .u64 (s.d : Int), .slice A' ks.length cap'] 27)) := ((Below.refl _ _).alloc (Nat.le_refl _) _).alloc (by simp) _
  obtain ⟨W, hW⟩ : ∃ W, (w.alloc (.cells #[.int .i64 k, .int .u64 (s.a : Int), .int .u64 (s.b : Int), .int .u64 (s.c : Int), .int .u64 (s.d : Int), .slice A ks.length cap] 27)).alloc (.cells #[.int .i64 k, .int .u64 (s.a : Int), .int .u64 (s.b : Int), .int .u64 (s.c : Int), .int .u64 (s.d : Int), .slice A' ks.length cap'] 27) = W := ⟨_, rfl⟩
  rw [hW] at hWK hWL hWB
  have HK := Lib.hid hWK
  have HL := Lib.hid hWL
  have HWB := Lib.hid hWB
  have c0 : W.cell? ⟨w.heap.size, 0, none⟩ = some (.int .i64 k) := hWK.cell 0
  have c1 : W.cell? ⟨w.heap.size, 1, none⟩ = some (.int .u64 (s.a : Int)) := hWK.cell 1
  have c2 : W.cell? ⟨w.heap.size, 2, none⟩ = some (.int .u64 (s.b : Int)) := hWK.cell 2
  have c3 : W.cell? ⟨w.heap.size, 3, none⟩ = some (.int .u64 (s.c : Int)) := hWK.cell 3
  have c4 : W.cell? ⟨w.heap.size, 4, none⟩ = some (.int .u64 (s.d : Int)) := hWK.cell 4
  have c5 : W.cell? ⟨w.heap.size, 5, none⟩ = some (.slice A ks.length cap) := hWK.cell 5
  have b0 : W.cell? ⟨w.heap.size + 1, 0, none⟩ = some (.int .i64 k) := hWL.cell 0
  have b1 : W.cell? ⟨w.heap.size + 1, 1, none⟩ = some (.int .u64 (s.a : Int)) := hWL.cell 1
  have b2 : W.cell? ⟨w.heap.size + 1, 2, none⟩ = some (.int .u64 (s.b : Int)) := hWL.cell 2
  have b3 : W.cell? ⟨w.heap.size + 1, 3, none⟩ = some (.int .u64 (s.c : Int)) := hWL.cell 3
  have b4 : W.cell? ⟨w.heap.size + 1, 4, none⟩ = some (.int .u64 (s.d : Int)) := hWL.cell 4
  have b5 : W.cell? ⟨w.heap.size + 1, 5, none⟩ = some (.slice A' ks.length cap') := hWL.cell 5
  clear hWK hWL hWB
  go_enter Try.func7, Try.ntmps7
  go_wp2_with fail
  go_loopw [5] (fun i wr => ∃ j : Nat, i = .int .i64 (j : Int) ∧ j ≤ ks.length ∧ Hid (Below w.heap.size w wr) ∧ Hid (Blk wr w.heap.size 27 #[.int .i64 k, .int .u64 (s.a : Int), .int .u64 (s.b : Int), .int .u64 (s.c : Int), .int .u64 (s.d : Int), .slice A ks.length cap]) ∧ Hid (Blk wr (w.heap.size + 1) 27 #[.int .i64 k, .int .u64 (s.a : Int), .int .u64 (s.b : Int), .int .u64 (s.c : Int), .int .u64 (s.d : Int), .slice A' ks.length cap'])) (fun i _ => ks.length - (intOf i).toNat)
  case atStart => exact ⟨0, rfl, Nat.zero_le _, HWB, HK, HL⟩
  case round =>
    clear c0 c1 c2 c3 c4 c5 b0 b1 b2 b3 b4 b5
    obtain ⟨j, rfl, hj, HB, HKr, HLr⟩ := hrel
    have c5 : wr.cell? ⟨w.heap.size, 5, none⟩ = some (.slice A ks.length cap) := HKr.out.cell 5
    have b5 : wr.cell? ⟨w.heap.size + 1, 5, none⟩ = some (.slice A' ks.length cap') := HLr.out.cell 5
    by_cases hlt : j < ks.length
    · have d1 : decide ((j : Int) < (ks.length : Int)) = true := decide_eq_true (by omega)
      obtain ⟨ad, q, rfl, hc, hr⟩ := hel j ks[j] (List.getElem?_eq_getElem hlt)
      obtain ⟨_, e', hbk⟩ := hblk (by omega)
      injection e' with e'; subst e'
      obtain ⟨ad', q', rfl, hc', hr'⟩ := hel' j ks[j] (List.getElem?_eq_getElem hlt)
      obtain ⟨_, e', hbk'⟩ := hblk' (by omega)
      injection e' with e'; subst e'
      have hbz : B ≤ wr.heap.size := Nat.le_trans hB HB.out.size
      have HR := Lib.hid (hr.below (HB.out.mono hB))
      have HR' := Lib.hid (hr'.below (HB.out.mono hB))
      obtain ⟨a0, a1, a2, a3, a4, A5, l5, cap5, rfl⟩ := hr.six
      obtain ⟨d0, d1, d2, d3, d4, d5⟩ := six_cells (w' := wr) hc hbk (HB.out.mono hB)
      obtain ⟨u0, u1, u2, u3, u4, U5, m5, cup5, rfl⟩ := hr'.six
      obtain ⟨p0, p1, p2, p3, p4, p5⟩ := six_cells (w' := wr) hc' hbk' (HB.out.mono hB)
      have CI : Hid (∀ n, Calls Try.prog 7 #[.agg #[.int .i64 a0, .int .u64 a1, .int .u64 a2, .int .u64 a3, .int .u64 a4, .slice A5 l5 cap5], .agg #[.int .i64 u0, .int .u64 u1, .int .u64 u2, .int .u64 u3, .int .u64 u4, .slice U5 m5 cup5]] (wr.drewN n) fun e w' => e = .returned (.bool true) ∧ Below wr.heap.size wr w') := Lib.hid fun n => by
        have hbn : Below wr.heap.size wr (wr.drewN n) := below_drewN (Below.refl _ _) n
        refine (HI.out ks[j] _ _ B (wr.drewN n) (HR.out.below (hbn.mono hbz)) (HR'.out.below (hbn.mono hbz)) hbz).mono ?_
        rintro e w' ⟨h1, h2⟩
        exact ⟨h1, hbn.trans h2⟩
      have hi0 : (0 : Int) ≤ (j : Int) := by omega
      have hi1 : (j : Int) < (ks.length : Int) := by omega
      clear hel hel' hc hr hc' hr'
      go_wp2_with fail
      go_region_law (first
        | (go_simp; go_at_call 7; (refine (CI.out 1).mono ?_); rintro e w2 ⟨rfl, hb2⟩))
      all_goals
        have HB2 := Lib.hid (HB.out.trans (hb2.mono HB.out.size))
        have HK2 := Lib.hid (HKr.out.below hb2 HKr.out.lt)
        have HL2 := Lib.hid (HLr.out.below hb2 HLr.out.lt)
        clear hb2
        go_wp2_with fail
        go_roundw
        case rel => exact ⟨j + 1, by go_num, by omega, HB2, HK2, HL2⟩
        case measure => simp [intOf]; omega
    · obtain rfl : j = ks.length := by omega
      clear hel hel'
      go_wp2_with fail
      go_ret
      exact ⟨rfl, HB.out⟩
theorem same_any : ∀ d, SmOk 7 d
  | 0 => fun r cs cs' B w h => h.elim
  | d + 1 => same_step d (same_any d)
end Go.Proofs.Ytkdcgkdbieeijaa
