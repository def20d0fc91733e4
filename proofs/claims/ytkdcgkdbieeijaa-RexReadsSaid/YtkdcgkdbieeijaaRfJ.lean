/- Walk: wickref.ReadRex. (printed by gen_rfj.py) -/
import Derived.Test.YtkdcgkdbieeijaaPrsO
import Derived.Test.YtkdcgkdbieeijaaRfI
namespace Go.Proofs.Ytkdcgkdbieeijaa
open Go.RowKit
set_option linter.unusedVariables false
set_option linter.unusedSimpArgs false

section
variable (s : ByteArray) (w : World)
set_option maxHeartbeats 2000000 in
theorem read_big (h : 200 < s.size) : Calls Try.prog 6 #[.string s] w (RdRes s w) := by
  have HR : Hid (rdR 0 s = (tOne 0, 0, 2)) := Lib.hid (if_pos h)
  have HS := Lib.hid h
  have hc : decide ((200 : Int) < (s.size : Int)) = true := decide_eq_true (by omega)
  have HB9 : Hid (Below w.heap.size w (w.alloc (.cells #[.int .i64 0, .int .u64 0, .int .u64 0, .int .u64 0, .int .u64 0, .slice none 0 0] 27))) := Lib.hid ((Below.refl _ _).alloc (Nat.le_refl _) _)
  have HE9 := Lib.hid (Blk.new w 27 #[.int .i64 0, .int .u64 0, .int .u64 0, .int .u64 0, .int .u64 0, .slice none 0 0])
  clear h
  go_enter Try.func6, Try.ntmps6
  go_wp2_with fail
  obtain ⟨wk, hwk⟩ : ∃ wk, wk = w.alloc (.cells #[.int .i64 0, .int .u64 0, .int .u64 0, .int .u64 0, .int .u64 0, .slice none 0 0] 27) := ⟨_, rfl⟩
  rw [← hwk] at HB9 HE9 ⊢
  clear hwk
  have r0 : wk.cell? ⟨w.heap.size, 0, none⟩ = some (.int .i64 0) := HE9.out.cell 0
  have fr0 : wk.frozen? ⟨w.heap.size, 0, none⟩ = false := HE9.out.frozen 0
  have r1 : wk.cell? ⟨w.heap.size, 1, none⟩ = some (.int .u64 0) := HE9.out.cell 1
  have fr1 : wk.frozen? ⟨w.heap.size, 1, none⟩ = false := HE9.out.frozen 1
  have r2 : wk.cell? ⟨w.heap.size, 2, none⟩ = some (.int .u64 0) := HE9.out.cell 2
  have fr2 : wk.frozen? ⟨w.heap.size, 2, none⟩ = false := HE9.out.frozen 2
  have r3 : wk.cell? ⟨w.heap.size, 3, none⟩ = some (.int .u64 0) := HE9.out.cell 3
  have fr3 : wk.frozen? ⟨w.heap.size, 3, none⟩ = false := HE9.out.frozen 3
  have r4 : wk.cell? ⟨w.heap.size, 4, none⟩ = some (.int .u64 0) := HE9.out.cell 4
  have fr4 : wk.frozen? ⟨w.heap.size, 4, none⟩ = false := HE9.out.frozen 4
  have r5 : wk.cell? ⟨w.heap.size, 5, none⟩ = some (.slice none 0 0) := HE9.out.cell 5
  have fr5 : wk.frozen? ⟨w.heap.size, 5, none⟩ = false := HE9.out.frozen 5
  have HZT : Hid (RxT wk (fun b => w.heap.size ≤ b ∧ b < wk.heap.size) 1 (tOne 0) (six 0 0 0 0 0 none 0 0)) := Lib.hid (RxT.leaf _ _ 0 zq zq_ok (by decide) (by decide))
  go_wp2_with fail
  refine bodyPost_ret (v := .tuple #[.agg #[.int .i64 0, .int .u64 0, .int .u64 0, .int .u64 0, .int .u64 0, .slice none 0 0], .int .i64 0, .int .i64 2]) (by simp [results, Try.results6, go_sem, r0, r1, r2, r3, r4, r5]) rfl (RdRes.mk HR.out HZT.out (fun h => absurd HS.out (by omega)) HB9.out)
set_option maxRecDepth 100000 in
set_option maxHeartbeats 4000000 in
theorem read_small (hs : s.size ≤ 200) : Calls Try.prog 6 #[.string s] w (RdRes s w) := by
  obtain ⟨W, hW⟩ : ∃ W, (w.alloc (.cells #[.int .i64 0, .int .u64 0, .int .u64 0, .int .u64 0, .int .u64 0, .slice none 0 0] 27)).alloc (.cells #[.string s, .int .i64 0, .int .i64 0, .int .i64 0, .int .i64 0] 48) = W := ⟨_, rfl⟩
  have hWT : Tb W (w.heap.size + 1) s 0 0 0 0 := by
    rw [← hW]
    have := Blk.new (w.alloc (.cells #[.int .i64 0, .int .u64 0, .int .u64 0, .int .u64 0, .int .u64 0, .slice none 0 0] 27)) 48 #[.string s, .int .i64 0, .int .i64 0, .int .i64 0, .int .i64 0]
    rw [show (w.alloc (.cells #[.int .i64 0, .int .u64 0, .int .u64 0, .int .u64 0, .int .u64 0, .slice none 0 0] 27)).heap.size = w.heap.size + 1 by simp] at this
    exact this
  have hWR : Tq (270 - 0) W (w.heap.size + 1) s ⟨0, 0⟩ 0 := Tq.good (p := 0) hWT rfl (by omega)
  have hWE : Blk W w.heap.size 27 #[.int .i64 0, .int .u64 0, .int .u64 0, .int .u64 0, .int .u64 0, .slice none 0 0] := by rw [← hW]; exact Blk.alloc (Blk.new w _ _) _
  have hWB : Below w.heap.size w W := by rw [← hW]; exact ((Below.refl _ _).alloc (Nat.le_refl _) _).alloc (by simp) _
  have hWz : W.heap.size = w.heap.size + 2 := by rw [← hW]; simp
  have C0 := Lib.hid (altR s hs (w.heap.size + 1) W ⟨0, 0⟩ rfl (Nat.zero_le _) hWR)
  have HWE := Lib.hid hWE
  have HWB := Lib.hid hWB
  have hgo := (alF_go (amF_go s 20)) ⟨0, 0⟩ rfl (Nat.zero_le _)
  have hyp := hgo.1
  obtain ⟨T, hT⟩ : ∃ T, T = alF s (amF s 20) ⟨0, 0⟩ := ⟨_, rfl⟩
  rw [← hT] at C0 hyp
  have HT : Hid (rd1 s = T) := Lib.hid hT.symm
  obtain ⟨t, y⟩ := T
  have hc : decide ((200 : Int) < (s.size : Int)) = false := decide_eq_false (by omega)
  clear hWR hWE hWB hT hgo hWT
  dsimp only at hyp
  go_enter Try.func6, Try.ntmps6
  go_wp2_with fail
  refine C0.out.mono ?_
  rintro e w1 ⟨x0, x1, x2, x3, x4, xA, xl, xc, rfl, hr1, hk1, ht1⟩
  have hz1 : w.heap.size + 2 ≤ w1.heap.size := by have := hk1.size; omega
  have hal := (Below.refl w1.heap.size w1).alloc (Nat.le_refl _) (.cells #[.int .i64 x0, .int .u64 x1, .int .u64 x2, .int .u64 x3, .int .u64 x4, .slice xA xl xc] 27)
  have HE1 : Hid (Blk (w1.alloc (.cells #[.int .i64 x0, .int .u64 x1, .int .u64 x2, .int .u64 x3, .int .u64 x4, .slice xA xl xc] 27)) w.heap.size 27 #[.int .i64 0, .int .u64 0, .int .u64 0, .int .u64 0, .int .u64 0, .slice none 0 0]) := Lib.hid (Blk.alloc (hk1.blk HWE.out (by omega)) _)
  have HO1 := Lib.hid (Blk.new w1 27 #[.int .i64 x0, .int .u64 x1, .int .u64 x2, .int .u64 x3, .int .u64 x4, .slice xA xl xc])
  have HR1 : Hid (Tq (270 - 0) (w1.alloc (.cells #[.int .i64 x0, .int .u64 x1, .int .u64 x2, .int .u64 x3, .int .u64 x4, .slice xA xl xc] 27)) (w.heap.size + 1) s y 0) := Lib.hid (hr1.below hal)
  have HB1 : Hid (Below w.heap.size w (w1.alloc (.cells #[.int .i64 x0, .int .u64 x1, .int .u64 x2, .int .u64 x3, .int .u64 x4, .slice xA xl xc] 27))) := Lib.hid ((HWB.out.trans (hk1.below (by omega) (by omega))).alloc (by omega) _)
  have HT1 : Hid (y.e = 0 → ∃ n, RxT (w1.alloc (.cells #[.int .i64 x0, .int .u64 x1, .int .u64 x2, .int .u64 x3, .int .u64 x4, .slice xA xl xc] 27)) (fun b => w.heap.size < b ∧ b < (w1.alloc (.cells #[.int .i64 x0, .int .u64 x1, .int .u64 x2, .int .u64 x3, .int .u64 x4, .slice xA xl xc] 27)).heap.size) n t (six x0 x1 x2 x3 x4 xA xl xc)) := Lib.hid fun hy => by
    obtain ⟨n, hn⟩ := ht1 hy
    exact ⟨n, (hn.below hal fun b hb => hb.2).weak fun b hb => ⟨by omega, by simp; omega⟩⟩
  clear hr1 hk1 ht1 hW hWz hal
  go_upto_region 5 with fail
  obtain ⟨gT, hgT⟩ : ∃ gT, w1.heap.size = gT := ⟨_, rfl⟩
  rw [hgT] at HO1 ⊢
  obtain ⟨W1, hW1⟩ : ∃ W1, (w1.alloc (.cells #[.int .i64 x0, .int .u64 x1, .int .u64 x2, .int .u64 x3, .int .u64 x4, .slice xA xl xc] 27)) = W1 := ⟨_, rfl⟩
  rw [hW1] at HE1 HO1 HR1 HB1 HT1 ⊢
  clear hW1
  by_cases hy : y.e = 0
  · obtain ⟨r0, hr0⟩ := HR1.out.at0 hy
    obtain ⟨d0, d1, d2, d3, d4⟩ := hr0.facts
    have HRT := Lib.hid hr0
    have HY := Lib.hid hy
    obtain ⟨n, hn⟩ := HT1.out hy
    have HN := Lib.hid hn
    clear hy hn hr0
    by_cases hlt : y.p < s.size
    · have hl1 : decide ((y.p : Int) < (s.size : Int)) = true := decide_eq_true (by omega)
      have HYe : Hid (rdY s = ⟨y.p, 3⟩) := Lib.hid (by unfold rdY; rw [HT.out]; exact if_pos ⟨HY.out, hlt⟩)
      have HR : Hid (rdR 0 s = (tOne 0, (y.p : Int), 3)) := Lib.hid (by unfold rdR; rw [if_neg (by omega), HYe.out]; rfl)
      go_wp2_with fail
      refine (wrong_yes s _ 0 r0 (w.heap.size + 1) W1 3 (y.p : Int) HRT.out).mono ?_
      rintro e w2 ⟨rfl, hr2, hk2⟩
      have HE9 := Lib.hid (hk2.blk HE1.out (by omega))
      have HB9 := Lib.hid (HB1.out.trans (hk2.below HB1.out.size (by omega)))
      obtain ⟨q0, q1, q2, q3, q4⟩ := hr2.facts
      clear hr2 hk2 d0 d1 d2 d3 d4 HRT
      have r0 : w2.cell? ⟨w.heap.size, 0, none⟩ = some (.int .i64 0) := HE9.out.cell 0
      have fr0 : w2.frozen? ⟨w.heap.size, 0, none⟩ = false := HE9.out.frozen 0
      have r1 : w2.cell? ⟨w.heap.size, 1, none⟩ = some (.int .u64 0) := HE9.out.cell 1
      have fr1 : w2.frozen? ⟨w.heap.size, 1, none⟩ = false := HE9.out.frozen 1
      have r2 : w2.cell? ⟨w.heap.size, 2, none⟩ = some (.int .u64 0) := HE9.out.cell 2
      have fr2 : w2.frozen? ⟨w.heap.size, 2, none⟩ = false := HE9.out.frozen 2
      have r3 : w2.cell? ⟨w.heap.size, 3, none⟩ = some (.int .u64 0) := HE9.out.cell 3
      have fr3 : w2.frozen? ⟨w.heap.size, 3, none⟩ = false := HE9.out.frozen 3
      have r4 : w2.cell? ⟨w.heap.size, 4, none⟩ = some (.int .u64 0) := HE9.out.cell 4
      have fr4 : w2.frozen? ⟨w.heap.size, 4, none⟩ = false := HE9.out.frozen 4
      have r5 : w2.cell? ⟨w.heap.size, 5, none⟩ = some (.slice none 0 0) := HE9.out.cell 5
      have fr5 : w2.frozen? ⟨w.heap.size, 5, none⟩ = false := HE9.out.frozen 5
      have HZ : Hid (Blk (((((((w2.setCell ⟨w.heap.size, 0, none⟩ (.int .i64 0)).setCell ⟨w.heap.size, 1, none⟩ (.int .u64 0)).setCell ⟨w.heap.size, 2, none⟩ (.int .u64 0)).setCell ⟨w.heap.size, 3, none⟩ (.int .u64 0)).setCell ⟨w.heap.size, 4, none⟩ (.int .u64 0)).setCell ⟨w.heap.size, 5, none⟩ (.slice none 0 0))).drew w.heap.size 27 #[.int .i64 0, .int .u64 0, .int .u64 0, .int .u64 0, .int .u64 0, .slice none 0 0]) := Lib.hid (Blk.drewN (six_put (cs := [.int .i64 0, .int .u64 0, .int .u64 0, .int .u64 0, .int .u64 0, .slice none 0 0]) HE9.out rfl 0 0 0 0 0 none 0 0) 1)
      have HZB : Hid (Below w.heap.size w (((((((w2.setCell ⟨w.heap.size, 0, none⟩ (.int .i64 0)).setCell ⟨w.heap.size, 1, none⟩ (.int .u64 0)).setCell ⟨w.heap.size, 2, none⟩ (.int .u64 0)).setCell ⟨w.heap.size, 3, none⟩ (.int .u64 0)).setCell ⟨w.heap.size, 4, none⟩ (.int .u64 0)).setCell ⟨w.heap.size, 5, none⟩ (.slice none 0 0))).drew) := Lib.hid (below_drewN (put6_below HB9.out (Nat.le_refl _) 0 0 0 0 0 none 0 0) 1)
      go_wp2_with fail
      go_region
      go_wp2_with fail
      obtain ⟨wz, hwz⟩ : ∃ wz, wz = (((((((w2.setCell ⟨w.heap.size, 0, none⟩ (.int .i64 0)).setCell ⟨w.heap.size, 1, none⟩ (.int .u64 0)).setCell ⟨w.heap.size, 2, none⟩ (.int .u64 0)).setCell ⟨w.heap.size, 3, none⟩ (.int .u64 0)).setCell ⟨w.heap.size, 4, none⟩ (.int .u64 0)).setCell ⟨w.heap.size, 5, none⟩ (.slice none 0 0))).drew := ⟨_, rfl⟩
      have hz := HZ.out
      have hzb := HZB.out
      rw [← hwz] at hz hzb ⊢
      have z0 : wz.cell? ⟨w.heap.size, 0, none⟩ = some (.int .i64 0) := hz.cell 0
      have z1 : wz.cell? ⟨w.heap.size, 1, none⟩ = some (.int .u64 0) := hz.cell 1
      have z2 : wz.cell? ⟨w.heap.size, 2, none⟩ = some (.int .u64 0) := hz.cell 2
      have z3 : wz.cell? ⟨w.heap.size, 3, none⟩ = some (.int .u64 0) := hz.cell 3
      have z4 : wz.cell? ⟨w.heap.size, 4, none⟩ = some (.int .u64 0) := hz.cell 4
      have z5 : wz.cell? ⟨w.heap.size, 5, none⟩ = some (.slice none 0 0) := hz.cell 5
      have hzt : RxT wz (fun b => w.heap.size ≤ b ∧ b < wz.heap.size) 1 (tOne 0) (six 0 0 0 0 0 none 0 0) := RxT.leaf _ _ 0 zq zq_ok (by decide) (by decide)
      refine bodyPost_ret (v := .tuple #[.agg #[.int .i64 0, .int .u64 0, .int .u64 0, .int .u64 0, .int .u64 0, .slice none 0 0], .int .i64 (y.p : Int), .int .i64 3]) (by simp [results, Try.results6, go_sem, z0, z1, z2, z3, z4, z5]) rfl (RdRes.mk HR.out hzt (fun _ h => absurd h (by rw [HYe.out]; exact (show ¬ (3 : Int) = 0 by decide))) hzb)
    · have hl1 : decide ((y.p : Int) < (s.size : Int)) = false := decide_eq_false (by omega)
      have HYe : Hid (rdY s = y) := Lib.hid (by unfold rdY; rw [HT.out]; exact if_neg fun k => hlt k.2)
      have HFT : Hid (Fit n (rd1 s).1) := Lib.hid ⟨_, _, _, by rw [HT.out]; exact HN.out⟩
      have CK := Lib.hid (refRex_any n t _ W1.heap.size W1 (HN.out.rxC fun b hb => hb.2) (Nat.le_refl _))
      obtain ⟨E, hE⟩ : ∃ E, E = errR n t := ⟨_, rfl⟩
      rw [← hE] at CK
      have HEE := Lib.hid hE
      clear hE HRT
      have o0 : W1.cell? ⟨gT, 0, none⟩ = some (.int .i64 x0) := HO1.out.cell 0
      have o1 : W1.cell? ⟨gT, 1, none⟩ = some (.int .u64 x1) := HO1.out.cell 1
      have o2 : W1.cell? ⟨gT, 2, none⟩ = some (.int .u64 x2) := HO1.out.cell 2
      have o3 : W1.cell? ⟨gT, 3, none⟩ = some (.int .u64 x3) := HO1.out.cell 3
      have o4 : W1.cell? ⟨gT, 4, none⟩ = some (.int .u64 x4) := HO1.out.cell 4
      have o5 : W1.cell? ⟨gT, 5, none⟩ = some (.slice xA xl xc) := HO1.out.cell 5
      go_wp2_with fail
      refine CK.out.mono ?_
      rintro e w2 ⟨rfl, hb2⟩
      have HE9 := Lib.hid (Blk.below HE1.out hb2 (Blk.lt HE1.out))
      have HB9 := Lib.hid (HB1.out.trans (hb2.mono HB1.out.size))
      have HO2 := Lib.hid (Blk.below HO1.out hb2 (Blk.lt HO1.out))
      have HN2 := Lib.hid (HN.out.below hb2 fun b hb => hb.2)
      have hz2 := hb2.size
      clear hb2 o0 o1 o2 o3 o4 o5 d0 d1 d2 d3 d4
      by_cases hE0 : E = 0
      · subst hE0
        have HR : Hid (rdR n s = (t, 0, 0)) := Lib.hid (by unfold rdR; rw [if_neg (by omega), HYe.out, if_neg (fun k => k HY.out), HT.out, ← HEE.out]; rfl)
        have o0 : w2.cell? ⟨gT, 0, none⟩ = some (.int .i64 x0) := HO2.out.cell 0
        have o1 : w2.cell? ⟨gT, 1, none⟩ = some (.int .u64 x1) := HO2.out.cell 1
        have o2 : w2.cell? ⟨gT, 2, none⟩ = some (.int .u64 x2) := HO2.out.cell 2
        have o3 : w2.cell? ⟨gT, 3, none⟩ = some (.int .u64 x3) := HO2.out.cell 3
        have o4 : w2.cell? ⟨gT, 4, none⟩ = some (.int .u64 x4) := HO2.out.cell 4
        have o5 : w2.cell? ⟨gT, 5, none⟩ = some (.slice xA xl xc) := HO2.out.cell 5
        have r0 : w2.cell? ⟨w.heap.size, 0, none⟩ = some (.int .i64 0) := HE9.out.cell 0
        have fr0 : w2.frozen? ⟨w.heap.size, 0, none⟩ = false := HE9.out.frozen 0
        have r1 : w2.cell? ⟨w.heap.size, 1, none⟩ = some (.int .u64 0) := HE9.out.cell 1
        have fr1 : w2.frozen? ⟨w.heap.size, 1, none⟩ = false := HE9.out.frozen 1
        have r2 : w2.cell? ⟨w.heap.size, 2, none⟩ = some (.int .u64 0) := HE9.out.cell 2
        have fr2 : w2.frozen? ⟨w.heap.size, 2, none⟩ = false := HE9.out.frozen 2
        have r3 : w2.cell? ⟨w.heap.size, 3, none⟩ = some (.int .u64 0) := HE9.out.cell 3
        have fr3 : w2.frozen? ⟨w.heap.size, 3, none⟩ = false := HE9.out.frozen 3
        have r4 : w2.cell? ⟨w.heap.size, 4, none⟩ = some (.int .u64 0) := HE9.out.cell 4
        have fr4 : w2.frozen? ⟨w.heap.size, 4, none⟩ = false := HE9.out.frozen 4
        have r5 : w2.cell? ⟨w.heap.size, 5, none⟩ = some (.slice none 0 0) := HE9.out.cell 5
        have fr5 : w2.frozen? ⟨w.heap.size, 5, none⟩ = false := HE9.out.frozen 5
        have HZ := Lib.hid (six_put (cs := [.int .i64 0, .int .u64 0, .int .u64 0, .int .u64 0, .int .u64 0, .slice none 0 0]) HE9.out rfl x0 x1 x2 x3 x4 xA xl xc)
        have HZB : Hid (Below w.heap.size w ((((((w2.setCell ⟨w.heap.size, 0, none⟩ (.int .i64 x0)).setCell ⟨w.heap.size, 1, none⟩ (.int .u64 x1)).setCell ⟨w.heap.size, 2, none⟩ (.int .u64 x2)).setCell ⟨w.heap.size, 3, none⟩ (.int .u64 x3)).setCell ⟨w.heap.size, 4, none⟩ (.int .u64 x4)).setCell ⟨w.heap.size, 5, none⟩ (.slice xA xl xc))) := Lib.hid (put6_below HB9.out (Nat.le_refl _) x0 x1 x2 x3 x4 xA xl xc)
        have HZT : Hid (RxT ((((((w2.setCell ⟨w.heap.size, 0, none⟩ (.int .i64 x0)).setCell ⟨w.heap.size, 1, none⟩ (.int .u64 x1)).setCell ⟨w.heap.size, 2, none⟩ (.int .u64 x2)).setCell ⟨w.heap.size, 3, none⟩ (.int .u64 x3)).setCell ⟨w.heap.size, 4, none⟩ (.int .u64 x4)).setCell ⟨w.heap.size, 5, none⟩ (.slice xA xl xc)) (fun b => w.heap.size ≤ b ∧ b < (((((((w2.setCell ⟨w.heap.size, 0, none⟩ (.int .i64 x0)).setCell ⟨w.heap.size, 1, none⟩ (.int .u64 x1)).setCell ⟨w.heap.size, 2, none⟩ (.int .u64 x2)).setCell ⟨w.heap.size, 3, none⟩ (.int .u64 x3)).setCell ⟨w.heap.size, 4, none⟩ (.int .u64 x4)).setCell ⟨w.heap.size, 5, none⟩ (.slice xA xl xc))).heap.size) n t (six x0 x1 x2 x3 x4 xA xl xc)) := Lib.hid (by exact (HN2.out.put6 (g := w.heap.size) (fun hh => absurd hh.1 (Nat.lt_irrefl _)) x0 x1 x2 x3 x4 xA xl xc).weak fun b hb => ⟨Nat.le_of_lt hb.1, by rw [size_put6]; omega⟩)
        go_wp2_with fail
        obtain ⟨wz, hwz⟩ : ∃ wz, wz = ((((((w2.setCell ⟨w.heap.size, 0, none⟩ (.int .i64 x0)).setCell ⟨w.heap.size, 1, none⟩ (.int .u64 x1)).setCell ⟨w.heap.size, 2, none⟩ (.int .u64 x2)).setCell ⟨w.heap.size, 3, none⟩ (.int .u64 x3)).setCell ⟨w.heap.size, 4, none⟩ (.int .u64 x4)).setCell ⟨w.heap.size, 5, none⟩ (.slice xA xl xc)) := ⟨_, rfl⟩
        have hz := HZ.out
        have hzb := HZB.out
        have hzt := HZT.out
        rw [← hwz] at hz hzb hzt ⊢
        have z0 : wz.cell? ⟨w.heap.size, 0, none⟩ = some (.int .i64 x0) := hz.cell 0
        have z1 : wz.cell? ⟨w.heap.size, 1, none⟩ = some (.int .u64 x1) := hz.cell 1
        have z2 : wz.cell? ⟨w.heap.size, 2, none⟩ = some (.int .u64 x2) := hz.cell 2
        have z3 : wz.cell? ⟨w.heap.size, 3, none⟩ = some (.int .u64 x3) := hz.cell 3
        have z4 : wz.cell? ⟨w.heap.size, 4, none⟩ = some (.int .u64 x4) := hz.cell 4
        have z5 : wz.cell? ⟨w.heap.size, 5, none⟩ = some (.slice xA xl xc) := hz.cell 5
        refine bodyPost_ret (v := .tuple #[.agg #[.int .i64 x0, .int .u64 x1, .int .u64 x2, .int .u64 x3, .int .u64 x4, .slice xA xl xc], .int .i64 0, .int .i64 0]) (by simp [results, Try.results6, go_sem, z0, z1, z2, z3, z4, z5]) rfl (RdRes.mk HR.out hzt (fun _ _ => HFT.out) hzb)
      · have hE1 : (E != 0) = true := bne_iff_ne.2 hE0
        have HR : Hid (rdR n s = (tOne 0, (s.size : Int), E)) := Lib.hid (by unfold rdR; rw [if_neg (by omega), HYe.out, if_neg (fun k => k HY.out), HT.out, ← HEE.out]; exact if_pos hE0)
        clear hE0
        have r0 : w2.cell? ⟨w.heap.size, 0, none⟩ = some (.int .i64 0) := HE9.out.cell 0
        have fr0 : w2.frozen? ⟨w.heap.size, 0, none⟩ = false := HE9.out.frozen 0
        have r1 : w2.cell? ⟨w.heap.size, 1, none⟩ = some (.int .u64 0) := HE9.out.cell 1
        have fr1 : w2.frozen? ⟨w.heap.size, 1, none⟩ = false := HE9.out.frozen 1
        have r2 : w2.cell? ⟨w.heap.size, 2, none⟩ = some (.int .u64 0) := HE9.out.cell 2
        have fr2 : w2.frozen? ⟨w.heap.size, 2, none⟩ = false := HE9.out.frozen 2
        have r3 : w2.cell? ⟨w.heap.size, 3, none⟩ = some (.int .u64 0) := HE9.out.cell 3
        have fr3 : w2.frozen? ⟨w.heap.size, 3, none⟩ = false := HE9.out.frozen 3
        have r4 : w2.cell? ⟨w.heap.size, 4, none⟩ = some (.int .u64 0) := HE9.out.cell 4
        have fr4 : w2.frozen? ⟨w.heap.size, 4, none⟩ = false := HE9.out.frozen 4
        have r5 : w2.cell? ⟨w.heap.size, 5, none⟩ = some (.slice none 0 0) := HE9.out.cell 5
        have fr5 : w2.frozen? ⟨w.heap.size, 5, none⟩ = false := HE9.out.frozen 5
        have HZ : Hid (Blk ((((((w2.setCell ⟨w.heap.size, 0, none⟩ (.int .i64 0)).setCell ⟨w.heap.size, 1, none⟩ (.int .u64 0)).setCell ⟨w.heap.size, 2, none⟩ (.int .u64 0)).setCell ⟨w.heap.size, 3, none⟩ (.int .u64 0)).setCell ⟨w.heap.size, 4, none⟩ (.int .u64 0)).setCell ⟨w.heap.size, 5, none⟩ (.slice none 0 0)) w.heap.size 27 #[.int .i64 0, .int .u64 0, .int .u64 0, .int .u64 0, .int .u64 0, .slice none 0 0]) := Lib.hid (six_put (cs := [.int .i64 0, .int .u64 0, .int .u64 0, .int .u64 0, .int .u64 0, .slice none 0 0]) HE9.out rfl 0 0 0 0 0 none 0 0)
        have HZB : Hid (Below w.heap.size w ((((((w2.setCell ⟨w.heap.size, 0, none⟩ (.int .i64 0)).setCell ⟨w.heap.size, 1, none⟩ (.int .u64 0)).setCell ⟨w.heap.size, 2, none⟩ (.int .u64 0)).setCell ⟨w.heap.size, 3, none⟩ (.int .u64 0)).setCell ⟨w.heap.size, 4, none⟩ (.int .u64 0)).setCell ⟨w.heap.size, 5, none⟩ (.slice none 0 0))) := Lib.hid (put6_below HB9.out (Nat.le_refl _) 0 0 0 0 0 none 0 0)
        go_wp2_with fail
        obtain ⟨wz, hwz⟩ : ∃ wz, wz = ((((((w2.setCell ⟨w.heap.size, 0, none⟩ (.int .i64 0)).setCell ⟨w.heap.size, 1, none⟩ (.int .u64 0)).setCell ⟨w.heap.size, 2, none⟩ (.int .u64 0)).setCell ⟨w.heap.size, 3, none⟩ (.int .u64 0)).setCell ⟨w.heap.size, 4, none⟩ (.int .u64 0)).setCell ⟨w.heap.size, 5, none⟩ (.slice none 0 0)) := ⟨_, rfl⟩
        have hz := HZ.out
        have hzb := HZB.out
        rw [← hwz] at hz hzb ⊢
        have z0 : wz.cell? ⟨w.heap.size, 0, none⟩ = some (.int .i64 0) := hz.cell 0
        have z1 : wz.cell? ⟨w.heap.size, 1, none⟩ = some (.int .u64 0) := hz.cell 1
        have z2 : wz.cell? ⟨w.heap.size, 2, none⟩ = some (.int .u64 0) := hz.cell 2
        have z3 : wz.cell? ⟨w.heap.size, 3, none⟩ = some (.int .u64 0) := hz.cell 3
        have z4 : wz.cell? ⟨w.heap.size, 4, none⟩ = some (.int .u64 0) := hz.cell 4
        have z5 : wz.cell? ⟨w.heap.size, 5, none⟩ = some (.slice none 0 0) := hz.cell 5
        have hzt : RxT wz (fun b => w.heap.size ≤ b ∧ b < wz.heap.size) 1 (tOne 0) (six 0 0 0 0 0 none 0 0) := RxT.leaf _ _ 0 zq zq_ok (by decide) (by decide)
        refine bodyPost_ret (v := .tuple #[.agg #[.int .i64 0, .int .u64 0, .int .u64 0, .int .u64 0, .int .u64 0, .slice none 0 0], .int .i64 (s.size : Int), .int .i64 E]) (by simp [results, Try.results6, go_sem, z0, z1, z2, z3, z4, z5]) rfl (RdRes.mk HR.out hzt (fun _ _ => HFT.out) hzb)
  · obtain ⟨aa, rr, htt, hta, htr, ht0, ht1⟩ := HR1.out
    have hrr := htr hy
    subst hrr
    have hy1 : (y.e == 0) = false := beq_eq_false_iff_ne.2 hy
    have hy2 : (y.e != 0) = true := bne_iff_ne.2 hy
    have HYe : Hid (rdY s = y) := Lib.hid (by unfold rdY; rw [HT.out]; exact if_neg fun k => hy k.1)
    have HYn := Lib.hid hy
    have HR : Hid (rdR 0 s = (tOne 0, (y.p : Int), y.e)) := Lib.hid (by unfold rdR; rw [if_neg (by omega), HYe.out]; exact if_pos hy)
    have HE9 := HE1
    have HB9 := HB1
    have CWn := Lib.hid (wrong_no s aa 0 (y.p : Int) (w.heap.size + 1) W1 3 aa y.e hy htt)
    obtain ⟨d0, d1, d2, d3, d4⟩ := htt.facts
    clear hy htt hta htr
    by_cases hlt : aa < (s.size : Int)
    · have hl1 : decide (aa < (s.size : Int)) = true := decide_eq_true hlt
      go_wp2_with fail
      refine CWn.out.mono ?_
      rintro e w2 ⟨rfl, rfl⟩
      have r0 : w2.cell? ⟨w.heap.size, 0, none⟩ = some (.int .i64 0) := HE9.out.cell 0
      have fr0 : w2.frozen? ⟨w.heap.size, 0, none⟩ = false := HE9.out.frozen 0
      have r1 : w2.cell? ⟨w.heap.size, 1, none⟩ = some (.int .u64 0) := HE9.out.cell 1
      have fr1 : w2.frozen? ⟨w.heap.size, 1, none⟩ = false := HE9.out.frozen 1
      have r2 : w2.cell? ⟨w.heap.size, 2, none⟩ = some (.int .u64 0) := HE9.out.cell 2
      have fr2 : w2.frozen? ⟨w.heap.size, 2, none⟩ = false := HE9.out.frozen 2
      have r3 : w2.cell? ⟨w.heap.size, 3, none⟩ = some (.int .u64 0) := HE9.out.cell 3
      have fr3 : w2.frozen? ⟨w.heap.size, 3, none⟩ = false := HE9.out.frozen 3
      have r4 : w2.cell? ⟨w.heap.size, 4, none⟩ = some (.int .u64 0) := HE9.out.cell 4
      have fr4 : w2.frozen? ⟨w.heap.size, 4, none⟩ = false := HE9.out.frozen 4
      have r5 : w2.cell? ⟨w.heap.size, 5, none⟩ = some (.slice none 0 0) := HE9.out.cell 5
      have fr5 : w2.frozen? ⟨w.heap.size, 5, none⟩ = false := HE9.out.frozen 5
      have HZ : Hid (Blk (((((((w2.setCell ⟨w.heap.size, 0, none⟩ (.int .i64 0)).setCell ⟨w.heap.size, 1, none⟩ (.int .u64 0)).setCell ⟨w.heap.size, 2, none⟩ (.int .u64 0)).setCell ⟨w.heap.size, 3, none⟩ (.int .u64 0)).setCell ⟨w.heap.size, 4, none⟩ (.int .u64 0)).setCell ⟨w.heap.size, 5, none⟩ (.slice none 0 0))).drew w.heap.size 27 #[.int .i64 0, .int .u64 0, .int .u64 0, .int .u64 0, .int .u64 0, .slice none 0 0]) := Lib.hid (Blk.drewN (six_put (cs := [.int .i64 0, .int .u64 0, .int .u64 0, .int .u64 0, .int .u64 0, .slice none 0 0]) HE9.out rfl 0 0 0 0 0 none 0 0) 1)
      have HZB : Hid (Below w.heap.size w (((((((w2.setCell ⟨w.heap.size, 0, none⟩ (.int .i64 0)).setCell ⟨w.heap.size, 1, none⟩ (.int .u64 0)).setCell ⟨w.heap.size, 2, none⟩ (.int .u64 0)).setCell ⟨w.heap.size, 3, none⟩ (.int .u64 0)).setCell ⟨w.heap.size, 4, none⟩ (.int .u64 0)).setCell ⟨w.heap.size, 5, none⟩ (.slice none 0 0))).drew) := Lib.hid (below_drewN (put6_below HB9.out (Nat.le_refl _) 0 0 0 0 0 none 0 0) 1)
      go_wp2_with fail
      go_region
      go_wp2_with fail
      obtain ⟨wz, hwz⟩ : ∃ wz, wz = (((((((w2.setCell ⟨w.heap.size, 0, none⟩ (.int .i64 0)).setCell ⟨w.heap.size, 1, none⟩ (.int .u64 0)).setCell ⟨w.heap.size, 2, none⟩ (.int .u64 0)).setCell ⟨w.heap.size, 3, none⟩ (.int .u64 0)).setCell ⟨w.heap.size, 4, none⟩ (.int .u64 0)).setCell ⟨w.heap.size, 5, none⟩ (.slice none 0 0))).drew := ⟨_, rfl⟩
      have hz := HZ.out
      have hzb := HZB.out
      rw [← hwz] at hz hzb ⊢
      have z0 : wz.cell? ⟨w.heap.size, 0, none⟩ = some (.int .i64 0) := hz.cell 0
      have z1 : wz.cell? ⟨w.heap.size, 1, none⟩ = some (.int .u64 0) := hz.cell 1
      have z2 : wz.cell? ⟨w.heap.size, 2, none⟩ = some (.int .u64 0) := hz.cell 2
      have z3 : wz.cell? ⟨w.heap.size, 3, none⟩ = some (.int .u64 0) := hz.cell 3
      have z4 : wz.cell? ⟨w.heap.size, 4, none⟩ = some (.int .u64 0) := hz.cell 4
      have z5 : wz.cell? ⟨w.heap.size, 5, none⟩ = some (.slice none 0 0) := hz.cell 5
      have hzt : RxT wz (fun b => w.heap.size ≤ b ∧ b < wz.heap.size) 1 (tOne 0) (six 0 0 0 0 0 none 0 0) := RxT.leaf _ _ 0 zq zq_ok (by decide) (by decide)
      refine bodyPost_ret (v := .tuple #[.agg #[.int .i64 0, .int .u64 0, .int .u64 0, .int .u64 0, .int .u64 0, .slice none 0 0], .int .i64 (y.p : Int), .int .i64 y.e]) (by simp [results, Try.results6, go_sem, z0, z1, z2, z3, z4, z5]) rfl (RdRes.mk HR.out hzt (fun _ h => absurd h (by rw [HYe.out]; exact HYn.out)) hzb)
    · have hl1 : decide (aa < (s.size : Int)) = false := decide_eq_false hlt
      have r0 : W1.cell? ⟨w.heap.size, 0, none⟩ = some (.int .i64 0) := HE9.out.cell 0
      have fr0 : W1.frozen? ⟨w.heap.size, 0, none⟩ = false := HE9.out.frozen 0
      have r1 : W1.cell? ⟨w.heap.size, 1, none⟩ = some (.int .u64 0) := HE9.out.cell 1
      have fr1 : W1.frozen? ⟨w.heap.size, 1, none⟩ = false := HE9.out.frozen 1
      have r2 : W1.cell? ⟨w.heap.size, 2, none⟩ = some (.int .u64 0) := HE9.out.cell 2
      have fr2 : W1.frozen? ⟨w.heap.size, 2, none⟩ = false := HE9.out.frozen 2
      have r3 : W1.cell? ⟨w.heap.size, 3, none⟩ = some (.int .u64 0) := HE9.out.cell 3
      have fr3 : W1.frozen? ⟨w.heap.size, 3, none⟩ = false := HE9.out.frozen 3
      have r4 : W1.cell? ⟨w.heap.size, 4, none⟩ = some (.int .u64 0) := HE9.out.cell 4
      have fr4 : W1.frozen? ⟨w.heap.size, 4, none⟩ = false := HE9.out.frozen 4
      have r5 : W1.cell? ⟨w.heap.size, 5, none⟩ = some (.slice none 0 0) := HE9.out.cell 5
      have fr5 : W1.frozen? ⟨w.heap.size, 5, none⟩ = false := HE9.out.frozen 5
      have HZ : Hid (Blk (((((((W1.setCell ⟨w.heap.size, 0, none⟩ (.int .i64 0)).setCell ⟨w.heap.size, 1, none⟩ (.int .u64 0)).setCell ⟨w.heap.size, 2, none⟩ (.int .u64 0)).setCell ⟨w.heap.size, 3, none⟩ (.int .u64 0)).setCell ⟨w.heap.size, 4, none⟩ (.int .u64 0)).setCell ⟨w.heap.size, 5, none⟩ (.slice none 0 0))).drew w.heap.size 27 #[.int .i64 0, .int .u64 0, .int .u64 0, .int .u64 0, .int .u64 0, .slice none 0 0]) := Lib.hid (Blk.drewN (six_put (cs := [.int .i64 0, .int .u64 0, .int .u64 0, .int .u64 0, .int .u64 0, .slice none 0 0]) HE9.out rfl 0 0 0 0 0 none 0 0) 1)
      have HZB : Hid (Below w.heap.size w (((((((W1.setCell ⟨w.heap.size, 0, none⟩ (.int .i64 0)).setCell ⟨w.heap.size, 1, none⟩ (.int .u64 0)).setCell ⟨w.heap.size, 2, none⟩ (.int .u64 0)).setCell ⟨w.heap.size, 3, none⟩ (.int .u64 0)).setCell ⟨w.heap.size, 4, none⟩ (.int .u64 0)).setCell ⟨w.heap.size, 5, none⟩ (.slice none 0 0))).drew) := Lib.hid (below_drewN (put6_below HB9.out (Nat.le_refl _) 0 0 0 0 0 none 0 0) 1)
      go_wp2_with fail
      go_region
      go_wp2_with fail
      obtain ⟨wz, hwz⟩ : ∃ wz, wz = (((((((W1.setCell ⟨w.heap.size, 0, none⟩ (.int .i64 0)).setCell ⟨w.heap.size, 1, none⟩ (.int .u64 0)).setCell ⟨w.heap.size, 2, none⟩ (.int .u64 0)).setCell ⟨w.heap.size, 3, none⟩ (.int .u64 0)).setCell ⟨w.heap.size, 4, none⟩ (.int .u64 0)).setCell ⟨w.heap.size, 5, none⟩ (.slice none 0 0))).drew := ⟨_, rfl⟩
      have hz := HZ.out
      have hzb := HZB.out
      rw [← hwz] at hz hzb ⊢
      have z0 : wz.cell? ⟨w.heap.size, 0, none⟩ = some (.int .i64 0) := hz.cell 0
      have z1 : wz.cell? ⟨w.heap.size, 1, none⟩ = some (.int .u64 0) := hz.cell 1
      have z2 : wz.cell? ⟨w.heap.size, 2, none⟩ = some (.int .u64 0) := hz.cell 2
      have z3 : wz.cell? ⟨w.heap.size, 3, none⟩ = some (.int .u64 0) := hz.cell 3
      have z4 : wz.cell? ⟨w.heap.size, 4, none⟩ = some (.int .u64 0) := hz.cell 4
      have z5 : wz.cell? ⟨w.heap.size, 5, none⟩ = some (.slice none 0 0) := hz.cell 5
      have hzt : RxT wz (fun b => w.heap.size ≤ b ∧ b < wz.heap.size) 1 (tOne 0) (six 0 0 0 0 0 none 0 0) := RxT.leaf _ _ 0 zq zq_ok (by decide) (by decide)
      refine bodyPost_ret (v := .tuple #[.agg #[.int .i64 0, .int .u64 0, .int .u64 0, .int .u64 0, .int .u64 0, .slice none 0 0], .int .i64 (y.p : Int), .int .i64 y.e]) (by simp [results, Try.results6, go_sem, z0, z1, z2, z3, z4, z5]) rfl (RdRes.mk HR.out hzt (fun _ h => absurd h (by rw [HYe.out]; exact HYn.out)) hzb)
end
end Go.Proofs.Ytkdcgkdbieeijaa
