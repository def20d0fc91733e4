/- Walk: (*rex.reader).row. (printed by gen_prsi.py) -/
import Derived.Test.YtkdcgkdbieeijaaPrsH
namespace Go.Proofs.Ytkdcgkdbieeijaa
open Go.RowKit
set_option linter.unusedVariables false
set_option linter.unusedSimpArgs false

/-- a reading goes on, if nothing goes wrong -/
def GoS (s : ByteArray) (f : Sx → Rx × Sx) : Prop := ∀ x : Sx, x.e = 0 → x.p ≤ s.size → Go1 s x (f x).2
theorem enB_no {s : ByteArray} {x : Sx} (h : ¬ enB s x = true) : x.e = 0 ∧ x.p < s.size := by
  refine nx_some (s := s) ?_
  unfold enB at h
  rw [decide_eq_true_eq] at h
  omega
theorem lpR_stop {s : ByteArray} {A : Sx → Rx × Sx} {t : Rx} {x : Sx} (m : Nat) (h : enB s x = true) : lpR s A m t x = (t, x) := by
  cases m with
  | zero => rfl
  | succ m => rw [lpR, if_pos h]
theorem lpR_go {s : ByteArray} {A : Sx → Rx × Sx} {t : Rx} {x : Sx} {m : Nat} (h : ¬ enB s x = true) : lpR s A (m + 1) t x = lpR s A m (tTwo 4 t (A x).1) (A x).2 := by rw [lpR, if_neg h]
set_option maxRecDepth 100000 in
set_option maxHeartbeats 8000000 in
theorem row_ok (s : ByteArray) (hs : s.size ≤ 200) (op : Int) (R : Sx → Rx × Sx) (hRow : PsOk 46 op s R) (hGo : GoS s R) : PsOk 28 op s (rwF s R) := by
  intro g w x he hp hR
  have HROW := Lib.hid hRow
  have HGO := Lib.hid hGo
  clear hRow hGo
  obtain ⟨W, hW⟩ : ∃ W, w.alloc (.cells #[.int .i64 0, .int .u64 0, .int .u64 0, .int .u64 0, .int .u64 0, .slice none 0 0] 27) = W := ⟨_, rfl⟩
  have hWR : Rd W g s x op := by rw [← hW]; exact Blk.alloc hR _
  have hWE : Blk W w.heap.size 27 #[.int .i64 0, .int .u64 0, .int .u64 0, .int .u64 0, .int .u64 0, .slice none 0 0] := by rw [← hW]; exact Blk.new w _ _
  have hWK : KeptOff w W g := by rw [← hW]; exact KeptOff.refl.alloc _
  have hglt : g < w.heap.size := Blk.lt hR
  have hWz : W.heap.size = w.heap.size + 1 := by rw [← hW]; simp
  have CE0 := Lib.hid (ends_any s x op g W hp hWR)
  have HWR := Lib.hid hWR
  have HWE := Lib.hid hWE
  have HWK := Lib.hid hWK
  obtain ⟨F, hF⟩ : ∃ F, F = rwF s R x := ⟨_, rfl⟩
  rw [← hF]
  by_cases hen : enB s x = true
  · have HFe : Hid (F = (tOne 2, x)) := Lib.hid (by rw [hF]; unfold rwF; rw [if_pos hen])
    rw [hen] at CE0
    clear hWR hWE hWK hF hen
    go_enter Try.func28, Try.ntmps28
    go_wp2_with fail
    refine CE0.out.mono ?_
    rintro e w9 ⟨rfl, qq, hq9⟩
    have hre : Blk w9 w.heap.size 27 #[.int .i64 0, .int .u64 0, .int .u64 0, .int .u64 0, .int .u64 0, .slice none 0 0] := by rw [hq9]; exact HWE.out.drewN qq
    have hko : KeptOff w w9 g := by rw [hq9]; exact HWK.out.drewN qq
    have hrd : Rd w9 g s x op := by rw [hq9]; exact HWR.out.drewN qq
    clear hq9
    have r0 : w9.cell? ⟨w.heap.size, 0, none⟩ = some (.int .i64 0) := hre.cell 0
    have fr0 : w9.frozen? ⟨w.heap.size, 0, none⟩ = false := hre.frozen 0
    have r1 : w9.cell? ⟨w.heap.size, 1, none⟩ = some (.int .u64 0) := hre.cell 1
    have fr1 : w9.frozen? ⟨w.heap.size, 1, none⟩ = false := hre.frozen 1
    have r2 : w9.cell? ⟨w.heap.size, 2, none⟩ = some (.int .u64 0) := hre.cell 2
    have fr2 : w9.frozen? ⟨w.heap.size, 2, none⟩ = false := hre.frozen 2
    have r3 : w9.cell? ⟨w.heap.size, 3, none⟩ = some (.int .u64 0) := hre.cell 3
    have fr3 : w9.frozen? ⟨w.heap.size, 3, none⟩ = false := hre.frozen 3
    have r4 : w9.cell? ⟨w.heap.size, 4, none⟩ = some (.int .u64 0) := hre.cell 4
    have fr4 : w9.frozen? ⟨w.heap.size, 4, none⟩ = false := hre.frozen 4
    have r5 : w9.cell? ⟨w.heap.size, 5, none⟩ = some (.slice none 0 0) := hre.cell 5
    have fr5 : w9.frozen? ⟨w.heap.size, 5, none⟩ = false := hre.frozen 5
    have HZ := Lib.hid (six_put (cs := [.int .i64 0, .int .u64 0, .int .u64 0, .int .u64 0, .int .u64 0, .slice none 0 0]) hre rfl 2 0 0 0 0 none 0 0)
    have HZK := Lib.hid (hko.put6 (Nat.le_refl _) 2 0 0 0 0 none 0 0)
    have HZR := Lib.hid (Blk.far6 hrd (by omega : w.heap.size ≠ g) 2 0 0 0 0 none 0 0)
    clear hre hko hrd hW hWz
    go_wp2_with fail
    obtain ⟨wz, hwz⟩ : ∃ wz, wz = ((((((w9.setCell ⟨w.heap.size, 0, none⟩ (.int .i64 2)).setCell ⟨w.heap.size, 1, none⟩ (.int .u64 0)).setCell ⟨w.heap.size, 2, none⟩ (.int .u64 0)).setCell ⟨w.heap.size, 3, none⟩ (.int .u64 0)).setCell ⟨w.heap.size, 4, none⟩ (.int .u64 0)).setCell ⟨w.heap.size, 5, none⟩ (.slice none 0 0)) := ⟨_, rfl⟩
    have hz := HZ.out
    have hzk := HZK.out
    have hzr := HZR.out
    rw [← hwz] at hz hzk hzr ⊢
    have z0 : wz.cell? ⟨w.heap.size, 0, none⟩ = some (.int .i64 2) := hz.cell 0
    have z1 : wz.cell? ⟨w.heap.size, 1, none⟩ = some (.int .u64 0) := hz.cell 1
    have z2 : wz.cell? ⟨w.heap.size, 2, none⟩ = some (.int .u64 0) := hz.cell 2
    have z3 : wz.cell? ⟨w.heap.size, 3, none⟩ = some (.int .u64 0) := hz.cell 3
    have z4 : wz.cell? ⟨w.heap.size, 4, none⟩ = some (.int .u64 0) := hz.cell 4
    have z5 : wz.cell? ⟨w.heap.size, 5, none⟩ = some (.slice none 0 0) := hz.cell 5
    refine bodyPost_ret (v := .agg #[.int .i64 2, .int .u64 0, .int .u64 0, .int .u64 0, .int .u64 0, .slice none 0 0]) (by simp [results, Try.results28, go_sem, z0, z1, z2, z3, z4, z5]) rfl ⟨2, 0, 0, 0, 0, none, 0, 0, rfl, by rw [HFe.out]; exact hzr, hzk, fun hy => by
      rw [HFe.out]
      exact ⟨1, RxT.leaf wz _ 2 zq zq_ok (by decide) (by decide)⟩⟩
  · have C0 := Lib.hid fun w' hr => HROW.out g w' x he hp hr
    have hY0 := HGO.out x he hp
    have hFx : F = lpR s R (s.size + 1) (R x).1 (R x).2 := by rw [hF]; unfold rwF; rw [if_neg hen]
    obtain ⟨Y0, hY⟩ : ∃ Y0, Y0 = R x := ⟨_, rfl⟩
    have C0' := C0.out
    rw [← hY] at C0' hFx hY0
    have C0 := Lib.hid C0'
    have HF := Lib.hid hFx
    rw [Bool.not_eq_true] at hen
    rw [hen] at CE0
    clear hWR hWE hWK hR hF hFx hY hen C0'
    go_enter Try.func28, Try.ntmps28
    go_wp2_with fail
    refine CE0.out.mono ?_
    rintro e w0 ⟨rfl, qq, hq0⟩
    have hWE0 : Blk w0 w.heap.size 27 #[.int .i64 0, .int .u64 0, .int .u64 0, .int .u64 0, .int .u64 0, .slice none 0 0] := by rw [hq0]; exact HWE.out.drewN qq
    have hWK0 : KeptOff w w0 g := by rw [hq0]; exact HWK.out.drewN qq
    have hWR0 : Rd w0 g s x op := by rw [hq0]; exact HWR.out.drewN qq
    have hWz0 : w0.heap.size = w.heap.size + 1 := by rw [hq0]; exact hWz
    have HWE := Lib.hid hWE0
    have HWK := Lib.hid hWK0
    have HWR := Lib.hid hWR0
    clear hq0 hWE0 hWK0 hWR0
    go_wp2_with fail
    refine (C0.out _ HWR.out).mono ?_
    rintro e w1 ⟨x0, x1, x2, x3, x4, xA, xl, xc, rfl, hr1, hk1, ht1⟩
    have hz1 : w.heap.size + 1 ≤ w1.heap.size := by have := hk1.size; omega
    have hX1 : Tx w g w1.heap.size s Y0.2 op (six x0 x1 x2 x3 x4 xA xl xc) (w1.alloc (.cells #[.int .i64 x0, .int .u64 x1, .int .u64 x2, .int .u64 x3, .int .u64 x4, .slice xA xl xc] 27)) := ⟨Blk.alloc hr1 _, Blk.alloc (hk1.blk HWE.out (by omega)) _, Blk.new w1 _ _, (HWK.out.tr hk1).alloc _, hglt, by omega⟩
    have HT1 : Hid (Y0.2.e = 0 → ∃ n, RxT (w1.alloc (.cells #[.int .i64 x0, .int .u64 x1, .int .u64 x2, .int .u64 x3, .int .u64 x4, .slice xA xl xc] 27)) (InT w w1.heap.size (w1.alloc (.cells #[.int .i64 x0, .int .u64 x1, .int .u64 x2, .int .u64 x3, .int .u64 x4, .slice xA xl xc] 27))) n Y0.1 (six x0 x1 x2 x3 x4 xA xl xc)) := Lib.hid fun hy => by
      obtain ⟨n, hn⟩ := ht1 hy
      refine ⟨n, (hn.below ((Below.refl _ _).alloc (Nat.le_refl _) _) fun b hb => hb.2).weak fun b hb => ⟨by omega, by simp; omega, by omega⟩⟩
    have HX1 := Lib.hid hX1
    clear hX1 hr1 hk1 ht1 hW hWz hWz0
    go_wp2_with fail
    obtain ⟨gT, hgT⟩ : ∃ gT, w1.heap.size = gT := ⟨_, rfl⟩
    rw [hgT] at HX1 HT1 ⊢
    obtain ⟨W1, hW1⟩ : ∃ W1, w1.alloc (.cells #[.int .i64 x0, .int .u64 x1, .int .u64 x2, .int .u64 x3, .int .u64 x4, .slice xA xl xc] 27) = W1 := ⟨_, rfl⟩
    rw [hW1] at HX1 HT1 ⊢
    clear hW1 hgT hz1
    go_loopg [10] (s.size + 1) (fun q _ wr => ∃ (m : Nat) (t : Rx) (y : Sx) (x0 x1 x2 x3 x4 : Int) (xA : Option Addr) (xl xc : Nat), q = m ∧ y.p ≤ s.size ∧ (y.e = 0 → s.size - y.p < m) ∧ Hid (F = lpR s R m t y) ∧ Hid (Tx w g gT s y op (six x0 x1 x2 x3 x4 xA xl xc) wr) ∧ Hid (y.e = 0 → ∃ n, RxT wr (InT w gT wr) n t (six x0 x1 x2 x3 x4 xA xl xc)))
    case atStart => exact ⟨s.size + 1, Y0.1, Y0.2, x0, x1, x2, x3, x4, xA, xl, xc, rfl, hY0.hi, fun _ => by omega, HF, HX1, HT1⟩
    case round =>
      clear HX1 HT1 HF
      obtain ⟨m, t, y, x0, x1, x2, x3, x4, xA, xl, xc, hqm, hyp, hq, HFq, HX, HT⟩ := hrel
      have HG := Lib.hid hqm
      clear hqm
      have CE := ends_any s y op g wr hyp HX.out.rd
      by_cases hey : enB s y = true
      · have HFe : Hid (F = (t, y)) := Lib.hid (HFq.out.trans (lpR_stop m hey))
        rw [hey] at CE
        have CE := Lib.hid CE
        clear hey hq
        go_wp2_with fail
        refine CE.out.mono ?_
        rintro e w9 ⟨rfl, qq, hq9⟩
        have HX9 : Hid (Tx w g gT s y op (six x0 x1 x2 x3 x4 xA xl xc) w9) := Lib.hid (by rw [hq9]; exact HX.out.step (below_drewN (Below.refl _ _) qq))
        have HT9 : Hid (y.e = 0 → ∃ n, RxT w9 (InT w gT w9) n t (six x0 x1 x2 x3 x4 xA xl xc)) := Lib.hid fun hy => by
          obtain ⟨n, hn⟩ := HT.out hy
          rw [hq9]
          exact ⟨n, RxT.keep (w := wr) (w' := wr.drewN qq) (P := InT w gT wr) (Q := InT w gT (wr.drewN qq)) (fun _ hb => hb) (fun _ _ => rfl) hn⟩
        clear hq9
        have s0 : w9.cell? ⟨gT, 0, none⟩ = some (.int .i64 x0) := HX9.out.te.cell 0
        have s1 : w9.cell? ⟨gT, 1, none⟩ = some (.int .u64 x1) := HX9.out.te.cell 1
        have s2 : w9.cell? ⟨gT, 2, none⟩ = some (.int .u64 x2) := HX9.out.te.cell 2
        have s3 : w9.cell? ⟨gT, 3, none⟩ = some (.int .u64 x3) := HX9.out.te.cell 3
        have s4 : w9.cell? ⟨gT, 4, none⟩ = some (.int .u64 x4) := HX9.out.te.cell 4
        have s5 : w9.cell? ⟨gT, 5, none⟩ = some (.slice xA xl xc) := HX9.out.te.cell 5
        have r0 : w9.cell? ⟨w.heap.size, 0, none⟩ = some (.int .i64 0) := HX9.out.re.cell 0
        have fr0 : w9.frozen? ⟨w.heap.size, 0, none⟩ = false := HX9.out.re.frozen 0
        have r1 : w9.cell? ⟨w.heap.size, 1, none⟩ = some (.int .u64 0) := HX9.out.re.cell 1
        have fr1 : w9.frozen? ⟨w.heap.size, 1, none⟩ = false := HX9.out.re.frozen 1
        have r2 : w9.cell? ⟨w.heap.size, 2, none⟩ = some (.int .u64 0) := HX9.out.re.cell 2
        have fr2 : w9.frozen? ⟨w.heap.size, 2, none⟩ = false := HX9.out.re.frozen 2
        have r3 : w9.cell? ⟨w.heap.size, 3, none⟩ = some (.int .u64 0) := HX9.out.re.cell 3
        have fr3 : w9.frozen? ⟨w.heap.size, 3, none⟩ = false := HX9.out.re.frozen 3
        have r4 : w9.cell? ⟨w.heap.size, 4, none⟩ = some (.int .u64 0) := HX9.out.re.cell 4
        have fr4 : w9.frozen? ⟨w.heap.size, 4, none⟩ = false := HX9.out.re.frozen 4
        have r5 : w9.cell? ⟨w.heap.size, 5, none⟩ = some (.slice none 0 0) := HX9.out.re.cell 5
        have fr5 : w9.frozen? ⟨w.heap.size, 5, none⟩ = false := HX9.out.re.frozen 5
        have HZ := Lib.hid (six_put (cs := [.int .i64 0, .int .u64 0, .int .u64 0, .int .u64 0, .int .u64 0, .slice none 0 0]) HX9.out.re rfl x0 x1 x2 x3 x4 xA xl xc)
        have hne := HX9.out.lt
        have HZK := Lib.hid (HX9.out.ko.put6 (Nat.le_refl _) x0 x1 x2 x3 x4 xA xl xc)
        have HZR := Lib.hid (Blk.far6 HX9.out.rd (by omega : w.heap.size ≠ g) x0 x1 x2 x3 x4 xA xl xc)
        have HZS := Lib.hid (size_put6 w9 w.heap.size x0 x1 x2 x3 x4 xA xl xc)
        have HZT : Hid (y.e = 0 → ∃ n, RxT ((((((w9.setCell ⟨w.heap.size, 0, none⟩ (.int .i64 x0)).setCell ⟨w.heap.size, 1, none⟩ (.int .u64 x1)).setCell ⟨w.heap.size, 2, none⟩ (.int .u64 x2)).setCell ⟨w.heap.size, 3, none⟩ (.int .u64 x3)).setCell ⟨w.heap.size, 4, none⟩ (.int .u64 x4)).setCell ⟨w.heap.size, 5, none⟩ (.slice xA xl xc)) (fun b => w.heap.size ≤ b ∧ b < w9.heap.size) n t (six x0 x1 x2 x3 x4 xA xl xc)) := Lib.hid fun hy => by
          obtain ⟨n, hn⟩ := HT9.out hy
          exact ⟨n, (hn.put6 (fun k => absurd k.1 (Nat.lt_irrefl _)) x0 x1 x2 x3 x4 xA xl xc).weak fun b hb => ⟨Nat.le_of_lt hb.1, hb.2.1⟩⟩
        clear HX9
        go_wp2_with fail
        obtain ⟨wz, hwz⟩ : ∃ wz, wz = ((((((w9.setCell ⟨w.heap.size, 0, none⟩ (.int .i64 x0)).setCell ⟨w.heap.size, 1, none⟩ (.int .u64 x1)).setCell ⟨w.heap.size, 2, none⟩ (.int .u64 x2)).setCell ⟨w.heap.size, 3, none⟩ (.int .u64 x3)).setCell ⟨w.heap.size, 4, none⟩ (.int .u64 x4)).setCell ⟨w.heap.size, 5, none⟩ (.slice xA xl xc)) := ⟨_, rfl⟩
        have hz := HZ.out
        have hzk := HZK.out
        have hzr := HZR.out
        have hzs := HZS.out
        have hzt := HZT.out
        rw [← hwz] at hz hzk hzr hzs hzt ⊢
        have z0 : wz.cell? ⟨w.heap.size, 0, none⟩ = some (.int .i64 x0) := hz.cell 0
        have z1 : wz.cell? ⟨w.heap.size, 1, none⟩ = some (.int .u64 x1) := hz.cell 1
        have z2 : wz.cell? ⟨w.heap.size, 2, none⟩ = some (.int .u64 x2) := hz.cell 2
        have z3 : wz.cell? ⟨w.heap.size, 3, none⟩ = some (.int .u64 x3) := hz.cell 3
        have z4 : wz.cell? ⟨w.heap.size, 4, none⟩ = some (.int .u64 x4) := hz.cell 4
        have z5 : wz.cell? ⟨w.heap.size, 5, none⟩ = some (.slice xA xl xc) := hz.cell 5
        refine bodyPost_ret (v := .agg #[.int .i64 x0, .int .u64 x1, .int .u64 x2, .int .u64 x3, .int .u64 x4, .slice xA xl xc]) (by simp [results, Try.results28, go_sem, z0, z1, z2, z3, z4, z5]) rfl ⟨x0, x1, x2, x3, x4, xA, xl, xc, rfl, by rw [HFe.out]; exact hzr, hzk, fun hy => by
          rw [HFe.out] at hy ⊢
          obtain ⟨n, hn⟩ := hzt hy
          exact ⟨n, hn.weak fun b hb => ⟨hb.1, by omega⟩⟩⟩
      · have hys := enB_no hey
        obtain ⟨m, rfl⟩ : ∃ m', m = m' + 1 := ⟨m - 1, by have := hq hys.1; omega⟩
        have hF2 : F = lpR s R m (tTwo 4 t (R y).1) (R y).2 := HFq.out.trans (lpR_go hey)
        have hY2 := HGO.out y hys.1 hyp
        have CR := fun w' (hr : Rd w' g s y op) => HROW.out g w' y hys.1 hyp hr
        obtain ⟨Y2, hY2e⟩ : ∃ Y2, Y2 = R y := ⟨_, rfl⟩
        rw [← hY2e] at CR hF2 hY2
        have CR := Lib.hid CR
        have HF2 := Lib.hid hF2
        rw [Bool.not_eq_true] at hey
        rw [hey] at CE
        have CE := Lib.hid CE
        have hTy := HT.out hys.1
        have hyq := hq hys.1
        have hys2 := hys.2
        clear hF2 hY2e hey hq hys
        go_wp2_with fail
        refine CE.out.mono ?_
        rintro e w2 ⟨rfl, qq, hq2⟩
        have HX2 : Hid (Tx w g gT s y op (six x0 x1 x2 x3 x4 xA xl xc) w2) := Lib.hid (by rw [hq2]; exact HX.out.step (below_drewN (Below.refl _ _) qq))
        have HT2 : Hid (∃ n, RxT w2 (InT w gT w2) n t (six x0 x1 x2 x3 x4 xA xl xc)) := Lib.hid (by
          obtain ⟨n, hn⟩ := hTy
          rw [hq2]
          exact ⟨n, RxT.keep (w := wr) (w' := wr.drewN qq) (P := InT w gT wr) (Q := InT w gT (wr.drewN qq)) (fun _ hb => hb) (fun _ _ => rfl) hn⟩)
        clear hq2 hTy
        have hxd := HX2.out.step (below_drewN (Below.refl _ _) 1 : Below w2.heap.size w2 w2.drew)
        have HTd : Hid (∃ n, RxT w2.drew (InT w gT w2.drew) n t (six x0 x1 x2 x3 x4 xA xl xc)) := Lib.hid (by
          obtain ⟨n, hn⟩ := HT2.out
          exact ⟨n, RxT.keep (w := w2) (w' := w2.drew) (P := InT w gT w2) (Q := InT w gT w2.drew) (fun _ hb => hb) (fun _ _ => rfl) hn⟩)
        have s0 : w2.drew.cell? ⟨gT, 0, none⟩ = some (.int .i64 x0) := hxd.te.cell 0
        have fs0 : w2.drew.frozen? ⟨gT, 0, none⟩ = false := hxd.te.frozen 0
        have s1 : w2.drew.cell? ⟨gT, 1, none⟩ = some (.int .u64 x1) := hxd.te.cell 1
        have fs1 : w2.drew.frozen? ⟨gT, 1, none⟩ = false := hxd.te.frozen 1
        have s2 : w2.drew.cell? ⟨gT, 2, none⟩ = some (.int .u64 x2) := hxd.te.cell 2
        have fs2 : w2.drew.frozen? ⟨gT, 2, none⟩ = false := hxd.te.frozen 2
        have s3 : w2.drew.cell? ⟨gT, 3, none⟩ = some (.int .u64 x3) := hxd.te.cell 3
        have fs3 : w2.drew.frozen? ⟨gT, 3, none⟩ = false := hxd.te.frozen 3
        have s4 : w2.drew.cell? ⟨gT, 4, none⟩ = some (.int .u64 x4) := hxd.te.cell 4
        have fs4 : w2.drew.frozen? ⟨gT, 4, none⟩ = false := hxd.te.frozen 4
        have s5 : w2.drew.cell? ⟨gT, 5, none⟩ = some (.slice xA xl xc) := hxd.te.cell 5
        have fs5 : w2.drew.frozen? ⟨gT, 5, none⟩ = false := hxd.te.frozen 5
        go_wp2_with fail
        go_region_law (first
          | (go_simp; go_at_call 46; (refine (CR.out _ hxd.rd).mono ?_); rintro e w3 ⟨v0, v1, v2, v3, v4, vA, vl, vc, rfl, hr3, hk3, ht3⟩; have hx3 := hxd.kept hr3 hk3; have u0 : w3.cell? ⟨gT, 0, none⟩ = some (.int .i64 x0) := hx3.te.cell 0; have fu0 : w3.frozen? ⟨gT, 0, none⟩ = false := hx3.te.frozen 0; have u1 : w3.cell? ⟨gT, 1, none⟩ = some (.int .u64 x1) := hx3.te.cell 1; have fu1 : w3.frozen? ⟨gT, 1, none⟩ = false := hx3.te.frozen 1; have u2 : w3.cell? ⟨gT, 2, none⟩ = some (.int .u64 x2) := hx3.te.cell 2; have fu2 : w3.frozen? ⟨gT, 2, none⟩ = false := hx3.te.frozen 2; have u3 : w3.cell? ⟨gT, 3, none⟩ = some (.int .u64 x3) := hx3.te.cell 3; have fu3 : w3.frozen? ⟨gT, 3, none⟩ = false := hx3.te.frozen 3; have u4 : w3.cell? ⟨gT, 4, none⟩ = some (.int .u64 x4) := hx3.te.cell 4; have fu4 : w3.frozen? ⟨gT, 4, none⟩ = false := hx3.te.frozen 4; have u5 : w3.cell? ⟨gT, 5, none⟩ = some (.slice xA xl xc) := hx3.te.cell 5; have fu5 : w3.frozen? ⟨gT, 5, none⟩ = false := hx3.te.frozen 5)
          | (go_simp; go_at_call 30; (refine (two_tree 4 x0 x1 x2 x3 x4 v0 v1 v2 v3 v4 xA vA xl xc vl vc _).mono ?_); rintro e w4 ⟨N, rfl, hc4, hN1, hN2, hb4⟩; have hx4 := hx3.step hb4; have q0 : w4.cell? ⟨gT, 0, none⟩ = some (.int .i64 x0) := hx4.te.cell 0; have fq0 : w4.frozen? ⟨gT, 0, none⟩ = false := hx4.te.frozen 0; have q1 : w4.cell? ⟨gT, 1, none⟩ = some (.int .u64 x1) := hx4.te.cell 1; have fq1 : w4.frozen? ⟨gT, 1, none⟩ = false := hx4.te.frozen 1; have q2 : w4.cell? ⟨gT, 2, none⟩ = some (.int .u64 x2) := hx4.te.cell 2; have fq2 : w4.frozen? ⟨gT, 2, none⟩ = false := hx4.te.frozen 2; have q3 : w4.cell? ⟨gT, 3, none⟩ = some (.int .u64 x3) := hx4.te.cell 3; have fq3 : w4.frozen? ⟨gT, 3, none⟩ = false := hx4.te.frozen 3; have q4 : w4.cell? ⟨gT, 4, none⟩ = some (.int .u64 x4) := hx4.te.cell 4; have fq4 : w4.frozen? ⟨gT, 4, none⟩ = false := hx4.te.frozen 4; have q5 : w4.cell? ⟨gT, 5, none⟩ = some (.slice xA xl xc) := hx4.te.cell 5; have fq5 : w4.frozen? ⟨gT, 5, none⟩ = false := hx4.te.frozen 5))
        all_goals
          have HX5 := Lib.hid (hx4.put rfl 4 0 0 0 0 (some ⟨N, 0, none⟩) 2 2)
          have hglt2 := hx4.lt
          have hgl2 := hx4.gl
          have hz3 : w2.heap.size ≤ w3.heap.size := hk3.size
          have hgT3 : gT < w2.heap.size := Blk.lt hxd.te
          have hzd : w.heap.size ≤ w2.heap.size := hxd.ko.size
          have hz5 := size_put6 w4 gT 4 0 0 0 0 (some ⟨N, 0, none⟩) 2 2
          have HT5 : Hid (Y2.2.e = 0 → ∃ n, RxT ((((((w4.setCell ⟨gT, 0, none⟩ (.int .i64 4)).setCell ⟨gT, 1, none⟩ (.int .u64 0)).setCell ⟨gT, 2, none⟩ (.int .u64 0)).setCell ⟨gT, 3, none⟩ (.int .u64 0)).setCell ⟨gT, 4, none⟩ (.int .u64 0)).setCell ⟨gT, 5, none⟩ (.slice (some ⟨N, 0, none⟩) 2 2)) (InT w gT ((((((w4.setCell ⟨gT, 0, none⟩ (.int .i64 4)).setCell ⟨gT, 1, none⟩ (.int .u64 0)).setCell ⟨gT, 2, none⟩ (.int .u64 0)).setCell ⟨gT, 3, none⟩ (.int .u64 0)).setCell ⟨gT, 4, none⟩ (.int .u64 0)).setCell ⟨gT, 5, none⟩ (.slice (some ⟨N, 0, none⟩) 2 2))) n (tTwo 4 t Y2.1) (six 4 0 0 0 0 (some ⟨N, 0, none⟩) 2 2)) := Lib.hid fun hy => by
            obtain ⟨n1, hn1⟩ := HTd.out
            obtain ⟨n2, hn2⟩ := ht3 hy
            have a1 := ((hn1.off hk3 fun b hb => ⟨hb.2.1, by have := hb.1; omega⟩).below hb4 fun b hb => Nat.lt_of_lt_of_le hb.2.1 hz3)
            have a2 := hn2.below hb4 fun b hb => hb.2
            have hz4 : w3.heap.size ≤ w4.heap.size := hb4.size
            have b1 : RxT w4 (InT w gT w4) n1 t (six x0 x1 x2 x3 x4 xA xl xc) := a1.weak fun b hb => ⟨hb.1, by have h1 : b < w2.heap.size := hb.2.1; omega, hb.2.2⟩
            have b2 : RxT w4 (InT w gT w4) n2 Y2.1 (six v0 v1 v2 v3 v4 vA vl vc) := a2.weak fun b hb => by
              have h1 : w2.heap.size ≤ b := hb.1
              have h2 : b < w3.heap.size := hb.2
              exact ⟨by omega, by omega, by omega⟩
            have c := RxT.two (b1.up (Nat.le_max_left n1 n2)) (b2.up (Nat.le_max_right n1 n2)) rfl (show InT w gT w4 N from ⟨by omega, hN2, by omega⟩) hc4 4 (by decide) (by decide)
            exact ⟨_, (c.put6 (fun k => k.2.2 rfl) 4 0 0 0 0 (some ⟨N, 0, none⟩) 2 2).weak fun b hb => ⟨hb.1, by rw [hz5]; exact hb.2.1, hb.2.2⟩⟩
          clear hx3 hx4 hr3 hk3 ht3 hb4 hc4 hxd hz5
          go_wp2_with fail
          go_roundg m
          case measure => rw [HG.out]; omega
          case rel => exact ⟨m, tTwo 4 t Y2.1, Y2.2, 4, 0, 0, 0, 0, some ⟨N, 0, none⟩, 2, 2, rfl, hY2.hi, fun hy => by have := hY2.ok hy; omega, HF2, HX5, HT5⟩
end Go.Proofs.Ytkdcgkdbieeijaa
