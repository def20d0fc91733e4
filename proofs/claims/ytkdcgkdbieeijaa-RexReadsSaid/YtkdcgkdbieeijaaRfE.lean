/- Walk: (*wickref.text).row. (printed by gen_rfe.py) -/
import Derived.Test.YtkdcgkdbieeijaaRfB
namespace Go.Proofs.Ytkdcgkdbieeijaa
open Go.RowKit
set_option linter.unusedVariables false
set_option linter.unusedSimpArgs false

set_option maxRecDepth 100000 in
set_option maxHeartbeats 8000000 in
theorem row_okR (s : ByteArray) (hs : s.size ≤ 200) (op : Int) (hop : 0 ≤ op ∧ op ≤ 20) (R : Sx → Rx × Sx) (hRow : TsOk 49 op s R) (hGo : GoS s R) : TsOk 32 op s (rwF s R) := by
  intro g w x he hp hR
  have HROW := Lib.hid hRow
  have HGO := Lib.hid hGo
  clear hRow hGo
  obtain ⟨W, hW⟩ : ∃ W, w.alloc (.cells #[.int .i64 0, .int .u64 0, .int .u64 0, .int .u64 0, .int .u64 0, .slice none 0 0] 27) = W := ⟨_, rfl⟩
  have hWR : Tq (270 - op) W g s x op := by rw [← hW]; exact hR.alloc _
  have hWE : Blk W w.heap.size 27 #[.int .i64 0, .int .u64 0, .int .u64 0, .int .u64 0, .int .u64 0, .slice none 0 0] := by rw [← hW]; exact Blk.new w _ _
  have hWK : KeptOff w W g := by rw [← hW]; exact KeptOff.refl.alloc _
  have hglt : g < w.heap.size := hR.lt
  have hWz : W.heap.size = w.heap.size + 1 := by rw [← hW]; simp
  have HWR := Lib.hid hWR
  have HWE := Lib.hid hWE
  have HWK := Lib.hid hWK
  obtain ⟨F, hF⟩ : ∃ F, F = rwF s R x := ⟨_, rfl⟩
  rw [← hF]
  have HF := Lib.hid hF
  clear hWR hWE hWK hR hF
  go_enter Try.func32, Try.ntmps32
  go_wp2_with fail
  refine (node_any 2 none 0 0 _).mono ?_
  rintro e w0 ⟨rfl, hb0⟩
  have hz0 : W.heap.size ≤ w0.heap.size := hb0.size
  have hX1 : Ty (270 - op) w g w0.heap.size s x op (six 2 0 0 0 0 none 0 0) (w0.alloc (.cells #[.int .i64 2, .int .u64 0, .int .u64 0, .int .u64 0, .int .u64 0, .slice none 0 0] 27)) := ⟨(HWR.out.below hb0).alloc _, (Blk.below HWE.out hb0 (Blk.lt HWE.out)).alloc _, Blk.new w0 _ _, (HWK.out.tr (KeptOff.of_below hb0)).alloc _, hglt, by omega⟩
  have HX1 := Lib.hid hX1
  clear hX1 hb0 hW
  go_upto_region 2 with fail
  obtain ⟨gT, hgT⟩ : ∃ gT, w0.heap.size = gT := ⟨_, rfl⟩
  rw [hgT] at HX1 ⊢
  obtain ⟨W1, hW1⟩ : ∃ W1, w0.alloc (.cells #[.int .i64 2, .int .u64 0, .int .u64 0, .int .u64 0, .int .u64 0, .slice none 0 0] 27) = W1 := ⟨_, rfl⟩
  rw [hW1] at HX1 ⊢
  clear hW1 hgT hz0 hWz HWR HWE HWK
  have CP := Lib.hid (peek_q s hs (270 - op) x op g W1 HX1.out.rd)
  go_wp2_with fail
  refine CP.out.mono ?_
  rintro e w2 ⟨rfl, qq, hqq⟩
  have HX2 := Lib.hid (HX1.out.step (wr' := w2) (by rw [hqq]; exact below_drewN (Below.refl _ _) qq))
  have HT2 : Hid (x.e = 0 → ∃ n, RxT w2 (InT w gT w2) n (tOne 2) (six 2 0 0 0 0 none 0 0)) := Lib.hid fun _ => ⟨1, RxT.leaf w2 _ 2 zq zq_ok (by decide) (by decide)⟩
  clear hqq CP HX1
  go_wp2_with fail
  go_loopg [4, 5] (s.size + 2) (fun q v4 v5 wr => ∃ (m : Nat) (t : Rx) (y : Sx) (x0 x1 x2 x3 x4 : Int) (xA : Option Addr) (xl xc : Nat) (b : Bool), v4 = .bool b ∧ v5 = .string (pk s y) ∧ q = m ∧ y.p ≤ s.size ∧ (b = true → y.e = 0 → s.size - y.p < m) ∧ (b = false → m = s.size + 2 ∧ y = x) ∧ Hid (b = false → t = tOne 2 ∧ F = rwF s R x ∧ y = x) ∧ Hid (b = true → F = lpR s R m t y) ∧ Hid (Ty (270 - op) w g gT s y op (six x0 x1 x2 x3 x4 xA xl xc) wr) ∧ Hid (y.e = 0 → ∃ n, RxT wr (InT w gT wr) n t (six x0 x1 x2 x3 x4 xA xl xc)))
  case atStart => exact ⟨s.size + 2, tOne 2, x, 2, 0, 0, 0, 0, none, 0, 0, false, rfl, rfl, rfl, hp, (fun k => by cases k), (fun _ => ⟨rfl, rfl⟩), Lib.hid (fun _ => ⟨rfl, HF.out, rfl⟩), Lib.hid (fun k => by cases k), HX2, HT2⟩
  case round =>
    clear HX2 HT2 HF
    obtain ⟨m, t, y, x0, x1, x2, x3, x4, xA, xl, xc, b, rfl, rfl, hqm, hyp, hq, hq0, HF0, HF1, HX, HT⟩ := hrel
    have HG := Lib.hid hqm
    clear hqm
    by_cases hey : enB s y = true
    · have HFe : Hid (F = (t, y)) := Lib.hid (by
        cases b with
        | false =>
          obtain ⟨h1, h2, h3⟩ := HF0.out rfl
          rw [h2, h1, ← h3]
          unfold rwF
          rw [if_pos hey]
        | true => rw [HF1.out rfl]; exact lpR_stop m hey)
      have hen : nx s y < 0 ∨ nx s y = 124 ∨ nx s y = 41 := by unfold enB at hey; exact of_decide_eq_true hey
      clear hey HF0 HF1
      rcases hen with hnx | hnx | hnx
      · have enil : (pk s y).toList.isEmpty = true := by rw [pk_nil]; exact decide_eq_true (by omega)
        have HX9 := HX
        have HT9 := HT
        clear HX HT hq hnx
        obtain ⟨w9, rfl⟩ : ∃ w9, w9 = wr := ⟨_, rfl⟩
        have s0 : w9.cell? ⟨gT, 0, none⟩ = some (.int .i64 x0) := HX9.out.te.cell 0
        have s1 : w9.cell? ⟨gT, 1, none⟩ = some (.int .u64 x1) := HX9.out.te.cell 1
        have s2 : w9.cell? ⟨gT, 2, none⟩ = some (.int .u64 x2) := HX9.out.te.cell 2
        have s3 : w9.cell? ⟨gT, 3, none⟩ = some (.int .u64 x3) := HX9.out.te.cell 3
        have s4 : w9.cell? ⟨gT, 4, none⟩ = some (.int .u64 x4) := HX9.out.te.cell 4
        have s5 : w9.cell? ⟨gT, 5, none⟩ = some (.slice xA xl xc) := HX9.out.te.cell 5
        have r0 : w9.cell? ⟨w.heap.size, 0, none⟩ = some (.int .i64 0) := HX9.out.re.cell 0
        have fr0 : w9.frozen? ⟨w.heap.size, 0, none⟩ = false := HX9.out.re.frozen 0
        have r1 : w9.cell? ⟨w.heap.size, 1, none⟩ = some (.int .u64 0) := HX9.out.re.cell 1
        have fr1 : w9.frozen? ⟨w.heap.size, 1, none⟩ = false := HX9.out.re.frozen 1
        have r2 : w9.cell? ⟨w.heap.size, 2, none⟩ = some (.int .u64 0) := HX9.out.re.cell 2
        have fr2 : w9.frozen? ⟨w.heap.size, 2, none⟩ = false := HX9.out.re.frozen 2
        have r3 : w9.cell? ⟨w.heap.size, 3, none⟩ = some (.int .u64 0) := HX9.out.re.cell 3
        have fr3 : w9.frozen? ⟨w.heap.size, 3, none⟩ = false := HX9.out.re.frozen 3
        have r4 : w9.cell? ⟨w.heap.size, 4, none⟩ = some (.int .u64 0) := HX9.out.re.cell 4
        have fr4 : w9.frozen? ⟨w.heap.size, 4, none⟩ = false := HX9.out.re.frozen 4
        have r5 : w9.cell? ⟨w.heap.size, 5, none⟩ = some (.slice none 0 0) := HX9.out.re.cell 5
        have fr5 : w9.frozen? ⟨w.heap.size, 5, none⟩ = false := HX9.out.re.frozen 5
        have HZ := Lib.hid (six_put (cs := [.int .i64 0, .int .u64 0, .int .u64 0, .int .u64 0, .int .u64 0, .slice none 0 0]) HX9.out.re rfl x0 x1 x2 x3 x4 xA xl xc)
        have hne := HX9.out.lt
        have HZK := Lib.hid (HX9.out.ko.put6 (Nat.le_refl _) x0 x1 x2 x3 x4 xA xl xc)
        have HZR := Lib.hid (Tq.far6 HX9.out.rd (by omega : w.heap.size ≠ g) x0 x1 x2 x3 x4 xA xl xc)
        have HZS := Lib.hid (size_put6 w9 w.heap.size x0 x1 x2 x3 x4 xA xl xc)
        have HZT : Hid (y.e = 0 → ∃ n, RxT ((((((w9.setCell ⟨w.heap.size, 0, none⟩ (.int .i64 x0)).setCell ⟨w.heap.size, 1, none⟩ (.int .u64 x1)).setCell ⟨w.heap.size, 2, none⟩ (.int .u64 x2)).setCell ⟨w.heap.size, 3, none⟩ (.int .u64 x3)).setCell ⟨w.heap.size, 4, none⟩ (.int .u64 x4)).setCell ⟨w.heap.size, 5, none⟩ (.slice xA xl xc)) (fun b => w.heap.size ≤ b ∧ b < w9.heap.size) n t (six x0 x1 x2 x3 x4 xA xl xc)) := Lib.hid fun hy => by
          obtain ⟨n, hn⟩ := HT9.out hy
          exact ⟨n, (hn.put6 (fun k => absurd k.1 (Nat.lt_irrefl _)) x0 x1 x2 x3 x4 xA xl xc).weak fun b hb => ⟨Nat.le_of_lt hb.1, hb.2.1⟩⟩
        clear HX9
        go_wp2_with fail
        obtain ⟨wz, hwz⟩ : ∃ wz, wz = ((((((w9.setCell ⟨w.heap.size, 0, none⟩ (.int .i64 x0)).setCell ⟨w.heap.size, 1, none⟩ (.int .u64 x1)).setCell ⟨w.heap.size, 2, none⟩ (.int .u64 x2)).setCell ⟨w.heap.size, 3, none⟩ (.int .u64 x3)).setCell ⟨w.heap.size, 4, none⟩ (.int .u64 x4)).setCell ⟨w.heap.size, 5, none⟩ (.slice xA xl xc)) := ⟨_, rfl⟩
        have hz := HZ.out
        have hzk := HZK.out
        have hzr := HZR.out
        have hzs := HZS.out
        have hzt := HZT.out
        rw [← hwz] at hz hzk hzr hzs hzt ⊢
        have z0 : wz.cell? ⟨w.heap.size, 0, none⟩ = some (.int .i64 x0) := hz.cell 0
        have z1 : wz.cell? ⟨w.heap.size, 1, none⟩ = some (.int .u64 x1) := hz.cell 1
        have z2 : wz.cell? ⟨w.heap.size, 2, none⟩ = some (.int .u64 x2) := hz.cell 2
        have z3 : wz.cell? ⟨w.heap.size, 3, none⟩ = some (.int .u64 x3) := hz.cell 3
        have z4 : wz.cell? ⟨w.heap.size, 4, none⟩ = some (.int .u64 x4) := hz.cell 4
        have z5 : wz.cell? ⟨w.heap.size, 5, none⟩ = some (.slice xA xl xc) := hz.cell 5
        refine bodyPost_ret (v := .agg #[.int .i64 x0, .int .u64 x1, .int .u64 x2, .int .u64 x3, .int .u64 x4, .slice xA xl xc]) (by simp [results, Try.results32, go_sem, z0, z1, z2, z3, z4, z5]) rfl ⟨x0, x1, x2, x3, x4, xA, xl, xc, rfl, by rw [HFe.out]; exact hzr, hzk, fun hy => by
          rw [HFe.out] at hy ⊢
          obtain ⟨n, hn⟩ := hzt hy
          exact ⟨n, hn.weak fun b hb => ⟨hb.1, by omega⟩⟩⟩
      · have enil : (pk s y).toList.isEmpty = false := by rw [pk_nil]; exact decide_eq_false (by omega)
        have e124 : ((pk s y).toList == [124]) = true := by rw [pk_is]; exact beq_iff_eq.2 (show nx s y = 124 from hnx)
        have HX9 := HX
        have HT9 := HT
        clear HX HT hq hnx
        obtain ⟨w9, rfl⟩ : ∃ w9, w9 = wr := ⟨_, rfl⟩
        have s0 : w9.cell? ⟨gT, 0, none⟩ = some (.int .i64 x0) := HX9.out.te.cell 0
        have s1 : w9.cell? ⟨gT, 1, none⟩ = some (.int .u64 x1) := HX9.out.te.cell 1
        have s2 : w9.cell? ⟨gT, 2, none⟩ = some (.int .u64 x2) := HX9.out.te.cell 2
        have s3 : w9.cell? ⟨gT, 3, none⟩ = some (.int .u64 x3) := HX9.out.te.cell 3
        have s4 : w9.cell? ⟨gT, 4, none⟩ = some (.int .u64 x4) := HX9.out.te.cell 4
        have s5 : w9.cell? ⟨gT, 5, none⟩ = some (.slice xA xl xc) := HX9.out.te.cell 5
        have r0 : w9.cell? ⟨w.heap.size, 0, none⟩ = some (.int .i64 0) := HX9.out.re.cell 0
        have fr0 : w9.frozen? ⟨w.heap.size, 0, none⟩ = false := HX9.out.re.frozen 0
        have r1 : w9.cell? ⟨w.heap.size, 1, none⟩ = some (.int .u64 0) := HX9.out.re.cell 1
        have fr1 : w9.frozen? ⟨w.heap.size, 1, none⟩ = false := HX9.out.re.frozen 1
        have r2 : w9.cell? ⟨w.heap.size, 2, none⟩ = some (.int .u64 0) := HX9.out.re.cell 2
        have fr2 : w9.frozen? ⟨w.heap.size, 2, none⟩ = false := HX9.out.re.frozen 2
        have r3 : w9.cell? ⟨w.heap.size, 3, none⟩ = some (.int .u64 0) := HX9.out.re.cell 3
        have fr3 : w9.frozen? ⟨w.heap.size, 3, none⟩ = false := HX9.out.re.frozen 3
        have r4 : w9.cell? ⟨w.heap.size, 4, none⟩ = some (.int .u64 0) := HX9.out.re.cell 4
        have fr4 : w9.frozen? ⟨w.heap.size, 4, none⟩ = false := HX9.out.re.frozen 4
        have r5 : w9.cell? ⟨w.heap.size, 5, none⟩ = some (.slice none 0 0) := HX9.out.re.cell 5
        have fr5 : w9.frozen? ⟨w.heap.size, 5, none⟩ = false := HX9.out.re.frozen 5
        have HZ := Lib.hid (six_put (cs := [.int .i64 0, .int .u64 0, .int .u64 0, .int .u64 0, .int .u64 0, .slice none 0 0]) HX9.out.re rfl x0 x1 x2 x3 x4 xA xl xc)
        have hne := HX9.out.lt
        have HZK := Lib.hid (HX9.out.ko.put6 (Nat.le_refl _) x0 x1 x2 x3 x4 xA xl xc)
        have HZR := Lib.hid (Tq.far6 HX9.out.rd (by omega : w.heap.size ≠ g) x0 x1 x2 x3 x4 xA xl xc)
        have HZS := Lib.hid (size_put6 w9 w.heap.size x0 x1 x2 x3 x4 xA xl xc)
        have HZT : Hid (y.e = 0 → ∃ n, RxT ((((((w9.setCell ⟨w.heap.size, 0, none⟩ (.int .i64 x0)).setCell ⟨w.heap.size, 1, none⟩ (.int .u64 x1)).setCell ⟨w.heap.size, 2, none⟩ (.int .u64 x2)).setCell ⟨w.heap.size, 3, none⟩ (.int .u64 x3)).setCell ⟨w.heap.size, 4, none⟩ (.int .u64 x4)).setCell ⟨w.heap.size, 5, none⟩ (.slice xA xl xc)) (fun b => w.heap.size ≤ b ∧ b < w9.heap.size) n t (six x0 x1 x2 x3 x4 xA xl xc)) := Lib.hid fun hy => by
          obtain ⟨n, hn⟩ := HT9.out hy
          exact ⟨n, (hn.put6 (fun k => absurd k.1 (Nat.lt_irrefl _)) x0 x1 x2 x3 x4 xA xl xc).weak fun b hb => ⟨Nat.le_of_lt hb.1, hb.2.1⟩⟩
        clear HX9
        go_wp2_with fail
        obtain ⟨wz, hwz⟩ : ∃ wz, wz = ((((((w9.setCell ⟨w.heap.size, 0, none⟩ (.int .i64 x0)).setCell ⟨w.heap.size, 1, none⟩ (.int .u64 x1)).setCell ⟨w.heap.size, 2, none⟩ (.int .u64 x2)).setCell ⟨w.heap.size, 3, none⟩ (.int .u64 x3)).setCell ⟨w.heap.size, 4, none⟩ (.int .u64 x4)).setCell ⟨w.heap.size, 5, none⟩ (.slice xA xl xc)) := ⟨_, rfl⟩
        have hz := HZ.out
        have hzk := HZK.out
        have hzr := HZR.out
        have hzs := HZS.out
        have hzt := HZT.out
        rw [← hwz] at hz hzk hzr hzs hzt ⊢
        have z0 : wz.cell? ⟨w.heap.size, 0, none⟩ = some (.int .i64 x0) := hz.cell 0
        have z1 : wz.cell? ⟨w.heap.size, 1, none⟩ = some (.int .u64 x1) := hz.cell 1
        have z2 : wz.cell? ⟨w.heap.size, 2, none⟩ = some (.int .u64 x2) := hz.cell 2
        have z3 : wz.cell? ⟨w.heap.size, 3, none⟩ = some (.int .u64 x3) := hz.cell 3
        have z4 : wz.cell? ⟨w.heap.size, 4, none⟩ = some (.int .u64 x4) := hz.cell 4
        have z5 : wz.cell? ⟨w.heap.size, 5, none⟩ = some (.slice xA xl xc) := hz.cell 5
        refine bodyPost_ret (v := .agg #[.int .i64 x0, .int .u64 x1, .int .u64 x2, .int .u64 x3, .int .u64 x4, .slice xA xl xc]) (by simp [results, Try.results32, go_sem, z0, z1, z2, z3, z4, z5]) rfl ⟨x0, x1, x2, x3, x4, xA, xl, xc, rfl, by rw [HFe.out]; exact hzr, hzk, fun hy => by
          rw [HFe.out] at hy ⊢
          obtain ⟨n, hn⟩ := hzt hy
          exact ⟨n, hn.weak fun b hb => ⟨hb.1, by omega⟩⟩⟩
      · have enil : (pk s y).toList.isEmpty = false := by rw [pk_nil]; exact decide_eq_false (by omega)
        have e124 : ((pk s y).toList == [124]) = false := by rw [pk_is]; exact beq_eq_false_iff_ne.2 (show ¬ nx s y = 124 from by omega)
        have e41 : ((pk s y).toList == [41]) = true := by rw [pk_is]; exact beq_iff_eq.2 (show nx s y = 41 from hnx)
        have HX9 := HX
        have HT9 := HT
        clear HX HT hq hnx
        obtain ⟨w9, rfl⟩ : ∃ w9, w9 = wr := ⟨_, rfl⟩
        have s0 : w9.cell? ⟨gT, 0, none⟩ = some (.int .i64 x0) := HX9.out.te.cell 0
        have s1 : w9.cell? ⟨gT, 1, none⟩ = some (.int .u64 x1) := HX9.out.te.cell 1
        have s2 : w9.cell? ⟨gT, 2, none⟩ = some (.int .u64 x2) := HX9.out.te.cell 2
        have s3 : w9.cell? ⟨gT, 3, none⟩ = some (.int .u64 x3) := HX9.out.te.cell 3
        have s4 : w9.cell? ⟨gT, 4, none⟩ = some (.int .u64 x4) := HX9.out.te.cell 4
        have s5 : w9.cell? ⟨gT, 5, none⟩ = some (.slice xA xl xc) := HX9.out.te.cell 5
        have r0 : w9.cell? ⟨w.heap.size, 0, none⟩ = some (.int .i64 0) := HX9.out.re.cell 0
        have fr0 : w9.frozen? ⟨w.heap.size, 0, none⟩ = false := HX9.out.re.frozen 0
        have r1 : w9.cell? ⟨w.heap.size, 1, none⟩ = some (.int .u64 0) := HX9.out.re.cell 1
        have fr1 : w9.frozen? ⟨w.heap.size, 1, none⟩ = false := HX9.out.re.frozen 1
        have r2 : w9.cell? ⟨w.heap.size, 2, none⟩ = some (.int .u64 0) := HX9.out.re.cell 2
        have fr2 : w9.frozen? ⟨w.heap.size, 2, none⟩ = false := HX9.out.re.frozen 2
        have r3 : w9.cell? ⟨w.heap.size, 3, none⟩ = some (.int .u64 0) := HX9.out.re.cell 3
        have fr3 : w9.frozen? ⟨w.heap.size, 3, none⟩ = false := HX9.out.re.frozen 3
        have r4 : w9.cell? ⟨w.heap.size, 4, none⟩ = some (.int .u64 0) := HX9.out.re.cell 4
        have fr4 : w9.frozen? ⟨w.heap.size, 4, none⟩ = false := HX9.out.re.frozen 4
        have r5 : w9.cell? ⟨w.heap.size, 5, none⟩ = some (.slice none 0 0) := HX9.out.re.cell 5
        have fr5 : w9.frozen? ⟨w.heap.size, 5, none⟩ = false := HX9.out.re.frozen 5
        have HZ := Lib.hid (six_put (cs := [.int .i64 0, .int .u64 0, .int .u64 0, .int .u64 0, .int .u64 0, .slice none 0 0]) HX9.out.re rfl x0 x1 x2 x3 x4 xA xl xc)
        have hne := HX9.out.lt
        have HZK := Lib.hid (HX9.out.ko.put6 (Nat.le_refl _) x0 x1 x2 x3 x4 xA xl xc)
        have HZR := Lib.hid (Tq.far6 HX9.out.rd (by omega : w.heap.size ≠ g) x0 x1 x2 x3 x4 xA xl xc)
        have HZS := Lib.hid (size_put6 w9 w.heap.size x0 x1 x2 x3 x4 xA xl xc)
        have HZT : Hid (y.e = 0 → ∃ n, RxT ((((((w9.setCell ⟨w.heap.size, 0, none⟩ (.int .i64 x0)).setCell ⟨w.heap.size, 1, none⟩ (.int .u64 x1)).setCell ⟨w.heap.size, 2, none⟩ (.int .u64 x2)).setCell ⟨w.heap.size, 3, none⟩ (.int .u64 x3)).setCell ⟨w.heap.size, 4, none⟩ (.int .u64 x4)).setCell ⟨w.heap.size, 5, none⟩ (.slice xA xl xc)) (fun b => w.heap.size ≤ b ∧ b < w9.heap.size) n t (six x0 x1 x2 x3 x4 xA xl xc)) := Lib.hid fun hy => by
          obtain ⟨n, hn⟩ := HT9.out hy
          exact ⟨n, (hn.put6 (fun k => absurd k.1 (Nat.lt_irrefl _)) x0 x1 x2 x3 x4 xA xl xc).weak fun b hb => ⟨Nat.le_of_lt hb.1, hb.2.1⟩⟩
        clear HX9
        go_wp2_with fail
        obtain ⟨wz, hwz⟩ : ∃ wz, wz = ((((((w9.setCell ⟨w.heap.size, 0, none⟩ (.int .i64 x0)).setCell ⟨w.heap.size, 1, none⟩ (.int .u64 x1)).setCell ⟨w.heap.size, 2, none⟩ (.int .u64 x2)).setCell ⟨w.heap.size, 3, none⟩ (.int .u64 x3)).setCell ⟨w.heap.size, 4, none⟩ (.int .u64 x4)).setCell ⟨w.heap.size, 5, none⟩ (.slice xA xl xc)) := ⟨_, rfl⟩
        have hz := HZ.out
        have hzk := HZK.out
        have hzr := HZR.out
        have hzs := HZS.out
        have hzt := HZT.out
        rw [← hwz] at hz hzk hzr hzs hzt ⊢
        have z0 : wz.cell? ⟨w.heap.size, 0, none⟩ = some (.int .i64 x0) := hz.cell 0
        have z1 : wz.cell? ⟨w.heap.size, 1, none⟩ = some (.int .u64 x1) := hz.cell 1
        have z2 : wz.cell? ⟨w.heap.size, 2, none⟩ = some (.int .u64 x2) := hz.cell 2
        have z3 : wz.cell? ⟨w.heap.size, 3, none⟩ = some (.int .u64 x3) := hz.cell 3
        have z4 : wz.cell? ⟨w.heap.size, 4, none⟩ = some (.int .u64 x4) := hz.cell 4
        have z5 : wz.cell? ⟨w.heap.size, 5, none⟩ = some (.slice xA xl xc) := hz.cell 5
        refine bodyPost_ret (v := .agg #[.int .i64 x0, .int .u64 x1, .int .u64 x2, .int .u64 x3, .int .u64 x4, .slice xA xl xc]) (by simp [results, Try.results32, go_sem, z0, z1, z2, z3, z4, z5]) rfl ⟨x0, x1, x2, x3, x4, xA, xl, xc, rfl, by rw [HFe.out]; exact hzr, hzk, fun hy => by
          rw [HFe.out] at hy ⊢
          obtain ⟨n, hn⟩ := hzt hy
          exact ⟨n, hn.weak fun b hb => ⟨hb.1, by omega⟩⟩⟩
    · have hys := enB_no hey
      have hY2 := HGO.out y hys.1 hyp
      have CR := fun w' (hr : Tq (270 - op) w' g s y op) => HROW.out g w' y hys.1 hyp hr
      have hen : ¬ nx s y < 0 ∧ ¬ nx s y = 124 ∧ ¬ nx s y = 41 := by
        unfold enB at hey
        rw [decide_eq_true_eq] at hey
        exact ⟨fun k => hey (.inl k), fun k => hey (.inr (.inl k)), fun k => hey (.inr (.inr k))⟩
      have enil : (pk s y).toList.isEmpty = false := by rw [pk_nil]; exact decide_eq_false hen.1
      have e124 : ((pk s y).toList == [124]) = false := by rw [pk_is]; exact beq_eq_false_iff_ne.2 (show ¬ nx s y = 124 from hen.2.1)
      have e41 : ((pk s y).toList == [41]) = false := by rw [pk_is]; exact beq_eq_false_iff_ne.2 (show ¬ nx s y = 41 from hen.2.2)
      obtain ⟨Y2, hY2e⟩ : ∃ Y2, Y2 = R y := ⟨_, rfl⟩
      rw [← hY2e] at CR hY2
      have CR := Lib.hid CR
      have HY2e := Lib.hid hY2e
      have HEY := Lib.hid hey
      have hys1 := hys.1
      have hys2 := hys.2
      clear hY2e hey hys hen
      go_wp2_with fail
      refine (CR.out _ HX.out.rd).mono ?_
      rintro e w3 ⟨v0, v1, v2, v3, v4, vA, vl, vc, rfl, hr3, hk3, ht3⟩
      have hzr : gT < wr.heap.size := Blk.lt HX.out.te
      have hgl := HX.out.gl
      have hz3 : wr.heap.size ≤ w3.heap.size := hk3.size
      have hba : Below w3.heap.size w3 (w3.alloc (.cells #[.int .i64 v0, .int .u64 v1, .int .u64 v2, .int .u64 v3, .int .u64 v4, .slice vA vl vc] 27)) := (Below.refl _ _).alloc (Nat.le_refl _) _
      have hx3 := (HX.out.kept hr3 hk3).step hba
      have hb3 := Blk.new w3 27 #[.int .i64 v0, .int .u64 v1, .int .u64 v2, .int .u64 v3, .int .u64 v4, .slice vA vl vc]
      have ht3t : ∃ n, RxT (w3.alloc (.cells #[.int .i64 v0, .int .u64 v1, .int .u64 v2, .int .u64 v3, .int .u64 v4, .slice vA vl vc] 27)) (fun b => w.heap.size < b ∧ b < w3.heap.size ∧ b ≠ gT) n t (six x0 x1 x2 x3 x4 xA xl xc) := by
        obtain ⟨n, hn⟩ := HT.out hys1
        have hglt := HX.out.lt
        exact ⟨n, ((hn.off hk3 fun b hb => ⟨hb.2.1, by have := hb.1; omega⟩).below hba fun b hb => Nat.lt_of_lt_of_le hb.2.1 hz3).weak fun b hb => ⟨hb.1, Nat.lt_of_lt_of_le hb.2.1 hz3, hb.2.2⟩⟩
      have ht3v : Y2.2.e = 0 → ∃ n, RxT (w3.alloc (.cells #[.int .i64 v0, .int .u64 v1, .int .u64 v2, .int .u64 v3, .int .u64 v4, .slice vA vl vc] 27)) (fun b => w.heap.size < b ∧ b < w3.heap.size ∧ b ≠ gT) n Y2.1 (six v0 v1 v2 v3 v4 vA vl vc) := fun hy => by
        obtain ⟨n, hn⟩ := ht3 hy
        exact ⟨n, (hn.below hba fun b hb => hb.2).weak fun b hb => ⟨by have := hb.1; omega, hb.2, by have := hb.1; omega⟩⟩
      clear hr3 hk3 ht3 hba
      go_upto_region 6 with fail
      obtain ⟨W3, hW3⟩ : ∃ W3, w3.alloc (.cells #[.int .i64 v0, .int .u64 v1, .int .u64 v2, .int .u64 v3, .int .u64 v4, .slice vA vl vc] 27) = W3 := ⟨_, rfl⟩
      have hzW : w3.heap.size < W3.heap.size := by rw [← hW3]; simp
      obtain ⟨gX, hgX⟩ : ∃ gX, w3.heap.size = gX := ⟨_, rfl⟩
      rw [hW3] at hx3 hb3 ht3t ht3v ⊢
      rw [hgX] at hb3 ht3t ht3v hzW hz3 ⊢
      have HX3 := Lib.hid hx3
      have HB3 := Lib.hid hb3
      have HTt := Lib.hid ht3t
      have HTv := Lib.hid ht3v
      clear hW3 hgX hx3 hb3 ht3t ht3v HX HT CR
      cases b with
      | false =>
        obtain ⟨hm0, hyx⟩ := hq0 rfl
        have HF2 : Hid (F = lpR s R (s.size + 1) Y2.1 Y2.2) := Lib.hid (by
          obtain ⟨h1, h2, h3⟩ := HF0.out rfl
          rw [h2, HY2e.out, ← h3]
          unfold rwF
          rw [if_neg (by rw [Bool.not_eq_true]; have := HEY.out; rw [Bool.not_eq_true] at this; exact this)])
        have HXc := HX3
        have HBc := HB3
        have HTc : Hid (Y2.2.e = 0 → ∃ n, RxT W3 (InT w gT W3) n Y2.1 (six v0 v1 v2 v3 v4 vA vl vc)) := Lib.hid fun hy => by
          obtain ⟨n, hn⟩ := HTv.out hy
          exact ⟨n, hn.weak fun b hb => ⟨hb.1, by have := hb.2.1; omega, hb.2.2⟩⟩
        clear hyx HF0 HF1 HY2e HEY HX3 HB3 HTt HTv hq hq0
        have HX5 := Lib.hid (HXc.out.put rfl v0 v1 v2 v3 v4 vA vl vc)
        have hz5 := size_put6 W3 gT v0 v1 v2 v3 v4 vA vl vc
        have HT5 : Hid (Y2.2.e = 0 → ∃ n, RxT ((((((W3.setCell ⟨gT, 0, none⟩ (.int .i64 v0)).setCell ⟨gT, 1, none⟩ (.int .u64 v1)).setCell ⟨gT, 2, none⟩ (.int .u64 v2)).setCell ⟨gT, 3, none⟩ (.int .u64 v3)).setCell ⟨gT, 4, none⟩ (.int .u64 v4)).setCell ⟨gT, 5, none⟩ (.slice vA vl vc)) (InT w gT ((((((W3.setCell ⟨gT, 0, none⟩ (.int .i64 v0)).setCell ⟨gT, 1, none⟩ (.int .u64 v1)).setCell ⟨gT, 2, none⟩ (.int .u64 v2)).setCell ⟨gT, 3, none⟩ (.int .u64 v3)).setCell ⟨gT, 4, none⟩ (.int .u64 v4)).setCell ⟨gT, 5, none⟩ (.slice vA vl vc))) n Y2.1 (six v0 v1 v2 v3 v4 vA vl vc)) := Lib.hid fun hy => by
          obtain ⟨n, hn⟩ := HTc.out hy
          exact ⟨n, (hn.put6 (fun k => k.2.2 rfl) v0 v1 v2 v3 v4 vA vl vc).weak fun b hb => ⟨hb.1, by rw [hz5]; exact hb.2.1, hb.2.2⟩⟩
        have s0 : W3.cell? ⟨gX, 0, none⟩ = some (.int .i64 v0) := HBc.out.cell 0
        have s1 : W3.cell? ⟨gX, 1, none⟩ = some (.int .u64 v1) := HBc.out.cell 1
        have s2 : W3.cell? ⟨gX, 2, none⟩ = some (.int .u64 v2) := HBc.out.cell 2
        have s3 : W3.cell? ⟨gX, 3, none⟩ = some (.int .u64 v3) := HBc.out.cell 3
        have s4 : W3.cell? ⟨gX, 4, none⟩ = some (.int .u64 v4) := HBc.out.cell 4
        have s5 : W3.cell? ⟨gX, 5, none⟩ = some (.slice vA vl vc) := HBc.out.cell 5
        have u0 : W3.cell? ⟨gT, 0, none⟩ = some (.int .i64 x0) := HXc.out.te.cell 0
        have fu0 : W3.frozen? ⟨gT, 0, none⟩ = false := HXc.out.te.frozen 0
        have u1 : W3.cell? ⟨gT, 1, none⟩ = some (.int .u64 x1) := HXc.out.te.cell 1
        have fu1 : W3.frozen? ⟨gT, 1, none⟩ = false := HXc.out.te.frozen 1
        have u2 : W3.cell? ⟨gT, 2, none⟩ = some (.int .u64 x2) := HXc.out.te.cell 2
        have fu2 : W3.frozen? ⟨gT, 2, none⟩ = false := HXc.out.te.frozen 2
        have u3 : W3.cell? ⟨gT, 3, none⟩ = some (.int .u64 x3) := HXc.out.te.cell 3
        have fu3 : W3.frozen? ⟨gT, 3, none⟩ = false := HXc.out.te.frozen 3
        have u4 : W3.cell? ⟨gT, 4, none⟩ = some (.int .u64 x4) := HXc.out.te.cell 4
        have fu4 : W3.frozen? ⟨gT, 4, none⟩ = false := HXc.out.te.frozen 4
        have u5 : W3.cell? ⟨gT, 5, none⟩ = some (.slice xA xl xc) := HXc.out.te.cell 5
        have fu5 : W3.frozen? ⟨gT, 5, none⟩ = false := HXc.out.te.frozen 5
        clear hz5
        go_upto_region 4 with fail
        obtain ⟨W5, hW5⟩ : ∃ W5, ((((((W3.setCell ⟨gT, 0, none⟩ (.int .i64 v0)).setCell ⟨gT, 1, none⟩ (.int .u64 v1)).setCell ⟨gT, 2, none⟩ (.int .u64 v2)).setCell ⟨gT, 3, none⟩ (.int .u64 v3)).setCell ⟨gT, 4, none⟩ (.int .u64 v4)).setCell ⟨gT, 5, none⟩ (.slice vA vl vc)) = W5 := ⟨_, rfl⟩
        rw [hW5] at HX5 HT5 ⊢
        clear hW5 HXc HTc HBc s0 s1 s2 s3 s4 s5 u0 u1 u2 u3 u4 u5 fu0 fu1 fu2 fu3 fu4 fu5
        have CP5 := Lib.hid (peek_q s hs (270 - op) Y2.2 op g W5 HX5.out.rd)
        go_wp2_with fail
        refine CP5.out.mono ?_
        rintro e w6 ⟨rfl, qq, hqq⟩
        have hbq : Below W5.heap.size W5 w6 := by rw [hqq]; exact below_drewN (Below.refl _ _) qq
        have HX6 := Lib.hid (HX5.out.step hbq)
        have HT6 : Hid (Y2.2.e = 0 → ∃ n, RxT w6 (InT w gT w6) n Y2.1 (six v0 v1 v2 v3 v4 vA vl vc)) := Lib.hid fun hy => by
          obtain ⟨n, hn⟩ := HT5.out hy
          exact ⟨n, (hn.below hbq fun b hb => hb.2.1).weak fun b hb => ⟨hb.1, Nat.lt_of_lt_of_le hb.2.1 hbq.size, hb.2.2⟩⟩
        clear hqq hbq CP5 HX5 HT5
        go_wp2_with fail
        go_roundg (s.size + 1)
        case measure => rw [HG.out]; omega
        case rel => exact ⟨(s.size + 1), Y2.1, Y2.2, v0, v1, v2, v3, v4, vA, vl, vc, true, rfl, rfl, rfl, hY2.hi, (fun _ _ => by omega), (fun k => by cases k), Lib.hid (fun k => by cases k), Lib.hid (fun _ => HF2.out), HX6, HT6⟩
      | true =>
        obtain ⟨m, rfl⟩ : ∃ m', m = m' + 1 := ⟨m - 1, by have := hq rfl hys1; omega⟩
        have hyq := hq rfl hys1
        have HF2 : Hid (F = lpR s R m (tTwo 4 t Y2.1) Y2.2) := Lib.hid (by
          rw [HF1.out rfl, HY2e.out]
          exact lpR_go HEY.out)
        have s0 : W3.cell? ⟨gX, 0, none⟩ = some (.int .i64 v0) := HB3.out.cell 0
        have s1 : W3.cell? ⟨gX, 1, none⟩ = some (.int .u64 v1) := HB3.out.cell 1
        have s2 : W3.cell? ⟨gX, 2, none⟩ = some (.int .u64 v2) := HB3.out.cell 2
        have s3 : W3.cell? ⟨gX, 3, none⟩ = some (.int .u64 v3) := HB3.out.cell 3
        have s4 : W3.cell? ⟨gX, 4, none⟩ = some (.int .u64 v4) := HB3.out.cell 4
        have s5 : W3.cell? ⟨gX, 5, none⟩ = some (.slice vA vl vc) := HB3.out.cell 5
        have u0 : W3.cell? ⟨gT, 0, none⟩ = some (.int .i64 x0) := HX3.out.te.cell 0
        have u1 : W3.cell? ⟨gT, 1, none⟩ = some (.int .u64 x1) := HX3.out.te.cell 1
        have u2 : W3.cell? ⟨gT, 2, none⟩ = some (.int .u64 x2) := HX3.out.te.cell 2
        have u3 : W3.cell? ⟨gT, 3, none⟩ = some (.int .u64 x3) := HX3.out.te.cell 3
        have u4 : W3.cell? ⟨gT, 4, none⟩ = some (.int .u64 x4) := HX3.out.te.cell 4
        have u5 : W3.cell? ⟨gT, 5, none⟩ = some (.slice xA xl xc) := HX3.out.te.cell 5
        clear HF0 HF1 HY2e HEY hq hq0
        go_wp2_with fail
        refine (node_two 4 x0 x1 x2 x3 x4 v0 v1 v2 v3 v4 xA vA xl xc vl vc W3).mono ?_
        rintro e w4 ⟨N, rfl, hc4, hN1, hN2, hb4⟩
        have hz4 : W3.heap.size ≤ w4.heap.size := hb4.size
        have hx4 := HX3.out.step hb4
        have hb4x := HB3.out.below hb4 HB3.out.lt
        have HXc := Lib.hid (hx4.other (show w.heap.size < gX by omega) (by omega) 4 0 0 0 0 (some ⟨N, 0, none⟩) 2 2)
        have HBc := Lib.hid (six_put (cs := [.int .i64 v0, .int .u64 v1, .int .u64 v2, .int .u64 v3, .int .u64 v4, .slice vA vl vc]) hb4x rfl 4 0 0 0 0 (some ⟨N, 0, none⟩) 2 2)
        have hzx := size_put6 w4 gX 4 0 0 0 0 (some ⟨N, 0, none⟩) 2 2
        have HTc : Hid (Y2.2.e = 0 → ∃ n, RxT ((((((w4.setCell ⟨gX, 0, none⟩ (.int .i64 4)).setCell ⟨gX, 1, none⟩ (.int .u64 0)).setCell ⟨gX, 2, none⟩ (.int .u64 0)).setCell ⟨gX, 3, none⟩ (.int .u64 0)).setCell ⟨gX, 4, none⟩ (.int .u64 0)).setCell ⟨gX, 5, none⟩ (.slice (some ⟨N, 0, none⟩) 2 2)) (InT w gT ((((((w4.setCell ⟨gX, 0, none⟩ (.int .i64 4)).setCell ⟨gX, 1, none⟩ (.int .u64 0)).setCell ⟨gX, 2, none⟩ (.int .u64 0)).setCell ⟨gX, 3, none⟩ (.int .u64 0)).setCell ⟨gX, 4, none⟩ (.int .u64 0)).setCell ⟨gX, 5, none⟩ (.slice (some ⟨N, 0, none⟩) 2 2))) n (tTwo 4 t Y2.1) (six 4 0 0 0 0 (some ⟨N, 0, none⟩) 2 2)) := Lib.hid fun hy => by
          obtain ⟨n1, hn1⟩ := HTt.out
          obtain ⟨n2, hn2⟩ := HTv.out hy
          have b1 : RxT w4 (fun b => w.heap.size < b ∧ b < w4.heap.size ∧ b ≠ gT ∧ b ≠ gX) n1 t (six x0 x1 x2 x3 x4 xA xl xc) := (hn1.below hb4 fun b hb => by have := hb.2.1; omega).weak fun b hb => ⟨hb.1, by have := hb.2.1; omega, hb.2.2, by have := hb.2.1; omega⟩
          have b2 : RxT w4 (fun b => w.heap.size < b ∧ b < w4.heap.size ∧ b ≠ gT ∧ b ≠ gX) n2 Y2.1 (six v0 v1 v2 v3 v4 vA vl vc) := (hn2.below hb4 fun b hb => by have := hb.2.1; omega).weak fun b hb => ⟨hb.1, by have := hb.2.1; omega, hb.2.2, by have := hb.2.1; omega⟩
          have c := RxT.two (b1.up (Nat.le_max_left n1 n2)) (b2.up (Nat.le_max_right n1 n2)) rfl (show w.heap.size < N ∧ N < w4.heap.size ∧ N ≠ gT ∧ N ≠ gX from ⟨by omega, hN2, by omega, by omega⟩) hc4 4 (by decide) (by decide)
          exact ⟨_, (c.put6 (fun k => k.2.2.2 rfl) 4 0 0 0 0 (some ⟨N, 0, none⟩) 2 2).weak fun b hb => ⟨hb.1, by rw [hzx]; exact hb.2.1, hb.2.2.1⟩⟩
        have q0 : w4.cell? ⟨gX, 0, none⟩ = some (.int .i64 v0) := hb4x.cell 0
        have fq0 : w4.frozen? ⟨gX, 0, none⟩ = false := hb4x.frozen 0
        have q1 : w4.cell? ⟨gX, 1, none⟩ = some (.int .u64 v1) := hb4x.cell 1
        have fq1 : w4.frozen? ⟨gX, 1, none⟩ = false := hb4x.frozen 1
        have q2 : w4.cell? ⟨gX, 2, none⟩ = some (.int .u64 v2) := hb4x.cell 2
        have fq2 : w4.frozen? ⟨gX, 2, none⟩ = false := hb4x.frozen 2
        have q3 : w4.cell? ⟨gX, 3, none⟩ = some (.int .u64 v3) := hb4x.cell 3
        have fq3 : w4.frozen? ⟨gX, 3, none⟩ = false := hb4x.frozen 3
        have q4 : w4.cell? ⟨gX, 4, none⟩ = some (.int .u64 v4) := hb4x.cell 4
        have fq4 : w4.frozen? ⟨gX, 4, none⟩ = false := hb4x.frozen 4
        have q5 : w4.cell? ⟨gX, 5, none⟩ = some (.slice vA vl vc) := hb4x.cell 5
        have fq5 : w4.frozen? ⟨gX, 5, none⟩ = false := hb4x.frozen 5
        clear hx4 hb4x hc4 hb4 HX3 HB3 HTt HTv s0 s1 s2 s3 s4 s5 u0 u1 u2 u3 u4 u5 hzx
        go_upto_region 8 with fail
        obtain ⟨W7, hW7⟩ : ∃ W7, ((((((w4.setCell ⟨gX, 0, none⟩ (.int .i64 4)).setCell ⟨gX, 1, none⟩ (.int .u64 0)).setCell ⟨gX, 2, none⟩ (.int .u64 0)).setCell ⟨gX, 3, none⟩ (.int .u64 0)).setCell ⟨gX, 4, none⟩ (.int .u64 0)).setCell ⟨gX, 5, none⟩ (.slice (some ⟨N, 0, none⟩) 2 2)) = W7 := ⟨_, rfl⟩
        rw [hW7] at HXc HBc HTc ⊢
        clear hW7 q0 q1 q2 q3 q4 q5 fq0 fq1 fq2 fq3 fq4 fq5
        have HX5 := Lib.hid (HXc.out.put rfl 4 0 0 0 0 (some ⟨N, 0, none⟩) 2 2)
        have hz5 := size_put6 W7 gT 4 0 0 0 0 (some ⟨N, 0, none⟩) 2 2
        have HT5 : Hid (Y2.2.e = 0 → ∃ n, RxT ((((((W7.setCell ⟨gT, 0, none⟩ (.int .i64 4)).setCell ⟨gT, 1, none⟩ (.int .u64 0)).setCell ⟨gT, 2, none⟩ (.int .u64 0)).setCell ⟨gT, 3, none⟩ (.int .u64 0)).setCell ⟨gT, 4, none⟩ (.int .u64 0)).setCell ⟨gT, 5, none⟩ (.slice (some ⟨N, 0, none⟩) 2 2)) (InT w gT ((((((W7.setCell ⟨gT, 0, none⟩ (.int .i64 4)).setCell ⟨gT, 1, none⟩ (.int .u64 0)).setCell ⟨gT, 2, none⟩ (.int .u64 0)).setCell ⟨gT, 3, none⟩ (.int .u64 0)).setCell ⟨gT, 4, none⟩ (.int .u64 0)).setCell ⟨gT, 5, none⟩ (.slice (some ⟨N, 0, none⟩) 2 2))) n (tTwo 4 t Y2.1) (six 4 0 0 0 0 (some ⟨N, 0, none⟩) 2 2)) := Lib.hid fun hy => by
          obtain ⟨n, hn⟩ := HTc.out hy
          exact ⟨n, (hn.put6 (fun k => k.2.2 rfl) 4 0 0 0 0 (some ⟨N, 0, none⟩) 2 2).weak fun b hb => ⟨hb.1, by rw [hz5]; exact hb.2.1, hb.2.2⟩⟩
        have s0 : W7.cell? ⟨gX, 0, none⟩ = some (.int .i64 4) := HBc.out.cell 0
        have s1 : W7.cell? ⟨gX, 1, none⟩ = some (.int .u64 0) := HBc.out.cell 1
        have s2 : W7.cell? ⟨gX, 2, none⟩ = some (.int .u64 0) := HBc.out.cell 2
        have s3 : W7.cell? ⟨gX, 3, none⟩ = some (.int .u64 0) := HBc.out.cell 3
        have s4 : W7.cell? ⟨gX, 4, none⟩ = some (.int .u64 0) := HBc.out.cell 4
        have s5 : W7.cell? ⟨gX, 5, none⟩ = some (.slice (some ⟨N, 0, none⟩) 2 2) := HBc.out.cell 5
        have u0 : W7.cell? ⟨gT, 0, none⟩ = some (.int .i64 x0) := HXc.out.te.cell 0
        have fu0 : W7.frozen? ⟨gT, 0, none⟩ = false := HXc.out.te.frozen 0
        have u1 : W7.cell? ⟨gT, 1, none⟩ = some (.int .u64 x1) := HXc.out.te.cell 1
        have fu1 : W7.frozen? ⟨gT, 1, none⟩ = false := HXc.out.te.frozen 1
        have u2 : W7.cell? ⟨gT, 2, none⟩ = some (.int .u64 x2) := HXc.out.te.cell 2
        have fu2 : W7.frozen? ⟨gT, 2, none⟩ = false := HXc.out.te.frozen 2
        have u3 : W7.cell? ⟨gT, 3, none⟩ = some (.int .u64 x3) := HXc.out.te.cell 3
        have fu3 : W7.frozen? ⟨gT, 3, none⟩ = false := HXc.out.te.frozen 3
        have u4 : W7.cell? ⟨gT, 4, none⟩ = some (.int .u64 x4) := HXc.out.te.cell 4
        have fu4 : W7.frozen? ⟨gT, 4, none⟩ = false := HXc.out.te.frozen 4
        have u5 : W7.cell? ⟨gT, 5, none⟩ = some (.slice xA xl xc) := HXc.out.te.cell 5
        have fu5 : W7.frozen? ⟨gT, 5, none⟩ = false := HXc.out.te.frozen 5
        clear hz5
        go_upto_region 4 with fail
        obtain ⟨W5, hW5⟩ : ∃ W5, ((((((W7.setCell ⟨gT, 0, none⟩ (.int .i64 4)).setCell ⟨gT, 1, none⟩ (.int .u64 0)).setCell ⟨gT, 2, none⟩ (.int .u64 0)).setCell ⟨gT, 3, none⟩ (.int .u64 0)).setCell ⟨gT, 4, none⟩ (.int .u64 0)).setCell ⟨gT, 5, none⟩ (.slice (some ⟨N, 0, none⟩) 2 2)) = W5 := ⟨_, rfl⟩
        rw [hW5] at HX5 HT5 ⊢
        clear hW5 HXc HTc HBc s0 s1 s2 s3 s4 s5 u0 u1 u2 u3 u4 u5 fu0 fu1 fu2 fu3 fu4 fu5
        have CP5 := Lib.hid (peek_q s hs (270 - op) Y2.2 op g W5 HX5.out.rd)
        go_wp2_with fail
        refine CP5.out.mono ?_
        rintro e w6 ⟨rfl, qq, hqq⟩
        have hbq : Below W5.heap.size W5 w6 := by rw [hqq]; exact below_drewN (Below.refl _ _) qq
        have HX6 := Lib.hid (HX5.out.step hbq)
        have HT6 : Hid (Y2.2.e = 0 → ∃ n, RxT w6 (InT w gT w6) n (tTwo 4 t Y2.1) (six 4 0 0 0 0 (some ⟨N, 0, none⟩) 2 2)) := Lib.hid fun hy => by
          obtain ⟨n, hn⟩ := HT5.out hy
          exact ⟨n, (hn.below hbq fun b hb => hb.2.1).weak fun b hb => ⟨hb.1, Nat.lt_of_lt_of_le hb.2.1 hbq.size, hb.2.2⟩⟩
        clear hqq hbq CP5 HX5 HT5
        go_wp2_with fail
        go_roundg m
        case measure => rw [HG.out]; omega
        case rel => exact ⟨m, (tTwo 4 t Y2.1), Y2.2, 4, 0, 0, 0, 0, some ⟨N, 0, none⟩, 2, 2, true, rfl, rfl, rfl, hY2.hi, (fun _ hy => by have := hY2.ok hy; omega), (fun k => by cases k), Lib.hid (fun k => by cases k), Lib.hid (fun _ => HF2.out), HX6, HT6⟩
end Go.Proofs.Ytkdcgkdbieeijaa
