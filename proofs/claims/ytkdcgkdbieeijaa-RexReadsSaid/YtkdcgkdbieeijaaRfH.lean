/- Walk: (*wickref.text).atom, by what reads an alternative. (printed by gen_rfh.py) -/
import Derived.Test.YtkdcgkdbieeijaaRfB
import Derived.Test.YtkdcgkdbieeijaaRfG
namespace Go.Proofs.Ytkdcgkdbieeijaa
open Go.RowKit
set_option linter.unusedVariables false
set_option linter.unusedSimpArgs false

/-- the boxes of atom: the reader's and the result's -/
structure Uy (m : Int) (w : World) (g : Nat) (s : ByteArray) (y : Sx) (op : Int) (wr : World) : Prop where
  rd : Tq m wr g s y op
  re : Blk wr w.heap.size 27 #[.int .i64 0, .int .u64 0, .int .u64 0, .int .u64 0, .int .u64 0, .slice none 0 0]
  ko : KeptOff w wr g
  lt : g < w.heap.size
section
variable {m m' : Int} {w wr wr' : World} {g : Nat} {s : ByteArray} {y y' : Sx} {op op' : Int}
theorem Uy.step (h : Uy m w g s y op wr) (hb : Below wr.heap.size wr wr') : Uy m w g s y op wr' := ⟨h.rd.below hb, Blk.below h.re hb (Blk.lt h.re), h.ko.tr (KeptOff.of_below hb), h.lt⟩
theorem Uy.kept (h : Uy m w g s y op wr) (hr : Tq m' wr' g s y' op') (hk : KeptOff wr wr' g) : Uy m' w g s y' op' wr' := ⟨hr, hk.blk h.re (by have := h.lt; omega), h.ko.tr hk, h.lt⟩
theorem Uy.more (h : Uy m w g s y op wr) (hm : m ≤ m') : Uy m' w g s y op wr := ⟨h.rd.more hm, h.re, h.ko, h.lt⟩
theorem Uy.up (h : Uy m w g s y op wr) (he : y.e = 0) (hm : (y.p : Int) + 1 ≤ m) : Uy m w g s y.up op (wr.setCell ⟨g, 1, none⟩ (.int .i64 ((y.p : Int) + 1))) := by
  have hlt := h.lt
  exact ⟨h.rd.up he hm, Blk.far h.re (by dsimp only; omega) _, h.ko.set_ 1 _, h.lt⟩
theorem Uy.opn (h : Uy m w g s y op wr) (o : Int) : Uy m w g s y o (wr.setCell ⟨g, 2, none⟩ (.int .i64 o)) := by
  have hlt := h.lt
  exact ⟨h.rd.opn o, Blk.far h.re (by dsimp only; omega) _, h.ko.set_ 2 _, h.lt⟩
end
theorem TsRes.mk {s : ByteArray} {op : Int} {g : Nat} {F : Rx × Sx} {y : Sx} {w w' : World} {x0 x1 x2 x3 x4 : Int} {xA : Option Addr} {xl xc : Nat} (h2 : F.2 = y) (ht : Tq (270 - op) w' g s y op) (hk : KeptOff w w' g) (hn : y.e = 0 → ∃ n, RxT w' (fun b => w.heap.size ≤ b ∧ b < w'.heap.size) n F.1 (six x0 x1 x2 x3 x4 xA xl xc)) : TsRes s op g F w (.returned (.agg #[.int .i64 x0, .int .u64 x1, .int .u64 x2, .int .u64 x3, .int .u64 x4, .slice xA xl xc])) w' := ⟨x0, x1, x2, x3, x4, xA, xl, xc, rfl, by rw [h2]; exact ht, hk, by rw [h2]; exact hn⟩
set_option maxRecDepth 100000 in
set_option maxHeartbeats 16000000 in
theorem atom_okR (s : ByteArray) (hs : s.size ≤ 200) (op : Int) (o : Option (Sx → Rx × Sx)) (hop : 0 ≤ op ∧ op ≤ 20) (h20 : o = none → op = 20) (hB : ∀ B, o = some B → op ≠ 20 ∧ TsOk 15 (op + 1) s B ∧ Go0 s B) : TsOk 67 op s (amG s o) := by
  intro g w x he hp hR
  obtain ⟨W, hW⟩ : ∃ W, w.alloc (.cells #[.int .i64 0, .int .u64 0, .int .u64 0, .int .u64 0, .int .u64 0, .slice none 0 0] 27) = W := ⟨_, rfl⟩
  have hU : Uy (270 - op) w g s x op W := ⟨by rw [← hW]; exact hR.alloc _, by rw [← hW]; exact Blk.new w _ _, by rw [← hW]; exact KeptOff.refl.alloc _, hR.lt⟩
  have CP := Lib.hid (peek_q s hs (270 - op) x op g W hU.rd)
  have HX0 := Lib.hid hU
  have hne := hU.lt
  obtain ⟨F, hF⟩ : ∃ F, F = amG s o x := ⟨_, rfl⟩
  rw [← hF]
  have hlo := nx_lo s x
  clear hU hR
  by_cases h40 : nx s x = 40
  · have e40 : ((pk s x).toList == [40]) = true := by rw [pk_is]; exact beq_iff_eq.2 (show nx s x = 40 from h40)
    have hx40 := nx_some (s := s) (x := x) (by omega)
    have hxl := hx40.2
    cases o with
    | none =>
      have h2 := h20 rfl
      have HFe : Hid (F.2 = x.fl 11 ∧ ((x.fl 11).e = 0 → F.1 = tOne 0)) := Lib.hid (by rw [hF]; unfold amG; rw [if_pos h40]; exact ⟨rfl, fun _ => rfl⟩)
      clear h40 hF hB h20 hx40
      go_enter Try.func67, Try.ntmps67
      go_wp2_with fail
      refine CP.out.mono ?_
      rintro e w1 ⟨rfl, qq, hqq⟩
      have HX1 := Lib.hid (HX0.out.step (wr' := w1) (by rw [hqq]; exact below_drewN (Below.refl _ _) qq))
      clear hqq hW CP HX0
      obtain ⟨rr, hrr⟩ := HX1.out.rd.at0 he
      obtain ⟨c0, c1, c2, c3, c4⟩ := hrr.facts
      rw [h2] at c2
      clear hrr
      go_wp2_with fail
      refine (wrong_q s _ x op g w1 11 (x.p : Int) (by decide) (fun _ => rfl) HX1.out.rd).mono ?_
      rintro e w9 ⟨rfl, hr9, hk9⟩
      have HX := Lib.hid (HX1.out.kept hr9 hk9)
      clear hr9 hk9 c0 c1 c2 c3 c4 HX1 h2
      have r0 : w9.cell? ⟨w.heap.size, 0, none⟩ = some (.int .i64 0) := HX.out.re.cell 0
      have fr0 : w9.frozen? ⟨w.heap.size, 0, none⟩ = false := HX.out.re.frozen 0
      have r1 : w9.cell? ⟨w.heap.size, 1, none⟩ = some (.int .u64 0) := HX.out.re.cell 1
      have fr1 : w9.frozen? ⟨w.heap.size, 1, none⟩ = false := HX.out.re.frozen 1
      have r2 : w9.cell? ⟨w.heap.size, 2, none⟩ = some (.int .u64 0) := HX.out.re.cell 2
      have fr2 : w9.frozen? ⟨w.heap.size, 2, none⟩ = false := HX.out.re.frozen 2
      have r3 : w9.cell? ⟨w.heap.size, 3, none⟩ = some (.int .u64 0) := HX.out.re.cell 3
      have fr3 : w9.frozen? ⟨w.heap.size, 3, none⟩ = false := HX.out.re.frozen 3
      have r4 : w9.cell? ⟨w.heap.size, 4, none⟩ = some (.int .u64 0) := HX.out.re.cell 4
      have fr4 : w9.frozen? ⟨w.heap.size, 4, none⟩ = false := HX.out.re.frozen 4
      have r5 : w9.cell? ⟨w.heap.size, 5, none⟩ = some (.slice none 0 0) := HX.out.re.cell 5
      have fr5 : w9.frozen? ⟨w.heap.size, 5, none⟩ = false := HX.out.re.frozen 5
      have HZ := Lib.hid (six_put (cs := [.int .i64 0, .int .u64 0, .int .u64 0, .int .u64 0, .int .u64 0, .slice none 0 0]) HX.out.re rfl 0 0 0 0 0 none 0 0)
      have HZK := Lib.hid (HX.out.ko.put6 (Nat.le_refl _) 0 0 0 0 0 none 0 0)
      have HZR := Lib.hid (Tq.far6 HX.out.rd (by have := HX.out.lt; omega : w.heap.size ≠ g) 0 0 0 0 0 none 0 0)
      clear HX
      go_wp2_with fail
      obtain ⟨wz, hwz⟩ : ∃ wz, wz = ((((((w9.setCell ⟨w.heap.size, 0, none⟩ (.int .i64 0)).setCell ⟨w.heap.size, 1, none⟩ (.int .u64 0)).setCell ⟨w.heap.size, 2, none⟩ (.int .u64 0)).setCell ⟨w.heap.size, 3, none⟩ (.int .u64 0)).setCell ⟨w.heap.size, 4, none⟩ (.int .u64 0)).setCell ⟨w.heap.size, 5, none⟩ (.slice none 0 0)) := ⟨_, rfl⟩
      have hz := HZ.out
      have hzk := HZK.out
      have hzr := HZR.out
      rw [← hwz] at hz hzk hzr ⊢
      have z0 : wz.cell? ⟨w.heap.size, 0, none⟩ = some (.int .i64 0) := hz.cell 0
      have z1 : wz.cell? ⟨w.heap.size, 1, none⟩ = some (.int .u64 0) := hz.cell 1
      have z2 : wz.cell? ⟨w.heap.size, 2, none⟩ = some (.int .u64 0) := hz.cell 2
      have z3 : wz.cell? ⟨w.heap.size, 3, none⟩ = some (.int .u64 0) := hz.cell 3
      have z4 : wz.cell? ⟨w.heap.size, 4, none⟩ = some (.int .u64 0) := hz.cell 4
      have z5 : wz.cell? ⟨w.heap.size, 5, none⟩ = some (.slice none 0 0) := hz.cell 5
      refine bodyPost_ret (v := .agg #[.int .i64 0, .int .u64 0, .int .u64 0, .int .u64 0, .int .u64 0, .slice none 0 0]) (by simp [results, Try.results67, go_sem, z0, z1, z2, z3, z4, z5]) rfl (TsRes.mk HFe.out.1 hzr hzk fun hy => ⟨1, by rw [HFe.out.2 hy]; exact RxT.leaf wz _ 0 zq zq_ok (by decide) (by decide)⟩)
    | some B =>
      obtain ⟨hn20, hAlt, hGo⟩ := hB B rfl
      have f20 : (op == 20) = false := by rw [beq_eq_false_iff_ne]; exact hn20
      have hup := up_go (s := s) (x := x) (by omega)
      have hxe : x.up.e = 0 := he
      have hY := hGo x.up hxe hup.hi
      have HFx : Hid (F = ((B x.up).1, if nx s (B x.up).2 = 41 then (B x.up).2.up else (B x.up).2.fl 3)) := Lib.hid (by rw [hF]; unfold amG; rw [if_pos h40])
      have CA := Lib.hid fun w' (hr : Tq (270 - (op + 1)) w' g s x.up (op + 1)) => hAlt g w' x.up hxe hup.hi hr
      have hw2 : IntKind.i64.wrap (op + 1) = op + 1 := IntWalk.i64_in _ (by omega)
      have hw3 : IntKind.i64.wrap (op + 1 - 1) = op := by rw [show op + 1 - 1 = op by omega]; exact IntWalk.i64_in _ (by omega)
      obtain ⟨Y, hYe⟩ : ∃ Y, Y = B x.up := ⟨_, rfl⟩
      have CA' := CA.out
      have HFx' := HFx.out
      rw [← hYe] at CA' HFx' hY
      have CA := Lib.hid CA'
      have HFx := Lib.hid HFx'
      have hYp : Y.2.p ≤ s.size := hY.1
      clear h40 hF hB h20 hn20 hAlt hGo hYe CA' HFx' hup hx40 hY
      go_enter Try.func67, Try.ntmps67
      go_wp2_with fail
      refine CP.out.mono ?_
      rintro e w1 ⟨rfl, qq, hqq⟩
      have HX1 := Lib.hid (HX0.out.step (wr' := w1) (by rw [hqq]; exact below_drewN (Below.refl _ _) qq))
      clear hqq hW CP HX0
      obtain ⟨rr0, hrr0⟩ := HX1.out.rd.at0 he
      obtain ⟨c0, c1, c2, c3, c4⟩ := hrr0.facts
      clear hrr0
      go_upto_region 6 with fail
      clear c0 c1 c2 c3 c4
      obtain ⟨rr, hrr⟩ := HX1.out.rd.at0 he
      obtain ⟨c0, c1, c2, c3, c4⟩ := hrr.facts
      have cf1 := hrr.froz 1
      have hwp : IntKind.i64.wrap ((x.p : Int) + 1) = (x.p : Int) + 1 := IntWalk.i64_in _ (by omega)
      have HX2 := Lib.hid (HX1.out.up he (by omega))
      clear hrr
      go_upto_region 7 with fail
      obtain ⟨w2, hw2⟩ : ∃ w2, w1.setCell ⟨g, 1, none⟩ (.int .i64 ((x.p : Int) + 1)) = w2 := ⟨_, rfl⟩
      rw [hw2] at HX2 ⊢
      clear hw2 HX1 c0 c1 c2 c3 c4 cf1 hwp
      obtain ⟨rr2, hrr2⟩ := HX2.out.rd.at0 hxe
      obtain ⟨c0, c1, c2, c3, c4⟩ := hrr2.facts
      have cf2 := hrr2.froz 2
      have HXa := Lib.hid (HX2.out.opn (op + 1))
      have hta : Tq (270 - (op + 1)) (w2.setCell ⟨g, 2, none⟩ (.int .i64 (op + 1))) g s x.up (op + 1) := Tq.of0 (r := rr2) (hrr2.setO (op + 1)) hxe (by show ((x.p + 1 : Nat) : Int) ≤ _; omega)
      have HTA := Lib.hid hta
      clear hta hrr2
      go_wp2_with fail
      refine (CA.out _ HTA.out).mono ?_
      rintro e w4 ⟨x0, x1, x2, x3, x4, xA, xl, xc, rfl, hr4, hk4, ht4⟩
      have hU4 := HXa.out.kept hr4 hk4
      have hz4 : w.heap.size < w4.heap.size := Blk.lt hU4.re
      have hX1 : Ty (270 - (op + 1)) w g w4.heap.size s Y.2 (op + 1) (six x0 x1 x2 x3 x4 xA xl xc) (w4.alloc (.cells #[.int .i64 x0, .int .u64 x1, .int .u64 x2, .int .u64 x3, .int .u64 x4, .slice xA xl xc] 27)) := ⟨hU4.rd.alloc _, Blk.alloc hU4.re _, Blk.new w4 _ _, hU4.ko.alloc _, hU4.lt, hz4⟩
      have hsz : w.heap.size < (w2.setCell ⟨g, 2, none⟩ (.int .i64 (op + 1))).heap.size := Blk.lt HXa.out.re
      have HT1 : Hid (Y.2.e = 0 → ∃ n, RxT (w4.alloc (.cells #[.int .i64 x0, .int .u64 x1, .int .u64 x2, .int .u64 x3, .int .u64 x4, .slice xA xl xc] 27)) (InT w w4.heap.size (w4.alloc (.cells #[.int .i64 x0, .int .u64 x1, .int .u64 x2, .int .u64 x3, .int .u64 x4, .slice xA xl xc] 27))) n Y.1 (six x0 x1 x2 x3 x4 xA xl xc)) := Lib.hid fun hy => by
        obtain ⟨n, hn⟩ := ht4 hy
        refine ⟨n, (hn.below ((Below.refl _ _).alloc (Nat.le_refl _) _) fun b hb => hb.2).weak fun b hb => ⟨Nat.lt_of_lt_of_le hsz hb.1, by simp; omega, by omega⟩⟩
      have HX1 := Lib.hid hX1
      clear hX1 hU4 hr4 hk4 ht4 hsz HX2 HXa HTA c0 c1 c2 c3 c4 cf2
      go_upto_region 9 with fail
      obtain ⟨gT, hgT⟩ : ∃ gT, w4.heap.size = gT := ⟨_, rfl⟩
      rw [hgT] at HX1 HT1 ⊢
      obtain ⟨W1, hW1⟩ : ∃ W1, w4.alloc (.cells #[.int .i64 x0, .int .u64 x1, .int .u64 x2, .int .u64 x3, .int .u64 x4, .slice xA xl xc] 27) = W1 := ⟨_, rfl⟩
      rw [hW1] at HX1 HT1 ⊢
      clear hW1 hgT hz4
      obtain ⟨aa, ra, hra, hra1, hra2, hra3, hra4⟩ := HX1.out.rd
      obtain ⟨c0, c1, c2, c3, c4⟩ := hra.facts
      have cf2 := hra.froz 2
      clear hra hra1 hra2 hra3 hra4
      have HX2 : Hid (Ty (270 - (op + 1)) w g gT s Y.2 op (six x0 x1 x2 x3 x4 xA xl xc) (W1.setCell ⟨g, 2, none⟩ (.int .i64 op))) := Lib.hid (HX1.out.opn op)
      have HT2 : Hid (Y.2.e = 0 → ∃ n, RxT (W1.setCell ⟨g, 2, none⟩ (.int .i64 op)) (InT w gT (W1.setCell ⟨g, 2, none⟩ (.int .i64 op))) n Y.1 (six x0 x1 x2 x3 x4 xA xl xc)) := Lib.hid fun hy => by
        obtain ⟨n, hn⟩ := HT1.out hy
        have hgl := HX1.out.lt
        exact ⟨n, (hn.store (p := ⟨g, 2, none⟩) (fun k => by have := k.1; dsimp only at this; omega) _).weak fun b hb => ⟨hb.1, by simpa [World.setCell] using hb.2.1, hb.2.2⟩⟩
      go_upto_region 10 with fail
      obtain ⟨W2, hW2⟩ : ∃ W2, W1.setCell ⟨g, 2, none⟩ (.int .i64 op) = W2 := ⟨_, rfl⟩
      rw [hW2] at HX2 HT2 ⊢
      clear hW2 c0 c1 c2 c3 c4 cf2 HX1 HT1
      have CP2 := Lib.hid (peek_q s hs (270 - (op + 1)) Y.2 op g W2 HX2.out.rd)
      have CPd : ∀ v, ((pk s Y.2).toList == [41]) = v → True := fun _ _ => trivial
      by_cases h41 : nx s Y.2 = 41
      · obtain ⟨y, hyY⟩ : ∃ y, y = Y.2.up := ⟨_, rfl⟩
        have HFe : Hid (F = (Y.1, y)) := Lib.hid (by rw [HFx.out, if_pos h41, hyY])
        have hYs := nx_some (s := s) (x := Y.2) (by omega)
        have hYe := hYs.1
        have hYl := hYs.2
        have e41 : ((pk s Y.2).toList == [41]) = true := by rw [pk_is]; exact beq_iff_eq.2 (show nx s Y.2 = 41 from h41)
        clear h41 hYs CPd
        go_wp2_with fail
        refine CP2.out.mono ?_
        rintro e w8 ⟨rfl, qq, hqq⟩
        have hbq : Below W2.heap.size W2 w8 := by rw [hqq]; exact below_drewN (Below.refl _ _) qq
        have HX8 := Lib.hid (HX2.out.step hbq)
        have HT8 : Hid (∃ n, RxT w8 (InT w gT w8) n Y.1 (six x0 x1 x2 x3 x4 xA xl xc)) := Lib.hid (by
          obtain ⟨n, hn⟩ := HT2.out hYe
          exact ⟨n, (hn.below hbq fun b hb => hb.2.1).weak fun b hb => ⟨hb.1, Nat.lt_of_lt_of_le hb.2.1 hbq.size, hb.2.2⟩⟩)
        clear hqq hbq HX2 HT2 CP2
        obtain ⟨r8, hr8⟩ := HX8.out.rd.at0 hYe
        obtain ⟨c0, c1, c2, c3, c4⟩ := hr8.facts
        have cf1 := hr8.froz 1
        have hw8 : IntKind.i64.wrap ((Y.2.p : Int) + 1) = (Y.2.p : Int) + 1 := IntWalk.i64_in _ (by omega)
        have HXu := Lib.hid (HX8.out.up hYe (by omega))
        have HTu : Hid (y.e = 0 → ∃ n, RxT (w8.setCell ⟨g, 1, none⟩ (.int .i64 ((Y.2.p : Int) + 1))) (InT w gT (w8.setCell ⟨g, 1, none⟩ (.int .i64 ((Y.2.p : Int) + 1)))) n Y.1 (six x0 x1 x2 x3 x4 xA xl xc)) := Lib.hid fun _ => by
          obtain ⟨n, hn⟩ := HT8.out
          have hgl := HX8.out.lt
          exact ⟨n, (hn.store (p := ⟨g, 1, none⟩) (fun k => by have := k.1; dsimp only at this; omega) _).weak fun b hb => ⟨hb.1, by simpa [World.setCell] using hb.2.1, hb.2.2⟩⟩
        rw [← hyY] at HXu
        clear hr8
        go_upto_region 13 with fail
        obtain ⟨w9, hw9⟩ : ∃ w9, w8.setCell ⟨g, 1, none⟩ (.int .i64 ((Y.2.p : Int) + 1)) = w9 := ⟨_, rfl⟩
        rw [hw9] at HXu HTu ⊢
        have HX9 : Hid (Ty (270 - op) w g gT s y op (six x0 x1 x2 x3 x4 xA xl xc) w9) := Lib.hid ⟨HXu.out.rd.more (by omega), HXu.out.re, HXu.out.te, HXu.out.ko, HXu.out.lt, HXu.out.gl⟩
        have HT9 := HTu
        clear hw9 HXu HTu c0 c1 c2 c3 c4 cf1 hw8 hyY HX8 HT8
        obtain ⟨t, ht⟩ : ∃ t, t = Y.1 := ⟨_, rfl⟩
        rw [← ht] at HFe HT9
        have s0 : w9.cell? ⟨gT, 0, none⟩ = some (.int .i64 x0) := HX9.out.te.cell 0
        have s1 : w9.cell? ⟨gT, 1, none⟩ = some (.int .u64 x1) := HX9.out.te.cell 1
        have s2 : w9.cell? ⟨gT, 2, none⟩ = some (.int .u64 x2) := HX9.out.te.cell 2
        have s3 : w9.cell? ⟨gT, 3, none⟩ = some (.int .u64 x3) := HX9.out.te.cell 3
        have s4 : w9.cell? ⟨gT, 4, none⟩ = some (.int .u64 x4) := HX9.out.te.cell 4
        have s5 : w9.cell? ⟨gT, 5, none⟩ = some (.slice xA xl xc) := HX9.out.te.cell 5
        have r0 : w9.cell? ⟨w.heap.size, 0, none⟩ = some (.int .i64 0) := HX9.out.re.cell 0
        have fr0 : w9.frozen? ⟨w.heap.size, 0, none⟩ = false := HX9.out.re.frozen 0
        have r1 : w9.cell? ⟨w.heap.size, 1, none⟩ = some (.int .u64 0) := HX9.out.re.cell 1
        have fr1 : w9.frozen? ⟨w.heap.size, 1, none⟩ = false := HX9.out.re.frozen 1
        have r2 : w9.cell? ⟨w.heap.size, 2, none⟩ = some (.int .u64 0) := HX9.out.re.cell 2
        have fr2 : w9.frozen? ⟨w.heap.size, 2, none⟩ = false := HX9.out.re.frozen 2
        have r3 : w9.cell? ⟨w.heap.size, 3, none⟩ = some (.int .u64 0) := HX9.out.re.cell 3
        have fr3 : w9.frozen? ⟨w.heap.size, 3, none⟩ = false := HX9.out.re.frozen 3
        have r4 : w9.cell? ⟨w.heap.size, 4, none⟩ = some (.int .u64 0) := HX9.out.re.cell 4
        have fr4 : w9.frozen? ⟨w.heap.size, 4, none⟩ = false := HX9.out.re.frozen 4
        have r5 : w9.cell? ⟨w.heap.size, 5, none⟩ = some (.slice none 0 0) := HX9.out.re.cell 5
        have fr5 : w9.frozen? ⟨w.heap.size, 5, none⟩ = false := HX9.out.re.frozen 5
        have HZ := Lib.hid (six_put (cs := [.int .i64 0, .int .u64 0, .int .u64 0, .int .u64 0, .int .u64 0, .slice none 0 0]) HX9.out.re rfl x0 x1 x2 x3 x4 xA xl xc)
        have hne := HX9.out.lt
        have HZK := Lib.hid (HX9.out.ko.put6 (Nat.le_refl _) x0 x1 x2 x3 x4 xA xl xc)
        have HZR := Lib.hid (Tq.far6 HX9.out.rd (by omega : w.heap.size ≠ g) x0 x1 x2 x3 x4 xA xl xc)
        have HZS := Lib.hid (size_put6 w9 w.heap.size x0 x1 x2 x3 x4 xA xl xc)
        have HZT : Hid (y.e = 0 → ∃ n, RxT ((((((w9.setCell ⟨w.heap.size, 0, none⟩ (.int .i64 x0)).setCell ⟨w.heap.size, 1, none⟩ (.int .u64 x1)).setCell ⟨w.heap.size, 2, none⟩ (.int .u64 x2)).setCell ⟨w.heap.size, 3, none⟩ (.int .u64 x3)).setCell ⟨w.heap.size, 4, none⟩ (.int .u64 x4)).setCell ⟨w.heap.size, 5, none⟩ (.slice xA xl xc)) (fun b => w.heap.size ≤ b ∧ b < w9.heap.size) n t (six x0 x1 x2 x3 x4 xA xl xc)) := Lib.hid fun hy => by
          obtain ⟨n, hn⟩ := HT9.out hy
          exact ⟨n, (hn.put6 (fun k => absurd k.1 (Nat.lt_irrefl _)) x0 x1 x2 x3 x4 xA xl xc).weak fun b hb => ⟨Nat.le_of_lt hb.1, hb.2.1⟩⟩
        clear HX9
        go_wp2_with fail
        obtain ⟨wz, hwz⟩ : ∃ wz, wz = ((((((w9.setCell ⟨w.heap.size, 0, none⟩ (.int .i64 x0)).setCell ⟨w.heap.size, 1, none⟩ (.int .u64 x1)).setCell ⟨w.heap.size, 2, none⟩ (.int .u64 x2)).setCell ⟨w.heap.size, 3, none⟩ (.int .u64 x3)).setCell ⟨w.heap.size, 4, none⟩ (.int .u64 x4)).setCell ⟨w.heap.size, 5, none⟩ (.slice xA xl xc)) := ⟨_, rfl⟩
        have hz := HZ.out
        have hzk := HZK.out
        have hzr := HZR.out
        have hzs := HZS.out
        have hzt := HZT.out
        rw [← hwz] at hz hzk hzr hzs hzt ⊢
        have z0 : wz.cell? ⟨w.heap.size, 0, none⟩ = some (.int .i64 x0) := hz.cell 0
        have z1 : wz.cell? ⟨w.heap.size, 1, none⟩ = some (.int .u64 x1) := hz.cell 1
        have z2 : wz.cell? ⟨w.heap.size, 2, none⟩ = some (.int .u64 x2) := hz.cell 2
        have z3 : wz.cell? ⟨w.heap.size, 3, none⟩ = some (.int .u64 x3) := hz.cell 3
        have z4 : wz.cell? ⟨w.heap.size, 4, none⟩ = some (.int .u64 x4) := hz.cell 4
        have z5 : wz.cell? ⟨w.heap.size, 5, none⟩ = some (.slice xA xl xc) := hz.cell 5
        refine bodyPost_ret (v := .agg #[.int .i64 x0, .int .u64 x1, .int .u64 x2, .int .u64 x3, .int .u64 x4, .slice xA xl xc]) (by simp [results, Try.results67, go_sem, z0, z1, z2, z3, z4, z5]) rfl ⟨x0, x1, x2, x3, x4, xA, xl, xc, rfl, by rw [HFe.out]; exact hzr, hzk, fun hy => by
          rw [HFe.out] at hy ⊢
          obtain ⟨n, hn⟩ := hzt hy
          exact ⟨n, hn.weak fun b hb => ⟨hb.1, by omega⟩⟩⟩
      · obtain ⟨y, hyY⟩ : ∃ y, y = Y.2.fl 3 := ⟨_, rfl⟩
        have HFe : Hid (F = (Y.1, y)) := Lib.hid (by rw [HFx.out, if_neg h41, hyY])
        have hye : ¬ y.e = 0 := by rw [hyY]; exact fl_e (by decide)
        have e41 : ((pk s Y.2).toList == [41]) = false := by rw [pk_is]; exact beq_eq_false_iff_ne.2 (show ¬ nx s Y.2 = 41 from h41)
        clear h41 CPd
        go_wp2_with fail
        refine CP2.out.mono ?_
        rintro e w8 ⟨rfl, qq, hqq⟩
        have HX8 := Lib.hid (HX2.out.step (wr' := w8) (by rw [hqq]; exact below_drewN (Below.refl _ _) qq))
        clear hqq HX2 HT2 CP2
        obtain ⟨aa, ra, hra, hra1, hra2, hra3, hra4⟩ := HX8.out.rd
        obtain ⟨c0, c1, c2, c3, c4⟩ := hra.facts
        have HRA := Lib.hid hra1
        clear hra hra1 hra2 hra3 hra4
        go_wp2_with fail
        refine (wrong_q s _ Y.2 op g w8 3 aa (by decide) HRA.out HX8.out.rd).mono ?_
        rintro e w7 ⟨rfl, hr7, hk7⟩
        rw [← hyY] at hr7
        have HX7 := Lib.hid (HX8.out.kept hr7 hk7)
        clear hr7 hk7 hyY HX8 HRA c0 c1 c2 c3 c4
        obtain ⟨ab, rb, hrb, hrb1, hrb2, hrb3, hrb4⟩ := HX7.out.rd
        obtain ⟨c0, c1, c2, c3, c4⟩ := hrb.facts
        have cf1 := hrb.froz 1
        have hw8 : IntKind.i64.wrap (ab + 1) = ab + 1 := IntWalk.i64_in _ (by omega)
        have hlt7 := HX7.out.lt
        have hgl7 := HX7.out.gl
        have HXu : Hid (Ty (270 - op) w g gT s y op (six x0 x1 x2 x3 x4 xA xl xc) (w7.setCell ⟨g, 1, none⟩ (.int .i64 (ab + 1)))) := Lib.hid ⟨⟨ab + 1, rb, hrb.setP (ab + 1), fun k => absurd k hye, hrb2, by omega, by omega⟩, Blk.far HX7.out.re (by dsimp only; omega) _, Blk.far HX7.out.te (by dsimp only; omega) _, HX7.out.ko.set_ 1 _, HX7.out.lt, HX7.out.gl⟩
        clear hrb hrb1 hrb2
        go_upto_region 13 with fail
        obtain ⟨w9, hw9⟩ : ∃ w9, w7.setCell ⟨g, 1, none⟩ (.int .i64 (ab + 1)) = w9 := ⟨_, rfl⟩
        rw [hw9] at HXu ⊢
        have HX9 := HXu
        have HT9 : Hid (y.e = 0 → ∃ n, RxT w9 (InT w gT w9) n Y.1 (six x0 x1 x2 x3 x4 xA xl xc)) := Lib.hid fun hy => absurd hy hye
        clear hw9 HXu c0 c1 c2 c3 c4 cf1 hw8 hye HX7 hlt7 hgl7
        obtain ⟨t, ht⟩ : ∃ t, t = Y.1 := ⟨_, rfl⟩
        rw [← ht] at HFe HT9
        have s0 : w9.cell? ⟨gT, 0, none⟩ = some (.int .i64 x0) := HX9.out.te.cell 0
        have s1 : w9.cell? ⟨gT, 1, none⟩ = some (.int .u64 x1) := HX9.out.te.cell 1
        have s2 : w9.cell? ⟨gT, 2, none⟩ = some (.int .u64 x2) := HX9.out.te.cell 2
        have s3 : w9.cell? ⟨gT, 3, none⟩ = some (.int .u64 x3) := HX9.out.te.cell 3
        have s4 : w9.cell? ⟨gT, 4, none⟩ = some (.int .u64 x4) := HX9.out.te.cell 4
        have s5 : w9.cell? ⟨gT, 5, none⟩ = some (.slice xA xl xc) := HX9.out.te.cell 5
        have r0 : w9.cell? ⟨w.heap.size, 0, none⟩ = some (.int .i64 0) := HX9.out.re.cell 0
        have fr0 : w9.frozen? ⟨w.heap.size, 0, none⟩ = false := HX9.out.re.frozen 0
        have r1 : w9.cell? ⟨w.heap.size, 1, none⟩ = some (.int .u64 0) := HX9.out.re.cell 1
        have fr1 : w9.frozen? ⟨w.heap.size, 1, none⟩ = false := HX9.out.re.frozen 1
        have r2 : w9.cell? ⟨w.heap.size, 2, none⟩ = some (.int .u64 0) := HX9.out.re.cell 2
        have fr2 : w9.frozen? ⟨w.heap.size, 2, none⟩ = false := HX9.out.re.frozen 2
        have r3 : w9.cell? ⟨w.heap.size, 3, none⟩ = some (.int .u64 0) := HX9.out.re.cell 3
        have fr3 : w9.frozen? ⟨w.heap.size, 3, none⟩ = false := HX9.out.re.frozen 3
        have r4 : w9.cell? ⟨w.heap.size, 4, none⟩ = some (.int .u64 0) := HX9.out.re.cell 4
        have fr4 : w9.frozen? ⟨w.heap.size, 4, none⟩ = false := HX9.out.re.frozen 4
        have r5 : w9.cell? ⟨w.heap.size, 5, none⟩ = some (.slice none 0 0) := HX9.out.re.cell 5
        have fr5 : w9.frozen? ⟨w.heap.size, 5, none⟩ = false := HX9.out.re.frozen 5
        have HZ := Lib.hid (six_put (cs := [.int .i64 0, .int .u64 0, .int .u64 0, .int .u64 0, .int .u64 0, .slice none 0 0]) HX9.out.re rfl x0 x1 x2 x3 x4 xA xl xc)
        have hne := HX9.out.lt
        have HZK := Lib.hid (HX9.out.ko.put6 (Nat.le_refl _) x0 x1 x2 x3 x4 xA xl xc)
        have HZR := Lib.hid (Tq.far6 HX9.out.rd (by omega : w.heap.size ≠ g) x0 x1 x2 x3 x4 xA xl xc)
        have HZS := Lib.hid (size_put6 w9 w.heap.size x0 x1 x2 x3 x4 xA xl xc)
        have HZT : Hid (y.e = 0 → ∃ n, RxT ((((((w9.setCell ⟨w.heap.size, 0, none⟩ (.int .i64 x0)).setCell ⟨w.heap.size, 1, none⟩ (.int .u64 x1)).setCell ⟨w.heap.size, 2, none⟩ (.int .u64 x2)).setCell ⟨w.heap.size, 3, none⟩ (.int .u64 x3)).setCell ⟨w.heap.size, 4, none⟩ (.int .u64 x4)).setCell ⟨w.heap.size, 5, none⟩ (.slice xA xl xc)) (fun b => w.heap.size ≤ b ∧ b < w9.heap.size) n t (six x0 x1 x2 x3 x4 xA xl xc)) := Lib.hid fun hy => by
          obtain ⟨n, hn⟩ := HT9.out hy
          exact ⟨n, (hn.put6 (fun k => absurd k.1 (Nat.lt_irrefl _)) x0 x1 x2 x3 x4 xA xl xc).weak fun b hb => ⟨Nat.le_of_lt hb.1, hb.2.1⟩⟩
        clear HX9
        go_wp2_with fail
        obtain ⟨wz, hwz⟩ : ∃ wz, wz = ((((((w9.setCell ⟨w.heap.size, 0, none⟩ (.int .i64 x0)).setCell ⟨w.heap.size, 1, none⟩ (.int .u64 x1)).setCell ⟨w.heap.size, 2, none⟩ (.int .u64 x2)).setCell ⟨w.heap.size, 3, none⟩ (.int .u64 x3)).setCell ⟨w.heap.size, 4, none⟩ (.int .u64 x4)).setCell ⟨w.heap.size, 5, none⟩ (.slice xA xl xc)) := ⟨_, rfl⟩
        have hz := HZ.out
        have hzk := HZK.out
        have hzr := HZR.out
        have hzs := HZS.out
        have hzt := HZT.out
        rw [← hwz] at hz hzk hzr hzs hzt ⊢
        have z0 : wz.cell? ⟨w.heap.size, 0, none⟩ = some (.int .i64 x0) := hz.cell 0
        have z1 : wz.cell? ⟨w.heap.size, 1, none⟩ = some (.int .u64 x1) := hz.cell 1
        have z2 : wz.cell? ⟨w.heap.size, 2, none⟩ = some (.int .u64 x2) := hz.cell 2
        have z3 : wz.cell? ⟨w.heap.size, 3, none⟩ = some (.int .u64 x3) := hz.cell 3
        have z4 : wz.cell? ⟨w.heap.size, 4, none⟩ = some (.int .u64 x4) := hz.cell 4
        have z5 : wz.cell? ⟨w.heap.size, 5, none⟩ = some (.slice xA xl xc) := hz.cell 5
        refine bodyPost_ret (v := .agg #[.int .i64 x0, .int .u64 x1, .int .u64 x2, .int .u64 x3, .int .u64 x4, .slice xA xl xc]) (by simp [results, Try.results67, go_sem, z0, z1, z2, z3, z4, z5]) rfl ⟨x0, x1, x2, x3, x4, xA, xl, xc, rfl, by rw [HFe.out]; exact hzr, hzk, fun hy => by
          rw [HFe.out] at hy ⊢
          obtain ⟨n, hn⟩ := hzt hy
          exact ⟨n, hn.weak fun b hb => ⟨hb.1, by omega⟩⟩⟩
  · skip
    by_cases h46 : nx s x = 46
    · have e40 : ((pk s x).toList == [40]) = false := by rw [pk_is]; exact beq_eq_false_iff_ne.2 (show ¬ nx s x = 40 from h40)
      have e46 : ((pk s x).toList == [46]) = true := by rw [pk_is]; exact beq_iff_eq.2 (show nx s x = 46 from h46)
      have HF0 : Hid (F = (tByte (mkQ fun b => decide (¬ b = 10)), x.up)) := Lib.hid (by rw [hF]; unfold amG; rw [if_neg h40, if_pos h46])
      have hxl := (nx_some (s := s) (x := x) (by omega)).2
      have CW : Hid (∀ w', Calls Try.prog 89 #[.func (.func 90) #[] #[]] w' (WhereRes n10 w')) := Lib.hid fun w' => where_none 90 n10 w' atom1_cf fun b w'' hb _ => atom1_any b w'' hb
      clear hF hB h20 h40 h46
      go_enter Try.func67, Try.ntmps67
      go_wp2_with fail
      refine CP.out.mono ?_
      rintro e w1 ⟨rfl, qq, hqq⟩
      have HX1 := Lib.hid (HX0.out.step (wr' := w1) (by rw [hqq]; exact below_drewN (Below.refl _ _) qq))
      clear hqq hW CP HX0
      obtain ⟨rr, hrr⟩ := HX1.out.rd.at0 he
      obtain ⟨c0, c1, c2, c3, c4⟩ := hrr.facts
      have cf1 := hrr.froz 1
      have hwp : IntKind.i64.wrap ((x.p : Int) + 1) = (x.p : Int) + 1 := IntWalk.i64_in _ (by omega)
      have HX2 := Lib.hid (HX1.out.up he (by omega))
      clear hrr
      go_upto_region 16 with fail
      obtain ⟨w2, hw2⟩ : ∃ w2, w1.setCell ⟨g, 1, none⟩ (.int .i64 ((x.p : Int) + 1)) = w2 := ⟨_, rfl⟩
      rw [hw2] at HX2 ⊢
      clear hw2 HX1 c0 c1 c2 c3 c4 cf1 hwp
      go_wp2_with fail
      refine (CW.out _).mono ?_
      rintro e w9 ⟨q, rfl, hq, hb9⟩
      have HX := Lib.hid (HX2.out.step hb9)
      have HSq := Lib.hid hq.1
      have HFe : Hid (F.2 = x.up ∧ (x.up.e = 0 → F.1 = tByte q)) := Lib.hid (by rw [HF0.out, mkQ_eq hq (f := fun b => decide (¬ b = 10)) fun _ _ => rfl]; exact ⟨rfl, fun _ => rfl⟩)
      clear hb9 hq HX2
      unfold setV
      have r0 : w9.cell? ⟨w.heap.size, 0, none⟩ = some (.int .i64 0) := HX.out.re.cell 0
      have fr0 : w9.frozen? ⟨w.heap.size, 0, none⟩ = false := HX.out.re.frozen 0
      have r1 : w9.cell? ⟨w.heap.size, 1, none⟩ = some (.int .u64 0) := HX.out.re.cell 1
      have fr1 : w9.frozen? ⟨w.heap.size, 1, none⟩ = false := HX.out.re.frozen 1
      have r2 : w9.cell? ⟨w.heap.size, 2, none⟩ = some (.int .u64 0) := HX.out.re.cell 2
      have fr2 : w9.frozen? ⟨w.heap.size, 2, none⟩ = false := HX.out.re.frozen 2
      have r3 : w9.cell? ⟨w.heap.size, 3, none⟩ = some (.int .u64 0) := HX.out.re.cell 3
      have fr3 : w9.frozen? ⟨w.heap.size, 3, none⟩ = false := HX.out.re.frozen 3
      have r4 : w9.cell? ⟨w.heap.size, 4, none⟩ = some (.int .u64 0) := HX.out.re.cell 4
      have fr4 : w9.frozen? ⟨w.heap.size, 4, none⟩ = false := HX.out.re.frozen 4
      have r5 : w9.cell? ⟨w.heap.size, 5, none⟩ = some (.slice none 0 0) := HX.out.re.cell 5
      have fr5 : w9.frozen? ⟨w.heap.size, 5, none⟩ = false := HX.out.re.frozen 5
      have HZ := Lib.hid (six_put (cs := [.int .i64 0, .int .u64 0, .int .u64 0, .int .u64 0, .int .u64 0, .slice none 0 0]) HX.out.re rfl 3 q.a q.b q.c q.d none 0 0)
      have HZK := Lib.hid (HX.out.ko.put6 (Nat.le_refl _) 3 q.a q.b q.c q.d none 0 0)
      have HZR := Lib.hid (Tq.far6 HX.out.rd (by have := HX.out.lt; omega : w.heap.size ≠ g) 3 q.a q.b q.c q.d none 0 0)
      clear HX
      go_wp2_with fail
      obtain ⟨wz, hwz⟩ : ∃ wz, wz = ((((((w9.setCell ⟨w.heap.size, 0, none⟩ (.int .i64 3)).setCell ⟨w.heap.size, 1, none⟩ (.int .u64 (q.a : Int))).setCell ⟨w.heap.size, 2, none⟩ (.int .u64 (q.b : Int))).setCell ⟨w.heap.size, 3, none⟩ (.int .u64 (q.c : Int))).setCell ⟨w.heap.size, 4, none⟩ (.int .u64 (q.d : Int))).setCell ⟨w.heap.size, 5, none⟩ (.slice none 0 0)) := ⟨_, rfl⟩
      have hz := HZ.out
      have hzk := HZK.out
      have hzr := HZR.out
      rw [← hwz] at hz hzk hzr ⊢
      have z0 : wz.cell? ⟨w.heap.size, 0, none⟩ = some (.int .i64 3) := hz.cell 0
      have z1 : wz.cell? ⟨w.heap.size, 1, none⟩ = some (.int .u64 (q.a : Int)) := hz.cell 1
      have z2 : wz.cell? ⟨w.heap.size, 2, none⟩ = some (.int .u64 (q.b : Int)) := hz.cell 2
      have z3 : wz.cell? ⟨w.heap.size, 3, none⟩ = some (.int .u64 (q.c : Int)) := hz.cell 3
      have z4 : wz.cell? ⟨w.heap.size, 4, none⟩ = some (.int .u64 (q.d : Int)) := hz.cell 4
      have z5 : wz.cell? ⟨w.heap.size, 5, none⟩ = some (.slice none 0 0) := hz.cell 5
      refine bodyPost_ret (v := .agg #[.int .i64 3, .int .u64 (q.a : Int), .int .u64 (q.b : Int), .int .u64 (q.c : Int), .int .u64 (q.d : Int), .slice none 0 0]) (by simp [results, Try.results67, go_sem, z0, z1, z2, z3, z4, z5]) rfl (TsRes.mk HFe.out.1 hzr hzk fun hy => ⟨1, by rw [HFe.out.2 hy]; exact RxT.leaf wz _ 3 q HSq.out (by decide) (by decide)⟩)
    · skip
      by_cases h94 : nx s x = 94
      · have e40 : ((pk s x).toList == [40]) = false := by rw [pk_is]; exact beq_eq_false_iff_ne.2 (show ¬ nx s x = 40 from h40)
        have e46 : ((pk s x).toList == [46]) = false := by rw [pk_is]; exact beq_eq_false_iff_ne.2 (show ¬ nx s x = 46 from h46)
        have e94 : ((pk s x).toList == [94]) = true := by rw [pk_is]; exact beq_iff_eq.2 (show nx s x = 94 from h94)
        have HFe : Hid (F.2 = x.up ∧ (x.up.e = 0 → F.1 = tOne 7)) := Lib.hid (by rw [show F = (tOne 7, x.up) from by rw [hF]; unfold amG; rw [if_neg h40, if_neg h46, if_pos h94]]; exact ⟨rfl, fun _ => rfl⟩)
        have hxl := (nx_some (s := s) (x := x) (by omega)).2
        clear hF hB h20 h40 h46 h94
        go_enter Try.func67, Try.ntmps67
        go_wp2_with fail
        refine CP.out.mono ?_
        rintro e w1 ⟨rfl, qq, hqq⟩
        have HX1 := Lib.hid (HX0.out.step (wr' := w1) (by rw [hqq]; exact below_drewN (Below.refl _ _) qq))
        clear hqq hW CP HX0
        obtain ⟨rr, hrr⟩ := HX1.out.rd.at0 he
        obtain ⟨c0, c1, c2, c3, c4⟩ := hrr.facts
        have cf1 := hrr.froz 1
        have hwp : IntKind.i64.wrap ((x.p : Int) + 1) = (x.p : Int) + 1 := IntWalk.i64_in _ (by omega)
        have HX2 := Lib.hid (HX1.out.up he (by omega))
        clear hrr
        go_upto_region 19 with fail
        obtain ⟨w2, hw2⟩ : ∃ w2, w1.setCell ⟨g, 1, none⟩ (.int .i64 ((x.p : Int) + 1)) = w2 := ⟨_, rfl⟩
        rw [hw2] at HX2 ⊢
        clear hw2 HX1 c0 c1 c2 c3 c4 cf1 hwp
        go_wp2_with fail
        refine (node_any 7 none 0 0 w2).mono ?_
        rintro e w9 ⟨rfl, hb9⟩
        have HX := Lib.hid (HX2.out.step hb9)
        clear hb9 HX2
        have r0 : w9.cell? ⟨w.heap.size, 0, none⟩ = some (.int .i64 0) := HX.out.re.cell 0
        have fr0 : w9.frozen? ⟨w.heap.size, 0, none⟩ = false := HX.out.re.frozen 0
        have r1 : w9.cell? ⟨w.heap.size, 1, none⟩ = some (.int .u64 0) := HX.out.re.cell 1
        have fr1 : w9.frozen? ⟨w.heap.size, 1, none⟩ = false := HX.out.re.frozen 1
        have r2 : w9.cell? ⟨w.heap.size, 2, none⟩ = some (.int .u64 0) := HX.out.re.cell 2
        have fr2 : w9.frozen? ⟨w.heap.size, 2, none⟩ = false := HX.out.re.frozen 2
        have r3 : w9.cell? ⟨w.heap.size, 3, none⟩ = some (.int .u64 0) := HX.out.re.cell 3
        have fr3 : w9.frozen? ⟨w.heap.size, 3, none⟩ = false := HX.out.re.frozen 3
        have r4 : w9.cell? ⟨w.heap.size, 4, none⟩ = some (.int .u64 0) := HX.out.re.cell 4
        have fr4 : w9.frozen? ⟨w.heap.size, 4, none⟩ = false := HX.out.re.frozen 4
        have r5 : w9.cell? ⟨w.heap.size, 5, none⟩ = some (.slice none 0 0) := HX.out.re.cell 5
        have fr5 : w9.frozen? ⟨w.heap.size, 5, none⟩ = false := HX.out.re.frozen 5
        have HZ := Lib.hid (six_put (cs := [.int .i64 0, .int .u64 0, .int .u64 0, .int .u64 0, .int .u64 0, .slice none 0 0]) HX.out.re rfl 7 0 0 0 0 none 0 0)
        have HZK := Lib.hid (HX.out.ko.put6 (Nat.le_refl _) 7 0 0 0 0 none 0 0)
        have HZR := Lib.hid (Tq.far6 HX.out.rd (by have := HX.out.lt; omega : w.heap.size ≠ g) 7 0 0 0 0 none 0 0)
        clear HX
        go_wp2_with fail
        obtain ⟨wz, hwz⟩ : ∃ wz, wz = ((((((w9.setCell ⟨w.heap.size, 0, none⟩ (.int .i64 7)).setCell ⟨w.heap.size, 1, none⟩ (.int .u64 0)).setCell ⟨w.heap.size, 2, none⟩ (.int .u64 0)).setCell ⟨w.heap.size, 3, none⟩ (.int .u64 0)).setCell ⟨w.heap.size, 4, none⟩ (.int .u64 0)).setCell ⟨w.heap.size, 5, none⟩ (.slice none 0 0)) := ⟨_, rfl⟩
        have hz := HZ.out
        have hzk := HZK.out
        have hzr := HZR.out
        rw [← hwz] at hz hzk hzr ⊢
        have z0 : wz.cell? ⟨w.heap.size, 0, none⟩ = some (.int .i64 7) := hz.cell 0
        have z1 : wz.cell? ⟨w.heap.size, 1, none⟩ = some (.int .u64 0) := hz.cell 1
        have z2 : wz.cell? ⟨w.heap.size, 2, none⟩ = some (.int .u64 0) := hz.cell 2
        have z3 : wz.cell? ⟨w.heap.size, 3, none⟩ = some (.int .u64 0) := hz.cell 3
        have z4 : wz.cell? ⟨w.heap.size, 4, none⟩ = some (.int .u64 0) := hz.cell 4
        have z5 : wz.cell? ⟨w.heap.size, 5, none⟩ = some (.slice none 0 0) := hz.cell 5
        refine bodyPost_ret (v := .agg #[.int .i64 7, .int .u64 0, .int .u64 0, .int .u64 0, .int .u64 0, .slice none 0 0]) (by simp [results, Try.results67, go_sem, z0, z1, z2, z3, z4, z5]) rfl (TsRes.mk HFe.out.1 hzr hzk fun hy => ⟨1, by rw [HFe.out.2 hy]; exact RxT.leaf wz _ 7 zq zq_ok (by decide) (by decide)⟩)
      · skip
        by_cases h36 : nx s x = 36
        · have e40 : ((pk s x).toList == [40]) = false := by rw [pk_is]; exact beq_eq_false_iff_ne.2 (show ¬ nx s x = 40 from h40)
          have e46 : ((pk s x).toList == [46]) = false := by rw [pk_is]; exact beq_eq_false_iff_ne.2 (show ¬ nx s x = 46 from h46)
          have e94 : ((pk s x).toList == [94]) = false := by rw [pk_is]; exact beq_eq_false_iff_ne.2 (show ¬ nx s x = 94 from h94)
          have e36 : ((pk s x).toList == [36]) = true := by rw [pk_is]; exact beq_iff_eq.2 (show nx s x = 36 from h36)
          have HFe : Hid (F.2 = x.up ∧ (x.up.e = 0 → F.1 = tOne 8)) := Lib.hid (by rw [show F = (tOne 8, x.up) from by rw [hF]; unfold amG; rw [if_neg h40, if_neg h46, if_neg h94, if_pos h36]]; exact ⟨rfl, fun _ => rfl⟩)
          have hxl := (nx_some (s := s) (x := x) (by omega)).2
          clear hF hB h20 h40 h46 h94 h36
          go_enter Try.func67, Try.ntmps67
          go_wp2_with fail
          refine CP.out.mono ?_
          rintro e w1 ⟨rfl, qq, hqq⟩
          have HX1 := Lib.hid (HX0.out.step (wr' := w1) (by rw [hqq]; exact below_drewN (Below.refl _ _) qq))
          clear hqq hW CP HX0
          obtain ⟨rr, hrr⟩ := HX1.out.rd.at0 he
          obtain ⟨c0, c1, c2, c3, c4⟩ := hrr.facts
          have cf1 := hrr.froz 1
          have hwp : IntKind.i64.wrap ((x.p : Int) + 1) = (x.p : Int) + 1 := IntWalk.i64_in _ (by omega)
          have HX2 := Lib.hid (HX1.out.up he (by omega))
          clear hrr
          go_upto_region 22 with fail
          obtain ⟨w2, hw2⟩ : ∃ w2, w1.setCell ⟨g, 1, none⟩ (.int .i64 ((x.p : Int) + 1)) = w2 := ⟨_, rfl⟩
          rw [hw2] at HX2 ⊢
          clear hw2 HX1 c0 c1 c2 c3 c4 cf1 hwp
          go_wp2_with fail
          refine (node_any 8 none 0 0 w2).mono ?_
          rintro e w9 ⟨rfl, hb9⟩
          have HX := Lib.hid (HX2.out.step hb9)
          clear hb9 HX2
          have r0 : w9.cell? ⟨w.heap.size, 0, none⟩ = some (.int .i64 0) := HX.out.re.cell 0
          have fr0 : w9.frozen? ⟨w.heap.size, 0, none⟩ = false := HX.out.re.frozen 0
          have r1 : w9.cell? ⟨w.heap.size, 1, none⟩ = some (.int .u64 0) := HX.out.re.cell 1
          have fr1 : w9.frozen? ⟨w.heap.size, 1, none⟩ = false := HX.out.re.frozen 1
          have r2 : w9.cell? ⟨w.heap.size, 2, none⟩ = some (.int .u64 0) := HX.out.re.cell 2
          have fr2 : w9.frozen? ⟨w.heap.size, 2, none⟩ = false := HX.out.re.frozen 2
          have r3 : w9.cell? ⟨w.heap.size, 3, none⟩ = some (.int .u64 0) := HX.out.re.cell 3
          have fr3 : w9.frozen? ⟨w.heap.size, 3, none⟩ = false := HX.out.re.frozen 3
          have r4 : w9.cell? ⟨w.heap.size, 4, none⟩ = some (.int .u64 0) := HX.out.re.cell 4
          have fr4 : w9.frozen? ⟨w.heap.size, 4, none⟩ = false := HX.out.re.frozen 4
          have r5 : w9.cell? ⟨w.heap.size, 5, none⟩ = some (.slice none 0 0) := HX.out.re.cell 5
          have fr5 : w9.frozen? ⟨w.heap.size, 5, none⟩ = false := HX.out.re.frozen 5
          have HZ := Lib.hid (six_put (cs := [.int .i64 0, .int .u64 0, .int .u64 0, .int .u64 0, .int .u64 0, .slice none 0 0]) HX.out.re rfl 8 0 0 0 0 none 0 0)
          have HZK := Lib.hid (HX.out.ko.put6 (Nat.le_refl _) 8 0 0 0 0 none 0 0)
          have HZR := Lib.hid (Tq.far6 HX.out.rd (by have := HX.out.lt; omega : w.heap.size ≠ g) 8 0 0 0 0 none 0 0)
          clear HX
          go_wp2_with fail
          obtain ⟨wz, hwz⟩ : ∃ wz, wz = ((((((w9.setCell ⟨w.heap.size, 0, none⟩ (.int .i64 8)).setCell ⟨w.heap.size, 1, none⟩ (.int .u64 0)).setCell ⟨w.heap.size, 2, none⟩ (.int .u64 0)).setCell ⟨w.heap.size, 3, none⟩ (.int .u64 0)).setCell ⟨w.heap.size, 4, none⟩ (.int .u64 0)).setCell ⟨w.heap.size, 5, none⟩ (.slice none 0 0)) := ⟨_, rfl⟩
          have hz := HZ.out
          have hzk := HZK.out
          have hzr := HZR.out
          rw [← hwz] at hz hzk hzr ⊢
          have z0 : wz.cell? ⟨w.heap.size, 0, none⟩ = some (.int .i64 8) := hz.cell 0
          have z1 : wz.cell? ⟨w.heap.size, 1, none⟩ = some (.int .u64 0) := hz.cell 1
          have z2 : wz.cell? ⟨w.heap.size, 2, none⟩ = some (.int .u64 0) := hz.cell 2
          have z3 : wz.cell? ⟨w.heap.size, 3, none⟩ = some (.int .u64 0) := hz.cell 3
          have z4 : wz.cell? ⟨w.heap.size, 4, none⟩ = some (.int .u64 0) := hz.cell 4
          have z5 : wz.cell? ⟨w.heap.size, 5, none⟩ = some (.slice none 0 0) := hz.cell 5
          refine bodyPost_ret (v := .agg #[.int .i64 8, .int .u64 0, .int .u64 0, .int .u64 0, .int .u64 0, .slice none 0 0]) (by simp [results, Try.results67, go_sem, z0, z1, z2, z3, z4, z5]) rfl (TsRes.mk HFe.out.1 hzr hzk fun hy => ⟨1, by rw [HFe.out.2 hy]; exact RxT.leaf wz _ 8 zq zq_ok (by decide) (by decide)⟩)
        · skip
          by_cases h91 : nx s x = 91
          · have e40 : ((pk s x).toList == [40]) = false := by rw [pk_is]; exact beq_eq_false_iff_ne.2 (show ¬ nx s x = 40 from h40)
            have e46 : ((pk s x).toList == [46]) = false := by rw [pk_is]; exact beq_eq_false_iff_ne.2 (show ¬ nx s x = 46 from h46)
            have e94 : ((pk s x).toList == [94]) = false := by rw [pk_is]; exact beq_eq_false_iff_ne.2 (show ¬ nx s x = 94 from h94)
            have e36 : ((pk s x).toList == [36]) = false := by rw [pk_is]; exact beq_eq_false_iff_ne.2 (show ¬ nx s x = 36 from h36)
            have e91 : ((pk s x).toList == [91]) = true := by rw [pk_is]; exact beq_iff_eq.2 (show nx s x = 91 from h91)
            have HF0 : Hid (F = (tByte (cls s x.up).1, (cls s x.up).2)) := Lib.hid (by rw [hF]; unfold amG; rw [if_neg h40, if_neg h46, if_neg h94, if_neg h36, if_pos h91])
            have hup := up_go (s := s) (x := x) (by omega)
            have hxl := (nx_some (s := s) (x := x) (by omega)).2
            have hxe : x.up.e = 0 := he
            clear hF hB h20 h40 h46 h94 h36 h91
            go_enter Try.func67, Try.ntmps67
            go_wp2_with fail
            refine CP.out.mono ?_
            rintro e w1 ⟨rfl, qq, hqq⟩
            have HX1 := Lib.hid (HX0.out.step (wr' := w1) (by rw [hqq]; exact below_drewN (Below.refl _ _) qq))
            clear hqq hW CP HX0
            obtain ⟨rr, hrr⟩ := HX1.out.rd.at0 he
            obtain ⟨c0, c1, c2, c3, c4⟩ := hrr.facts
            have cf1 := hrr.froz 1
            have hwp : IntKind.i64.wrap ((x.p : Int) + 1) = (x.p : Int) + 1 := IntWalk.i64_in _ (by omega)
            have HX2 := Lib.hid (HX1.out.up he (by omega))
            clear hrr
            go_upto_region 25 with fail
            obtain ⟨w2, hw2⟩ : ∃ w2, w1.setCell ⟨g, 1, none⟩ (.int .i64 ((x.p : Int) + 1)) = w2 := ⟨_, rfl⟩
            rw [hw2] at HX2 ⊢
            clear hw2 HX1 c0 c1 c2 c3 c4 cf1 hwp
            go_wp2_with fail
            refine (class_anyR s hs x.up (270 - op) op g w2 hxe hup.hi HX2.out.rd).mono ?_
            rintro e w9 ⟨q, rfl, hqo, hqe, hr9, hk9⟩
            have HX := Lib.hid ((HX2.out.kept hr9 hk9).more (m' := 270 - op) (by omega))
            have HFe : Hid (F.2 = (cls s x.up).2 ∧ ((cls s x.up).2.e = 0 → F.1 = tByte q)) := Lib.hid (by rw [HF0.out]; exact ⟨rfl, fun k => by rw [hqe k]⟩)
            have HSq := Lib.hid hqo
            clear hr9 hk9 hqe hqo HX2
            have r0 : w9.cell? ⟨w.heap.size, 0, none⟩ = some (.int .i64 0) := HX.out.re.cell 0
            have fr0 : w9.frozen? ⟨w.heap.size, 0, none⟩ = false := HX.out.re.frozen 0
            have r1 : w9.cell? ⟨w.heap.size, 1, none⟩ = some (.int .u64 0) := HX.out.re.cell 1
            have fr1 : w9.frozen? ⟨w.heap.size, 1, none⟩ = false := HX.out.re.frozen 1
            have r2 : w9.cell? ⟨w.heap.size, 2, none⟩ = some (.int .u64 0) := HX.out.re.cell 2
            have fr2 : w9.frozen? ⟨w.heap.size, 2, none⟩ = false := HX.out.re.frozen 2
            have r3 : w9.cell? ⟨w.heap.size, 3, none⟩ = some (.int .u64 0) := HX.out.re.cell 3
            have fr3 : w9.frozen? ⟨w.heap.size, 3, none⟩ = false := HX.out.re.frozen 3
            have r4 : w9.cell? ⟨w.heap.size, 4, none⟩ = some (.int .u64 0) := HX.out.re.cell 4
            have fr4 : w9.frozen? ⟨w.heap.size, 4, none⟩ = false := HX.out.re.frozen 4
            have r5 : w9.cell? ⟨w.heap.size, 5, none⟩ = some (.slice none 0 0) := HX.out.re.cell 5
            have fr5 : w9.frozen? ⟨w.heap.size, 5, none⟩ = false := HX.out.re.frozen 5
            have HZ := Lib.hid (six_put (cs := [.int .i64 0, .int .u64 0, .int .u64 0, .int .u64 0, .int .u64 0, .slice none 0 0]) HX.out.re rfl 3 q.a q.b q.c q.d none 0 0)
            have HZK := Lib.hid (HX.out.ko.put6 (Nat.le_refl _) 3 q.a q.b q.c q.d none 0 0)
            have HZR := Lib.hid (Tq.far6 HX.out.rd (by have := HX.out.lt; omega : w.heap.size ≠ g) 3 q.a q.b q.c q.d none 0 0)
            clear HX
            go_wp2_with fail
            obtain ⟨wz, hwz⟩ : ∃ wz, wz = ((((((w9.setCell ⟨w.heap.size, 0, none⟩ (.int .i64 3)).setCell ⟨w.heap.size, 1, none⟩ (.int .u64 (q.a : Int))).setCell ⟨w.heap.size, 2, none⟩ (.int .u64 (q.b : Int))).setCell ⟨w.heap.size, 3, none⟩ (.int .u64 (q.c : Int))).setCell ⟨w.heap.size, 4, none⟩ (.int .u64 (q.d : Int))).setCell ⟨w.heap.size, 5, none⟩ (.slice none 0 0)) := ⟨_, rfl⟩
            have hz := HZ.out
            have hzk := HZK.out
            have hzr := HZR.out
            rw [← hwz] at hz hzk hzr ⊢
            have z0 : wz.cell? ⟨w.heap.size, 0, none⟩ = some (.int .i64 3) := hz.cell 0
            have z1 : wz.cell? ⟨w.heap.size, 1, none⟩ = some (.int .u64 (q.a : Int)) := hz.cell 1
            have z2 : wz.cell? ⟨w.heap.size, 2, none⟩ = some (.int .u64 (q.b : Int)) := hz.cell 2
            have z3 : wz.cell? ⟨w.heap.size, 3, none⟩ = some (.int .u64 (q.c : Int)) := hz.cell 3
            have z4 : wz.cell? ⟨w.heap.size, 4, none⟩ = some (.int .u64 (q.d : Int)) := hz.cell 4
            have z5 : wz.cell? ⟨w.heap.size, 5, none⟩ = some (.slice none 0 0) := hz.cell 5
            refine bodyPost_ret (v := .agg #[.int .i64 3, .int .u64 (q.a : Int), .int .u64 (q.b : Int), .int .u64 (q.c : Int), .int .u64 (q.d : Int), .slice none 0 0]) (by simp [results, Try.results67, go_sem, z0, z1, z2, z3, z4, z5]) rfl (TsRes.mk HFe.out.1 hzr hzk fun hy => ⟨1, by rw [HFe.out.2 hy]; exact RxT.leaf wz _ 3 q HSq.out (by decide) (by decide)⟩)
          · skip
            have e40 : ((pk s x).toList == [40]) = false := by rw [pk_is]; exact beq_eq_false_iff_ne.2 (show ¬ nx s x = 40 from h40)
            have e46 : ((pk s x).toList == [46]) = false := by rw [pk_is]; exact beq_eq_false_iff_ne.2 (show ¬ nx s x = 46 from h46)
            have e94 : ((pk s x).toList == [94]) = false := by rw [pk_is]; exact beq_eq_false_iff_ne.2 (show ¬ nx s x = 94 from h94)
            have e36 : ((pk s x).toList == [36]) = false := by rw [pk_is]; exact beq_eq_false_iff_ne.2 (show ¬ nx s x = 36 from h36)
            have e91 : ((pk s x).toList == [91]) = false := by rw [pk_is]; exact beq_eq_false_iff_ne.2 (show ¬ nx s x = 91 from h91)
            have HFm : Hid (F = match gr s x with
                | some g => (tByte (mkQ g), x.up.up)
                | none => (tByte (mkQ (rngF (ch s x).1 (ch s x).1)), (ch s x).2)) := Lib.hid (by rw [hF]; unfold amG; rw [if_neg h40, if_neg h46, if_neg h94, if_neg h36, if_neg h91]; cases gr s x <;> rfl)
            clear hF hB h20 h40 h46 h94 h36 h91
            go_enter Try.func67, Try.ntmps67
            go_wp2_with fail
            refine CP.out.mono ?_
            rintro e w1 ⟨rfl, qq, hqq⟩
            have HX1 := Lib.hid (HX0.out.step (wr' := w1) (by rw [hqq]; exact below_drewN (Below.refl _ _) qq))
            clear hqq hW CP HX0
            have CI := Lib.hid (item_any s hs x (270 - op) op g w1 he hp HX1.out.rd)
            go_wp2_with fail
            refine CI.out.mono ?_
            rintro e w3 ⟨lo, pl, q3, rfl, hq3, hk3, hcase⟩
            rcases hcase with ⟨gf, hgf, rfl, hqs, htq⟩ | ⟨hgn, ⟨hl0, hl1⟩, hlv, htq⟩
            · have HX3 := Lib.hid ((HX1.out.kept htq hk3).more (m' := 270 - op) (by omega))
              have HFe : Hid (F.2 = x.up.up ∧ (x.up.up.e = 0 → F.1 = tByte q3)) := Lib.hid (by rw [HFm.out, hgf, mkQ_eq hqs fun _ _ => rfl]; exact ⟨rfl, fun _ => rfl⟩)
              have HSq := Lib.hid hqs.1
              clear htq hk3 hq3 hgf hqs HX1 CI
              have hb4 : Below w3.heap.size w3 ((w3.alloc (.cells #[.int .i64 (-1)] 3)).alloc (.cells #[.int .u64 (q3.a : Int), .int .u64 (q3.b : Int), .int .u64 (q3.c : Int), .int .u64 (q3.d : Int)] 24)) := ((Below.refl _ _).alloc (Nat.le_refl _) _).alloc (by simp) _
              have hx4 := HX3.out.step hb4
              have h4 : Blk ((w3.alloc (.cells #[.int .i64 (-1)] 3)).alloc (.cells #[.int .u64 (q3.a : Int), .int .u64 (q3.b : Int), .int .u64 (q3.c : Int), .int .u64 (q3.d : Int)] 24)) w3.heap.size 3 #[.int .i64 (-1)] := Blk.alloc (Blk.new w3 _ _) _
              have h6 : SBlk ((w3.alloc (.cells #[.int .i64 (-1)] 3)).alloc (.cells #[.int .u64 (q3.a : Int), .int .u64 (q3.b : Int), .int .u64 (q3.c : Int), .int .u64 (q3.d : Int)] 24)) (w3.heap.size + 1) q3 := by
                have := SBlk.lit (w3.alloc (.cells #[.int .i64 (-1)] 3)) q3
                rw [show (w3.alloc (.cells #[.int .i64 (-1)] 3)).heap.size = w3.heap.size + 1 by simp] at this
                exact this
              have hgz : w.heap.size < w3.heap.size := Blk.lt HX3.out.re
              clear hb4
              go_upto_region 27 with fail
              obtain ⟨w4, hw4⟩ : ∃ w4, ((w3.alloc (.cells #[.int .i64 (-1)] 3)).alloc (.cells #[.int .u64 (q3.a : Int), .int .u64 (q3.b : Int), .int .u64 (q3.c : Int), .int .u64 (q3.d : Int)] 24)) = w4 := ⟨_, rfl⟩
              rw [hw4] at hx4 h4 h6 ⊢
              obtain ⟨g4, hg4⟩ : ∃ g4, w3.heap.size = g4 := ⟨_, rfl⟩
              rw [hg4] at h4 h6 hgz ⊢
              have HX4 := Lib.hid hx4
              have H4 := Lib.hid h4
              have H6 := Lib.hid h6
              have d4 : w4.cell? ⟨g4, 0, none⟩ = some (.int .i64 (-1)) := h4.cell 0
              clear hw4 hg4 hx4 h4 h6 HX3
              have s0 : w4.cell? ⟨g4 + 1, 0, none⟩ = some (.int .u64 (q3.a : Int)) := H6.out.cell (k := 0) (by omega)
              have s1 : w4.cell? ⟨g4 + 1, 1, none⟩ = some (.int .u64 (q3.b : Int)) := H6.out.cell (k := 1) (by omega)
              have s2 : w4.cell? ⟨g4 + 1, 2, none⟩ = some (.int .u64 (q3.c : Int)) := H6.out.cell (k := 2) (by omega)
              have s3 : w4.cell? ⟨g4 + 1, 3, none⟩ = some (.int .u64 (q3.d : Int)) := H6.out.cell (k := 3) (by omega)
              go_upto_region 29 with fail
              have HX := HX4
              obtain ⟨w9, rfl⟩ : ∃ w9 : World, w9 = w4 := ⟨_, rfl⟩
              clear HX4 d4 H4
              have r0 : w9.cell? ⟨w.heap.size, 0, none⟩ = some (.int .i64 0) := HX.out.re.cell 0
              have fr0 : w9.frozen? ⟨w.heap.size, 0, none⟩ = false := HX.out.re.frozen 0
              have r1 : w9.cell? ⟨w.heap.size, 1, none⟩ = some (.int .u64 0) := HX.out.re.cell 1
              have fr1 : w9.frozen? ⟨w.heap.size, 1, none⟩ = false := HX.out.re.frozen 1
              have r2 : w9.cell? ⟨w.heap.size, 2, none⟩ = some (.int .u64 0) := HX.out.re.cell 2
              have fr2 : w9.frozen? ⟨w.heap.size, 2, none⟩ = false := HX.out.re.frozen 2
              have r3 : w9.cell? ⟨w.heap.size, 3, none⟩ = some (.int .u64 0) := HX.out.re.cell 3
              have fr3 : w9.frozen? ⟨w.heap.size, 3, none⟩ = false := HX.out.re.frozen 3
              have r4 : w9.cell? ⟨w.heap.size, 4, none⟩ = some (.int .u64 0) := HX.out.re.cell 4
              have fr4 : w9.frozen? ⟨w.heap.size, 4, none⟩ = false := HX.out.re.frozen 4
              have r5 : w9.cell? ⟨w.heap.size, 5, none⟩ = some (.slice none 0 0) := HX.out.re.cell 5
              have fr5 : w9.frozen? ⟨w.heap.size, 5, none⟩ = false := HX.out.re.frozen 5
              have HZ := Lib.hid (six_put (cs := [.int .i64 0, .int .u64 0, .int .u64 0, .int .u64 0, .int .u64 0, .slice none 0 0]) HX.out.re rfl 3 q3.a q3.b q3.c q3.d none 0 0)
              have HZK := Lib.hid (HX.out.ko.put6 (Nat.le_refl _) 3 q3.a q3.b q3.c q3.d none 0 0)
              have HZR := Lib.hid (Tq.far6 HX.out.rd (by have := HX.out.lt; omega : w.heap.size ≠ g) 3 q3.a q3.b q3.c q3.d none 0 0)
              clear HX
              go_wp2_with fail
              obtain ⟨wz, hwz⟩ : ∃ wz, wz = ((((((w9.setCell ⟨w.heap.size, 0, none⟩ (.int .i64 3)).setCell ⟨w.heap.size, 1, none⟩ (.int .u64 (q3.a : Int))).setCell ⟨w.heap.size, 2, none⟩ (.int .u64 (q3.b : Int))).setCell ⟨w.heap.size, 3, none⟩ (.int .u64 (q3.c : Int))).setCell ⟨w.heap.size, 4, none⟩ (.int .u64 (q3.d : Int))).setCell ⟨w.heap.size, 5, none⟩ (.slice none 0 0)) := ⟨_, rfl⟩
              have hz := HZ.out
              have hzk := HZK.out
              have hzr := HZR.out
              rw [← hwz] at hz hzk hzr ⊢
              have z0 : wz.cell? ⟨w.heap.size, 0, none⟩ = some (.int .i64 3) := hz.cell 0
              have z1 : wz.cell? ⟨w.heap.size, 1, none⟩ = some (.int .u64 (q3.a : Int)) := hz.cell 1
              have z2 : wz.cell? ⟨w.heap.size, 2, none⟩ = some (.int .u64 (q3.b : Int)) := hz.cell 2
              have z3 : wz.cell? ⟨w.heap.size, 3, none⟩ = some (.int .u64 (q3.c : Int)) := hz.cell 3
              have z4 : wz.cell? ⟨w.heap.size, 4, none⟩ = some (.int .u64 (q3.d : Int)) := hz.cell 4
              have z5 : wz.cell? ⟨w.heap.size, 5, none⟩ = some (.slice none 0 0) := hz.cell 5
              refine bodyPost_ret (v := .agg #[.int .i64 3, .int .u64 (q3.a : Int), .int .u64 (q3.b : Int), .int .u64 (q3.c : Int), .int .u64 (q3.d : Int), .slice none 0 0]) (by simp [results, Try.results67, go_sem, z0, z1, z2, z3, z4, z5]) rfl (TsRes.mk HFe.out.1 hzr hzk fun hy => ⟨1, by rw [HFe.out.2 hy]; exact RxT.leaf wz _ 3 q3 HSq.out (by decide) (by decide)⟩)
            · have HX3 := Lib.hid ((HX1.out.kept htq hk3).more (m' := 270 - op) (by omega))
              obtain ⟨lo, rfl⟩ : ∃ lo' : Nat, lo = (lo' : Int) := ⟨lo.toNat, by omega⟩
              have HF0 : Hid (F = (tByte (mkQ (rngF (ch s x).1 (ch s x).1)), (ch s x).2)) := Lib.hid (by rw [HFm.out, hgn])
              have HLV := Lib.hid hlv
              have i0 : (0 : Int) ≤ (lo : Int) := by omega
              have i0d : decide ((0 : Int) ≤ (lo : Int)) = true := decide_eq_true i0
              clear htq hk3 hq3 hgn hlv HX1 CI HFm
              have hb4 : Below w3.heap.size w3 ((w3.alloc (.cells #[.int .i64 (lo : Int)] 3)).alloc (.cells #[.int .u64 (q3.a : Int), .int .u64 (q3.b : Int), .int .u64 (q3.c : Int), .int .u64 (q3.d : Int)] 24)) := ((Below.refl _ _).alloc (Nat.le_refl _) _).alloc (by simp) _
              have hx4 := HX3.out.step hb4
              have h4 : Blk ((w3.alloc (.cells #[.int .i64 (lo : Int)] 3)).alloc (.cells #[.int .u64 (q3.a : Int), .int .u64 (q3.b : Int), .int .u64 (q3.c : Int), .int .u64 (q3.d : Int)] 24)) w3.heap.size 3 #[.int .i64 (lo : Int)] := Blk.alloc (Blk.new w3 _ _) _
              have h6 : SBlk ((w3.alloc (.cells #[.int .i64 (lo : Int)] 3)).alloc (.cells #[.int .u64 (q3.a : Int), .int .u64 (q3.b : Int), .int .u64 (q3.c : Int), .int .u64 (q3.d : Int)] 24)) (w3.heap.size + 1) q3 := by
                have := SBlk.lit (w3.alloc (.cells #[.int .i64 (lo : Int)] 3)) q3
                rw [show (w3.alloc (.cells #[.int .i64 (lo : Int)] 3)).heap.size = w3.heap.size + 1 by simp] at this
                exact this
              have hgz : w.heap.size < w3.heap.size := Blk.lt HX3.out.re
              clear hb4
              go_upto_region 27 with fail
              obtain ⟨w4, hw4⟩ : ∃ w4, ((w3.alloc (.cells #[.int .i64 (lo : Int)] 3)).alloc (.cells #[.int .u64 (q3.a : Int), .int .u64 (q3.b : Int), .int .u64 (q3.c : Int), .int .u64 (q3.d : Int)] 24)) = w4 := ⟨_, rfl⟩
              rw [hw4] at hx4 h4 h6 ⊢
              obtain ⟨g4, hg4⟩ : ∃ g4, w3.heap.size = g4 := ⟨_, rfl⟩
              rw [hg4] at h4 h6 hgz ⊢
              have HX4 := Lib.hid hx4
              have H4 := Lib.hid h4
              have H6 := Lib.hid h6
              have d4 : w4.cell? ⟨g4, 0, none⟩ = some (.int .i64 (lo : Int)) := h4.cell 0
              clear hw4 hg4 hx4 h4 h6 HX3
              have CW : Hid (Calls Try.prog 89 #[.func (.func 93) #[] #[.pointer (some ⟨g4, 0, none⟩)]] w4 (WhereRes (rngF (lo : Int) (lo : Int)) w4)) := Lib.hid (where_any 93 ⟨g4, 0, none⟩ (rngF (lo : Int) (lo : Int)) w4 (atom2_cf g4) fun b w'' hb hbw => atom2_any b lo g4 w'' hb ((hbw.cell (p := ⟨g4, 0, none⟩) (Blk.lt H4.out)).trans (H4.out.cell 0)))
              go_wp2_with fail
              refine CW.out.mono ?_
              rintro e w5 ⟨q, rfl, hq, hb5⟩
              have HX5 := Lib.hid (HX4.out.step hb5)
              have H65 : Hid (SBlk w5 (g4 + 1) q3) := Lib.hid (Blk.below H6.out hb5 (Blk.lt H6.out))
              have HSq := Lib.hid hq.1
              have HFe : Hid (F.2 = (ch s x).2 ∧ ((ch s x).2.e = 0 → F.1 = tByte q)) := Lib.hid (by rw [HF0.out]; exact ⟨rfl, fun k => by rw [← HLV.out k, mkQ_eq hq fun _ _ => rfl]⟩)
              have HP6 := Lib.hid (set_put H65.out q)
              have hg9 := HX5.out.lt
              have HX : Hid (Uy (270 - op) w g s (ch s x).2 op ((((w5.setCell ⟨(g4 + 1), 0, none⟩ (.int .u64 (q.a : Int))).setCell ⟨(g4 + 1), 1, none⟩ (.int .u64 (q.b : Int))).setCell ⟨(g4 + 1), 2, none⟩ (.int .u64 (q.c : Int))).setCell ⟨(g4 + 1), 3, none⟩ (.int .u64 (q.d : Int)))) := Lib.hid ⟨HX5.out.rd.far4 (by omega) q, Blk.far4 HX5.out.re (by omega) q, HX5.out.ko.put4 (by omega) q, HX5.out.lt⟩
              have s0 : w5.cell? ⟨g4 + 1, 0, none⟩ = some (.int .u64 (q3.a : Int)) := H65.out.cell (k := 0) (by omega)
              have fs0 : w5.frozen? ⟨g4 + 1, 0, none⟩ = false := Blk.frozen H65.out 0
              have s1 : w5.cell? ⟨g4 + 1, 1, none⟩ = some (.int .u64 (q3.b : Int)) := H65.out.cell (k := 1) (by omega)
              have fs1 : w5.frozen? ⟨g4 + 1, 1, none⟩ = false := Blk.frozen H65.out 1
              have s2 : w5.cell? ⟨g4 + 1, 2, none⟩ = some (.int .u64 (q3.c : Int)) := H65.out.cell (k := 2) (by omega)
              have fs2 : w5.frozen? ⟨g4 + 1, 2, none⟩ = false := Blk.frozen H65.out 2
              have s3 : w5.cell? ⟨g4 + 1, 3, none⟩ = some (.int .u64 (q3.d : Int)) := H65.out.cell (k := 3) (by omega)
              have fs3 : w5.frozen? ⟨g4 + 1, 3, none⟩ = false := Blk.frozen H65.out 3
              clear hb5 hq HX4 HX5 H4 H6 CW d4
              unfold setV
              go_upto_region 29 with fail
              obtain ⟨w9, hw9⟩ : ∃ w9, ((((w5.setCell ⟨(g4 + 1), 0, none⟩ (.int .u64 (q.a : Int))).setCell ⟨(g4 + 1), 1, none⟩ (.int .u64 (q.b : Int))).setCell ⟨(g4 + 1), 2, none⟩ (.int .u64 (q.c : Int))).setCell ⟨(g4 + 1), 3, none⟩ (.int .u64 (q.d : Int))) = w9 := ⟨_, rfl⟩
              rw [hw9] at HP6 HX ⊢
              clear hw9 s0 s1 s2 s3 fs0 fs1 fs2 fs3 H65
              have s0 : w9.cell? ⟨g4 + 1, 0, none⟩ = some (.int .u64 (q.a : Int)) := HP6.out.cell (k := 0) (by omega)
              have s1 : w9.cell? ⟨g4 + 1, 1, none⟩ = some (.int .u64 (q.b : Int)) := HP6.out.cell (k := 1) (by omega)
              have s2 : w9.cell? ⟨g4 + 1, 2, none⟩ = some (.int .u64 (q.c : Int)) := HP6.out.cell (k := 2) (by omega)
              have s3 : w9.cell? ⟨g4 + 1, 3, none⟩ = some (.int .u64 (q.d : Int)) := HP6.out.cell (k := 3) (by omega)
              have r0 : w9.cell? ⟨w.heap.size, 0, none⟩ = some (.int .i64 0) := HX.out.re.cell 0
              have fr0 : w9.frozen? ⟨w.heap.size, 0, none⟩ = false := HX.out.re.frozen 0
              have r1 : w9.cell? ⟨w.heap.size, 1, none⟩ = some (.int .u64 0) := HX.out.re.cell 1
              have fr1 : w9.frozen? ⟨w.heap.size, 1, none⟩ = false := HX.out.re.frozen 1
              have r2 : w9.cell? ⟨w.heap.size, 2, none⟩ = some (.int .u64 0) := HX.out.re.cell 2
              have fr2 : w9.frozen? ⟨w.heap.size, 2, none⟩ = false := HX.out.re.frozen 2
              have r3 : w9.cell? ⟨w.heap.size, 3, none⟩ = some (.int .u64 0) := HX.out.re.cell 3
              have fr3 : w9.frozen? ⟨w.heap.size, 3, none⟩ = false := HX.out.re.frozen 3
              have r4 : w9.cell? ⟨w.heap.size, 4, none⟩ = some (.int .u64 0) := HX.out.re.cell 4
              have fr4 : w9.frozen? ⟨w.heap.size, 4, none⟩ = false := HX.out.re.frozen 4
              have r5 : w9.cell? ⟨w.heap.size, 5, none⟩ = some (.slice none 0 0) := HX.out.re.cell 5
              have fr5 : w9.frozen? ⟨w.heap.size, 5, none⟩ = false := HX.out.re.frozen 5
              have HZ := Lib.hid (six_put (cs := [.int .i64 0, .int .u64 0, .int .u64 0, .int .u64 0, .int .u64 0, .slice none 0 0]) HX.out.re rfl 3 q.a q.b q.c q.d none 0 0)
              have HZK := Lib.hid (HX.out.ko.put6 (Nat.le_refl _) 3 q.a q.b q.c q.d none 0 0)
              have HZR := Lib.hid (Tq.far6 HX.out.rd (by have := HX.out.lt; omega : w.heap.size ≠ g) 3 q.a q.b q.c q.d none 0 0)
              clear HX
              go_wp2_with fail
              obtain ⟨wz, hwz⟩ : ∃ wz, wz = ((((((w9.setCell ⟨w.heap.size, 0, none⟩ (.int .i64 3)).setCell ⟨w.heap.size, 1, none⟩ (.int .u64 (q.a : Int))).setCell ⟨w.heap.size, 2, none⟩ (.int .u64 (q.b : Int))).setCell ⟨w.heap.size, 3, none⟩ (.int .u64 (q.c : Int))).setCell ⟨w.heap.size, 4, none⟩ (.int .u64 (q.d : Int))).setCell ⟨w.heap.size, 5, none⟩ (.slice none 0 0)) := ⟨_, rfl⟩
              have hz := HZ.out
              have hzk := HZK.out
              have hzr := HZR.out
              rw [← hwz] at hz hzk hzr ⊢
              have z0 : wz.cell? ⟨w.heap.size, 0, none⟩ = some (.int .i64 3) := hz.cell 0
              have z1 : wz.cell? ⟨w.heap.size, 1, none⟩ = some (.int .u64 (q.a : Int)) := hz.cell 1
              have z2 : wz.cell? ⟨w.heap.size, 2, none⟩ = some (.int .u64 (q.b : Int)) := hz.cell 2
              have z3 : wz.cell? ⟨w.heap.size, 3, none⟩ = some (.int .u64 (q.c : Int)) := hz.cell 3
              have z4 : wz.cell? ⟨w.heap.size, 4, none⟩ = some (.int .u64 (q.d : Int)) := hz.cell 4
              have z5 : wz.cell? ⟨w.heap.size, 5, none⟩ = some (.slice none 0 0) := hz.cell 5
              refine bodyPost_ret (v := .agg #[.int .i64 3, .int .u64 (q.a : Int), .int .u64 (q.b : Int), .int .u64 (q.c : Int), .int .u64 (q.d : Int), .slice none 0 0]) (by simp [results, Try.results67, go_sem, z0, z1, z2, z3, z4, z5]) rfl (TsRes.mk HFe.out.1 hzr hzk fun hy => ⟨1, by rw [HFe.out.2 hy]; exact RxT.leaf wz _ 3 q HSq.out (by decide) (by decide)⟩)
end Go.Proofs.Ytkdcgkdbieeijaa
