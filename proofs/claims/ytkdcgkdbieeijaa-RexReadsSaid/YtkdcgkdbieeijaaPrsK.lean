/- Walk: (*rex.reader).atom, by what reads an alternative. (printed by gen_prsk.py) -/
import Derived.Test.YtkdcgkdbieeijaaPrsI
namespace Go.Proofs.Ytkdcgkdbieeijaa
open Go.RowKit
set_option linter.unusedVariables false
set_option linter.unusedSimpArgs false

/-- an atom, by what reads behind an open bracket (none: no more may open) -/
noncomputable def amG (s : ByteArray) (o : Option (Sx → Rx × Sx)) (x : Sx) : Rx × Sx :=
  if nx s x = 40 then
    match o with
    | none => (tOne 0, x.fl 11)
    | some B => ((B x.up).1, if nx s (B x.up).2 = 41 then (B x.up).2.up else (B x.up).2.fl 3)
  else if nx s x = 46 then (tByte (mkQ fun b => decide (¬ b = 10)), x.up)
  else if nx s x = 94 then (tOne 7, x.up)
  else if nx s x = 36 then (tOne 8, x.up)
  else if nx s x = 91 then (tByte (cls s x.up).1, (cls s x.up).2)
  else match gr s x with
    | some g => (tByte (mkQ g), x.up.up)
    | none => (tByte (mkQ (rngF (ch s x).1 (ch s x).1)), (ch s x).2)
theorem amF_zero (s : ByteArray) : amF s 0 = amG s none := by
  funext x
  unfold amF amG
  rfl
theorem amF_succ (s : ByteArray) (n : Nat) : amF s (n + 1) = amG s (some (alF s (amF s n))) := by
  funext x
  rw [amF, amG]
  first
    | rfl
    | (cases gr s x <;> rfl)
theorem take_no {s : ByteArray} {x : Sx} {op : Int} {g : Nat} (hs : s.size ≤ 200) {b : Int} (hp : x.p ≤ s.size) (h : ¬ nx s x = b) (w : World) (hR : Rd w g s x op) :
    Calls Try.prog 29 #[.pointer (some ⟨g, 0, none⟩), .int .i64 b] w fun e w' => e = .returned (.bool false) ∧ Rd w' g s x op ∧ KeptOff w w' g := by
  have := take_any s hs x op g w b hp hR
  rw [show tkX s x b = x from if_neg h, show (nx s x == b) = false from beq_eq_false_iff_ne.2 h] at this
  exact this
theorem take_yes {s : ByteArray} {x : Sx} {op : Int} {g : Nat} (hs : s.size ≤ 200) {b : Int} (hp : x.p ≤ s.size) (h : nx s x = b) (w : World) (hR : Rd w g s x op) :
    Calls Try.prog 29 #[.pointer (some ⟨g, 0, none⟩), .int .i64 b] w fun e w' => e = .returned (.bool true) ∧ Rd w' g s x.up op ∧ KeptOff w w' g := by
  have := take_any s hs x op g w b hp hR
  rw [show tkX s x b = x.up from if_pos h, show (nx s x == b) = true from beq_iff_eq.2 h] at this
  exact this
/-- the boxes of atom: the reader's and the result's -/
structure Ux (w : World) (g : Nat) (s : ByteArray) (y : Sx) (op : Int) (wr : World) : Prop where
  rd : Rd wr g s y op
  re : Blk wr w.heap.size 27 #[.int .i64 0, .int .u64 0, .int .u64 0, .int .u64 0, .int .u64 0, .slice none 0 0]
  ko : KeptOff w wr g
  lt : g < w.heap.size
section
variable {w wr wr' : World} {g : Nat} {s : ByteArray} {y y' : Sx} {op op' : Int}
theorem Ux.step (h : Ux w g s y op wr) (hb : Below wr.heap.size wr wr') : Ux w g s y op wr' := ⟨h.rd.below hb, Blk.below h.re hb (Blk.lt h.re), h.ko.tr (KeptOff.of_below hb), h.lt⟩
theorem Ux.kept (h : Ux w g s y op wr) (hr : Rd wr' g s y' op') (hk : KeptOff wr wr' g) : Ux w g s y' op' wr' := ⟨hr, hk.blk h.re (by have := h.lt; omega), h.ko.tr hk, h.lt⟩
theorem Tx.opn {gT : Nat} {cs : List Value} (h : Tx w g gT s y op cs wr) (o : Int) : Tx w g gT s y o cs (wr.setCell ⟨g, 2, none⟩ (.int .i64 o)) := by
  have h1 := h.lt
  have h2 := h.gl
  exact ⟨h.rd.setO o, Blk.far h.re (by dsimp only; omega) _, Blk.far h.te (by dsimp only; omega) _, h.ko.set_ 2 _, h.lt, h.gl⟩
theorem Ux.upP (h : Ux w g s y op wr) : Ux w g s y.up op (wr.setCell ⟨g, 1, none⟩ (.int .i64 ((y.p : Int) + 1))) := by
  have hlt := h.lt
  exact ⟨h.rd.setP (y.p + 1), Blk.far h.re (by dsimp only; omega) _, h.ko.set_ 1 _, h.lt⟩
theorem Ux.opn (h : Ux w g s y op wr) (o : Int) : Ux w g s y o (wr.setCell ⟨g, 2, none⟩ (.int .i64 o)) := by
  have hlt := h.lt
  exact ⟨h.rd.setO o, Blk.far h.re (by dsimp only; omega) _, h.ko.set_ 2 _, h.lt⟩
end
set_option maxRecDepth 100000 in
set_option maxHeartbeats 16000000 in
theorem atom_ok (s : ByteArray) (hs : s.size ≤ 200) (op : Int) (o : Option (Sx → Rx × Sx)) (hop : 0 ≤ op ∧ op ≤ 20) (h20 : o = none → op = 20) (hB : ∀ B, o = some B → op ≠ 20 ∧ PsOk 12 (op + 1) s B ∧ Go0 s B) : PsOk 64 op s (amG s o) := by
  intro g w x he hp hR
  obtain ⟨W, hW⟩ : ∃ W, w.alloc (.cells #[.int .i64 0, .int .u64 0, .int .u64 0, .int .u64 0, .int .u64 0, .slice none 0 0] 27) = W := ⟨_, rfl⟩
  have hWR : Rd W g s x op := by rw [← hW]; exact Blk.alloc hR _
  have hU : Ux w g s x op W := ⟨hWR, by rw [← hW]; exact Blk.new w _ _, by rw [← hW]; exact KeptOff.refl.alloc _, Blk.lt hR⟩
  have CN := Lib.hid (next_any s x op g W hp hWR)
  have HX0 := Lib.hid hU
  have hne := hU.lt
  obtain ⟨F, hF⟩ : ∃ F, F = amG s o x := ⟨_, rfl⟩
  rw [← hF]
  have hlo := nx_lo s x
  clear hWR hU hR
  by_cases h40 : nx s x = 40
  · rw [h40] at CN
    have hx40 := nx_some (s := s) (x := x) (by omega)
    cases o with
    | none =>
      have h2 := h20 rfl
      have HFe : Hid (F = (tOne 0, x.fl 11)) := Lib.hid (by rw [hF]; unfold amG; rw [if_pos h40])
      clear h40 hF hB h20
      go_enter Try.func64, Try.ntmps64
      go_wp2_with fail
      refine CN.out.mono ?_
      rintro e w1 ⟨rfl, qq, hq1⟩
      clear hW
      have HX : Hid (Ux w g s x op w1) := Lib.hid (by rw [hq1]; exact HX0.out.step (below_drewN (Below.refl _ _) qq))
      clear hq1
      obtain ⟨c0, c1, c2, c3⟩ := HX.out.rd.facts
      rw [h2] at c2
      clear h2
      go_wp2_with fail
      refine (fail_any s x op g _ 11 HX.out.rd).mono ?_
      rintro e w9 ⟨rfl, hr9, hk9⟩
      replace HX := Lib.hid (HX.out.kept hr9 hk9)
      clear hr9 hk9 c0 c1 c2 c3
      have hre := HX.out.re
      have hko := HX.out.ko
      have hrd := HX.out.rd
      have r0 : w9.cell? ⟨w.heap.size, 0, none⟩ = some (.int .i64 0) := hre.cell 0
      have fr0 : w9.frozen? ⟨w.heap.size, 0, none⟩ = false := hre.frozen 0
      have r1 : w9.cell? ⟨w.heap.size, 1, none⟩ = some (.int .u64 0) := hre.cell 1
      have fr1 : w9.frozen? ⟨w.heap.size, 1, none⟩ = false := hre.frozen 1
      have r2 : w9.cell? ⟨w.heap.size, 2, none⟩ = some (.int .u64 0) := hre.cell 2
      have fr2 : w9.frozen? ⟨w.heap.size, 2, none⟩ = false := hre.frozen 2
      have r3 : w9.cell? ⟨w.heap.size, 3, none⟩ = some (.int .u64 0) := hre.cell 3
      have fr3 : w9.frozen? ⟨w.heap.size, 3, none⟩ = false := hre.frozen 3
      have r4 : w9.cell? ⟨w.heap.size, 4, none⟩ = some (.int .u64 0) := hre.cell 4
      have fr4 : w9.frozen? ⟨w.heap.size, 4, none⟩ = false := hre.frozen 4
      have r5 : w9.cell? ⟨w.heap.size, 5, none⟩ = some (.slice none 0 0) := hre.cell 5
      have fr5 : w9.frozen? ⟨w.heap.size, 5, none⟩ = false := hre.frozen 5
      have HZ := Lib.hid (six_put (cs := [.int .i64 0, .int .u64 0, .int .u64 0, .int .u64 0, .int .u64 0, .slice none 0 0]) hre rfl 0 0 0 0 0 none 0 0)
      have HZK := Lib.hid (hko.put6 (Nat.le_refl _) 0 0 0 0 0 none 0 0)
      have HZR := Lib.hid (Blk.far6 hrd (by omega : w.heap.size ≠ g) 0 0 0 0 0 none 0 0)
      clear hre hko hrd
      go_wp2_with fail
      obtain ⟨wz, hwz⟩ : ∃ wz, wz = ((((((w9.setCell ⟨w.heap.size, 0, none⟩ (.int .i64 0)).setCell ⟨w.heap.size, 1, none⟩ (.int .u64 0)).setCell ⟨w.heap.size, 2, none⟩ (.int .u64 0)).setCell ⟨w.heap.size, 3, none⟩ (.int .u64 0)).setCell ⟨w.heap.size, 4, none⟩ (.int .u64 0)).setCell ⟨w.heap.size, 5, none⟩ (.slice none 0 0)) := ⟨_, rfl⟩
      have hz := HZ.out
      have hzk := HZK.out
      have hzr := HZR.out
      rw [← hwz] at hz hzk hzr ⊢
      have z0 : wz.cell? ⟨w.heap.size, 0, none⟩ = some (.int .i64 0) := hz.cell 0
      have z1 : wz.cell? ⟨w.heap.size, 1, none⟩ = some (.int .u64 0) := hz.cell 1
      have z2 : wz.cell? ⟨w.heap.size, 2, none⟩ = some (.int .u64 0) := hz.cell 2
      have z3 : wz.cell? ⟨w.heap.size, 3, none⟩ = some (.int .u64 0) := hz.cell 3
      have z4 : wz.cell? ⟨w.heap.size, 4, none⟩ = some (.int .u64 0) := hz.cell 4
      have z5 : wz.cell? ⟨w.heap.size, 5, none⟩ = some (.slice none 0 0) := hz.cell 5
      refine bodyPost_ret (v := .agg #[.int .i64 0, .int .u64 0, .int .u64 0, .int .u64 0, .int .u64 0, .slice none 0 0]) (by simp [results, Try.results64, go_sem, z0, z1, z2, z3, z4, z5]) rfl ⟨0, 0, 0, 0, 0, none, 0, 0, rfl, by rw [HFe.out]; exact hzr, hzk, fun hy => by
        rw [HFe.out]
        exact ⟨1, RxT.leaf wz _ 0 zq zq_ok (by decide) (by decide)⟩⟩
    | some B =>
      obtain ⟨hn20, hAlt, hGo⟩ := hB B rfl
      have f20 : (op == 20) = false := by rw [beq_eq_false_iff_ne]; exact hn20
      have hup := up_go (s := s) (x := x) (by omega)
      have hxe : x.up.e = 0 := he
      have hY := hGo x.up hxe hup.hi
      have HFx : Hid (F = ((B x.up).1, if nx s (B x.up).2 = 41 then (B x.up).2.up else (B x.up).2.fl 3)) := Lib.hid (by rw [hF]; unfold amG; rw [if_pos h40])
      have CA := Lib.hid fun w' (hr : Rd w' g s x.up (op + 1)) => hAlt g w' x.up hxe hup.hi hr
      have hw1 : IntKind.i64.wrap ((x.p : Int) + 1) = (x.p : Int) + 1 := IntWalk.i64_in _ (by omega)
      have hw2 : IntKind.i64.wrap (op + 1) = op + 1 := IntWalk.i64_in _ (by omega)
      have hw3 : IntKind.i64.wrap (op + 1 - 1) = op := by rw [show op + 1 - 1 = op by omega]; exact IntWalk.i64_in _ (by omega)
      obtain ⟨Y, hYe⟩ : ∃ Y, Y = B x.up := ⟨_, rfl⟩
      have CA' := CA.out
      have HFx' := HFx.out
      rw [← hYe] at CA' HFx' hY
      have CA := Lib.hid CA'
      have HFx := Lib.hid HFx'
      clear h40 hF hB h20 hn20 hAlt hGo hYe CA' HFx' hup
      go_enter Try.func64, Try.ntmps64
      go_wp2_with fail
      refine CN.out.mono ?_
      rintro e w1 ⟨rfl, qq, hq1⟩
      clear hW
      have HX : Hid (Ux w g s x op w1) := Lib.hid (by rw [hq1]; exact HX0.out.step (below_drewN (Below.refl _ _) qq))
      clear hq1
      obtain ⟨c0, c1, c2, c3⟩ := HX.out.rd.facts
      have cf1 : w1.frozen? ⟨g, 1, none⟩ = false := Blk.frozen HX.out.rd 1
      have cf2 : w1.frozen? ⟨g, 2, none⟩ = false := Blk.frozen HX.out.rd 2
      have HXa := Lib.hid (HX.out.upP.opn (op + 1))
      go_wp2_with fail
      refine (CA.out _ HXa.out.rd).mono ?_
      rintro e w4 ⟨x0, x1, x2, x3, x4, xA, xl, xc, rfl, hr4, hk4, ht4⟩
      have hU4 := HXa.out.kept hr4 hk4
      have hz4 : w.heap.size < w4.heap.size := Blk.lt hU4.re
      have hX1 : Tx w g w4.heap.size s Y.2 (op + 1) (six x0 x1 x2 x3 x4 xA xl xc) (w4.alloc (.cells #[.int .i64 x0, .int .u64 x1, .int .u64 x2, .int .u64 x3, .int .u64 x4, .slice xA xl xc] 27)) := ⟨Blk.alloc hU4.rd _, Blk.alloc hU4.re _, Blk.new w4 _ _, hU4.ko.alloc _, hU4.lt, hz4⟩
      have hsz : w.heap.size < ((w1.setCell ⟨g, 1, none⟩ (.int .i64 ((x.p : Int) + 1))).setCell ⟨g, 2, none⟩ (.int .i64 (op + 1))).heap.size := Blk.lt HXa.out.re
      have HT1 : Hid (Y.2.e = 0 → ∃ n, RxT (w4.alloc (.cells #[.int .i64 x0, .int .u64 x1, .int .u64 x2, .int .u64 x3, .int .u64 x4, .slice xA xl xc] 27)) (InT w w4.heap.size (w4.alloc (.cells #[.int .i64 x0, .int .u64 x1, .int .u64 x2, .int .u64 x3, .int .u64 x4, .slice xA xl xc] 27))) n Y.1 (six x0 x1 x2 x3 x4 xA xl xc)) := Lib.hid fun hy => by
        obtain ⟨n, hn⟩ := ht4 hy
        refine ⟨n, (hn.below ((Below.refl _ _).alloc (Nat.le_refl _) _) fun b hb => hb.2).weak fun b hb => ⟨Nat.lt_of_lt_of_le hsz hb.1, by simp; omega, by omega⟩⟩
      have HX1 := Lib.hid hX1
      clear hX1 hU4 hr4 hk4 ht4 hsz HX HXa c0 c1 c2 c3 cf1 cf2
      go_upto_region 8 with fail
      obtain ⟨gT, hgT⟩ : ∃ gT, w4.heap.size = gT := ⟨_, rfl⟩
      rw [hgT] at HX1 HT1 ⊢
      obtain ⟨W1, hW1⟩ : ∃ W1, w4.alloc (.cells #[.int .i64 x0, .int .u64 x1, .int .u64 x2, .int .u64 x3, .int .u64 x4, .slice xA xl xc] 27) = W1 := ⟨_, rfl⟩
      rw [hW1] at HX1 HT1 ⊢
      clear hW1 hgT hz4
      obtain ⟨c0, c1, c2, c3⟩ := HX1.out.rd.facts
      have cf2 : W1.frozen? ⟨g, 2, none⟩ = false := Blk.frozen HX1.out.rd 2
      have HX2 : Hid (Tx w g gT s Y.2 op (six x0 x1 x2 x3 x4 xA xl xc) (W1.setCell ⟨g, 2, none⟩ (.int .i64 op))) := Lib.hid (HX1.out.opn op)
      have HT2 : Hid (Y.2.e = 0 → ∃ n, RxT (W1.setCell ⟨g, 2, none⟩ (.int .i64 op)) (InT w gT (W1.setCell ⟨g, 2, none⟩ (.int .i64 op))) n Y.1 (six x0 x1 x2 x3 x4 xA xl xc)) := Lib.hid fun hy => by
        obtain ⟨n, hn⟩ := HT1.out hy
        have hgl := HX1.out.lt
        exact ⟨n, (hn.store (p := ⟨g, 2, none⟩) (fun k => by have := k.1; dsimp only at this; omega) _).weak fun b hb => ⟨hb.1, by simpa [World.setCell] using hb.2.1, hb.2.2⟩⟩
      go_upto_region 9 with fail
      obtain ⟨W2, hW2⟩ : ∃ W2, W1.setCell ⟨g, 2, none⟩ (.int .i64 op) = W2 := ⟨_, rfl⟩
      rw [hW2] at HX2 HT2 ⊢
      clear hW2 c0 c1 c2 c3 cf2 HX1 HT1
      by_cases h41 : nx s Y.2 = 41
      · obtain ⟨y, hyY⟩ : ∃ y, y = Y.2.up := ⟨_, rfl⟩
        have HFe : Hid (F = (Y.1, y)) := Lib.hid (by rw [HFx.out, if_pos h41, hyY])
        go_wp2_with fail
        refine (take_yes hs hY.1 h41 _ HX2.out.rd).mono ?_
        rintro e w9 ⟨rfl, hr9, hk9⟩
        rw [← hyY] at hr9
        have HX9 := Lib.hid (HX2.out.kept hr9 hk9)
        have HT9 : Hid (y.e = 0 → ∃ n, RxT w9 (InT w gT w9) n Y.1 (six x0 x1 x2 x3 x4 xA xl xc)) := Lib.hid fun hy => by
          obtain ⟨n, hn⟩ := HT2.out (by rw [hyY] at hy; exact hy)
          have hgl := HX2.out.lt
          exact ⟨n, (hn.off hk9 fun b hb => ⟨hb.2.1, by have := hb.1; omega⟩).weak fun b hb => ⟨hb.1, Nat.lt_of_lt_of_le hb.2.1 hk9.size, hb.2.2⟩⟩
        clear hr9 hk9 h41 hyY HX2 HT2
        obtain ⟨t, ht⟩ : ∃ t, t = Y.1 := ⟨_, rfl⟩
        rw [← ht] at HFe HT9
        have s0 : w9.cell? ⟨gT, 0, none⟩ = some (.int .i64 x0) := HX9.out.te.cell 0
        have s1 : w9.cell? ⟨gT, 1, none⟩ = some (.int .u64 x1) := HX9.out.te.cell 1
        have s2 : w9.cell? ⟨gT, 2, none⟩ = some (.int .u64 x2) := HX9.out.te.cell 2
        have s3 : w9.cell? ⟨gT, 3, none⟩ = some (.int .u64 x3) := HX9.out.te.cell 3
        have s4 : w9.cell? ⟨gT, 4, none⟩ = some (.int .u64 x4) := HX9.out.te.cell 4
        have s5 : w9.cell? ⟨gT, 5, none⟩ = some (.slice xA xl xc) := HX9.out.te.cell 5
        have r0 : w9.cell? ⟨w.heap.size, 0, none⟩ = some (.int .i64 0) := HX9.out.re.cell 0
        have fr0 : w9.frozen? ⟨w.heap.size, 0, none⟩ = false := HX9.out.re.frozen 0
        have r1 : w9.cell? ⟨w.heap.size, 1, none⟩ = some (.int .u64 0) := HX9.out.re.cell 1
        have fr1 : w9.frozen? ⟨w.heap.size, 1, none⟩ = false := HX9.out.re.frozen 1
        have r2 : w9.cell? ⟨w.heap.size, 2, none⟩ = some (.int .u64 0) := HX9.out.re.cell 2
        have fr2 : w9.frozen? ⟨w.heap.size, 2, none⟩ = false := HX9.out.re.frozen 2
        have r3 : w9.cell? ⟨w.heap.size, 3, none⟩ = some (.int .u64 0) := HX9.out.re.cell 3
        have fr3 : w9.frozen? ⟨w.heap.size, 3, none⟩ = false := HX9.out.re.frozen 3
        have r4 : w9.cell? ⟨w.heap.size, 4, none⟩ = some (.int .u64 0) := HX9.out.re.cell 4
        have fr4 : w9.frozen? ⟨w.heap.size, 4, none⟩ = false := HX9.out.re.frozen 4
        have r5 : w9.cell? ⟨w.heap.size, 5, none⟩ = some (.slice none 0 0) := HX9.out.re.cell 5
        have fr5 : w9.frozen? ⟨w.heap.size, 5, none⟩ = false := HX9.out.re.frozen 5
        have HZ := Lib.hid (six_put (cs := [.int .i64 0, .int .u64 0, .int .u64 0, .int .u64 0, .int .u64 0, .slice none 0 0]) HX9.out.re rfl x0 x1 x2 x3 x4 xA xl xc)
        have hne := HX9.out.lt
        have HZK := Lib.hid (HX9.out.ko.put6 (Nat.le_refl _) x0 x1 x2 x3 x4 xA xl xc)
        have HZR := Lib.hid (Blk.far6 HX9.out.rd (by omega : w.heap.size ≠ g) x0 x1 x2 x3 x4 xA xl xc)
        have HZS := Lib.hid (size_put6 w9 w.heap.size x0 x1 x2 x3 x4 xA xl xc)
        have HZT : Hid (y.e = 0 → ∃ n, RxT ((((((w9.setCell ⟨w.heap.size, 0, none⟩ (.int .i64 x0)).setCell ⟨w.heap.size, 1, none⟩ (.int .u64 x1)).setCell ⟨w.heap.size, 2, none⟩ (.int .u64 x2)).setCell ⟨w.heap.size, 3, none⟩ (.int .u64 x3)).setCell ⟨w.heap.size, 4, none⟩ (.int .u64 x4)).setCell ⟨w.heap.size, 5, none⟩ (.slice xA xl xc)) (fun b => w.heap.size ≤ b ∧ b < w9.heap.size) n t (six x0 x1 x2 x3 x4 xA xl xc)) := Lib.hid fun hy => by
          obtain ⟨n, hn⟩ := HT9.out hy
          exact ⟨n, (hn.put6 (fun k => absurd k.1 (Nat.lt_irrefl _)) x0 x1 x2 x3 x4 xA xl xc).weak fun b hb => ⟨Nat.le_of_lt hb.1, hb.2.1⟩⟩
        clear HX9
        go_wp2_with fail
        obtain ⟨wz, hwz⟩ : ∃ wz, wz = ((((((w9.setCell ⟨w.heap.size, 0, none⟩ (.int .i64 x0)).setCell ⟨w.heap.size, 1, none⟩ (.int .u64 x1)).setCell ⟨w.heap.size, 2, none⟩ (.int .u64 x2)).setCell ⟨w.heap.size, 3, none⟩ (.int .u64 x3)).setCell ⟨w.heap.size, 4, none⟩ (.int .u64 x4)).setCell ⟨w.heap.size, 5, none⟩ (.slice xA xl xc)) := ⟨_, rfl⟩
        have hz := HZ.out
        have hzk := HZK.out
        have hzr := HZR.out
        have hzs := HZS.out
        have hzt := HZT.out
        rw [← hwz] at hz hzk hzr hzs hzt ⊢
        have z0 : wz.cell? ⟨w.heap.size, 0, none⟩ = some (.int .i64 x0) := hz.cell 0
        have z1 : wz.cell? ⟨w.heap.size, 1, none⟩ = some (.int .u64 x1) := hz.cell 1
        have z2 : wz.cell? ⟨w.heap.size, 2, none⟩ = some (.int .u64 x2) := hz.cell 2
        have z3 : wz.cell? ⟨w.heap.size, 3, none⟩ = some (.int .u64 x3) := hz.cell 3
        have z4 : wz.cell? ⟨w.heap.size, 4, none⟩ = some (.int .u64 x4) := hz.cell 4
        have z5 : wz.cell? ⟨w.heap.size, 5, none⟩ = some (.slice xA xl xc) := hz.cell 5
        refine bodyPost_ret (v := .agg #[.int .i64 x0, .int .u64 x1, .int .u64 x2, .int .u64 x3, .int .u64 x4, .slice xA xl xc]) (by simp [results, Try.results64, go_sem, z0, z1, z2, z3, z4, z5]) rfl ⟨x0, x1, x2, x3, x4, xA, xl, xc, rfl, by rw [HFe.out]; exact hzr, hzk, fun hy => by
          rw [HFe.out] at hy ⊢
          obtain ⟨n, hn⟩ := hzt hy
          exact ⟨n, hn.weak fun b hb => ⟨hb.1, by omega⟩⟩⟩
      · obtain ⟨y, hyY⟩ : ∃ y, y = Y.2.fl 3 := ⟨_, rfl⟩
        have HFe : Hid (F = (Y.1, y)) := Lib.hid (by rw [HFx.out, if_neg h41, hyY])
        have hye : ¬ y.e = 0 := by rw [hyY]; exact fl_e (by decide)
        go_wp2_with fail
        refine (take_no hs hY.1 h41 _ HX2.out.rd).mono ?_
        rintro e w8 ⟨rfl, hr8, hk8⟩
        have HX8 := Lib.hid (HX2.out.kept hr8 hk8)
        clear hr8 hk8
        go_wp2_with fail
        refine (fail_any s Y.2 op g _ 3 HX8.out.rd).mono ?_
        rintro e w9 ⟨rfl, hr9, hk9⟩
        rw [← hyY] at hr9
        have HX9 := Lib.hid (HX8.out.kept hr9 hk9)
        have HT9 : Hid (y.e = 0 → ∃ n, RxT w9 (InT w gT w9) n Y.1 (six x0 x1 x2 x3 x4 xA xl xc)) := Lib.hid fun hy => absurd hy hye
        clear hr9 hk9 h41 hyY HX2 HT2 HX8 hye
        obtain ⟨t, ht⟩ : ∃ t, t = Y.1 := ⟨_, rfl⟩
        rw [← ht] at HFe HT9
        have s0 : w9.cell? ⟨gT, 0, none⟩ = some (.int .i64 x0) := HX9.out.te.cell 0
        have s1 : w9.cell? ⟨gT, 1, none⟩ = some (.int .u64 x1) := HX9.out.te.cell 1
        have s2 : w9.cell? ⟨gT, 2, none⟩ = some (.int .u64 x2) := HX9.out.te.cell 2
        have s3 : w9.cell? ⟨gT, 3, none⟩ = some (.int .u64 x3) := HX9.out.te.cell 3
        have s4 : w9.cell? ⟨gT, 4, none⟩ = some (.int .u64 x4) := HX9.out.te.cell 4
        have s5 : w9.cell? ⟨gT, 5, none⟩ = some (.slice xA xl xc) := HX9.out.te.cell 5
        have r0 : w9.cell? ⟨w.heap.size, 0, none⟩ = some (.int .i64 0) := HX9.out.re.cell 0
        have fr0 : w9.frozen? ⟨w.heap.size, 0, none⟩ = false := HX9.out.re.frozen 0
        have r1 : w9.cell? ⟨w.heap.size, 1, none⟩ = some (.int .u64 0) := HX9.out.re.cell 1
        have fr1 : w9.frozen? ⟨w.heap.size, 1, none⟩ = false := HX9.out.re.frozen 1
        have r2 : w9.cell? ⟨w.heap.size, 2, none⟩ = some (.int .u64 0) := HX9.out.re.cell 2
        have fr2 : w9.frozen? ⟨w.heap.size, 2, none⟩ = false := HX9.out.re.frozen 2
        have r3 : w9.cell? ⟨w.heap.size, 3, none⟩ = some (.int .u64 0) := HX9.out.re.cell 3
        have fr3 : w9.frozen? ⟨w.heap.size, 3, none⟩ = false := HX9.out.re.frozen 3
        have r4 : w9.cell? ⟨w.heap.size, 4, none⟩ = some (.int .u64 0) := HX9.out.re.cell 4
        have fr4 : w9.frozen? ⟨w.heap.size, 4, none⟩ = false := HX9.out.re.frozen 4
        have r5 : w9.cell? ⟨w.heap.size, 5, none⟩ = some (.slice none 0 0) := HX9.out.re.cell 5
        have fr5 : w9.frozen? ⟨w.heap.size, 5, none⟩ = false := HX9.out.re.frozen 5
        have HZ := Lib.hid (six_put (cs := [.int .i64 0, .int .u64 0, .int .u64 0, .int .u64 0, .int .u64 0, .slice none 0 0]) HX9.out.re rfl x0 x1 x2 x3 x4 xA xl xc)
        have hne := HX9.out.lt
        have HZK := Lib.hid (HX9.out.ko.put6 (Nat.le_refl _) x0 x1 x2 x3 x4 xA xl xc)
        have HZR := Lib.hid (Blk.far6 HX9.out.rd (by omega : w.heap.size ≠ g) x0 x1 x2 x3 x4 xA xl xc)
        have HZS := Lib.hid (size_put6 w9 w.heap.size x0 x1 x2 x3 x4 xA xl xc)
        have HZT : Hid (y.e = 0 → ∃ n, RxT ((((((w9.setCell ⟨w.heap.size, 0, none⟩ (.int .i64 x0)).setCell ⟨w.heap.size, 1, none⟩ (.int .u64 x1)).setCell ⟨w.heap.size, 2, none⟩ (.int .u64 x2)).setCell ⟨w.heap.size, 3, none⟩ (.int .u64 x3)).setCell ⟨w.heap.size, 4, none⟩ (.int .u64 x4)).setCell ⟨w.heap.size, 5, none⟩ (.slice xA xl xc)) (fun b => w.heap.size ≤ b ∧ b < w9.heap.size) n t (six x0 x1 x2 x3 x4 xA xl xc)) := Lib.hid fun hy => by
          obtain ⟨n, hn⟩ := HT9.out hy
          exact ⟨n, (hn.put6 (fun k => absurd k.1 (Nat.lt_irrefl _)) x0 x1 x2 x3 x4 xA xl xc).weak fun b hb => ⟨Nat.le_of_lt hb.1, hb.2.1⟩⟩
        clear HX9
        go_wp2_with fail
        obtain ⟨wz, hwz⟩ : ∃ wz, wz = ((((((w9.setCell ⟨w.heap.size, 0, none⟩ (.int .i64 x0)).setCell ⟨w.heap.size, 1, none⟩ (.int .u64 x1)).setCell ⟨w.heap.size, 2, none⟩ (.int .u64 x2)).setCell ⟨w.heap.size, 3, none⟩ (.int .u64 x3)).setCell ⟨w.heap.size, 4, none⟩ (.int .u64 x4)).setCell ⟨w.heap.size, 5, none⟩ (.slice xA xl xc)) := ⟨_, rfl⟩
        have hz := HZ.out
        have hzk := HZK.out
        have hzr := HZR.out
        have hzs := HZS.out
        have hzt := HZT.out
        rw [← hwz] at hz hzk hzr hzs hzt ⊢
        have z0 : wz.cell? ⟨w.heap.size, 0, none⟩ = some (.int .i64 x0) := hz.cell 0
        have z1 : wz.cell? ⟨w.heap.size, 1, none⟩ = some (.int .u64 x1) := hz.cell 1
        have z2 : wz.cell? ⟨w.heap.size, 2, none⟩ = some (.int .u64 x2) := hz.cell 2
        have z3 : wz.cell? ⟨w.heap.size, 3, none⟩ = some (.int .u64 x3) := hz.cell 3
        have z4 : wz.cell? ⟨w.heap.size, 4, none⟩ = some (.int .u64 x4) := hz.cell 4
        have z5 : wz.cell? ⟨w.heap.size, 5, none⟩ = some (.slice xA xl xc) := hz.cell 5
        refine bodyPost_ret (v := .agg #[.int .i64 x0, .int .u64 x1, .int .u64 x2, .int .u64 x3, .int .u64 x4, .slice xA xl xc]) (by simp [results, Try.results64, go_sem, z0, z1, z2, z3, z4, z5]) rfl ⟨x0, x1, x2, x3, x4, xA, xl, xc, rfl, by rw [HFe.out]; exact hzr, hzk, fun hy => by
          rw [HFe.out] at hy ⊢
          obtain ⟨n, hn⟩ := hzt hy
          exact ⟨n, hn.weak fun b hb => ⟨hb.1, by omega⟩⟩⟩
  · have f40 : (nx s x == 40) = false := by rw [beq_eq_false_iff_ne]; exact h40
    by_cases h46 : nx s x = 46
    · have HFe0 : Hid (F = (tByte (mkQ fun b => decide (¬ b = 10)), x.up)) := Lib.hid (by rw [hF]; unfold amG; rw [if_neg h40, if_pos h46])
      clear hF hB h20
      go_enter Try.func64, Try.ntmps64
      go_wp2_with fail
      refine CN.out.mono ?_
      rintro e w1 ⟨rfl, qq, hq1⟩
      clear hW
      have HX : Hid (Ux w g s x op w1) := Lib.hid (by rw [hq1]; exact HX0.out.step (below_drewN (Below.refl _ _) qq))
      clear hq1
      go_wp2_with fail
      refine (take_yes hs hp (show nx s x = 46 by omega) _ HX.out.rd).mono ?_
      rintro e w2 ⟨rfl, hr2, hk2⟩
      replace HX := Lib.hid (HX.out.kept hr2 hk2)
      clear hr2 hk2
      go_wp2_with fail
      refine (rangeA 10 10 (by omega) _).mono ?_
      rintro e w3 ⟨q3, rfl, hq3, hb3⟩
      replace HX := Lib.hid (HX.out.step hb3)
      go_wp2_with fail
      refine (notA q3 hq3.1 _).mono ?_
      rintro e w9 ⟨q, rfl, hq, hb9⟩
      replace HX := Lib.hid (HX.out.step hb9)
      have HSq : Hid (SetOf q (fun b => !rngF 10 10 b)) := Lib.hid (by rw [hq]; exact not_is hq3)
      have hqm : q = mkQ fun b => decide (¬ b = 10) := mkQ_eq HSq.out fun b hb => by
        unfold rngF
        rw [Bool.eq_iff_iff]
        simp
        omega
      have HFe : Hid (F = (tByte q, x.up)) := Lib.hid (by rw [hqm]; exact HFe0.out)
      clear hb3 hb9 hq hq3 hqm
      have hre := HX.out.re
      have hko := HX.out.ko
      have hrd := HX.out.rd
      have r0 : w9.cell? ⟨w.heap.size, 0, none⟩ = some (.int .i64 0) := hre.cell 0
      have fr0 : w9.frozen? ⟨w.heap.size, 0, none⟩ = false := hre.frozen 0
      have r1 : w9.cell? ⟨w.heap.size, 1, none⟩ = some (.int .u64 0) := hre.cell 1
      have fr1 : w9.frozen? ⟨w.heap.size, 1, none⟩ = false := hre.frozen 1
      have r2 : w9.cell? ⟨w.heap.size, 2, none⟩ = some (.int .u64 0) := hre.cell 2
      have fr2 : w9.frozen? ⟨w.heap.size, 2, none⟩ = false := hre.frozen 2
      have r3 : w9.cell? ⟨w.heap.size, 3, none⟩ = some (.int .u64 0) := hre.cell 3
      have fr3 : w9.frozen? ⟨w.heap.size, 3, none⟩ = false := hre.frozen 3
      have r4 : w9.cell? ⟨w.heap.size, 4, none⟩ = some (.int .u64 0) := hre.cell 4
      have fr4 : w9.frozen? ⟨w.heap.size, 4, none⟩ = false := hre.frozen 4
      have r5 : w9.cell? ⟨w.heap.size, 5, none⟩ = some (.slice none 0 0) := hre.cell 5
      have fr5 : w9.frozen? ⟨w.heap.size, 5, none⟩ = false := hre.frozen 5
      have HZ := Lib.hid (six_put (cs := [.int .i64 0, .int .u64 0, .int .u64 0, .int .u64 0, .int .u64 0, .slice none 0 0]) hre rfl 3 q.a q.b q.c q.d none 0 0)
      have HZK := Lib.hid (hko.put6 (Nat.le_refl _) 3 q.a q.b q.c q.d none 0 0)
      have HZR := Lib.hid (Blk.far6 hrd (by omega : w.heap.size ≠ g) 3 q.a q.b q.c q.d none 0 0)
      clear hre hko hrd
      go_wp2_with fail
      obtain ⟨wz, hwz⟩ : ∃ wz, wz = ((((((w9.setCell ⟨w.heap.size, 0, none⟩ (.int .i64 3)).setCell ⟨w.heap.size, 1, none⟩ (.int .u64 (q.a : Int))).setCell ⟨w.heap.size, 2, none⟩ (.int .u64 (q.b : Int))).setCell ⟨w.heap.size, 3, none⟩ (.int .u64 (q.c : Int))).setCell ⟨w.heap.size, 4, none⟩ (.int .u64 (q.d : Int))).setCell ⟨w.heap.size, 5, none⟩ (.slice none 0 0)) := ⟨_, rfl⟩
      have hz := HZ.out
      have hzk := HZK.out
      have hzr := HZR.out
      rw [← hwz] at hz hzk hzr ⊢
      have z0 : wz.cell? ⟨w.heap.size, 0, none⟩ = some (.int .i64 3) := hz.cell 0
      have z1 : wz.cell? ⟨w.heap.size, 1, none⟩ = some (.int .u64 (q.a : Int)) := hz.cell 1
      have z2 : wz.cell? ⟨w.heap.size, 2, none⟩ = some (.int .u64 (q.b : Int)) := hz.cell 2
      have z3 : wz.cell? ⟨w.heap.size, 3, none⟩ = some (.int .u64 (q.c : Int)) := hz.cell 3
      have z4 : wz.cell? ⟨w.heap.size, 4, none⟩ = some (.int .u64 (q.d : Int)) := hz.cell 4
      have z5 : wz.cell? ⟨w.heap.size, 5, none⟩ = some (.slice none 0 0) := hz.cell 5
      refine bodyPost_ret (v := .agg #[.int .i64 3, .int .u64 (q.a : Int), .int .u64 (q.b : Int), .int .u64 (q.c : Int), .int .u64 (q.d : Int), .slice none 0 0]) (by simp [results, Try.results64, go_sem, z0, z1, z2, z3, z4, z5]) rfl ⟨3, q.a, q.b, q.c, q.d, none, 0, 0, rfl, by rw [HFe.out]; exact hzr, hzk, fun hy => by
        rw [HFe.out]
        exact ⟨1, RxT.leaf wz _ 3 q HSq.out.1 (by decide) (by decide)⟩⟩
    · skip
      by_cases h94 : nx s x = 94
      · have HFe : Hid (F = (tOne 7, x.up)) := Lib.hid (by rw [hF]; unfold amG; rw [if_neg h40, if_neg h46, if_pos h94])
        clear hF hB h20
        go_enter Try.func64, Try.ntmps64
        go_wp2_with fail
        refine CN.out.mono ?_
        rintro e w1 ⟨rfl, qq, hq1⟩
        clear hW
        have HX : Hid (Ux w g s x op w1) := Lib.hid (by rw [hq1]; exact HX0.out.step (below_drewN (Below.refl _ _) qq))
        clear hq1
        go_wp2_with fail
        refine (take_no hs hp (show ¬ nx s x = 46 by omega) _ HX.out.rd).mono ?_
        rintro e w2 ⟨rfl, hr2, hk2⟩
        replace HX := Lib.hid (HX.out.kept hr2 hk2)
        clear hr2 hk2
        go_wp2_with fail
        refine (take_yes hs hp (show nx s x = 94 by omega) _ HX.out.rd).mono ?_
        rintro e w2 ⟨rfl, hr2, hk2⟩
        replace HX := Lib.hid (HX.out.kept hr2 hk2)
        clear hr2 hk2
        go_wp2_with fail
        refine (one_tree 7 _).mono ?_
        rintro e w9 ⟨rfl, hb9⟩
        replace HX := Lib.hid (HX.out.step hb9)
        clear hb9
        have hre := HX.out.re
        have hko := HX.out.ko
        have hrd := HX.out.rd
        have r0 : w9.cell? ⟨w.heap.size, 0, none⟩ = some (.int .i64 0) := hre.cell 0
        have fr0 : w9.frozen? ⟨w.heap.size, 0, none⟩ = false := hre.frozen 0
        have r1 : w9.cell? ⟨w.heap.size, 1, none⟩ = some (.int .u64 0) := hre.cell 1
        have fr1 : w9.frozen? ⟨w.heap.size, 1, none⟩ = false := hre.frozen 1
        have r2 : w9.cell? ⟨w.heap.size, 2, none⟩ = some (.int .u64 0) := hre.cell 2
        have fr2 : w9.frozen? ⟨w.heap.size, 2, none⟩ = false := hre.frozen 2
        have r3 : w9.cell? ⟨w.heap.size, 3, none⟩ = some (.int .u64 0) := hre.cell 3
        have fr3 : w9.frozen? ⟨w.heap.size, 3, none⟩ = false := hre.frozen 3
        have r4 : w9.cell? ⟨w.heap.size, 4, none⟩ = some (.int .u64 0) := hre.cell 4
        have fr4 : w9.frozen? ⟨w.heap.size, 4, none⟩ = false := hre.frozen 4
        have r5 : w9.cell? ⟨w.heap.size, 5, none⟩ = some (.slice none 0 0) := hre.cell 5
        have fr5 : w9.frozen? ⟨w.heap.size, 5, none⟩ = false := hre.frozen 5
        have HZ := Lib.hid (six_put (cs := [.int .i64 0, .int .u64 0, .int .u64 0, .int .u64 0, .int .u64 0, .slice none 0 0]) hre rfl 7 0 0 0 0 none 0 0)
        have HZK := Lib.hid (hko.put6 (Nat.le_refl _) 7 0 0 0 0 none 0 0)
        have HZR := Lib.hid (Blk.far6 hrd (by omega : w.heap.size ≠ g) 7 0 0 0 0 none 0 0)
        clear hre hko hrd
        go_wp2_with fail
        obtain ⟨wz, hwz⟩ : ∃ wz, wz = ((((((w9.setCell ⟨w.heap.size, 0, none⟩ (.int .i64 7)).setCell ⟨w.heap.size, 1, none⟩ (.int .u64 0)).setCell ⟨w.heap.size, 2, none⟩ (.int .u64 0)).setCell ⟨w.heap.size, 3, none⟩ (.int .u64 0)).setCell ⟨w.heap.size, 4, none⟩ (.int .u64 0)).setCell ⟨w.heap.size, 5, none⟩ (.slice none 0 0)) := ⟨_, rfl⟩
        have hz := HZ.out
        have hzk := HZK.out
        have hzr := HZR.out
        rw [← hwz] at hz hzk hzr ⊢
        have z0 : wz.cell? ⟨w.heap.size, 0, none⟩ = some (.int .i64 7) := hz.cell 0
        have z1 : wz.cell? ⟨w.heap.size, 1, none⟩ = some (.int .u64 0) := hz.cell 1
        have z2 : wz.cell? ⟨w.heap.size, 2, none⟩ = some (.int .u64 0) := hz.cell 2
        have z3 : wz.cell? ⟨w.heap.size, 3, none⟩ = some (.int .u64 0) := hz.cell 3
        have z4 : wz.cell? ⟨w.heap.size, 4, none⟩ = some (.int .u64 0) := hz.cell 4
        have z5 : wz.cell? ⟨w.heap.size, 5, none⟩ = some (.slice none 0 0) := hz.cell 5
        refine bodyPost_ret (v := .agg #[.int .i64 7, .int .u64 0, .int .u64 0, .int .u64 0, .int .u64 0, .slice none 0 0]) (by simp [results, Try.results64, go_sem, z0, z1, z2, z3, z4, z5]) rfl ⟨7, 0, 0, 0, 0, none, 0, 0, rfl, by rw [HFe.out]; exact hzr, hzk, fun hy => by
          rw [HFe.out]
          exact ⟨1, RxT.leaf wz _ 7 zq zq_ok (by decide) (by decide)⟩⟩
      · skip
        by_cases h36 : nx s x = 36
        · have HFe : Hid (F = (tOne 8, x.up)) := Lib.hid (by rw [hF]; unfold amG; rw [if_neg h40, if_neg h46, if_neg h94, if_pos h36])
          clear hF hB h20
          go_enter Try.func64, Try.ntmps64
          go_wp2_with fail
          refine CN.out.mono ?_
          rintro e w1 ⟨rfl, qq, hq1⟩
          clear hW
          have HX : Hid (Ux w g s x op w1) := Lib.hid (by rw [hq1]; exact HX0.out.step (below_drewN (Below.refl _ _) qq))
          clear hq1
          go_wp2_with fail
          refine (take_no hs hp (show ¬ nx s x = 46 by omega) _ HX.out.rd).mono ?_
          rintro e w2 ⟨rfl, hr2, hk2⟩
          replace HX := Lib.hid (HX.out.kept hr2 hk2)
          clear hr2 hk2
          go_wp2_with fail
          refine (take_no hs hp (show ¬ nx s x = 94 by omega) _ HX.out.rd).mono ?_
          rintro e w2 ⟨rfl, hr2, hk2⟩
          replace HX := Lib.hid (HX.out.kept hr2 hk2)
          clear hr2 hk2
          go_wp2_with fail
          refine (take_yes hs hp (show nx s x = 36 by omega) _ HX.out.rd).mono ?_
          rintro e w2 ⟨rfl, hr2, hk2⟩
          replace HX := Lib.hid (HX.out.kept hr2 hk2)
          clear hr2 hk2
          go_wp2_with fail
          refine (one_tree 8 _).mono ?_
          rintro e w9 ⟨rfl, hb9⟩
          replace HX := Lib.hid (HX.out.step hb9)
          clear hb9
          have hre := HX.out.re
          have hko := HX.out.ko
          have hrd := HX.out.rd
          have r0 : w9.cell? ⟨w.heap.size, 0, none⟩ = some (.int .i64 0) := hre.cell 0
          have fr0 : w9.frozen? ⟨w.heap.size, 0, none⟩ = false := hre.frozen 0
          have r1 : w9.cell? ⟨w.heap.size, 1, none⟩ = some (.int .u64 0) := hre.cell 1
          have fr1 : w9.frozen? ⟨w.heap.size, 1, none⟩ = false := hre.frozen 1
          have r2 : w9.cell? ⟨w.heap.size, 2, none⟩ = some (.int .u64 0) := hre.cell 2
          have fr2 : w9.frozen? ⟨w.heap.size, 2, none⟩ = false := hre.frozen 2
          have r3 : w9.cell? ⟨w.heap.size, 3, none⟩ = some (.int .u64 0) := hre.cell 3
          have fr3 : w9.frozen? ⟨w.heap.size, 3, none⟩ = false := hre.frozen 3
          have r4 : w9.cell? ⟨w.heap.size, 4, none⟩ = some (.int .u64 0) := hre.cell 4
          have fr4 : w9.frozen? ⟨w.heap.size, 4, none⟩ = false := hre.frozen 4
          have r5 : w9.cell? ⟨w.heap.size, 5, none⟩ = some (.slice none 0 0) := hre.cell 5
          have fr5 : w9.frozen? ⟨w.heap.size, 5, none⟩ = false := hre.frozen 5
          have HZ := Lib.hid (six_put (cs := [.int .i64 0, .int .u64 0, .int .u64 0, .int .u64 0, .int .u64 0, .slice none 0 0]) hre rfl 8 0 0 0 0 none 0 0)
          have HZK := Lib.hid (hko.put6 (Nat.le_refl _) 8 0 0 0 0 none 0 0)
          have HZR := Lib.hid (Blk.far6 hrd (by omega : w.heap.size ≠ g) 8 0 0 0 0 none 0 0)
          clear hre hko hrd
          go_wp2_with fail
          obtain ⟨wz, hwz⟩ : ∃ wz, wz = ((((((w9.setCell ⟨w.heap.size, 0, none⟩ (.int .i64 8)).setCell ⟨w.heap.size, 1, none⟩ (.int .u64 0)).setCell ⟨w.heap.size, 2, none⟩ (.int .u64 0)).setCell ⟨w.heap.size, 3, none⟩ (.int .u64 0)).setCell ⟨w.heap.size, 4, none⟩ (.int .u64 0)).setCell ⟨w.heap.size, 5, none⟩ (.slice none 0 0)) := ⟨_, rfl⟩
          have hz := HZ.out
          have hzk := HZK.out
          have hzr := HZR.out
          rw [← hwz] at hz hzk hzr ⊢
          have z0 : wz.cell? ⟨w.heap.size, 0, none⟩ = some (.int .i64 8) := hz.cell 0
          have z1 : wz.cell? ⟨w.heap.size, 1, none⟩ = some (.int .u64 0) := hz.cell 1
          have z2 : wz.cell? ⟨w.heap.size, 2, none⟩ = some (.int .u64 0) := hz.cell 2
          have z3 : wz.cell? ⟨w.heap.size, 3, none⟩ = some (.int .u64 0) := hz.cell 3
          have z4 : wz.cell? ⟨w.heap.size, 4, none⟩ = some (.int .u64 0) := hz.cell 4
          have z5 : wz.cell? ⟨w.heap.size, 5, none⟩ = some (.slice none 0 0) := hz.cell 5
          refine bodyPost_ret (v := .agg #[.int .i64 8, .int .u64 0, .int .u64 0, .int .u64 0, .int .u64 0, .slice none 0 0]) (by simp [results, Try.results64, go_sem, z0, z1, z2, z3, z4, z5]) rfl ⟨8, 0, 0, 0, 0, none, 0, 0, rfl, by rw [HFe.out]; exact hzr, hzk, fun hy => by
            rw [HFe.out]
            exact ⟨1, RxT.leaf wz _ 8 zq zq_ok (by decide) (by decide)⟩⟩
        · skip
          by_cases h91 : nx s x = 91
          · have HFe0 : Hid (F = (tByte (cls s x.up).1, (cls s x.up).2)) := Lib.hid (by rw [hF]; unfold amG; rw [if_neg h40, if_neg h46, if_neg h94, if_neg h36, if_pos h91])
            have hup := up_go (s := s) (x := x) (by omega)
            have hxe : x.up.e = 0 := he
            clear hF hB h20
            go_enter Try.func64, Try.ntmps64
            go_wp2_with fail
            refine CN.out.mono ?_
            rintro e w1 ⟨rfl, qq, hq1⟩
            clear hW
            have HX : Hid (Ux w g s x op w1) := Lib.hid (by rw [hq1]; exact HX0.out.step (below_drewN (Below.refl _ _) qq))
            clear hq1
            go_wp2_with fail
            refine (take_no hs hp (show ¬ nx s x = 46 by omega) _ HX.out.rd).mono ?_
            rintro e w2 ⟨rfl, hr2, hk2⟩
            replace HX := Lib.hid (HX.out.kept hr2 hk2)
            clear hr2 hk2
            go_wp2_with fail
            refine (take_no hs hp (show ¬ nx s x = 94 by omega) _ HX.out.rd).mono ?_
            rintro e w2 ⟨rfl, hr2, hk2⟩
            replace HX := Lib.hid (HX.out.kept hr2 hk2)
            clear hr2 hk2
            go_wp2_with fail
            refine (take_no hs hp (show ¬ nx s x = 36 by omega) _ HX.out.rd).mono ?_
            rintro e w2 ⟨rfl, hr2, hk2⟩
            replace HX := Lib.hid (HX.out.kept hr2 hk2)
            clear hr2 hk2
            go_wp2_with fail
            refine (take_yes hs hp (show nx s x = 91 by omega) _ HX.out.rd).mono ?_
            rintro e w2 ⟨rfl, hr2, hk2⟩
            replace HX := Lib.hid (HX.out.kept hr2 hk2)
            clear hr2 hk2
            go_wp2_with fail
            refine (class_any s hs x.up op g _ hxe hup.hi HX.out.rd).mono ?_
            rintro e w9 ⟨q, rfl, hq, hqo, hr9, hk9⟩
            replace HX := Lib.hid (HX.out.kept hr9 hk9)
            have HFe : Hid (F = (tByte q, (cls s x.up).2)) := Lib.hid (by rw [hq]; exact HFe0.out)
            clear hq hr9 hk9
            have hre := HX.out.re
            have hko := HX.out.ko
            have hrd := HX.out.rd
            have r0 : w9.cell? ⟨w.heap.size, 0, none⟩ = some (.int .i64 0) := hre.cell 0
            have fr0 : w9.frozen? ⟨w.heap.size, 0, none⟩ = false := hre.frozen 0
            have r1 : w9.cell? ⟨w.heap.size, 1, none⟩ = some (.int .u64 0) := hre.cell 1
            have fr1 : w9.frozen? ⟨w.heap.size, 1, none⟩ = false := hre.frozen 1
            have r2 : w9.cell? ⟨w.heap.size, 2, none⟩ = some (.int .u64 0) := hre.cell 2
            have fr2 : w9.frozen? ⟨w.heap.size, 2, none⟩ = false := hre.frozen 2
            have r3 : w9.cell? ⟨w.heap.size, 3, none⟩ = some (.int .u64 0) := hre.cell 3
            have fr3 : w9.frozen? ⟨w.heap.size, 3, none⟩ = false := hre.frozen 3
            have r4 : w9.cell? ⟨w.heap.size, 4, none⟩ = some (.int .u64 0) := hre.cell 4
            have fr4 : w9.frozen? ⟨w.heap.size, 4, none⟩ = false := hre.frozen 4
            have r5 : w9.cell? ⟨w.heap.size, 5, none⟩ = some (.slice none 0 0) := hre.cell 5
            have fr5 : w9.frozen? ⟨w.heap.size, 5, none⟩ = false := hre.frozen 5
            have HZ := Lib.hid (six_put (cs := [.int .i64 0, .int .u64 0, .int .u64 0, .int .u64 0, .int .u64 0, .slice none 0 0]) hre rfl 3 q.a q.b q.c q.d none 0 0)
            have HZK := Lib.hid (hko.put6 (Nat.le_refl _) 3 q.a q.b q.c q.d none 0 0)
            have HZR := Lib.hid (Blk.far6 hrd (by omega : w.heap.size ≠ g) 3 q.a q.b q.c q.d none 0 0)
            clear hre hko hrd
            go_wp2_with fail
            obtain ⟨wz, hwz⟩ : ∃ wz, wz = ((((((w9.setCell ⟨w.heap.size, 0, none⟩ (.int .i64 3)).setCell ⟨w.heap.size, 1, none⟩ (.int .u64 (q.a : Int))).setCell ⟨w.heap.size, 2, none⟩ (.int .u64 (q.b : Int))).setCell ⟨w.heap.size, 3, none⟩ (.int .u64 (q.c : Int))).setCell ⟨w.heap.size, 4, none⟩ (.int .u64 (q.d : Int))).setCell ⟨w.heap.size, 5, none⟩ (.slice none 0 0)) := ⟨_, rfl⟩
            have hz := HZ.out
            have hzk := HZK.out
            have hzr := HZR.out
            rw [← hwz] at hz hzk hzr ⊢
            have z0 : wz.cell? ⟨w.heap.size, 0, none⟩ = some (.int .i64 3) := hz.cell 0
            have z1 : wz.cell? ⟨w.heap.size, 1, none⟩ = some (.int .u64 (q.a : Int)) := hz.cell 1
            have z2 : wz.cell? ⟨w.heap.size, 2, none⟩ = some (.int .u64 (q.b : Int)) := hz.cell 2
            have z3 : wz.cell? ⟨w.heap.size, 3, none⟩ = some (.int .u64 (q.c : Int)) := hz.cell 3
            have z4 : wz.cell? ⟨w.heap.size, 4, none⟩ = some (.int .u64 (q.d : Int)) := hz.cell 4
            have z5 : wz.cell? ⟨w.heap.size, 5, none⟩ = some (.slice none 0 0) := hz.cell 5
            refine bodyPost_ret (v := .agg #[.int .i64 3, .int .u64 (q.a : Int), .int .u64 (q.b : Int), .int .u64 (q.c : Int), .int .u64 (q.d : Int), .slice none 0 0]) (by simp [results, Try.results64, go_sem, z0, z1, z2, z3, z4, z5]) rfl ⟨3, q.a, q.b, q.c, q.d, none, 0, 0, rfl, by rw [HFe.out]; exact hzr, hzk, fun hy => by
              rw [HFe.out]
              exact ⟨1, RxT.leaf wz _ 3 q hqo (by decide) (by decide)⟩⟩
          · skip
            have HFm : Hid (F = match gr s x with
                | some g => (tByte (mkQ g), x.up.up)
                | none => (tByte (mkQ (rngF (ch s x).1 (ch s x).1)), (ch s x).2)) := Lib.hid (by rw [hF]; unfold amG; rw [if_neg h40, if_neg h46, if_neg h94, if_neg h36, if_neg h91])
            clear hF hB h20
            go_enter Try.func64, Try.ntmps64
            go_wp2_with fail
            refine CN.out.mono ?_
            rintro e w1 ⟨rfl, qq, hq1⟩
            clear hW
            have HX : Hid (Ux w g s x op w1) := Lib.hid (by rw [hq1]; exact HX0.out.step (below_drewN (Below.refl _ _) qq))
            clear hq1
            go_wp2_with fail
            refine (take_no hs hp (show ¬ nx s x = 46 by omega) _ HX.out.rd).mono ?_
            rintro e w2 ⟨rfl, hr2, hk2⟩
            replace HX := Lib.hid (HX.out.kept hr2 hk2)
            clear hr2 hk2
            go_wp2_with fail
            refine (take_no hs hp (show ¬ nx s x = 94 by omega) _ HX.out.rd).mono ?_
            rintro e w2 ⟨rfl, hr2, hk2⟩
            replace HX := Lib.hid (HX.out.kept hr2 hk2)
            clear hr2 hk2
            go_wp2_with fail
            refine (take_no hs hp (show ¬ nx s x = 36 by omega) _ HX.out.rd).mono ?_
            rintro e w2 ⟨rfl, hr2, hk2⟩
            replace HX := Lib.hid (HX.out.kept hr2 hk2)
            clear hr2 hk2
            go_wp2_with fail
            refine (take_no hs hp (show ¬ nx s x = 91 by omega) _ HX.out.rd).mono ?_
            rintro e w2 ⟨rfl, hr2, hk2⟩
            replace HX := Lib.hid (HX.out.kept hr2 hk2)
            clear hr2 hk2
            go_wp2_with fail
            refine (group_any s hs x op g _ he hp HX.out.rd).mono ?_
            rintro e w3 ⟨q3, ok, rfl, hok, hset, hq3, hr3, hk3⟩
            have HX3 := Lib.hid (HX.out.kept hr3 hk3)
            cases ok with
            | true =>
              obtain ⟨gf, hgf⟩ : ∃ gf, gr s x = some gf := Option.isSome_iff_exists.1 hok.symm
              have HFe : Hid (F = (tByte q3, x.up.up)) := Lib.hid (by rw [mkQ_eq (hset gf hgf) fun _ _ => rfl, HFm.out, hgf])
              have HX4 := Lib.hid (HX3.out.step ((Below.refl _ _).alloc (Nat.le_refl _) (.cells #[.int .u64 (q3.a : Int), .int .u64 (q3.b : Int), .int .u64 (q3.c : Int), .int .u64 (q3.d : Int)] 24)))
              have hk6 := SBlk.lit w3 q3
              clear hok hset hgf hr3 hk3 HX3 HX
              go_upto_region 22 with fail
              obtain ⟨w9, hw9⟩ : ∃ w9, w3.alloc (.cells #[.int .u64 (q3.a : Int), .int .u64 (q3.b : Int), .int .u64 (q3.c : Int), .int .u64 (q3.d : Int)] 24) = w9 := ⟨_, rfl⟩
              rw [hw9] at HX4 hk6 ⊢
              obtain ⟨g6, hg6⟩ : ∃ g6, w3.heap.size = g6 := ⟨_, rfl⟩
              rw [hg6] at hk6 ⊢
              obtain ⟨q, rfl⟩ : ∃ q, q = q3 := ⟨_, rfl⟩
              have s0 : w9.cell? ⟨g6, 0, none⟩ = some (.int .u64 (q.a : Int)) := hk6.cell (k := 0) (by omega)
              have s1 : w9.cell? ⟨g6, 1, none⟩ = some (.int .u64 (q.b : Int)) := hk6.cell (k := 1) (by omega)
              have s2 : w9.cell? ⟨g6, 2, none⟩ = some (.int .u64 (q.c : Int)) := hk6.cell (k := 2) (by omega)
              have s3 : w9.cell? ⟨g6, 3, none⟩ = some (.int .u64 (q.d : Int)) := hk6.cell (k := 3) (by omega)
              have HX : Hid (Ux w g s x.up.up op w9) := HX4
              clear hw9 hg6 hk6 HX4
              have hre := HX.out.re
              have hko := HX.out.ko
              have hrd := HX.out.rd
              have r0 : w9.cell? ⟨w.heap.size, 0, none⟩ = some (.int .i64 0) := hre.cell 0
              have fr0 : w9.frozen? ⟨w.heap.size, 0, none⟩ = false := hre.frozen 0
              have r1 : w9.cell? ⟨w.heap.size, 1, none⟩ = some (.int .u64 0) := hre.cell 1
              have fr1 : w9.frozen? ⟨w.heap.size, 1, none⟩ = false := hre.frozen 1
              have r2 : w9.cell? ⟨w.heap.size, 2, none⟩ = some (.int .u64 0) := hre.cell 2
              have fr2 : w9.frozen? ⟨w.heap.size, 2, none⟩ = false := hre.frozen 2
              have r3 : w9.cell? ⟨w.heap.size, 3, none⟩ = some (.int .u64 0) := hre.cell 3
              have fr3 : w9.frozen? ⟨w.heap.size, 3, none⟩ = false := hre.frozen 3
              have r4 : w9.cell? ⟨w.heap.size, 4, none⟩ = some (.int .u64 0) := hre.cell 4
              have fr4 : w9.frozen? ⟨w.heap.size, 4, none⟩ = false := hre.frozen 4
              have r5 : w9.cell? ⟨w.heap.size, 5, none⟩ = some (.slice none 0 0) := hre.cell 5
              have fr5 : w9.frozen? ⟨w.heap.size, 5, none⟩ = false := hre.frozen 5
              have HZ := Lib.hid (six_put (cs := [.int .i64 0, .int .u64 0, .int .u64 0, .int .u64 0, .int .u64 0, .slice none 0 0]) hre rfl 3 q.a q.b q.c q.d none 0 0)
              have HZK := Lib.hid (hko.put6 (Nat.le_refl _) 3 q.a q.b q.c q.d none 0 0)
              have HZR := Lib.hid (Blk.far6 hrd (by omega : w.heap.size ≠ g) 3 q.a q.b q.c q.d none 0 0)
              clear hre hko hrd
              go_wp2_with fail
              obtain ⟨wz, hwz⟩ : ∃ wz, wz = ((((((w9.setCell ⟨w.heap.size, 0, none⟩ (.int .i64 3)).setCell ⟨w.heap.size, 1, none⟩ (.int .u64 (q.a : Int))).setCell ⟨w.heap.size, 2, none⟩ (.int .u64 (q.b : Int))).setCell ⟨w.heap.size, 3, none⟩ (.int .u64 (q.c : Int))).setCell ⟨w.heap.size, 4, none⟩ (.int .u64 (q.d : Int))).setCell ⟨w.heap.size, 5, none⟩ (.slice none 0 0)) := ⟨_, rfl⟩
              have hz := HZ.out
              have hzk := HZK.out
              have hzr := HZR.out
              rw [← hwz] at hz hzk hzr ⊢
              have z0 : wz.cell? ⟨w.heap.size, 0, none⟩ = some (.int .i64 3) := hz.cell 0
              have z1 : wz.cell? ⟨w.heap.size, 1, none⟩ = some (.int .u64 (q.a : Int)) := hz.cell 1
              have z2 : wz.cell? ⟨w.heap.size, 2, none⟩ = some (.int .u64 (q.b : Int)) := hz.cell 2
              have z3 : wz.cell? ⟨w.heap.size, 3, none⟩ = some (.int .u64 (q.c : Int)) := hz.cell 3
              have z4 : wz.cell? ⟨w.heap.size, 4, none⟩ = some (.int .u64 (q.d : Int)) := hz.cell 4
              have z5 : wz.cell? ⟨w.heap.size, 5, none⟩ = some (.slice none 0 0) := hz.cell 5
              refine bodyPost_ret (v := .agg #[.int .i64 3, .int .u64 (q.a : Int), .int .u64 (q.b : Int), .int .u64 (q.c : Int), .int .u64 (q.d : Int), .slice none 0 0]) (by simp [results, Try.results64, go_sem, z0, z1, z2, z3, z4, z5]) rfl ⟨3, q.a, q.b, q.c, q.d, none, 0, 0, rfl, by rw [HFe.out]; exact hzr, hzk, fun hy => by
                rw [HFe.out]
                exact ⟨1, RxT.leaf wz _ 3 q hq3 (by decide) (by decide)⟩⟩
            | false =>
              have hgn : gr s x = none := Option.not_isSome_iff_eq_none.1 (by rw [← hok]; decide)
              obtain ⟨lo, hlo1⟩ : ∃ lo : Nat, (ch s x).1 = (lo : Int) := ⟨(ch s x).1.toNat, by have := ch_lo s x; omega⟩
              have hlo2 : lo ≤ 255 := by have := ch_lo s x; omega
              obtain ⟨y, hy⟩ : ∃ y, y = (ch s x).2 := ⟨_, rfl⟩
              have CH : Hid (∀ w', Rd w' g s x op → Calls Try.prog 88 #[.pointer (some ⟨g, 0, none⟩)] w' fun e w'' => e = .returned (.int .i64 (lo : Int)) ∧ Rd w'' g s y op ∧ KeptOff w' w'' g) := Lib.hid fun w' hr => by
                have := char_any s hs x op g w' hp hr
                rw [hlo1, ← hy] at this; exact this
              have HFe0 : Hid (F = (tByte (mkQ (rngF (lo : Int) (lo : Int))), y)) := Lib.hid (by rw [HFm.out, hgn]; dsimp only; rw [hlo1, ← hy])
              have HX4 := Lib.hid (HX3.out.step ((Below.refl _ _).alloc (Nat.le_refl _) (.cells #[.int .u64 (q3.a : Int), .int .u64 (q3.b : Int), .int .u64 (q3.c : Int), .int .u64 (q3.d : Int)] 24)))
              clear hok hset hgn hr3 hk3 HX3 HX hlo1 hy
              go_upto_region 23 with fail
              obtain ⟨w4, hw4⟩ : ∃ w4, w3.alloc (.cells #[.int .u64 (q3.a : Int), .int .u64 (q3.b : Int), .int .u64 (q3.c : Int), .int .u64 (q3.d : Int)] 24) = w4 := ⟨_, rfl⟩
              rw [hw4] at HX4 ⊢
              have HX : Hid (Ux w g s x op w4) := HX4
              clear hw4 HX4
              go_wp2_with fail
              refine (CH.out _ HX.out.rd).mono ?_
              rintro e w5 ⟨rfl, hr5, hk5⟩
              replace HX := Lib.hid (HX.out.kept hr5 hk5)
              clear hr5 hk5
              go_wp2_with fail
              refine (rangeA lo lo (by omega) _).mono ?_
              rintro e w9 ⟨q, rfl, hq, hb9⟩
              replace HX := Lib.hid (HX.out.step hb9)
              have HFe : Hid (F = (tByte q, y)) := Lib.hid (by rw [mkQ_eq hq fun _ _ => rfl]; exact HFe0.out)
              have hqo := hq.1
              clear hb9 hq
              have hre := HX.out.re
              have hko := HX.out.ko
              have hrd := HX.out.rd
              have r0 : w9.cell? ⟨w.heap.size, 0, none⟩ = some (.int .i64 0) := hre.cell 0
              have fr0 : w9.frozen? ⟨w.heap.size, 0, none⟩ = false := hre.frozen 0
              have r1 : w9.cell? ⟨w.heap.size, 1, none⟩ = some (.int .u64 0) := hre.cell 1
              have fr1 : w9.frozen? ⟨w.heap.size, 1, none⟩ = false := hre.frozen 1
              have r2 : w9.cell? ⟨w.heap.size, 2, none⟩ = some (.int .u64 0) := hre.cell 2
              have fr2 : w9.frozen? ⟨w.heap.size, 2, none⟩ = false := hre.frozen 2
              have r3 : w9.cell? ⟨w.heap.size, 3, none⟩ = some (.int .u64 0) := hre.cell 3
              have fr3 : w9.frozen? ⟨w.heap.size, 3, none⟩ = false := hre.frozen 3
              have r4 : w9.cell? ⟨w.heap.size, 4, none⟩ = some (.int .u64 0) := hre.cell 4
              have fr4 : w9.frozen? ⟨w.heap.size, 4, none⟩ = false := hre.frozen 4
              have r5 : w9.cell? ⟨w.heap.size, 5, none⟩ = some (.slice none 0 0) := hre.cell 5
              have fr5 : w9.frozen? ⟨w.heap.size, 5, none⟩ = false := hre.frozen 5
              have HZ := Lib.hid (six_put (cs := [.int .i64 0, .int .u64 0, .int .u64 0, .int .u64 0, .int .u64 0, .slice none 0 0]) hre rfl 3 q.a q.b q.c q.d none 0 0)
              have HZK := Lib.hid (hko.put6 (Nat.le_refl _) 3 q.a q.b q.c q.d none 0 0)
              have HZR := Lib.hid (Blk.far6 hrd (by omega : w.heap.size ≠ g) 3 q.a q.b q.c q.d none 0 0)
              clear hre hko hrd
              go_wp2_with fail
              obtain ⟨wz, hwz⟩ : ∃ wz, wz = ((((((w9.setCell ⟨w.heap.size, 0, none⟩ (.int .i64 3)).setCell ⟨w.heap.size, 1, none⟩ (.int .u64 (q.a : Int))).setCell ⟨w.heap.size, 2, none⟩ (.int .u64 (q.b : Int))).setCell ⟨w.heap.size, 3, none⟩ (.int .u64 (q.c : Int))).setCell ⟨w.heap.size, 4, none⟩ (.int .u64 (q.d : Int))).setCell ⟨w.heap.size, 5, none⟩ (.slice none 0 0)) := ⟨_, rfl⟩
              have hz := HZ.out
              have hzk := HZK.out
              have hzr := HZR.out
              rw [← hwz] at hz hzk hzr ⊢
              have z0 : wz.cell? ⟨w.heap.size, 0, none⟩ = some (.int .i64 3) := hz.cell 0
              have z1 : wz.cell? ⟨w.heap.size, 1, none⟩ = some (.int .u64 (q.a : Int)) := hz.cell 1
              have z2 : wz.cell? ⟨w.heap.size, 2, none⟩ = some (.int .u64 (q.b : Int)) := hz.cell 2
              have z3 : wz.cell? ⟨w.heap.size, 3, none⟩ = some (.int .u64 (q.c : Int)) := hz.cell 3
              have z4 : wz.cell? ⟨w.heap.size, 4, none⟩ = some (.int .u64 (q.d : Int)) := hz.cell 4
              have z5 : wz.cell? ⟨w.heap.size, 5, none⟩ = some (.slice none 0 0) := hz.cell 5
              refine bodyPost_ret (v := .agg #[.int .i64 3, .int .u64 (q.a : Int), .int .u64 (q.b : Int), .int .u64 (q.c : Int), .int .u64 (q.d : Int), .slice none 0 0]) (by simp [results, Try.results64, go_sem, z0, z1, z2, z3, z4, z5]) rfl ⟨3, q.a, q.b, q.c, q.d, none, 0, 0, rfl, by rw [HFe.out]; exact hzr, hzk, fun hy => by
                rw [HFe.out]
                exact ⟨1, RxT.leaf wz _ 3 q hqo (by decide) (by decide)⟩⟩
end Go.Proofs.Ytkdcgkdbieeijaa
