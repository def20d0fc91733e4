/- Walk: (*rex.reader).piece, by what copies a tree. (printed by gen_prsl.py) -/
import Derived.Test.YtkdcgkdbieeijaaPrsK
import Derived.Test.YtkdcgkdbieeijaaPrsJ
namespace Go.Proofs.Ytkdcgkdbieeijaa
open Go.RowKit
set_option linter.unusedVariables false
set_option linter.unusedSimpArgs false

/-- a copy of a tree: its parts lie in blocks made meanwhile -/
def CpOk (F : FuncId) (d : Nat) : Prop := ∀ (r : Rx) (cs : List Value) (B : Nat) (w : World), RxT w (fun b => b < B) d r cs → B ≤ w.heap.size → Calls Try.prog F #[.agg cs.toArray] w fun e w' => ∃ (x0 x1 x2 x3 x4 : Int) (xA : Option Addr) (xl xc : Nat), e = .returned (.agg #[.int .i64 x0, .int .u64 x1, .int .u64 x2, .int .u64 x3, .int .u64 x4, .slice xA xl xc]) ∧ RxT w' (fun b => w.heap.size ≤ b ∧ b < w'.heap.size) d r (six x0 x1 x2 x3 x4 xA xl xc) ∧ Below w.heap.size w w'
theorem lpP_star {s : ByteArray} {t : Rx} {x : Sx} {m : Nat} (h : nx s x = 42) : lpP s (m + 1) t x = lpP s m (tStar t) x.up := by rw [lpP, if_pos h]
theorem lpP_may {s : ByteArray} {t : Rx} {x : Sx} {m : Nat} (h : nx s x = 63) : lpP s (m + 1) t x = lpP s m (tTwo 5 t (tOne 2)) x.up := by rw [lpP, if_neg (by omega), if_pos h]
theorem lpP_plus {s : ByteArray} {t : Rx} {x : Sx} {m : Nat} (h : nx s x = 43) : lpP s (m + 1) t x = lpP s m (tTwo 4 t (tStar (tAgain t))) x.up := by rw [lpP, if_neg (by omega), if_neg (by omega), if_pos h]
theorem lpP_stop {s : ByteArray} {t : Rx} {x : Sx} (m : Nat) (h1 : ¬ nx s x = 42) (h2 : ¬ nx s x = 63) (h3 : ¬ nx s x = 43) : lpP s m t x = (t, x) := by
  cases m with
  | zero => rfl
  | succ m => rw [lpP, if_neg h1, if_neg h2, if_neg h3]
section
variable {w wr : World} {g gT g4 : Nat} {s : ByteArray} {y : Sx} {op : Int} {cs : List Value}
theorem Tx.other (h : Tx w g gT s y op cs wr) (h4 : w.heap.size < g4) (hne : g4 ≠ gT) (x0 x1 x2 x3 x4 : Int) (xA : Option Addr) (xl xc : Nat) : Tx w g gT s y op cs ((((((wr.setCell ⟨g4, 0, none⟩ (.int .i64 x0)).setCell ⟨g4, 1, none⟩ (.int .u64 x1)).setCell ⟨g4, 2, none⟩ (.int .u64 x2)).setCell ⟨g4, 3, none⟩ (.int .u64 x3)).setCell ⟨g4, 4, none⟩ (.int .u64 x4)).setCell ⟨g4, 5, none⟩ (.slice xA xl xc)) := ⟨Blk.far6 h.rd (by have := h.lt; omega) x0 x1 x2 x3 x4 xA xl xc, Blk.far6 h.re (by omega) x0 x1 x2 x3 x4 xA xl xc, Blk.far6 h.te hne x0 x1 x2 x3 x4 xA xl xc, h.ko.put6 (by omega) x0 x1 x2 x3 x4 xA xl xc, h.lt, h.gl⟩
end
set_option maxRecDepth 100000 in
set_option maxHeartbeats 16000000 in
theorem piece_ok (s : ByteArray) (hs : s.size ≤ 200) (op : Int) (R : Sx → Rx × Sx) (hCopy : ∀ d, CpOk 66 d) (hRow : PsOk 64 op s R) (hGo : GoS s R) : PsOk 46 op s (pcF s R) := by
  intro g w x he hp hR
  have HROW := Lib.hid hRow
  have HGO := Lib.hid hGo
  have HCopy := Lib.hid hCopy
  clear hCopy
  clear hRow hGo
  obtain ⟨W, hW⟩ : ∃ W, w.alloc (.cells #[.int .i64 0, .int .u64 0, .int .u64 0, .int .u64 0, .int .u64 0, .slice none 0 0] 27) = W := ⟨_, rfl⟩
  have hWR : Rd W g s x op := by rw [← hW]; exact Blk.alloc hR _
  have hWE : Blk W w.heap.size 27 #[.int .i64 0, .int .u64 0, .int .u64 0, .int .u64 0, .int .u64 0, .slice none 0 0] := by rw [← hW]; exact Blk.new w _ _
  have hWK : KeptOff w W g := by rw [← hW]; exact KeptOff.refl.alloc _
  have hglt : g < w.heap.size := Blk.lt hR
  have hWz : W.heap.size = w.heap.size + 1 := by rw [← hW]; simp
  have C0 := Lib.hid (HROW.out g W x he hp hWR)
  have HWE := Lib.hid hWE
  have HWK := Lib.hid hWK
  have hY0 := HGO.out x he hp
  obtain ⟨F, hF⟩ : ∃ F, F = pcF s R x := ⟨_, rfl⟩
  rw [← hF]
  have hFx : F = lpP s (s.size + 1) (R x).1 (R x).2 := hF
  obtain ⟨Y0, hY⟩ : ∃ Y0, Y0 = R x := ⟨_, rfl⟩
  rw [← hY] at C0 hFx hY0
  have HF := Lib.hid hFx
  clear hWR hWE hWK hR hF hFx hY HROW HGO
  go_enter Try.func46, Try.ntmps46
  go_wp2_with fail
  refine C0.out.mono ?_
  rintro e w1 ⟨x0, x1, x2, x3, x4, xA, xl, xc, rfl, hr1, hk1, ht1⟩
  have hz1 : w.heap.size + 1 ≤ w1.heap.size := by have := hk1.size; omega
  have hX1 : Tx w g w1.heap.size s Y0.2 op (six x0 x1 x2 x3 x4 xA xl xc) (w1.alloc (.cells #[.int .i64 x0, .int .u64 x1, .int .u64 x2, .int .u64 x3, .int .u64 x4, .slice xA xl xc] 27)) := ⟨Blk.alloc hr1 _, Blk.alloc (hk1.blk HWE.out (by omega)) _, Blk.new w1 _ _, (HWK.out.tr hk1).alloc _, hglt, by omega⟩
  have HT1 : Hid (Y0.2.e = 0 → ∃ n, RxT (w1.alloc (.cells #[.int .i64 x0, .int .u64 x1, .int .u64 x2, .int .u64 x3, .int .u64 x4, .slice xA xl xc] 27)) (InT w w1.heap.size (w1.alloc (.cells #[.int .i64 x0, .int .u64 x1, .int .u64 x2, .int .u64 x3, .int .u64 x4, .slice xA xl xc] 27))) n Y0.1 (six x0 x1 x2 x3 x4 xA xl xc)) := Lib.hid fun hy => by
    obtain ⟨n, hn⟩ := ht1 hy
    refine ⟨n, (hn.below ((Below.refl _ _).alloc (Nat.le_refl _) _) fun b hb => hb.2).weak fun b hb => ⟨by omega, by simp; omega, by omega⟩⟩
  have HX1 := Lib.hid hX1
  clear hX1 hr1 hk1 ht1 hW hWz
  go_wp2_with fail
  obtain ⟨gT, hgT⟩ : ∃ gT, w1.heap.size = gT := ⟨_, rfl⟩
  rw [hgT] at HX1 HT1 ⊢
  obtain ⟨W1, hW1⟩ : ∃ W1, w1.alloc (.cells #[.int .i64 x0, .int .u64 x1, .int .u64 x2, .int .u64 x3, .int .u64 x4, .slice xA xl xc] 27) = W1 := ⟨_, rfl⟩
  rw [hW1] at HX1 HT1 ⊢
  clear hW1 hgT hz1
  go_loopg [8] (s.size + 1) (fun q _ wr => ∃ (m : Nat) (t : Rx) (y : Sx) (x0 x1 x2 x3 x4 : Int) (xA : Option Addr) (xl xc : Nat), q = m ∧ y.p ≤ s.size ∧ (y.e = 0 → s.size - y.p < m) ∧ Hid (F = lpP s m t y) ∧ Hid (Tx w g gT s y op (six x0 x1 x2 x3 x4 xA xl xc) wr) ∧ Hid (y.e = 0 → ∃ n, RxT wr (InT w gT wr) n t (six x0 x1 x2 x3 x4 xA xl xc)))
  case atStart => exact ⟨s.size + 1, Y0.1, Y0.2, x0, x1, x2, x3, x4, xA, xl, xc, rfl, hY0.hi, fun _ => by omega, HF, HX1, HT1⟩
  case round =>
    clear HX1 HT1 HF
    obtain ⟨m, t, y, x0, x1, x2, x3, x4, xA, xl, xc, hqm, hyp, hq, HFq, HX, HT⟩ := hrel
    have HG := Lib.hid hqm
    clear hqm
    by_cases h42 : nx s y = 42
    · have hys := nx_some (s := s) (x := y) (by omega)
      have hys1 := hys.1
      have hys2 := hys.2
      obtain ⟨m, rfl⟩ : ∃ m', m = m' + 1 := ⟨m - 1, by have := hq hys1; omega⟩
      have hyq := hq hys1
      have hup := up_go (s := s) (x := y) (by omega)
      have hup1 : y.up.p = y.p + 1 := rfl
      have HF2 := Lib.hid (HFq.out.trans (lpP_star h42))
      clear hq hys HFq
      go_wp2_with fail
      refine (take_yes hs hyp (show nx s y = 42 by omega) _ HX.out.rd).mono ?_
      rintro e w2 ⟨rfl, hr2, hk2⟩
      have HX2 := Lib.hid (HX.out.kept hr2 hk2)
      have hT2 : ∃ n, RxT w2 (InT w gT w2) n t (six x0 x1 x2 x3 x4 xA xl xc) := by
        obtain ⟨n, hn⟩ := HT.out hys1
        have hgl := HX2.out.lt
        exact ⟨n, (hn.off hk2 fun b hb => ⟨hb.2.1, by have := hb.1; omega⟩).weak fun b hb => ⟨hb.1, Nat.lt_of_lt_of_le hb.2.1 hk2.size, hb.2.2⟩⟩
      obtain ⟨n, hn⟩ := hT2
      have HN := Lib.hid hn
      clear hr2 hk2 hn HX HT
      clear h42
      have hgT2 : gT < w2.heap.size := Blk.lt HX2.out.te
      have hgl2 := HX2.out.gl
      have hzP := size_put6 w2 gT 6 0 0 0 0 (some ⟨w2.heap.size, 0, none⟩) 1 1
      have hza : (((((((w2.setCell ⟨gT, 0, none⟩ (.int .i64 6)).setCell ⟨gT, 1, none⟩ (.int .u64 0)).setCell ⟨gT, 2, none⟩ (.int .u64 0)).setCell ⟨gT, 3, none⟩ (.int .u64 0)).setCell ⟨gT, 4, none⟩ (.int .u64 0)).setCell ⟨gT, 5, none⟩ (.slice (some ⟨w2.heap.size, 0, none⟩) 1 1)).alloc (.cells #[.int .i64 x0, .int .u64 x1, .int .u64 x2, .int .u64 x3, .int .u64 x4, .slice xA xl xc] 27)).heap.size = w2.heap.size + 1 := by rw [← hzP]; simp
      have HX5 : Hid (Tx w g gT s y.up op (six 6 0 0 0 0 (some ⟨w2.heap.size, 0, none⟩) 1 1) (((((((w2.setCell ⟨gT, 0, none⟩ (.int .i64 6)).setCell ⟨gT, 1, none⟩ (.int .u64 0)).setCell ⟨gT, 2, none⟩ (.int .u64 0)).setCell ⟨gT, 3, none⟩ (.int .u64 0)).setCell ⟨gT, 4, none⟩ (.int .u64 0)).setCell ⟨gT, 5, none⟩ (.slice (some ⟨w2.heap.size, 0, none⟩) 1 1)).alloc (.cells #[.int .i64 x0, .int .u64 x1, .int .u64 x2, .int .u64 x3, .int .u64 x4, .slice xA xl xc] 27))) := Lib.hid ((HX2.out.put rfl 6 0 0 0 0 (some ⟨w2.heap.size, 0, none⟩) 1 1).step ((Below.refl _ _).alloc (Nat.le_refl _) _))
      have HT5 : Hid (y.up.e = 0 → ∃ n, RxT (((((((w2.setCell ⟨gT, 0, none⟩ (.int .i64 6)).setCell ⟨gT, 1, none⟩ (.int .u64 0)).setCell ⟨gT, 2, none⟩ (.int .u64 0)).setCell ⟨gT, 3, none⟩ (.int .u64 0)).setCell ⟨gT, 4, none⟩ (.int .u64 0)).setCell ⟨gT, 5, none⟩ (.slice (some ⟨w2.heap.size, 0, none⟩) 1 1)).alloc (.cells #[.int .i64 x0, .int .u64 x1, .int .u64 x2, .int .u64 x3, .int .u64 x4, .slice xA xl xc] 27)) (InT w gT (((((((w2.setCell ⟨gT, 0, none⟩ (.int .i64 6)).setCell ⟨gT, 1, none⟩ (.int .u64 0)).setCell ⟨gT, 2, none⟩ (.int .u64 0)).setCell ⟨gT, 3, none⟩ (.int .u64 0)).setCell ⟨gT, 4, none⟩ (.int .u64 0)).setCell ⟨gT, 5, none⟩ (.slice (some ⟨w2.heap.size, 0, none⟩) 1 1)).alloc (.cells #[.int .i64 x0, .int .u64 x1, .int .u64 x2, .int .u64 x3, .int .u64 x4, .slice xA xl xc] 27))) n (tStar t) (six 6 0 0 0 0 (some ⟨w2.heap.size, 0, none⟩) 1 1)) := Lib.hid fun _ => by
        have a1 := HN.out.put6 (g := gT) (fun k => k.2.2 rfl) 6 0 0 0 0 (some ⟨w2.heap.size, 0, none⟩) 1 1
        have b1 : RxT (((((((w2.setCell ⟨gT, 0, none⟩ (.int .i64 6)).setCell ⟨gT, 1, none⟩ (.int .u64 0)).setCell ⟨gT, 2, none⟩ (.int .u64 0)).setCell ⟨gT, 3, none⟩ (.int .u64 0)).setCell ⟨gT, 4, none⟩ (.int .u64 0)).setCell ⟨gT, 5, none⟩ (.slice (some ⟨w2.heap.size, 0, none⟩) 1 1)).alloc (.cells #[.int .i64 x0, .int .u64 x1, .int .u64 x2, .int .u64 x3, .int .u64 x4, .slice xA xl xc] 27)) (InT w gT (((((((w2.setCell ⟨gT, 0, none⟩ (.int .i64 6)).setCell ⟨gT, 1, none⟩ (.int .u64 0)).setCell ⟨gT, 2, none⟩ (.int .u64 0)).setCell ⟨gT, 3, none⟩ (.int .u64 0)).setCell ⟨gT, 4, none⟩ (.int .u64 0)).setCell ⟨gT, 5, none⟩ (.slice (some ⟨w2.heap.size, 0, none⟩) 1 1)).alloc (.cells #[.int .i64 x0, .int .u64 x1, .int .u64 x2, .int .u64 x3, .int .u64 x4, .slice xA xl xc] 27))) n t (six x0 x1 x2 x3 x4 xA xl xc) := (a1.below ((Below.refl _ _).alloc (Nat.le_refl _) _) fun b hb => by rw [hzP]; exact hb.2.1).weak fun b hb => ⟨hb.1, by rw [hza]; exact Nat.lt_succ_of_lt hb.2.1, hb.2.2⟩
        exact ⟨_, RxT.star b1 (show InT w gT (((((((w2.setCell ⟨gT, 0, none⟩ (.int .i64 6)).setCell ⟨gT, 1, none⟩ (.int .u64 0)).setCell ⟨gT, 2, none⟩ (.int .u64 0)).setCell ⟨gT, 3, none⟩ (.int .u64 0)).setCell ⟨gT, 4, none⟩ (.int .u64 0)).setCell ⟨gT, 5, none⟩ (.slice (some ⟨w2.heap.size, 0, none⟩) 1 1)).alloc (.cells #[.int .i64 x0, .int .u64 x1, .int .u64 x2, .int .u64 x3, .int .u64 x4, .slice xA xl xc] 27)) w2.heap.size from ⟨by omega, by rw [hza]; exact Nat.lt_succ_self _, by omega⟩) (fun j u h => by
          have := new_cells ((((((w2.setCell ⟨gT, 0, none⟩ (.int .i64 6)).setCell ⟨gT, 1, none⟩ (.int .u64 0)).setCell ⟨gT, 2, none⟩ (.int .u64 0)).setCell ⟨gT, 3, none⟩ (.int .u64 0)).setCell ⟨gT, 4, none⟩ (.int .u64 0)).setCell ⟨gT, 5, none⟩ (.slice (some ⟨w2.heap.size, 0, none⟩) 1 1)) [.int .i64 x0, .int .u64 x1, .int .u64 x2, .int .u64 x3, .int .u64 x4, .slice xA xl xc] 27 j u h
          rw [hzP] at this; exact this)⟩
      have s0 : w2.cell? ⟨gT, 0, none⟩ = some (.int .i64 x0) := HX2.out.te.cell 0
      have fs0 : w2.frozen? ⟨gT, 0, none⟩ = false := HX2.out.te.frozen 0
      have s1 : w2.cell? ⟨gT, 1, none⟩ = some (.int .u64 x1) := HX2.out.te.cell 1
      have fs1 : w2.frozen? ⟨gT, 1, none⟩ = false := HX2.out.te.frozen 1
      have s2 : w2.cell? ⟨gT, 2, none⟩ = some (.int .u64 x2) := HX2.out.te.cell 2
      have fs2 : w2.frozen? ⟨gT, 2, none⟩ = false := HX2.out.te.frozen 2
      have s3 : w2.cell? ⟨gT, 3, none⟩ = some (.int .u64 x3) := HX2.out.te.cell 3
      have fs3 : w2.frozen? ⟨gT, 3, none⟩ = false := HX2.out.te.frozen 3
      have s4 : w2.cell? ⟨gT, 4, none⟩ = some (.int .u64 x4) := HX2.out.te.cell 4
      have fs4 : w2.frozen? ⟨gT, 4, none⟩ = false := HX2.out.te.frozen 4
      have s5 : w2.cell? ⟨gT, 5, none⟩ = some (.slice xA xl xc) := HX2.out.te.cell 5
      have fs5 : w2.frozen? ⟨gT, 5, none⟩ = false := HX2.out.te.frozen 5
      clear hzP hza
      go_wp2_with fail
      go_roundg m
      case measure => rw [HG.out]; omega
      case rel => exact ⟨m, tStar t, y.up, 6, 0, 0, 0, 0, some ⟨w2.heap.size, 0, none⟩, 1, 1, rfl, hup.hi, fun hy => by omega, HF2, HX5, HT5⟩
    · by_cases h63 : nx s y = 63
      · have hys := nx_some (s := s) (x := y) (by omega)
        have hys1 := hys.1
        have hys2 := hys.2
        obtain ⟨m, rfl⟩ : ∃ m', m = m' + 1 := ⟨m - 1, by have := hq hys1; omega⟩
        have hyq := hq hys1
        have hup := up_go (s := s) (x := y) (by omega)
        have hup1 : y.up.p = y.p + 1 := rfl
        have HF2 := Lib.hid (HFq.out.trans (lpP_may h63))
        clear hq hys HFq
        go_wp2_with fail
        refine (take_no hs hyp (show ¬ nx s y = 42 by omega) _ HX.out.rd).mono ?_
        rintro e w2 ⟨rfl, hr2, hk2⟩
        replace HX := Lib.hid (HX.out.kept hr2 hk2)
        replace HT : Hid (y.e = 0 → ∃ n, RxT w2 (InT w gT w2) n t (six x0 x1 x2 x3 x4 xA xl xc)) := Lib.hid fun hy => by
          obtain ⟨n, hn⟩ := HT.out hy
          have hgl := HX.out.lt
          exact ⟨n, (hn.off hk2 fun b hb => ⟨hb.2.1, by have := hb.1; omega⟩).weak fun b hb => ⟨hb.1, Nat.lt_of_lt_of_le hb.2.1 hk2.size, hb.2.2⟩⟩
        clear hr2 hk2
        go_wp2_with fail
        refine (take_yes hs hyp (show nx s y = 63 by omega) _ HX.out.rd).mono ?_
        rintro e w2 ⟨rfl, hr2, hk2⟩
        have HX2 := Lib.hid (HX.out.kept hr2 hk2)
        have hT2 : ∃ n, RxT w2 (InT w gT w2) n t (six x0 x1 x2 x3 x4 xA xl xc) := by
          obtain ⟨n, hn⟩ := HT.out hys1
          have hgl := HX2.out.lt
          exact ⟨n, (hn.off hk2 fun b hb => ⟨hb.2.1, by have := hb.1; omega⟩).weak fun b hb => ⟨hb.1, Nat.lt_of_lt_of_le hb.2.1 hk2.size, hb.2.2⟩⟩
        obtain ⟨n, hn⟩ := hT2
        have HN := Lib.hid hn
        clear hr2 hk2 hn HX HT
        clear h42 h63
        have s0 : w2.cell? ⟨gT, 0, none⟩ = some (.int .i64 x0) := HX2.out.te.cell 0
        have s1 : w2.cell? ⟨gT, 1, none⟩ = some (.int .u64 x1) := HX2.out.te.cell 1
        have s2 : w2.cell? ⟨gT, 2, none⟩ = some (.int .u64 x2) := HX2.out.te.cell 2
        have s3 : w2.cell? ⟨gT, 3, none⟩ = some (.int .u64 x3) := HX2.out.te.cell 3
        have s4 : w2.cell? ⟨gT, 4, none⟩ = some (.int .u64 x4) := HX2.out.te.cell 4
        have s5 : w2.cell? ⟨gT, 5, none⟩ = some (.slice xA xl xc) := HX2.out.te.cell 5
        go_wp2_with fail
        refine (two_tree 5 x0 x1 x2 x3 x4 2 0 0 0 0 xA none xl xc 0 0 _).mono ?_
        rintro e w4 ⟨N, rfl, hc4, hN1, hN2, hb4⟩
        have hx4 := HX2.out.step hb4
        have HX5 := Lib.hid (hx4.put rfl 5 0 0 0 0 (some ⟨N, 0, none⟩) 2 2)
        have hgT2 : gT < w2.heap.size := Blk.lt HX2.out.te
        have hgl2 := HX2.out.gl
        have hz4 : w2.heap.size ≤ w4.heap.size := hb4.size
        have hz5 := size_put6 w4 gT 5 0 0 0 0 (some ⟨N, 0, none⟩) 2 2
        have HT5 : Hid (y.up.e = 0 → ∃ n, RxT ((((((w4.setCell ⟨gT, 0, none⟩ (.int .i64 5)).setCell ⟨gT, 1, none⟩ (.int .u64 0)).setCell ⟨gT, 2, none⟩ (.int .u64 0)).setCell ⟨gT, 3, none⟩ (.int .u64 0)).setCell ⟨gT, 4, none⟩ (.int .u64 0)).setCell ⟨gT, 5, none⟩ (.slice (some ⟨N, 0, none⟩) 2 2)) (InT w gT ((((((w4.setCell ⟨gT, 0, none⟩ (.int .i64 5)).setCell ⟨gT, 1, none⟩ (.int .u64 0)).setCell ⟨gT, 2, none⟩ (.int .u64 0)).setCell ⟨gT, 3, none⟩ (.int .u64 0)).setCell ⟨gT, 4, none⟩ (.int .u64 0)).setCell ⟨gT, 5, none⟩ (.slice (some ⟨N, 0, none⟩) 2 2))) n (tTwo 5 t (tOne 2)) (six 5 0 0 0 0 (some ⟨N, 0, none⟩) 2 2)) := Lib.hid fun _ => by
          have b1 : RxT w4 (InT w gT w4) n t (six x0 x1 x2 x3 x4 xA xl xc) := (HN.out.below hb4 fun b hb => hb.2.1).weak fun b hb => ⟨hb.1, by have := hb.2.1; omega, hb.2.2⟩
          have b2 : RxT w4 (InT w gT w4) 1 (tOne 2) (six 2 0 0 0 0 none 0 0) := RxT.leaf w4 _ 2 zq zq_ok (by decide) (by decide)
          have c := RxT.two (b1.up (Nat.le_max_left n 1)) (b2.up (Nat.le_max_right n 1)) rfl (show InT w gT w4 N from ⟨by omega, hN2, by omega⟩) hc4 5 (by decide) (by decide)
          exact ⟨_, (c.put6 (fun k => k.2.2 rfl) 5 0 0 0 0 (some ⟨N, 0, none⟩) 2 2).weak fun b hb => ⟨hb.1, by rw [hz5]; exact hb.2.1, hb.2.2⟩⟩
        have u0 : w4.cell? ⟨gT, 0, none⟩ = some (.int .i64 x0) := hx4.te.cell 0
        have fu0 : w4.frozen? ⟨gT, 0, none⟩ = false := hx4.te.frozen 0
        have u1 : w4.cell? ⟨gT, 1, none⟩ = some (.int .u64 x1) := hx4.te.cell 1
        have fu1 : w4.frozen? ⟨gT, 1, none⟩ = false := hx4.te.frozen 1
        have u2 : w4.cell? ⟨gT, 2, none⟩ = some (.int .u64 x2) := hx4.te.cell 2
        have fu2 : w4.frozen? ⟨gT, 2, none⟩ = false := hx4.te.frozen 2
        have u3 : w4.cell? ⟨gT, 3, none⟩ = some (.int .u64 x3) := hx4.te.cell 3
        have fu3 : w4.frozen? ⟨gT, 3, none⟩ = false := hx4.te.frozen 3
        have u4 : w4.cell? ⟨gT, 4, none⟩ = some (.int .u64 x4) := hx4.te.cell 4
        have fu4 : w4.frozen? ⟨gT, 4, none⟩ = false := hx4.te.frozen 4
        have u5 : w4.cell? ⟨gT, 5, none⟩ = some (.slice xA xl xc) := hx4.te.cell 5
        have fu5 : w4.frozen? ⟨gT, 5, none⟩ = false := hx4.te.frozen 5
        clear hx4 hz5 hc4 hb4 s0 s1 s2 s3 s4 s5
        go_wp2_with fail
        go_roundg m
        case measure => rw [HG.out]; omega
        case rel => exact ⟨m, tTwo 5 t (tOne 2), y.up, 5, 0, 0, 0, 0, some ⟨N, 0, none⟩, 2, 2, rfl, hup.hi, fun hy => by omega, HF2, HX5, HT5⟩
      · by_cases h43 : nx s y = 43
        · have hys := nx_some (s := s) (x := y) (by omega)
          have hys1 := hys.1
          have hys2 := hys.2
          obtain ⟨m, rfl⟩ : ∃ m', m = m' + 1 := ⟨m - 1, by have := hq hys1; omega⟩
          have hyq := hq hys1
          have hup := up_go (s := s) (x := y) (by omega)
          have hup1 : y.up.p = y.p + 1 := rfl
          have HF2 := Lib.hid (HFq.out.trans (lpP_plus h43))
          clear hq hys HFq
          go_wp2_with fail
          refine (take_no hs hyp (show ¬ nx s y = 42 by omega) _ HX.out.rd).mono ?_
          rintro e w2 ⟨rfl, hr2, hk2⟩
          replace HX := Lib.hid (HX.out.kept hr2 hk2)
          replace HT : Hid (y.e = 0 → ∃ n, RxT w2 (InT w gT w2) n t (six x0 x1 x2 x3 x4 xA xl xc)) := Lib.hid fun hy => by
            obtain ⟨n, hn⟩ := HT.out hy
            have hgl := HX.out.lt
            exact ⟨n, (hn.off hk2 fun b hb => ⟨hb.2.1, by have := hb.1; omega⟩).weak fun b hb => ⟨hb.1, Nat.lt_of_lt_of_le hb.2.1 hk2.size, hb.2.2⟩⟩
          clear hr2 hk2
          go_wp2_with fail
          refine (take_no hs hyp (show ¬ nx s y = 63 by omega) _ HX.out.rd).mono ?_
          rintro e w2 ⟨rfl, hr2, hk2⟩
          replace HX := Lib.hid (HX.out.kept hr2 hk2)
          replace HT : Hid (y.e = 0 → ∃ n, RxT w2 (InT w gT w2) n t (six x0 x1 x2 x3 x4 xA xl xc)) := Lib.hid fun hy => by
            obtain ⟨n, hn⟩ := HT.out hy
            have hgl := HX.out.lt
            exact ⟨n, (hn.off hk2 fun b hb => ⟨hb.2.1, by have := hb.1; omega⟩).weak fun b hb => ⟨hb.1, Nat.lt_of_lt_of_le hb.2.1 hk2.size, hb.2.2⟩⟩
          clear hr2 hk2
          go_wp2_with fail
          refine (take_yes hs hyp (show nx s y = 43 by omega) _ HX.out.rd).mono ?_
          rintro e w2 ⟨rfl, hr2, hk2⟩
          have HX2 := Lib.hid (HX.out.kept hr2 hk2)
          have hT2 : ∃ n, RxT w2 (InT w gT w2) n t (six x0 x1 x2 x3 x4 xA xl xc) := by
            obtain ⟨n, hn⟩ := HT.out hys1
            have hgl := HX2.out.lt
            exact ⟨n, (hn.off hk2 fun b hb => ⟨hb.2.1, by have := hb.1; omega⟩).weak fun b hb => ⟨hb.1, Nat.lt_of_lt_of_le hb.2.1 hk2.size, hb.2.2⟩⟩
          obtain ⟨n, hn⟩ := hT2
          have HN := Lib.hid hn
          clear hr2 hk2 hn HX HT
          clear h42 h63 h43
          have hgT2 : gT < w2.heap.size := Blk.lt HX2.out.te
          have hglt2 := HX2.out.lt
          have hgl0 := HX2.out.gl
          have hx3 := HX2.out.step ((Below.refl _ _).alloc (Nat.le_refl _) (.cells #[.int .i64 2, .int .u64 0, .int .u64 0, .int .u64 0, .int .u64 0, .slice none 0 0] 27))
          have hb3 : Blk (w2.alloc (.cells #[.int .i64 2, .int .u64 0, .int .u64 0, .int .u64 0, .int .u64 0, .slice none 0 0] 27)) w2.heap.size 27 #[.int .i64 2, .int .u64 0, .int .u64 0, .int .u64 0, .int .u64 0, .slice none 0 0] := Blk.new w2 _ _
          have ht3 : RxT (w2.alloc (.cells #[.int .i64 2, .int .u64 0, .int .u64 0, .int .u64 0, .int .u64 0, .slice none 0 0] 27)) (InT w gT w2) n t (six x0 x1 x2 x3 x4 xA xl xc) := HN.out.below ((Below.refl _ _).alloc (Nat.le_refl _) _) fun b hb => hb.2.1
          go_upto_region 9 with fail
          obtain ⟨w3, hw3⟩ : ∃ w3, (w2.alloc (.cells #[.int .i64 2, .int .u64 0, .int .u64 0, .int .u64 0, .int .u64 0, .slice none 0 0] 27)) = w3 := ⟨_, rfl⟩
          have hz3 : w3.heap.size = w2.heap.size + 1 := by rw [← hw3]; simp
          rw [hw3] at hx3 hb3 ht3 ⊢
          obtain ⟨g4, hg4⟩ : ∃ g4, w2.heap.size = g4 := ⟨_, rfl⟩
          rw [hg4] at hb3 hz3 hgT2 ⊢
          replace ht3 : RxT w3 (fun b => w.heap.size < b ∧ b < g4 ∧ b ≠ gT) n t (six x0 x1 x2 x3 x4 xA xl xc) := ht3.weak fun b hb => ⟨hb.1, by have := hb.2.1; omega, hb.2.2⟩
          have HX3 := Lib.hid hx3
          have HB3 := Lib.hid hb3
          have HT3 := Lib.hid ht3
          have CZ : Hid (Calls Try.prog 65 #[.agg #[.int .i64 x0, .int .u64 x1, .int .u64 x2, .int .u64 x3, .int .u64 x4, .slice xA xl xc], .int .i64 0] w3 fun e w' => e = .returned (.int .i64 (sz81 0 t : Int)) ∧ Below w3.heap.size w3 w') := Lib.hid (size_any n t (six x0 x1 x2 x3 x4 xA xl xc) 0 g4 w3 (ht3.rxC fun b hb => hb.2.1) (by omega) (by omega))
          have s0 : w3.cell? ⟨gT, 0, none⟩ = some (.int .i64 x0) := HX3.out.te.cell 0
          have s1 : w3.cell? ⟨gT, 1, none⟩ = some (.int .u64 x1) := HX3.out.te.cell 1
          have s2 : w3.cell? ⟨gT, 2, none⟩ = some (.int .u64 x2) := HX3.out.te.cell 2
          have s3 : w3.cell? ⟨gT, 3, none⟩ = some (.int .u64 x3) := HX3.out.te.cell 3
          have s4 : w3.cell? ⟨gT, 4, none⟩ = some (.int .u64 x4) := HX3.out.te.cell 4
          have s5 : w3.cell? ⟨gT, 5, none⟩ = some (.slice xA xl xc) := HX3.out.te.cell 5
          clear hx3 hb3 ht3 hw3 hg4 HX2 HN
          go_wp2_with fail
          refine CZ.out.mono ?_
          rintro e w5 ⟨rfl, hb5⟩
          have HX5' := Lib.hid (HX3.out.step hb5)
          have HB5 := Lib.hid (HB3.out.below hb5 HB3.out.lt)
          have HT6 : Hid (RxT w5 (fun b => w.heap.size < b ∧ b < g4 ∧ b ≠ gT) n t (six x0 x1 x2 x3 x4 xA xl xc)) := Lib.hid (HT3.out.below hb5 fun b hb => by have := hb.2.1; omega)
          have hz5' : w3.heap.size ≤ w5.heap.size := hb5.size
          clear hb5 CZ HX3 HB3 HT3 s0 s1 s2 s3 s4 s5
          by_cases hsz : szR t ≤ 80
          · have HAG : Hid (tAgain t = t) := Lib.hid (if_pos hsz)
            have hcap : sz81 0 t ≤ 80 := by unfold sz81; rw [cap81_iff]; omega
            have hci : ((sz81 0 t : Nat) : Int) ≤ 80 := by omega
            have CC : Hid (Calls Try.prog 66 #[.agg #[.int .i64 x0, .int .u64 x1, .int .u64 x2, .int .u64 x3, .int .u64 x4, .slice xA xl xc]] w5 fun e w' => ∃ (v0 v1 v2 v3 v4 : Int) (vA : Option Addr) (vl vc : Nat), e = .returned (.agg #[.int .i64 v0, .int .u64 v1, .int .u64 v2, .int .u64 v3, .int .u64 v4, .slice vA vl vc]) ∧ RxT w' (fun b => w5.heap.size ≤ b ∧ b < w'.heap.size) n t (six v0 v1 v2 v3 v4 vA vl vc) ∧ Below w5.heap.size w5 w') := Lib.hid (HCopy.out n t (six x0 x1 x2 x3 x4 xA xl xc) g4 w5 (HT6.out.weak fun b hb => hb.2.1) (by omega))
            have s0 : w5.cell? ⟨gT, 0, none⟩ = some (.int .i64 x0) := HX5'.out.te.cell 0
            have s1 : w5.cell? ⟨gT, 1, none⟩ = some (.int .u64 x1) := HX5'.out.te.cell 1
            have s2 : w5.cell? ⟨gT, 2, none⟩ = some (.int .u64 x2) := HX5'.out.te.cell 2
            have s3 : w5.cell? ⟨gT, 3, none⟩ = some (.int .u64 x3) := HX5'.out.te.cell 3
            have s4 : w5.cell? ⟨gT, 4, none⟩ = some (.int .u64 x4) := HX5'.out.te.cell 4
            have s5 : w5.cell? ⟨gT, 5, none⟩ = some (.slice xA xl xc) := HX5'.out.te.cell 5
            clear hsz hcap
            go_wp2_with fail
            refine CC.out.mono ?_
            rintro e w6 ⟨v0, v1, v2, v3, v4, vA, vl, vc, rfl, hv6, hb6⟩
            have HX6 := Lib.hid (HX5'.out.step hb6)
            have HB6 := Lib.hid (HB5.out.below hb6 HB5.out.lt)
            have HT7 : Hid (RxT w6 (fun b => w.heap.size < b ∧ b < g4 ∧ b ≠ gT) n t (six x0 x1 x2 x3 x4 xA xl xc)) := Lib.hid (HT6.out.below hb6 fun b hb => by have := hb.2.1; omega)
            have hz6 : w5.heap.size ≤ w6.heap.size := hb6.size
            have HV6 := Lib.hid hv6
            have HXp := Lib.hid (HX6.out.other (show w.heap.size < g4 by omega) (by omega) v0 v1 v2 v3 v4 vA vl vc)
            have HBp := Lib.hid (six_put (cs := [.int .i64 2, .int .u64 0, .int .u64 0, .int .u64 0, .int .u64 0, .slice none 0 0]) HB6.out rfl v0 v1 v2 v3 v4 vA vl vc)
            have hzp := size_put6 w6 g4 v0 v1 v2 v3 v4 vA vl vc
            have HTt0 : Hid (RxT ((((((w6.setCell ⟨g4, 0, none⟩ (.int .i64 v0)).setCell ⟨g4, 1, none⟩ (.int .u64 v1)).setCell ⟨g4, 2, none⟩ (.int .u64 v2)).setCell ⟨g4, 3, none⟩ (.int .u64 v3)).setCell ⟨g4, 4, none⟩ (.int .u64 v4)).setCell ⟨g4, 5, none⟩ (.slice vA vl vc)) (fun b => w.heap.size < b ∧ b < g4 ∧ b ≠ gT) n t (six x0 x1 x2 x3 x4 xA xl xc)) := Lib.hid (HT7.out.put6 (fun k => Nat.lt_irrefl _ k.2.1) v0 v1 v2 v3 v4 vA vl vc)
            have HVt0 : Hid (RxT ((((((w6.setCell ⟨g4, 0, none⟩ (.int .i64 v0)).setCell ⟨g4, 1, none⟩ (.int .u64 v1)).setCell ⟨g4, 2, none⟩ (.int .u64 v2)).setCell ⟨g4, 3, none⟩ (.int .u64 v3)).setCell ⟨g4, 4, none⟩ (.int .u64 v4)).setCell ⟨g4, 5, none⟩ (.slice vA vl vc)) (fun b => w5.heap.size ≤ b ∧ b < w6.heap.size) n t (six v0 v1 v2 v3 v4 vA vl vc)) := Lib.hid (HV6.out.put6 (fun k => by have := k.1; omega) v0 v1 v2 v3 v4 vA vl vc)
            clear s0 s1 s2 s3 s4 s5 hb6 CC hv6
            have t0 : w6.cell? ⟨g4, 0, none⟩ = some (.int .i64 2) := HB6.out.cell 0
            have ft0 : w6.frozen? ⟨g4, 0, none⟩ = false := HB6.out.frozen 0
            have t1 : w6.cell? ⟨g4, 1, none⟩ = some (.int .u64 0) := HB6.out.cell 1
            have ft1 : w6.frozen? ⟨g4, 1, none⟩ = false := HB6.out.frozen 1
            have t2 : w6.cell? ⟨g4, 2, none⟩ = some (.int .u64 0) := HB6.out.cell 2
            have ft2 : w6.frozen? ⟨g4, 2, none⟩ = false := HB6.out.frozen 2
            have t3 : w6.cell? ⟨g4, 3, none⟩ = some (.int .u64 0) := HB6.out.cell 3
            have ft3 : w6.frozen? ⟨g4, 3, none⟩ = false := HB6.out.frozen 3
            have t4 : w6.cell? ⟨g4, 4, none⟩ = some (.int .u64 0) := HB6.out.cell 4
            have ft4 : w6.frozen? ⟨g4, 4, none⟩ = false := HB6.out.frozen 4
            have t5 : w6.cell? ⟨g4, 5, none⟩ = some (.slice none 0 0) := HB6.out.cell 5
            have ft5 : w6.frozen? ⟨g4, 5, none⟩ = false := HB6.out.frozen 5
            go_upto_region 11 with fail
            obtain ⟨w7, hw7⟩ : ∃ w7, ((((((w6.setCell ⟨g4, 0, none⟩ (.int .i64 v0)).setCell ⟨g4, 1, none⟩ (.int .u64 v1)).setCell ⟨g4, 2, none⟩ (.int .u64 v2)).setCell ⟨g4, 3, none⟩ (.int .u64 v3)).setCell ⟨g4, 4, none⟩ (.int .u64 v4)).setCell ⟨g4, 5, none⟩ (.slice vA vl vc)) = w7 := ⟨_, rfl⟩
            have HX7 : Hid (Tx w g gT s y.up op (six x0 x1 x2 x3 x4 xA xl xc) w7) := Lib.hid (by rw [← hw7]; exact HXp.out)
            have HB4 : Hid (Blk w7 g4 27 #[.int .i64 v0, .int .u64 v1, .int .u64 v2, .int .u64 v3, .int .u64 v4, .slice vA vl vc]) := Lib.hid (by rw [← hw7]; exact HBp.out)
            have hz7 : w7.heap.size = w6.heap.size := by rw [← hw7]; exact hzp
            have HTt : Hid (RxT w7 (InT w gT w7) n t (six x0 x1 x2 x3 x4 xA xl xc)) := Lib.hid (by rw [← hw7]; exact HTt0.out.weak fun b hb => ⟨hb.1, by rw [hzp]; have := hb.2.1; omega, hb.2.2⟩)
            have HTa : Hid (∃ n, RxT w7 (InT w gT w7) n t (six v0 v1 v2 v3 v4 vA vl vc)) := Lib.hid (by
              refine ⟨n, ?_⟩
              rw [← hw7]
              exact HVt0.out.weak fun b hb => ⟨by have := hb.1; omega, by rw [hzp]; exact hb.2, by have := hb.1; omega⟩)
            rw [hw7]
            clear hw7 hz7 HXp HBp hzp HTt0 HVt0 HX6 HB6 HT7 HV6 HX5' HB5 HT6 t0 t1 t2 t3 t4 t5 ft0 ft1 ft2 ft3 ft4 ft5
            have s0 : w7.cell? ⟨gT, 0, none⟩ = some (.int .i64 x0) := HX7.out.te.cell 0
            have s1 : w7.cell? ⟨gT, 1, none⟩ = some (.int .u64 x1) := HX7.out.te.cell 1
            have s2 : w7.cell? ⟨gT, 2, none⟩ = some (.int .u64 x2) := HX7.out.te.cell 2
            have s3 : w7.cell? ⟨gT, 3, none⟩ = some (.int .u64 x3) := HX7.out.te.cell 3
            have s4 : w7.cell? ⟨gT, 4, none⟩ = some (.int .u64 x4) := HX7.out.te.cell 4
            have s5 : w7.cell? ⟨gT, 5, none⟩ = some (.slice xA xl xc) := HX7.out.te.cell 5
            have t0 : w7.cell? ⟨g4, 0, none⟩ = some (.int .i64 v0) := HB4.out.cell 0
            have t1 : w7.cell? ⟨g4, 1, none⟩ = some (.int .u64 v1) := HB4.out.cell 1
            have t2 : w7.cell? ⟨g4, 2, none⟩ = some (.int .u64 v2) := HB4.out.cell 2
            have t3 : w7.cell? ⟨g4, 3, none⟩ = some (.int .u64 v3) := HB4.out.cell 3
            have t4 : w7.cell? ⟨g4, 4, none⟩ = some (.int .u64 v4) := HB4.out.cell 4
            have t5 : w7.cell? ⟨g4, 5, none⟩ = some (.slice vA vl vc) := HB4.out.cell 5
            have HX8 := Lib.hid (HX7.out.step ((Below.refl _ _).alloc (Nat.le_refl _) (.cells #[.int .i64 v0, .int .u64 v1, .int .u64 v2, .int .u64 v3, .int .u64 v4, .slice vA vl vc] 27)))
            have hza : (w7.alloc (.cells #[.int .i64 v0, .int .u64 v1, .int .u64 v2, .int .u64 v3, .int .u64 v4, .slice vA vl vc] 27)).heap.size = w7.heap.size + 1 := by simp
            have hgT7 : gT < w7.heap.size := Blk.lt HX7.out.te
            have hgl2 := HX7.out.gl
            have HSt : Hid (∃ n, RxT (w7.alloc (.cells #[.int .i64 v0, .int .u64 v1, .int .u64 v2, .int .u64 v3, .int .u64 v4, .slice vA vl vc] 27)) (InT w gT (w7.alloc (.cells #[.int .i64 v0, .int .u64 v1, .int .u64 v2, .int .u64 v3, .int .u64 v4, .slice vA vl vc] 27))) n (tStar t) (six 6 0 0 0 0 (some ⟨w7.heap.size, 0, none⟩) 1 1)) := Lib.hid (by
              obtain ⟨na, ha⟩ := HTa.out
              have b1 : RxT (w7.alloc (.cells #[.int .i64 v0, .int .u64 v1, .int .u64 v2, .int .u64 v3, .int .u64 v4, .slice vA vl vc] 27)) (InT w gT (w7.alloc (.cells #[.int .i64 v0, .int .u64 v1, .int .u64 v2, .int .u64 v3, .int .u64 v4, .slice vA vl vc] 27))) na t (six v0 v1 v2 v3 v4 vA vl vc) := (ha.below ((Below.refl _ _).alloc (Nat.le_refl _) _) fun b hb => hb.2.1).weak fun b hb => ⟨hb.1, by have := hb.2.1; omega, hb.2.2⟩
              exact ⟨_, RxT.star b1 (show InT w gT (w7.alloc (.cells #[.int .i64 v0, .int .u64 v1, .int .u64 v2, .int .u64 v3, .int .u64 v4, .slice vA vl vc] 27)) w7.heap.size from ⟨by omega, by omega, by omega⟩) (fun j u h => new_cells w7 [.int .i64 v0, .int .u64 v1, .int .u64 v2, .int .u64 v3, .int .u64 v4, .slice vA vl vc] 27 j u h)⟩)
            have HTt8 : Hid (RxT (w7.alloc (.cells #[.int .i64 v0, .int .u64 v1, .int .u64 v2, .int .u64 v3, .int .u64 v4, .slice vA vl vc] 27)) (InT w gT (w7.alloc (.cells #[.int .i64 v0, .int .u64 v1, .int .u64 v2, .int .u64 v3, .int .u64 v4, .slice vA vl vc] 27))) n t (six x0 x1 x2 x3 x4 xA xl xc)) := Lib.hid ((HTt.out.below ((Below.refl _ _).alloc (Nat.le_refl _) _) fun b hb => hb.2.1).weak fun b hb => ⟨hb.1, by have := hb.2.1; omega, hb.2.2⟩)
            go_wp2_with fail
            refine (two_tree 4 x0 x1 x2 x3 x4 6 0 0 0 0 xA (some ⟨w7.heap.size, 0, none⟩) xl xc 1 1 _).mono ?_
            rintro e w9 ⟨N, rfl, hc9, hN1, hN2, hb9⟩
            have hx9 := HX8.out.step hb9
            have HX5 := Lib.hid (hx9.put rfl 4 0 0 0 0 (some ⟨N, 0, none⟩) 2 2)
            have hz9 : (w7.alloc (.cells #[.int .i64 v0, .int .u64 v1, .int .u64 v2, .int .u64 v3, .int .u64 v4, .slice vA vl vc] 27)).heap.size ≤ w9.heap.size := hb9.size
            have hz5 := size_put6 w9 gT 4 0 0 0 0 (some ⟨N, 0, none⟩) 2 2
            have HT5 : Hid (y.up.e = 0 → ∃ n, RxT ((((((w9.setCell ⟨gT, 0, none⟩ (.int .i64 4)).setCell ⟨gT, 1, none⟩ (.int .u64 0)).setCell ⟨gT, 2, none⟩ (.int .u64 0)).setCell ⟨gT, 3, none⟩ (.int .u64 0)).setCell ⟨gT, 4, none⟩ (.int .u64 0)).setCell ⟨gT, 5, none⟩ (.slice (some ⟨N, 0, none⟩) 2 2)) (InT w gT ((((((w9.setCell ⟨gT, 0, none⟩ (.int .i64 4)).setCell ⟨gT, 1, none⟩ (.int .u64 0)).setCell ⟨gT, 2, none⟩ (.int .u64 0)).setCell ⟨gT, 3, none⟩ (.int .u64 0)).setCell ⟨gT, 4, none⟩ (.int .u64 0)).setCell ⟨gT, 5, none⟩ (.slice (some ⟨N, 0, none⟩) 2 2))) n (tTwo 4 t (tStar (tAgain t))) (six 4 0 0 0 0 (some ⟨N, 0, none⟩) 2 2)) := Lib.hid fun _ => by
              obtain ⟨ns, hst⟩ := HSt.out
              have b1 : RxT w9 (InT w gT w9) n t (six x0 x1 x2 x3 x4 xA xl xc) := (HTt8.out.below hb9 fun b hb => hb.2.1).weak fun b hb => ⟨hb.1, Nat.lt_of_lt_of_le hb.2.1 hz9, hb.2.2⟩
              have b2 : RxT w9 (InT w gT w9) ns (tStar t) (six 6 0 0 0 0 (some ⟨w7.heap.size, 0, none⟩) 1 1) := (hst.below hb9 fun b hb => hb.2.1).weak fun b hb => ⟨hb.1, Nat.lt_of_lt_of_le hb.2.1 hz9, hb.2.2⟩
              rw [HAG.out]
              have c := RxT.two (b1.up (Nat.le_max_left n ns)) (b2.up (Nat.le_max_right n ns)) rfl (show InT w gT w9 N from ⟨by omega, hN2, by omega⟩) hc9 4 (by decide) (by decide)
              exact ⟨_, (c.put6 (fun k => k.2.2 rfl) 4 0 0 0 0 (some ⟨N, 0, none⟩) 2 2).weak fun b hb => ⟨hb.1, by rw [hz5]; exact hb.2.1, hb.2.2⟩⟩
            have u0 : w9.cell? ⟨gT, 0, none⟩ = some (.int .i64 x0) := hx9.te.cell 0
            have fu0 : w9.frozen? ⟨gT, 0, none⟩ = false := hx9.te.frozen 0
            have u1 : w9.cell? ⟨gT, 1, none⟩ = some (.int .u64 x1) := hx9.te.cell 1
            have fu1 : w9.frozen? ⟨gT, 1, none⟩ = false := hx9.te.frozen 1
            have u2 : w9.cell? ⟨gT, 2, none⟩ = some (.int .u64 x2) := hx9.te.cell 2
            have fu2 : w9.frozen? ⟨gT, 2, none⟩ = false := hx9.te.frozen 2
            have u3 : w9.cell? ⟨gT, 3, none⟩ = some (.int .u64 x3) := hx9.te.cell 3
            have fu3 : w9.frozen? ⟨gT, 3, none⟩ = false := hx9.te.frozen 3
            have u4 : w9.cell? ⟨gT, 4, none⟩ = some (.int .u64 x4) := hx9.te.cell 4
            have fu4 : w9.frozen? ⟨gT, 4, none⟩ = false := hx9.te.frozen 4
            have u5 : w9.cell? ⟨gT, 5, none⟩ = some (.slice xA xl xc) := hx9.te.cell 5
            have fu5 : w9.frozen? ⟨gT, 5, none⟩ = false := hx9.te.frozen 5
            clear hx9 hz5 hc9 hb9 s0 s1 s2 s3 s4 s5 t0 t1 t2 t3 t4 t5 hza
            go_wp2_with fail
            go_roundg m
            case measure => rw [HG.out]; omega
            case rel => exact ⟨m, tTwo 4 t (tStar (tAgain t)), y.up, 4, 0, 0, 0, 0, some ⟨N, 0, none⟩, 2, 2, rfl, hup.hi, fun hy => by omega, HF2, HX5, HT5⟩
          · have HAG : Hid (tAgain t = tOne 2) := Lib.hid (if_neg hsz)
            have hcap : ¬ sz81 0 t ≤ 80 := by unfold sz81; rw [cap81_iff]; omega
            have hci : ¬ ((sz81 0 t : Nat) : Int) ≤ 80 := by omega
            have HX7 := HX5'
            have HB4 := HB5
            have HTt : Hid (RxT w5 (InT w gT w5) n t (six x0 x1 x2 x3 x4 xA xl xc)) := Lib.hid (HT6.out.weak fun b hb => ⟨hb.1, by have := hb.2.1; omega, hb.2.2⟩)
            have HTa : Hid (∃ n, RxT w5 (InT w gT w5) n (tOne 2) (six 2 0 0 0 0 none 0 0)) := Lib.hid ⟨1, RxT.leaf w5 _ 2 zq zq_ok (by decide) (by decide)⟩
            clear hsz hcap HX5' HB5 HT6
            go_upto_region 11 with fail
            have s0 : w5.cell? ⟨gT, 0, none⟩ = some (.int .i64 x0) := HX7.out.te.cell 0
            have s1 : w5.cell? ⟨gT, 1, none⟩ = some (.int .u64 x1) := HX7.out.te.cell 1
            have s2 : w5.cell? ⟨gT, 2, none⟩ = some (.int .u64 x2) := HX7.out.te.cell 2
            have s3 : w5.cell? ⟨gT, 3, none⟩ = some (.int .u64 x3) := HX7.out.te.cell 3
            have s4 : w5.cell? ⟨gT, 4, none⟩ = some (.int .u64 x4) := HX7.out.te.cell 4
            have s5 : w5.cell? ⟨gT, 5, none⟩ = some (.slice xA xl xc) := HX7.out.te.cell 5
            have t0 : w5.cell? ⟨g4, 0, none⟩ = some (.int .i64 2) := HB4.out.cell 0
            have t1 : w5.cell? ⟨g4, 1, none⟩ = some (.int .u64 0) := HB4.out.cell 1
            have t2 : w5.cell? ⟨g4, 2, none⟩ = some (.int .u64 0) := HB4.out.cell 2
            have t3 : w5.cell? ⟨g4, 3, none⟩ = some (.int .u64 0) := HB4.out.cell 3
            have t4 : w5.cell? ⟨g4, 4, none⟩ = some (.int .u64 0) := HB4.out.cell 4
            have t5 : w5.cell? ⟨g4, 5, none⟩ = some (.slice none 0 0) := HB4.out.cell 5
            have HX8 := Lib.hid (HX7.out.step ((Below.refl _ _).alloc (Nat.le_refl _) (.cells #[.int .i64 2, .int .u64 0, .int .u64 0, .int .u64 0, .int .u64 0, .slice none 0 0] 27)))
            have hza : (w5.alloc (.cells #[.int .i64 2, .int .u64 0, .int .u64 0, .int .u64 0, .int .u64 0, .slice none 0 0] 27)).heap.size = w5.heap.size + 1 := by simp
            have hgT7 : gT < w5.heap.size := Blk.lt HX7.out.te
            have hgl2 := HX7.out.gl
            have HSt : Hid (∃ n, RxT (w5.alloc (.cells #[.int .i64 2, .int .u64 0, .int .u64 0, .int .u64 0, .int .u64 0, .slice none 0 0] 27)) (InT w gT (w5.alloc (.cells #[.int .i64 2, .int .u64 0, .int .u64 0, .int .u64 0, .int .u64 0, .slice none 0 0] 27))) n (tStar (tOne 2)) (six 6 0 0 0 0 (some ⟨w5.heap.size, 0, none⟩) 1 1)) := Lib.hid (by
              obtain ⟨na, ha⟩ := HTa.out
              have b1 : RxT (w5.alloc (.cells #[.int .i64 2, .int .u64 0, .int .u64 0, .int .u64 0, .int .u64 0, .slice none 0 0] 27)) (InT w gT (w5.alloc (.cells #[.int .i64 2, .int .u64 0, .int .u64 0, .int .u64 0, .int .u64 0, .slice none 0 0] 27))) na (tOne 2) (six 2 0 0 0 0 none 0 0) := (ha.below ((Below.refl _ _).alloc (Nat.le_refl _) _) fun b hb => hb.2.1).weak fun b hb => ⟨hb.1, by have := hb.2.1; omega, hb.2.2⟩
              exact ⟨_, RxT.star b1 (show InT w gT (w5.alloc (.cells #[.int .i64 2, .int .u64 0, .int .u64 0, .int .u64 0, .int .u64 0, .slice none 0 0] 27)) w5.heap.size from ⟨by omega, by omega, by omega⟩) (fun j u h => new_cells w5 [.int .i64 2, .int .u64 0, .int .u64 0, .int .u64 0, .int .u64 0, .slice none 0 0] 27 j u h)⟩)
            have HTt8 : Hid (RxT (w5.alloc (.cells #[.int .i64 2, .int .u64 0, .int .u64 0, .int .u64 0, .int .u64 0, .slice none 0 0] 27)) (InT w gT (w5.alloc (.cells #[.int .i64 2, .int .u64 0, .int .u64 0, .int .u64 0, .int .u64 0, .slice none 0 0] 27))) n t (six x0 x1 x2 x3 x4 xA xl xc)) := Lib.hid ((HTt.out.below ((Below.refl _ _).alloc (Nat.le_refl _) _) fun b hb => hb.2.1).weak fun b hb => ⟨hb.1, by have := hb.2.1; omega, hb.2.2⟩)
            go_wp2_with fail
            refine (two_tree 4 x0 x1 x2 x3 x4 6 0 0 0 0 xA (some ⟨w5.heap.size, 0, none⟩) xl xc 1 1 _).mono ?_
            rintro e w9 ⟨N, rfl, hc9, hN1, hN2, hb9⟩
            have hx9 := HX8.out.step hb9
            have HX5 := Lib.hid (hx9.put rfl 4 0 0 0 0 (some ⟨N, 0, none⟩) 2 2)
            have hz9 : (w5.alloc (.cells #[.int .i64 2, .int .u64 0, .int .u64 0, .int .u64 0, .int .u64 0, .slice none 0 0] 27)).heap.size ≤ w9.heap.size := hb9.size
            have hz5 := size_put6 w9 gT 4 0 0 0 0 (some ⟨N, 0, none⟩) 2 2
            have HT5 : Hid (y.up.e = 0 → ∃ n, RxT ((((((w9.setCell ⟨gT, 0, none⟩ (.int .i64 4)).setCell ⟨gT, 1, none⟩ (.int .u64 0)).setCell ⟨gT, 2, none⟩ (.int .u64 0)).setCell ⟨gT, 3, none⟩ (.int .u64 0)).setCell ⟨gT, 4, none⟩ (.int .u64 0)).setCell ⟨gT, 5, none⟩ (.slice (some ⟨N, 0, none⟩) 2 2)) (InT w gT ((((((w9.setCell ⟨gT, 0, none⟩ (.int .i64 4)).setCell ⟨gT, 1, none⟩ (.int .u64 0)).setCell ⟨gT, 2, none⟩ (.int .u64 0)).setCell ⟨gT, 3, none⟩ (.int .u64 0)).setCell ⟨gT, 4, none⟩ (.int .u64 0)).setCell ⟨gT, 5, none⟩ (.slice (some ⟨N, 0, none⟩) 2 2))) n (tTwo 4 t (tStar (tAgain t))) (six 4 0 0 0 0 (some ⟨N, 0, none⟩) 2 2)) := Lib.hid fun _ => by
              obtain ⟨ns, hst⟩ := HSt.out
              have b1 : RxT w9 (InT w gT w9) n t (six x0 x1 x2 x3 x4 xA xl xc) := (HTt8.out.below hb9 fun b hb => hb.2.1).weak fun b hb => ⟨hb.1, Nat.lt_of_lt_of_le hb.2.1 hz9, hb.2.2⟩
              have b2 : RxT w9 (InT w gT w9) ns (tStar (tOne 2)) (six 6 0 0 0 0 (some ⟨w5.heap.size, 0, none⟩) 1 1) := (hst.below hb9 fun b hb => hb.2.1).weak fun b hb => ⟨hb.1, Nat.lt_of_lt_of_le hb.2.1 hz9, hb.2.2⟩
              rw [HAG.out]
              have c := RxT.two (b1.up (Nat.le_max_left n ns)) (b2.up (Nat.le_max_right n ns)) rfl (show InT w gT w9 N from ⟨by omega, hN2, by omega⟩) hc9 4 (by decide) (by decide)
              exact ⟨_, (c.put6 (fun k => k.2.2 rfl) 4 0 0 0 0 (some ⟨N, 0, none⟩) 2 2).weak fun b hb => ⟨hb.1, by rw [hz5]; exact hb.2.1, hb.2.2⟩⟩
            have u0 : w9.cell? ⟨gT, 0, none⟩ = some (.int .i64 x0) := hx9.te.cell 0
            have fu0 : w9.frozen? ⟨gT, 0, none⟩ = false := hx9.te.frozen 0
            have u1 : w9.cell? ⟨gT, 1, none⟩ = some (.int .u64 x1) := hx9.te.cell 1
            have fu1 : w9.frozen? ⟨gT, 1, none⟩ = false := hx9.te.frozen 1
            have u2 : w9.cell? ⟨gT, 2, none⟩ = some (.int .u64 x2) := hx9.te.cell 2
            have fu2 : w9.frozen? ⟨gT, 2, none⟩ = false := hx9.te.frozen 2
            have u3 : w9.cell? ⟨gT, 3, none⟩ = some (.int .u64 x3) := hx9.te.cell 3
            have fu3 : w9.frozen? ⟨gT, 3, none⟩ = false := hx9.te.frozen 3
            have u4 : w9.cell? ⟨gT, 4, none⟩ = some (.int .u64 x4) := hx9.te.cell 4
            have fu4 : w9.frozen? ⟨gT, 4, none⟩ = false := hx9.te.frozen 4
            have u5 : w9.cell? ⟨gT, 5, none⟩ = some (.slice xA xl xc) := hx9.te.cell 5
            have fu5 : w9.frozen? ⟨gT, 5, none⟩ = false := hx9.te.frozen 5
            clear hx9 hz5 hc9 hb9 s0 s1 s2 s3 s4 s5 t0 t1 t2 t3 t4 t5 hza
            go_wp2_with fail
            go_roundg m
            case measure => rw [HG.out]; omega
            case rel => exact ⟨m, tTwo 4 t (tStar (tAgain t)), y.up, 4, 0, 0, 0, 0, some ⟨N, 0, none⟩, 2, 2, rfl, hup.hi, fun hy => by omega, HF2, HX5, HT5⟩
        · have HFe : Hid (F = (t, y)) := Lib.hid (HFq.out.trans (lpP_stop m h42 h63 h43))
          go_wp2_with fail
          refine (take_no hs hyp (show ¬ nx s y = 42 by omega) _ HX.out.rd).mono ?_
          rintro e w2 ⟨rfl, hr2, hk2⟩
          replace HX := Lib.hid (HX.out.kept hr2 hk2)
          replace HT : Hid (y.e = 0 → ∃ n, RxT w2 (InT w gT w2) n t (six x0 x1 x2 x3 x4 xA xl xc)) := Lib.hid fun hy => by
            obtain ⟨n, hn⟩ := HT.out hy
            have hgl := HX.out.lt
            exact ⟨n, (hn.off hk2 fun b hb => ⟨hb.2.1, by have := hb.1; omega⟩).weak fun b hb => ⟨hb.1, Nat.lt_of_lt_of_le hb.2.1 hk2.size, hb.2.2⟩⟩
          clear hr2 hk2
          go_wp2_with fail
          refine (take_no hs hyp (show ¬ nx s y = 63 by omega) _ HX.out.rd).mono ?_
          rintro e w2 ⟨rfl, hr2, hk2⟩
          replace HX := Lib.hid (HX.out.kept hr2 hk2)
          replace HT : Hid (y.e = 0 → ∃ n, RxT w2 (InT w gT w2) n t (six x0 x1 x2 x3 x4 xA xl xc)) := Lib.hid fun hy => by
            obtain ⟨n, hn⟩ := HT.out hy
            have hgl := HX.out.lt
            exact ⟨n, (hn.off hk2 fun b hb => ⟨hb.2.1, by have := hb.1; omega⟩).weak fun b hb => ⟨hb.1, Nat.lt_of_lt_of_le hb.2.1 hk2.size, hb.2.2⟩⟩
          clear hr2 hk2
          go_wp2_with fail
          refine (take_no hs hyp (show ¬ nx s y = 43 by omega) _ HX.out.rd).mono ?_
          rintro e w2 ⟨rfl, hr2, hk2⟩
          replace HX := Lib.hid (HX.out.kept hr2 hk2)
          replace HT : Hid (y.e = 0 → ∃ n, RxT w2 (InT w gT w2) n t (six x0 x1 x2 x3 x4 xA xl xc)) := Lib.hid fun hy => by
            obtain ⟨n, hn⟩ := HT.out hy
            have hgl := HX.out.lt
            exact ⟨n, (hn.off hk2 fun b hb => ⟨hb.2.1, by have := hb.1; omega⟩).weak fun b hb => ⟨hb.1, Nat.lt_of_lt_of_le hb.2.1 hk2.size, hb.2.2⟩⟩
          clear hr2 hk2
          clear h42 h63 h43 hq
          obtain ⟨w9, rfl⟩ : ∃ w9 : World, w9 = w2 := ⟨_, rfl⟩
          have HX9 := HX
          have HT9 := HT
          have s0 : w9.cell? ⟨gT, 0, none⟩ = some (.int .i64 x0) := HX9.out.te.cell 0
          have s1 : w9.cell? ⟨gT, 1, none⟩ = some (.int .u64 x1) := HX9.out.te.cell 1
          have s2 : w9.cell? ⟨gT, 2, none⟩ = some (.int .u64 x2) := HX9.out.te.cell 2
          have s3 : w9.cell? ⟨gT, 3, none⟩ = some (.int .u64 x3) := HX9.out.te.cell 3
          have s4 : w9.cell? ⟨gT, 4, none⟩ = some (.int .u64 x4) := HX9.out.te.cell 4
          have s5 : w9.cell? ⟨gT, 5, none⟩ = some (.slice xA xl xc) := HX9.out.te.cell 5
          have r0 : w9.cell? ⟨w.heap.size, 0, none⟩ = some (.int .i64 0) := HX9.out.re.cell 0
          have fr0 : w9.frozen? ⟨w.heap.size, 0, none⟩ = false := HX9.out.re.frozen 0
          have r1 : w9.cell? ⟨w.heap.size, 1, none⟩ = some (.int .u64 0) := HX9.out.re.cell 1
          have fr1 : w9.frozen? ⟨w.heap.size, 1, none⟩ = false := HX9.out.re.frozen 1
          have r2 : w9.cell? ⟨w.heap.size, 2, none⟩ = some (.int .u64 0) := HX9.out.re.cell 2
          have fr2 : w9.frozen? ⟨w.heap.size, 2, none⟩ = false := HX9.out.re.frozen 2
          have r3 : w9.cell? ⟨w.heap.size, 3, none⟩ = some (.int .u64 0) := HX9.out.re.cell 3
          have fr3 : w9.frozen? ⟨w.heap.size, 3, none⟩ = false := HX9.out.re.frozen 3
          have r4 : w9.cell? ⟨w.heap.size, 4, none⟩ = some (.int .u64 0) := HX9.out.re.cell 4
          have fr4 : w9.frozen? ⟨w.heap.size, 4, none⟩ = false := HX9.out.re.frozen 4
          have r5 : w9.cell? ⟨w.heap.size, 5, none⟩ = some (.slice none 0 0) := HX9.out.re.cell 5
          have fr5 : w9.frozen? ⟨w.heap.size, 5, none⟩ = false := HX9.out.re.frozen 5
          have HZ := Lib.hid (six_put (cs := [.int .i64 0, .int .u64 0, .int .u64 0, .int .u64 0, .int .u64 0, .slice none 0 0]) HX9.out.re rfl x0 x1 x2 x3 x4 xA xl xc)
          have hne := HX9.out.lt
          have HZK := Lib.hid (HX9.out.ko.put6 (Nat.le_refl _) x0 x1 x2 x3 x4 xA xl xc)
          have HZR := Lib.hid (Blk.far6 HX9.out.rd (by omega : w.heap.size ≠ g) x0 x1 x2 x3 x4 xA xl xc)
          have HZS := Lib.hid (size_put6 w9 w.heap.size x0 x1 x2 x3 x4 xA xl xc)
          have HZT : Hid (y.e = 0 → ∃ n, RxT ((((((w9.setCell ⟨w.heap.size, 0, none⟩ (.int .i64 x0)).setCell ⟨w.heap.size, 1, none⟩ (.int .u64 x1)).setCell ⟨w.heap.size, 2, none⟩ (.int .u64 x2)).setCell ⟨w.heap.size, 3, none⟩ (.int .u64 x3)).setCell ⟨w.heap.size, 4, none⟩ (.int .u64 x4)).setCell ⟨w.heap.size, 5, none⟩ (.slice xA xl xc)) (fun b => w.heap.size ≤ b ∧ b < w9.heap.size) n t (six x0 x1 x2 x3 x4 xA xl xc)) := Lib.hid fun hy => by
            obtain ⟨n, hn⟩ := HT9.out hy
            exact ⟨n, (hn.put6 (fun k => absurd k.1 (Nat.lt_irrefl _)) x0 x1 x2 x3 x4 xA xl xc).weak fun b hb => ⟨Nat.le_of_lt hb.1, hb.2.1⟩⟩
          clear HX9
          go_wp2_with fail
          obtain ⟨wz, hwz⟩ : ∃ wz, wz = ((((((w9.setCell ⟨w.heap.size, 0, none⟩ (.int .i64 x0)).setCell ⟨w.heap.size, 1, none⟩ (.int .u64 x1)).setCell ⟨w.heap.size, 2, none⟩ (.int .u64 x2)).setCell ⟨w.heap.size, 3, none⟩ (.int .u64 x3)).setCell ⟨w.heap.size, 4, none⟩ (.int .u64 x4)).setCell ⟨w.heap.size, 5, none⟩ (.slice xA xl xc)) := ⟨_, rfl⟩
          have hz := HZ.out
          have hzk := HZK.out
          have hzr := HZR.out
          have hzs := HZS.out
          have hzt := HZT.out
          rw [← hwz] at hz hzk hzr hzs hzt ⊢
          have z0 : wz.cell? ⟨w.heap.size, 0, none⟩ = some (.int .i64 x0) := hz.cell 0
          have z1 : wz.cell? ⟨w.heap.size, 1, none⟩ = some (.int .u64 x1) := hz.cell 1
          have z2 : wz.cell? ⟨w.heap.size, 2, none⟩ = some (.int .u64 x2) := hz.cell 2
          have z3 : wz.cell? ⟨w.heap.size, 3, none⟩ = some (.int .u64 x3) := hz.cell 3
          have z4 : wz.cell? ⟨w.heap.size, 4, none⟩ = some (.int .u64 x4) := hz.cell 4
          have z5 : wz.cell? ⟨w.heap.size, 5, none⟩ = some (.slice xA xl xc) := hz.cell 5
          refine bodyPost_ret (v := .agg #[.int .i64 x0, .int .u64 x1, .int .u64 x2, .int .u64 x3, .int .u64 x4, .slice xA xl xc]) (by simp [results, Try.results46, go_sem, z0, z1, z2, z3, z4, z5]) rfl ⟨x0, x1, x2, x3, x4, xA, xl, xc, rfl, by rw [HFe.out]; exact hzr, hzk, fun hy => by
            rw [HFe.out] at hy ⊢
            obtain ⟨n, hn⟩ := hzt hy
            exact ⟨n, hn.weak fun b hb => ⟨hb.1, by omega⟩⟩⟩
end Go.Proofs.Ytkdcgkdbieeijaa
