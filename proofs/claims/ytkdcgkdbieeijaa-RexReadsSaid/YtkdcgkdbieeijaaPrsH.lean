/- What a walk that reads a tree answers. Walk: (*rex.reader).alt. (printed by gen_prsh.py) -/
import Derived.Test.YtkdcgkdbieeijaaPrsG
import Derived.Deep.LoopGhost
import Derived.Deep.RegionLaw
namespace Go.Proofs.Ytkdcgkdbieeijaa
open Go.RowKit
set_option linter.unusedVariables false
set_option linter.unusedSimpArgs false

/-- what it answers: six cells; if nothing went wrong they read as the tree, whose parts lie in blocks made meanwhile -/
def PsRes (s : ByteArray) (op : Int) (g : Nat) (t : Rx × Sx) (w : World) (e : Ending) (w' : World) : Prop := ∃ (x0 x1 x2 x3 x4 : Int) (xA : Option Addr) (xl xc : Nat), e = .returned (.agg #[.int .i64 x0, .int .u64 x1, .int .u64 x2, .int .u64 x3, .int .u64 x4, .slice xA xl xc]) ∧ Rd w' g s t.2 op ∧ KeptOff w w' g ∧ (t.2.e = 0 → ∃ n, RxT w' (fun b => w.heap.size ≤ b ∧ b < w'.heap.size) n t.1 (six x0 x1 x2 x3 x4 xA xl xc))
def PsOk (F : FuncId) (op : Int) (s : ByteArray) (f : Sx → Rx × Sx) : Prop := ∀ (g : Nat) (w : World) (x : Sx), x.e = 0 → x.p ≤ s.size → Rd w g s x op → Calls Try.prog F #[.pointer (some ⟨g, 0, none⟩)] w (PsRes s op g (f x) w)
/-- a reading stays within the text -/
def Go0 (s : ByteArray) (f : Sx → Rx × Sx) : Prop := ∀ x : Sx, x.e = 0 → x.p ≤ s.size → (f x).2.p ≤ s.size ∧ x.p ≤ (f x).2.p
/-- the boxes of a reading walk: the reader's, the result's, the tree's -/
structure Tx (w : World) (g gT : Nat) (s : ByteArray) (y : Sx) (op : Int) (cs : List Value) (wr : World) : Prop where
  rd : Rd wr g s y op
  re : Blk wr w.heap.size 27 #[.int .i64 0, .int .u64 0, .int .u64 0, .int .u64 0, .int .u64 0, .slice none 0 0]
  te : Blk wr gT 27 cs.toArray
  ko : KeptOff w wr g
  lt : g < w.heap.size
  gl : w.heap.size < gT
section
variable {w wr wr' : World} {g gT : Nat} {s : ByteArray} {y y' : Sx} {op : Int} {cs : List Value}
theorem Tx.step (h : Tx w g gT s y op cs wr) (hb : Below wr.heap.size wr wr') : Tx w g gT s y op cs wr' := ⟨h.rd.below hb, Blk.below h.re hb (Blk.lt h.re), Blk.below h.te hb (Blk.lt h.te), h.ko.tr (KeptOff.of_below hb), h.lt, h.gl⟩
theorem Tx.kept (h : Tx w g gT s y op cs wr) (hr : Rd wr' g s y' op) (hk : KeptOff wr wr' g) : Tx w g gT s y' op cs wr' := ⟨hr, hk.blk h.re (by have := h.lt; omega), hk.blk h.te (by have := h.lt; have := h.gl; omega), h.ko.tr hk, h.lt, h.gl⟩
/-- the tree's blocks while the walk goes on -/
def InT (w : World) (gT : Nat) (wr : World) (b : Nat) : Prop := w.heap.size < b ∧ b < wr.heap.size ∧ b ≠ gT
theorem six_put {w : World} {g : Nat} {cs : List Value} (h : Blk w g 27 cs.toArray) (hl : cs.length = 6) (x0 x1 x2 x3 x4 : Int) (xA : Option Addr) (xl xc : Nat) : Blk ((((((w.setCell ⟨g, 0, none⟩ (.int .i64 x0)).setCell ⟨g, 1, none⟩ (.int .u64 x1)).setCell ⟨g, 2, none⟩ (.int .u64 x2)).setCell ⟨g, 3, none⟩ (.int .u64 x3)).setCell ⟨g, 4, none⟩ (.int .u64 x4)).setCell ⟨g, 5, none⟩ (.slice xA xl xc)) g 27 #[.int .i64 x0, .int .u64 x1, .int .u64 x2, .int .u64 x3, .int .u64 x4, .slice xA xl xc] := by
  obtain ⟨a0, a1, a2, a3, a4, a5, rfl⟩ := len6 hl
  exact (((((h.set_ 0 _).set_ 1 _).set_ 2 _).set_ 3 _).set_ 4 _).set_ 5 _
theorem Blk.far6 {w : World} {g g' : Nat} {t : TypeId} {cs : Array Value} (h : Blk w g' t cs) (hne : g ≠ g') (x0 x1 x2 x3 x4 : Int) (xA : Option Addr) (xl xc : Nat) : Blk ((((((w.setCell ⟨g, 0, none⟩ (.int .i64 x0)).setCell ⟨g, 1, none⟩ (.int .u64 x1)).setCell ⟨g, 2, none⟩ (.int .u64 x2)).setCell ⟨g, 3, none⟩ (.int .u64 x3)).setCell ⟨g, 4, none⟩ (.int .u64 x4)).setCell ⟨g, 5, none⟩ (.slice xA xl xc)) g' t cs := (((((h.far (by dsimp only; omega) _).far (by dsimp only; omega) _).far (by dsimp only; omega) _).far (by dsimp only; omega) _).far (by dsimp only; omega) _).far (by dsimp only; omega) _
theorem KeptOff.put6 {w wr : World} {g g' : Nat} (h : KeptOff w wr g) (hg : w.heap.size ≤ g') (x0 x1 x2 x3 x4 : Int) (xA : Option Addr) (xl xc : Nat) : KeptOff w ((((((wr.setCell ⟨g', 0, none⟩ (.int .i64 x0)).setCell ⟨g', 1, none⟩ (.int .u64 x1)).setCell ⟨g', 2, none⟩ (.int .u64 x2)).setCell ⟨g', 3, none⟩ (.int .u64 x3)).setCell ⟨g', 4, none⟩ (.int .u64 x4)).setCell ⟨g', 5, none⟩ (.slice xA xl xc)) g := (((((h.new_ (p := ⟨g', 0, none⟩) hg _).new_ (p := ⟨g', 1, none⟩) hg _).new_ (p := ⟨g', 2, none⟩) hg _).new_ (p := ⟨g', 3, none⟩) hg _).new_ (p := ⟨g', 4, none⟩) hg _).new_ (p := ⟨g', 5, none⟩) hg _
theorem RxT.put6 {w : World} {P : Nat → Prop} {n : Nat} {r : Rx} {cs : List Value} (h : RxT w P n r cs) {g : Nat} (hg : ¬ P g) (x0 x1 x2 x3 x4 : Int) (xA : Option Addr) (xl xc : Nat) : RxT ((((((w.setCell ⟨g, 0, none⟩ (.int .i64 x0)).setCell ⟨g, 1, none⟩ (.int .u64 x1)).setCell ⟨g, 2, none⟩ (.int .u64 x2)).setCell ⟨g, 3, none⟩ (.int .u64 x3)).setCell ⟨g, 4, none⟩ (.int .u64 x4)).setCell ⟨g, 5, none⟩ (.slice xA xl xc)) P n r cs := (((((h.store (p := ⟨g, 0, none⟩) hg _).store (p := ⟨g, 1, none⟩) hg _).store (p := ⟨g, 2, none⟩) hg _).store (p := ⟨g, 3, none⟩) hg _).store (p := ⟨g, 4, none⟩) hg _).store (p := ⟨g, 5, none⟩) hg _
theorem size_put6 (w : World) (g : Nat) (x0 x1 x2 x3 x4 : Int) (xA : Option Addr) (xl xc : Nat) : (((((((w.setCell ⟨g, 0, none⟩ (.int .i64 x0)).setCell ⟨g, 1, none⟩ (.int .u64 x1)).setCell ⟨g, 2, none⟩ (.int .u64 x2)).setCell ⟨g, 3, none⟩ (.int .u64 x3)).setCell ⟨g, 4, none⟩ (.int .u64 x4)).setCell ⟨g, 5, none⟩ (.slice xA xl xc))).heap.size = w.heap.size := by simp [World.setCell]
theorem Tx.put (h : Tx w g gT s y op cs wr) (hl : cs.length = 6) (x0 x1 x2 x3 x4 : Int) (xA : Option Addr) (xl xc : Nat) : Tx w g gT s y op (six x0 x1 x2 x3 x4 xA xl xc) ((((((wr.setCell ⟨gT, 0, none⟩ (.int .i64 x0)).setCell ⟨gT, 1, none⟩ (.int .u64 x1)).setCell ⟨gT, 2, none⟩ (.int .u64 x2)).setCell ⟨gT, 3, none⟩ (.int .u64 x3)).setCell ⟨gT, 4, none⟩ (.int .u64 x4)).setCell ⟨gT, 5, none⟩ (.slice xA xl xc)) := ⟨Blk.far6 h.rd (by have := h.lt; have := h.gl; omega) x0 x1 x2 x3 x4 xA xl xc, Blk.far6 h.re (by have := h.gl; omega) x0 x1 x2 x3 x4 xA xl xc, six_put h.te hl x0 x1 x2 x3 x4 xA xl xc, h.ko.put6 (by have := h.gl; omega) x0 x1 x2 x3 x4 xA xl xc, h.lt, h.gl⟩
end
theorem lpA_stop {s : ByteArray} {A : Sx → Rx × Sx} {t : Rx} {x : Sx} (m : Nat) (h : ¬ nx s x = 124) : lpA s A m t x = (t, x) := by
  cases m with
  | zero => rfl
  | succ m => rw [lpA, if_neg h]
theorem lpA_go {s : ByteArray} {A : Sx → Rx × Sx} {t : Rx} {x : Sx} {m : Nat} (h : nx s x = 124) : lpA s A (m + 1) t x = lpA s A m (tTwo 5 t (A x.up).1) (A x.up).2 := by rw [lpA, if_pos h]
set_option maxRecDepth 100000 in
set_option maxHeartbeats 8000000 in
theorem alt_ok (s : ByteArray) (hs : s.size ≤ 200) (op : Int) (R : Sx → Rx × Sx) (hRow : PsOk 28 op s R) (hGo : Go0 s R) : PsOk 12 op s (atF s R) := by
  intro g w x he hp hR
  have HROW := Lib.hid hRow
  have HGO := Lib.hid hGo
  clear hRow hGo
  obtain ⟨W, hW⟩ : ∃ W, w.alloc (.cells #[.int .i64 0, .int .u64 0, .int .u64 0, .int .u64 0, .int .u64 0, .slice none 0 0] 27) = W := ⟨_, rfl⟩
  have hWR : Rd W g s x op := by rw [← hW]; exact Blk.alloc hR _
  have hWE : Blk W w.heap.size 27 #[.int .i64 0, .int .u64 0, .int .u64 0, .int .u64 0, .int .u64 0, .slice none 0 0] := by rw [← hW]; exact Blk.new w _ _
  have hWK : KeptOff w W g := by rw [← hW]; exact KeptOff.refl.alloc _
  have hglt : g < w.heap.size := Blk.lt hR
  have hWz : W.heap.size = w.heap.size + 1 := by rw [← hW]; simp
  have C0 := Lib.hid (HROW.out g W x he hp hWR)
  have HWE := Lib.hid hWE
  have HWK := Lib.hid hWK
  have hY0 := HGO.out x he hp
  obtain ⟨F, hF⟩ : ∃ F, F = atF s R x := ⟨_, rfl⟩
  rw [← hF]
  have hFx : F = lpA s R (s.size + 1) (R x).1 (R x).2 := hF
  obtain ⟨Y0, hY⟩ : ∃ Y0, Y0 = R x := ⟨_, rfl⟩
  rw [← hY] at C0 hFx hY0
  have HF := Lib.hid hFx
  clear hWR hWE hWK hR hF hFx hY
  go_enter Try.func12, Try.ntmps12
  go_wp2_with fail
  refine C0.out.mono ?_
  rintro e w1 ⟨x0, x1, x2, x3, x4, xA, xl, xc, rfl, hr1, hk1, ht1⟩
  have hz1 : w.heap.size + 1 ≤ w1.heap.size := by have := hk1.size; omega
  have hX1 : Tx w g w1.heap.size s Y0.2 op (six x0 x1 x2 x3 x4 xA xl xc) (w1.alloc (.cells #[.int .i64 x0, .int .u64 x1, .int .u64 x2, .int .u64 x3, .int .u64 x4, .slice xA xl xc] 27)) := ⟨Blk.alloc hr1 _, Blk.alloc (hk1.blk HWE.out (by omega)) _, Blk.new w1 _ _, (HWK.out.tr hk1).alloc _, hglt, by omega⟩
  have HT1 : Hid (Y0.2.e = 0 → ∃ n, RxT (w1.alloc (.cells #[.int .i64 x0, .int .u64 x1, .int .u64 x2, .int .u64 x3, .int .u64 x4, .slice xA xl xc] 27)) (InT w w1.heap.size (w1.alloc (.cells #[.int .i64 x0, .int .u64 x1, .int .u64 x2, .int .u64 x3, .int .u64 x4, .slice xA xl xc] 27))) n Y0.1 (six x0 x1 x2 x3 x4 xA xl xc)) := Lib.hid fun hy => by
    obtain ⟨n, hn⟩ := ht1 hy
    refine ⟨n, (hn.below ((Below.refl _ _).alloc (Nat.le_refl _) _) fun b hb => hb.2).weak fun b hb => ⟨by omega, by simp; omega, by omega⟩⟩
  have HX1 := Lib.hid hX1
  clear hX1 hr1 hk1 ht1 hW hWz
  go_wp2_with fail
  obtain ⟨gT, hgT⟩ : ∃ gT, w1.heap.size = gT := ⟨_, rfl⟩
  rw [hgT] at HX1 HT1 ⊢
  obtain ⟨W1, hW1⟩ : ∃ W1, w1.alloc (.cells #[.int .i64 x0, .int .u64 x1, .int .u64 x2, .int .u64 x3, .int .u64 x4, .slice xA xl xc] 27) = W1 := ⟨_, rfl⟩
  rw [hW1] at HX1 HT1 ⊢
  clear hW1 hgT hz1
  go_loopg [7] (s.size + 1) (fun q _ wr => ∃ (m : Nat) (t : Rx) (y : Sx) (x0 x1 x2 x3 x4 : Int) (xA : Option Addr) (xl xc : Nat), q = m ∧ y.p ≤ s.size ∧ (y.e = 0 → s.size - y.p < m) ∧ Hid (F = lpA s R m t y) ∧ Hid (Tx w g gT s y op (six x0 x1 x2 x3 x4 xA xl xc) wr) ∧ Hid (y.e = 0 → ∃ n, RxT wr (InT w gT wr) n t (six x0 x1 x2 x3 x4 xA xl xc)))
  case atStart => exact ⟨s.size + 1, Y0.1, Y0.2, x0, x1, x2, x3, x4, xA, xl, xc, rfl, hY0.1, fun _ => by omega, HF, HX1, HT1⟩
  case round =>
    clear HX1 HT1 HF
    obtain ⟨m, t, y, x0, x1, x2, x3, x4, xA, xl, xc, hqm, hyp, hq, HFq, HX, HT⟩ := hrel
    have HG := Lib.hid hqm
    clear hqm
    have CT := take_any s hs y op g wr 124 hyp HX.out.rd
    by_cases h124 : nx s y = 124
    · have hys := nx_some (s := s) (x := y) (by omega)
      obtain ⟨m, rfl⟩ : ∃ m', m = m' + 1 := ⟨m - 1, by have := hq hys.1; omega⟩
      have hup := up_go (s := s) (x := y) (by omega)
      have hue : y.up.e = 0 := hys.1
      have hF2 : F = lpA s R m (tTwo 5 t (R y.up).1) (R y.up).2 := HFq.out.trans (lpA_go h124)
      rw [show tkX s y 124 = y.up from if_pos h124, show (nx s y == 124) = true from beq_iff_eq.2 h124] at CT
      have hY2 := HGO.out y.up hue hup.hi
      have CR := fun w' (hr : Rd w' g s y.up op) => HROW.out g w' y.up hue hup.hi hr
      obtain ⟨Y2, hY2e⟩ : ∃ Y2, Y2 = R y.up := ⟨_, rfl⟩
      rw [← hY2e] at CR hF2 hY2
      have CR := Lib.hid CR
      have HF2 := Lib.hid hF2
      have CT := Lib.hid CT
      have hTy := HT.out hys.1
      have hyq := hq hys.1
      have hup1 : y.up.p = y.p + 1 := rfl
      have hys2 := hys.2
      clear hF2 hY2e h124 hq hys
      go_wp2_with fail
      refine CT.out.mono ?_
      rintro e w2 ⟨rfl, hr2, hk2⟩
      have HX2 := Lib.hid (HX.out.kept hr2 hk2)
      have HT2 : Hid (∃ n, RxT w2 (InT w gT w2) n t (six x0 x1 x2 x3 x4 xA xl xc)) := Lib.hid (by
        obtain ⟨n, hn⟩ := hTy
        exact ⟨n, (hn.off hk2 fun b hb => ⟨hb.2.1, by have := hb.1; omega⟩).weak fun b hb => ⟨hb.1, Nat.lt_of_lt_of_le hb.2.1 hk2.size, hb.2.2⟩⟩)
      clear hr2 hk2 hTy
      have hxd := HX2.out.step (below_drewN (Below.refl _ _) 1 : Below w2.heap.size w2 w2.drew)
      have HTd : Hid (∃ n, RxT w2.drew (InT w gT w2.drew) n t (six x0 x1 x2 x3 x4 xA xl xc)) := Lib.hid (by
        obtain ⟨n, hn⟩ := HT2.out
        exact ⟨n, RxT.keep (w := w2) (w' := w2.drew) (P := InT w gT w2) (Q := InT w gT w2.drew) (fun _ hb => hb) (fun _ _ => rfl) hn⟩)
      have s0 : w2.drew.cell? ⟨gT, 0, none⟩ = some (.int .i64 x0) := hxd.te.cell 0
      have fs0 : w2.drew.frozen? ⟨gT, 0, none⟩ = false := hxd.te.frozen 0
      have s1 : w2.drew.cell? ⟨gT, 1, none⟩ = some (.int .u64 x1) := hxd.te.cell 1
      have fs1 : w2.drew.frozen? ⟨gT, 1, none⟩ = false := hxd.te.frozen 1
      have s2 : w2.drew.cell? ⟨gT, 2, none⟩ = some (.int .u64 x2) := hxd.te.cell 2
      have fs2 : w2.drew.frozen? ⟨gT, 2, none⟩ = false := hxd.te.frozen 2
      have s3 : w2.drew.cell? ⟨gT, 3, none⟩ = some (.int .u64 x3) := hxd.te.cell 3
      have fs3 : w2.drew.frozen? ⟨gT, 3, none⟩ = false := hxd.te.frozen 3
      have s4 : w2.drew.cell? ⟨gT, 4, none⟩ = some (.int .u64 x4) := hxd.te.cell 4
      have fs4 : w2.drew.frozen? ⟨gT, 4, none⟩ = false := hxd.te.frozen 4
      have s5 : w2.drew.cell? ⟨gT, 5, none⟩ = some (.slice xA xl xc) := hxd.te.cell 5
      have fs5 : w2.drew.frozen? ⟨gT, 5, none⟩ = false := hxd.te.frozen 5
      go_wp2_with fail
      go_region_law (first
        | (go_simp; go_at_call 28; (refine (CR.out _ hxd.rd).mono ?_); rintro e w3 ⟨v0, v1, v2, v3, v4, vA, vl, vc, rfl, hr3, hk3, ht3⟩; have hx3 := hxd.kept hr3 hk3; have u0 : w3.cell? ⟨gT, 0, none⟩ = some (.int .i64 x0) := hx3.te.cell 0; have fu0 : w3.frozen? ⟨gT, 0, none⟩ = false := hx3.te.frozen 0; have u1 : w3.cell? ⟨gT, 1, none⟩ = some (.int .u64 x1) := hx3.te.cell 1; have fu1 : w3.frozen? ⟨gT, 1, none⟩ = false := hx3.te.frozen 1; have u2 : w3.cell? ⟨gT, 2, none⟩ = some (.int .u64 x2) := hx3.te.cell 2; have fu2 : w3.frozen? ⟨gT, 2, none⟩ = false := hx3.te.frozen 2; have u3 : w3.cell? ⟨gT, 3, none⟩ = some (.int .u64 x3) := hx3.te.cell 3; have fu3 : w3.frozen? ⟨gT, 3, none⟩ = false := hx3.te.frozen 3; have u4 : w3.cell? ⟨gT, 4, none⟩ = some (.int .u64 x4) := hx3.te.cell 4; have fu4 : w3.frozen? ⟨gT, 4, none⟩ = false := hx3.te.frozen 4; have u5 : w3.cell? ⟨gT, 5, none⟩ = some (.slice xA xl xc) := hx3.te.cell 5; have fu5 : w3.frozen? ⟨gT, 5, none⟩ = false := hx3.te.frozen 5)
        | (go_simp; go_at_call 30; (refine (two_tree 5 x0 x1 x2 x3 x4 v0 v1 v2 v3 v4 xA vA xl xc vl vc _).mono ?_); rintro e w4 ⟨N, rfl, hc4, hN1, hN2, hb4⟩; have hx4 := hx3.step hb4; have q0 : w4.cell? ⟨gT, 0, none⟩ = some (.int .i64 x0) := hx4.te.cell 0; have fq0 : w4.frozen? ⟨gT, 0, none⟩ = false := hx4.te.frozen 0; have q1 : w4.cell? ⟨gT, 1, none⟩ = some (.int .u64 x1) := hx4.te.cell 1; have fq1 : w4.frozen? ⟨gT, 1, none⟩ = false := hx4.te.frozen 1; have q2 : w4.cell? ⟨gT, 2, none⟩ = some (.int .u64 x2) := hx4.te.cell 2; have fq2 : w4.frozen? ⟨gT, 2, none⟩ = false := hx4.te.frozen 2; have q3 : w4.cell? ⟨gT, 3, none⟩ = some (.int .u64 x3) := hx4.te.cell 3; have fq3 : w4.frozen? ⟨gT, 3, none⟩ = false := hx4.te.frozen 3; have q4 : w4.cell? ⟨gT, 4, none⟩ = some (.int .u64 x4) := hx4.te.cell 4; have fq4 : w4.frozen? ⟨gT, 4, none⟩ = false := hx4.te.frozen 4; have q5 : w4.cell? ⟨gT, 5, none⟩ = some (.slice xA xl xc) := hx4.te.cell 5; have fq5 : w4.frozen? ⟨gT, 5, none⟩ = false := hx4.te.frozen 5))
      all_goals
        have HX5 := Lib.hid (hx4.put rfl 5 0 0 0 0 (some ⟨N, 0, none⟩) 2 2)
        have hglt2 := hx4.lt
        have hgl2 := hx4.gl
        have hz3 : w2.heap.size ≤ w3.heap.size := hk3.size
        have hgT3 : gT < w2.heap.size := Blk.lt hxd.te
        have hzd : w.heap.size ≤ w2.heap.size := hxd.ko.size
        have hz5 := size_put6 w4 gT 5 0 0 0 0 (some ⟨N, 0, none⟩) 2 2
        have HT5 : Hid (Y2.2.e = 0 → ∃ n, RxT ((((((w4.setCell ⟨gT, 0, none⟩ (.int .i64 5)).setCell ⟨gT, 1, none⟩ (.int .u64 0)).setCell ⟨gT, 2, none⟩ (.int .u64 0)).setCell ⟨gT, 3, none⟩ (.int .u64 0)).setCell ⟨gT, 4, none⟩ (.int .u64 0)).setCell ⟨gT, 5, none⟩ (.slice (some ⟨N, 0, none⟩) 2 2)) (InT w gT ((((((w4.setCell ⟨gT, 0, none⟩ (.int .i64 5)).setCell ⟨gT, 1, none⟩ (.int .u64 0)).setCell ⟨gT, 2, none⟩ (.int .u64 0)).setCell ⟨gT, 3, none⟩ (.int .u64 0)).setCell ⟨gT, 4, none⟩ (.int .u64 0)).setCell ⟨gT, 5, none⟩ (.slice (some ⟨N, 0, none⟩) 2 2))) n (tTwo 5 t Y2.1) (six 5 0 0 0 0 (some ⟨N, 0, none⟩) 2 2)) := Lib.hid fun hy => by
          obtain ⟨n1, hn1⟩ := HTd.out
          obtain ⟨n2, hn2⟩ := ht3 hy
          have a1 := ((hn1.off hk3 fun b hb => ⟨hb.2.1, by have := hb.1; omega⟩).below hb4 fun b hb => Nat.lt_of_lt_of_le hb.2.1 hz3)
          have a2 := hn2.below hb4 fun b hb => hb.2
          have hz4 : w3.heap.size ≤ w4.heap.size := hb4.size
          have b1 : RxT w4 (InT w gT w4) n1 t (six x0 x1 x2 x3 x4 xA xl xc) := a1.weak fun b hb => ⟨hb.1, by have h1 : b < w2.heap.size := hb.2.1; omega, hb.2.2⟩
          have b2 : RxT w4 (InT w gT w4) n2 Y2.1 (six v0 v1 v2 v3 v4 vA vl vc) := a2.weak fun b hb => by
            have h1 : w2.heap.size ≤ b := hb.1
            have h2 : b < w3.heap.size := hb.2
            exact ⟨by omega, by omega, by omega⟩
          have c := RxT.two (b1.up (Nat.le_max_left n1 n2)) (b2.up (Nat.le_max_right n1 n2)) rfl (show InT w gT w4 N from ⟨by omega, hN2, by omega⟩) hc4 5 (by decide) (by decide)
          exact ⟨_, (c.put6 (fun k => k.2.2 rfl) 5 0 0 0 0 (some ⟨N, 0, none⟩) 2 2).weak fun b hb => ⟨hb.1, by rw [hz5]; exact hb.2.1, hb.2.2⟩⟩
        clear hx3 hx4 hr3 hk3 ht3 hb4 hc4 hxd hz5
        go_wp2_with fail
        go_roundg m
        case measure => rw [HG.out]; omega
        case rel => exact ⟨m, tTwo 5 t Y2.1, Y2.2, 5, 0, 0, 0, 0, some ⟨N, 0, none⟩, 2, 2, rfl, hY2.1, fun hy => by have := hY2.2; omega, HF2, HX5, HT5⟩
    · have HFe : Hid (F = (t, y)) := Lib.hid (HFq.out.trans (lpA_stop m h124))
      rw [show tkX s y 124 = y from if_neg h124, show (nx s y == 124) = false from beq_eq_false_iff_ne.2 h124] at CT
      have CT := Lib.hid CT
      clear h124 hq
      go_wp2_with fail
      refine CT.out.mono ?_
      rintro e w9 ⟨rfl, hr9, hk9⟩
      have HX9 := Lib.hid (HX.out.kept hr9 hk9)
      have HT9 : Hid (y.e = 0 → ∃ n, RxT w9 (InT w gT w9) n t (six x0 x1 x2 x3 x4 xA xl xc)) := Lib.hid fun hy => by
        obtain ⟨n, hn⟩ := HT.out hy
        exact ⟨n, (hn.off hk9 fun b hb => ⟨hb.2.1, by have := hb.1; omega⟩).weak fun b hb => ⟨hb.1, Nat.lt_of_lt_of_le hb.2.1 hk9.size, hb.2.2⟩⟩
      clear hr9 hk9
      have s0 : w9.cell? ⟨gT, 0, none⟩ = some (.int .i64 x0) := HX9.out.te.cell 0
      have s1 : w9.cell? ⟨gT, 1, none⟩ = some (.int .u64 x1) := HX9.out.te.cell 1
      have s2 : w9.cell? ⟨gT, 2, none⟩ = some (.int .u64 x2) := HX9.out.te.cell 2
      have s3 : w9.cell? ⟨gT, 3, none⟩ = some (.int .u64 x3) := HX9.out.te.cell 3
      have s4 : w9.cell? ⟨gT, 4, none⟩ = some (.int .u64 x4) := HX9.out.te.cell 4
      have s5 : w9.cell? ⟨gT, 5, none⟩ = some (.slice xA xl xc) := HX9.out.te.cell 5
      have r0 : w9.cell? ⟨w.heap.size, 0, none⟩ = some (.int .i64 0) := HX9.out.re.cell 0
      have fr0 : w9.frozen? ⟨w.heap.size, 0, none⟩ = false := HX9.out.re.frozen 0
      have r1 : w9.cell? ⟨w.heap.size, 1, none⟩ = some (.int .u64 0) := HX9.out.re.cell 1
      have fr1 : w9.frozen? ⟨w.heap.size, 1, none⟩ = false := HX9.out.re.frozen 1
      have r2 : w9.cell? ⟨w.heap.size, 2, none⟩ = some (.int .u64 0) := HX9.out.re.cell 2
      have fr2 : w9.frozen? ⟨w.heap.size, 2, none⟩ = false := HX9.out.re.frozen 2
      have r3 : w9.cell? ⟨w.heap.size, 3, none⟩ = some (.int .u64 0) := HX9.out.re.cell 3
      have fr3 : w9.frozen? ⟨w.heap.size, 3, none⟩ = false := HX9.out.re.frozen 3
      have r4 : w9.cell? ⟨w.heap.size, 4, none⟩ = some (.int .u64 0) := HX9.out.re.cell 4
      have fr4 : w9.frozen? ⟨w.heap.size, 4, none⟩ = false := HX9.out.re.frozen 4
      have r5 : w9.cell? ⟨w.heap.size, 5, none⟩ = some (.slice none 0 0) := HX9.out.re.cell 5
      have fr5 : w9.frozen? ⟨w.heap.size, 5, none⟩ = false := HX9.out.re.frozen 5
      have HZ := Lib.hid (six_put (cs := [.int .i64 0, .int .u64 0, .int .u64 0, .int .u64 0, .int .u64 0, .slice none 0 0]) HX9.out.re rfl x0 x1 x2 x3 x4 xA xl xc)
      have hne := HX9.out.lt
      have HZK := Lib.hid (HX9.out.ko.put6 (Nat.le_refl _) x0 x1 x2 x3 x4 xA xl xc)
      have HZR := Lib.hid (Blk.far6 HX9.out.rd (by omega : w.heap.size ≠ g) x0 x1 x2 x3 x4 xA xl xc)
      have HZS := Lib.hid (size_put6 w9 w.heap.size x0 x1 x2 x3 x4 xA xl xc)
      have HZT : Hid (y.e = 0 → ∃ n, RxT ((((((w9.setCell ⟨w.heap.size, 0, none⟩ (.int .i64 x0)).setCell ⟨w.heap.size, 1, none⟩ (.int .u64 x1)).setCell ⟨w.heap.size, 2, none⟩ (.int .u64 x2)).setCell ⟨w.heap.size, 3, none⟩ (.int .u64 x3)).setCell ⟨w.heap.size, 4, none⟩ (.int .u64 x4)).setCell ⟨w.heap.size, 5, none⟩ (.slice xA xl xc)) (fun b => w.heap.size ≤ b ∧ b < w9.heap.size) n t (six x0 x1 x2 x3 x4 xA xl xc)) := Lib.hid fun hy => by
        obtain ⟨n, hn⟩ := HT9.out hy
        exact ⟨n, (hn.put6 (fun k => absurd k.1 (Nat.lt_irrefl _)) x0 x1 x2 x3 x4 xA xl xc).weak fun b hb => ⟨Nat.le_of_lt hb.1, hb.2.1⟩⟩
      clear HX9
      go_wp2_with fail
      obtain ⟨wz, hwz⟩ : ∃ wz, wz = ((((((w9.setCell ⟨w.heap.size, 0, none⟩ (.int .i64 x0)).setCell ⟨w.heap.size, 1, none⟩ (.int .u64 x1)).setCell ⟨w.heap.size, 2, none⟩ (.int .u64 x2)).setCell ⟨w.heap.size, 3, none⟩ (.int .u64 x3)).setCell ⟨w.heap.size, 4, none⟩ (.int .u64 x4)).setCell ⟨w.heap.size, 5, none⟩ (.slice xA xl xc)) := ⟨_, rfl⟩
      have hz := HZ.out
      have hzk := HZK.out
      have hzr := HZR.out
      have hzs := HZS.out
      have hzt := HZT.out
      rw [← hwz] at hz hzk hzr hzs hzt ⊢
      have z0 : wz.cell? ⟨w.heap.size, 0, none⟩ = some (.int .i64 x0) := hz.cell 0
      have z1 : wz.cell? ⟨w.heap.size, 1, none⟩ = some (.int .u64 x1) := hz.cell 1
      have z2 : wz.cell? ⟨w.heap.size, 2, none⟩ = some (.int .u64 x2) := hz.cell 2
      have z3 : wz.cell? ⟨w.heap.size, 3, none⟩ = some (.int .u64 x3) := hz.cell 3
      have z4 : wz.cell? ⟨w.heap.size, 4, none⟩ = some (.int .u64 x4) := hz.cell 4
      have z5 : wz.cell? ⟨w.heap.size, 5, none⟩ = some (.slice xA xl xc) := hz.cell 5
      refine bodyPost_ret (v := .agg #[.int .i64 x0, .int .u64 x1, .int .u64 x2, .int .u64 x3, .int .u64 x4, .slice xA xl xc]) (by simp [results, Try.results12, go_sem, z0, z1, z2, z3, z4, z5]) rfl ⟨x0, x1, x2, x3, x4, xA, xl, xc, rfl, by rw [HFe.out]; exact hzr, hzk, fun hy => by
        rw [HFe.out] at hy ⊢
        obtain ⟨n, hn⟩ := hzt hy
        exact ⟨n, hn.weak fun b hb => ⟨hb.1, by omega⟩⟩⟩
end Go.Proofs.Ytkdcgkdbieeijaa
