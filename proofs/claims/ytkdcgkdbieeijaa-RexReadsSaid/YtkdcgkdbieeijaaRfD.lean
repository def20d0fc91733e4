/- Walk: (*wickref.text).item. (printed by gen_rfd.py) -/
import Derived.Test.YtkdcgkdbieeijaaRfQ
import Derived.Test.YtkdcgkdbieeijaaRfW
import Derived.Test.YtkdcgkdbieeijaaVal
import Derived.Test.YtkdcgkdbieeijaaPrsE
import Derived.Deep.CutBlock
import Derived.Deep.RegionLaw
namespace Go.Proofs.Ytkdcgkdbieeijaa
open Go.RowKit
set_option linter.unusedVariables false
set_option linter.unusedSimpArgs false

theorem sg_has : ∀ b : Fin 256, hasb (b.val : Int) [40, 41, 91, 93, 124, 42, 43, 63, 46, 94, 36, 45, 92] = sgB (b.val : Int) := by decide +kernel
theorem hx_has : ∀ b : Fin 256, hasb (b.val : Int) [48, 49, 50, 51, 52, 53, 54, 55, 56, 57, 97, 98, 99, 100, 101, 102] = decide (0 ≤ hxI (b.val : Int)) := by decide +kernel
theorem hx_val : ∀ b : Fin 256, 0 ≤ hxI (b.val : Int) → hexv (b.val : Int) = hxI (b.val : Int) := by decide +kernel
theorem pk_size {s : ByteArray} {y : Sx} (h : 0 ≤ nx s y) : (pk s y).size = 1 := by rw [pk_some h]; rfl
theorem pk_get {s : ByteArray} {y : Sx} (h : 0 ≤ nx s y) (hz : 0 < (pk s y).size) : (((pk s y)[0]'hz).toNat : Int) = nx s y := by
  have key : ∀ (P : ByteArray) (hz : 0 < P.size), P = str [(nx s y).toNat.toUInt8] → ((P[0]'hz).toNat : Int) = nx s y := by
    rintro P hz rfl
    have hlo := nx_lo s y
    show (((nx s y).toNat.toUInt8).toNat : Int) = nx s y
    rw [UInt8.toNat_ofNat']; omega
  exact key _ hz (pk_some h)
theorem gr_out {s : ByteArray} {x : Sx} (h : ¬ nx s x = 92) : gr s x = none := by unfold gr; rw [if_neg h]
theorem gr_in {s : ByteArray} {x : Sx} (h : ¬ nx s x.up = 100) (h2 : ¬ nx s x.up = 119) (h3 : ¬ nx s x.up = 115) : gr s x = none := by unfold gr; rw [if_neg h, if_neg h2, if_neg h3]; split <;> rfl
/-- the boxes of item: the reader's and the result's -/
structure Iz (w : World) (g : Nat) (s : ByteArray) (a op e r : Int) (wr : World) : Prop where
  tb : Tb wr g s a op e r
  re : SBlk wr w.heap.size ⟨0, 0, 0, 0⟩
  ko : KeptOff w wr g
  lt : g < w.heap.size
section
variable {w wr wr' : World} {g : Nat} {s : ByteArray} {a op e r : Int}
theorem Iz.step (h : Iz w g s a op e r wr) (hb : Below wr.heap.size wr wr') : Iz w g s a op e r wr' := ⟨h.tb.below hb, Blk.below h.re hb (Blk.lt h.re), h.ko.tr (KeptOff.of_below hb), h.lt⟩
theorem Iz.kept {a' e' r' : Int} (h : Iz w g s a op e r wr) (ht : Tb wr' g s a' op e' r') (hk : KeptOff wr wr' g) : Iz w g s a' op e' r' wr' := ⟨ht, hk.blk h.re (by have := h.lt; omega), h.ko.tr hk, h.lt⟩
theorem Iz.at_ (h : Iz w g s a op e r wr) (p : Int) : Iz w g s p op e r (wr.setCell ⟨g, 1, none⟩ (.int .i64 p)) := ⟨h.tb.setP p, Blk.far h.re (by have := h.lt; dsimp only; omega) _, h.ko.set_ 1 _, h.lt⟩
theorem Iz.put (h : Iz w g s a op e r wr) (q : Q4) : Tb ((((wr.setCell ⟨w.heap.size, 0, none⟩ (.int .u64 (q.a : Int))).setCell ⟨w.heap.size, 1, none⟩ (.int .u64 (q.b : Int))).setCell ⟨w.heap.size, 2, none⟩ (.int .u64 (q.c : Int))).setCell ⟨w.heap.size, 3, none⟩ (.int .u64 (q.d : Int))) g s a op e r ∧ SBlk ((((wr.setCell ⟨w.heap.size, 0, none⟩ (.int .u64 (q.a : Int))).setCell ⟨w.heap.size, 1, none⟩ (.int .u64 (q.b : Int))).setCell ⟨w.heap.size, 2, none⟩ (.int .u64 (q.c : Int))).setCell ⟨w.heap.size, 3, none⟩ (.int .u64 (q.d : Int))) w.heap.size q ∧ KeptOff w ((((wr.setCell ⟨w.heap.size, 0, none⟩ (.int .u64 (q.a : Int))).setCell ⟨w.heap.size, 1, none⟩ (.int .u64 (q.b : Int))).setCell ⟨w.heap.size, 2, none⟩ (.int .u64 (q.c : Int))).setCell ⟨w.heap.size, 3, none⟩ (.int .u64 (q.d : Int))) g :=
  ⟨Blk.far4 h.tb (by have := h.lt; omega) q, set_put h.re q, h.ko.put4 (Nat.le_refl _) q⟩
theorem Iz.put0 (h : Iz w g s a op e r wr) : Tb ((((wr.setCell ⟨w.heap.size, 0, none⟩ (.int .u64 0)).setCell ⟨w.heap.size, 1, none⟩ (.int .u64 0)).setCell ⟨w.heap.size, 2, none⟩ (.int .u64 0)).setCell ⟨w.heap.size, 3, none⟩ (.int .u64 0)) g s a op e r ∧ SBlk ((((wr.setCell ⟨w.heap.size, 0, none⟩ (.int .u64 0)).setCell ⟨w.heap.size, 1, none⟩ (.int .u64 0)).setCell ⟨w.heap.size, 2, none⟩ (.int .u64 0)).setCell ⟨w.heap.size, 3, none⟩ (.int .u64 0)) w.heap.size ⟨0, 0, 0, 0⟩ ∧ KeptOff w ((((wr.setCell ⟨w.heap.size, 0, none⟩ (.int .u64 0)).setCell ⟨w.heap.size, 1, none⟩ (.int .u64 0)).setCell ⟨w.heap.size, 2, none⟩ (.int .u64 0)).setCell ⟨w.heap.size, 3, none⟩ (.int .u64 0)) g := h.put ⟨0, 0, 0, 0⟩
end
/-- what item answers -/
def ItRes (s : ByteArray) (x : Sx) (op : Int) (g : Nat) (w : World) (e : Ending) (w' : World) : Prop := ∃ (lo pl : Int) (q : Q4), e = .returned (.tuple #[.int .i64 lo, .int .i64 pl, .agg #[.int .u64 (q.a : Int), .int .u64 (q.b : Int), .int .u64 (q.c : Int), .int .u64 (q.d : Int)]]) ∧ q.ok ∧ KeptOff w w' g ∧
  ((∃ f, gr s x = some f ∧ lo = -1 ∧ SetOf q f ∧ Tq 210 w' g s x.up.up op) ∨ (gr s x = none ∧ (0 ≤ lo ∧ lo ≤ 255) ∧ ((ch s x).2.e = 0 → lo = (ch s x).1) ∧ Tq 210 w' g s (ch s x).2 op))
theorem ItRes.set {s : ByteArray} {x : Sx} {op : Int} {g : Nat} {w w' : World} {q : Q4} {f : Nat → Bool} (pl : Int) (hg : gr s x = some f) (hq : SetOf q f) (ht : Tq 210 w' g s x.up.up op) (hk : KeptOff w w' g) : ItRes s x op g w (.returned (.tuple #[.int .i64 (-1), .int .i64 pl, .agg #[.int .u64 (q.a : Int), .int .u64 (q.b : Int), .int .u64 (q.c : Int), .int .u64 (q.d : Int)]])) w' := ⟨_, pl, q, rfl, hq.1, hk, .inl ⟨f, hg, rfl, hq, ht⟩⟩
theorem ItRes.byte {s : ByteArray} {x y : Sx} {op v lo : Int} {g : Nat} {w w' : World} (pl : Int) (hg : gr s x = none) (hc : ch s x = (v, y)) (hv : y.e = 0 → lo = v) (h0 : 0 ≤ lo ∧ lo ≤ 255) (ht : Tq 210 w' g s y op) (hk : KeptOff w w' g) : ItRes s x op g w (.returned (.tuple #[.int .i64 lo, .int .i64 pl, .agg #[.int .u64 0, .int .u64 0, .int .u64 0, .int .u64 0]])) w' := ⟨lo, pl, ⟨0, 0, 0, 0⟩, rfl, ⟨by decide, by decide, by decide, by decide⟩, hk, .inr ⟨hg, h0, by rw [hc]; exact hv, by rw [hc]; exact ht⟩⟩
theorem Tq.bad {m : Int} {w : World} {g : Nat} {s : ByteArray} {p : Nat} {a op c : Int} (h : Tb w g s a op c (p : Int)) (hc : ¬ c = 0) (h0 : 0 ≤ a) (h1 : a ≤ m) : Tq m w g s ⟨p, c⟩ op := ⟨a, _, h, fun k => absurd k hc, fun _ => rfl, h0, h1⟩
theorem Tq.good {m : Int} {w : World} {g : Nat} {s : ByteArray} {p : Nat} {a op r : Int} (h : Tb w g s a op 0 r) (ha : a = (p : Int)) (h1 : a ≤ m) : Tq m w g s ⟨p, 0⟩ op := ⟨a, r, h, fun _ => ha, fun k => absurd rfl k, by omega, h1⟩
theorem ch_un (s : ByteArray) (p : Nat) : ch s (⟨p, 0⟩ : Sx) = (if nx s (⟨p, 0⟩ : Sx) = 92 then
    if nx s (⟨p + 1, 0⟩ : Sx) = 110 then (10, ⟨p + 2, 0⟩)
    else if nx s (⟨p + 1, 0⟩ : Sx) = 116 then (9, ⟨p + 2, 0⟩)
    else if nx s (⟨p + 1, 0⟩ : Sx) = 114 then (13, ⟨p + 2, 0⟩)
    else if nx s (⟨p + 1, 0⟩ : Sx) = 120 then ((dg s ⟨p + 2, 0⟩).1 * 16 + (dg s (dg s ⟨p + 2, 0⟩).2).1, (dg s (dg s ⟨p + 2, 0⟩).2).2)
    else if 0 ≤ nx s (⟨p + 1, 0⟩ : Sx) ∧ sgB (nx s (⟨p + 1, 0⟩ : Sx)) = true then (nx s (⟨p + 1, 0⟩ : Sx), ⟨p + 2, 0⟩) else (0, ⟨p + 1, 3⟩)
  else if nx s (⟨p, 0⟩ : Sx) < 33 ∨ 126 < nx s (⟨p, 0⟩ : Sx) ∨ sgB (nx s (⟨p, 0⟩ : Sx)) = true then (0, ⟨p, 3⟩) else (nx s (⟨p, 0⟩ : Sx), ⟨p + 1, 0⟩)) := rfl
theorem dg_no {s : ByteArray} {q : Nat} (h : nx s ⟨q, 0⟩ < 0 ∨ hxI (nx s ⟨q, 0⟩) < 0) : dg s ⟨q, 0⟩ = (0, ⟨q, 3⟩) := by
  unfold dg
  by_cases h1 : nx s ⟨q, 0⟩ < 0
  · rw [if_pos h1]; rfl
  · rw [if_neg h1, if_pos (by rcases h with h | h; exact absurd h h1; exact h)]; rfl
theorem dg_yes {s : ByteArray} {q : Nat} (h : 0 ≤ nx s ⟨q, 0⟩) (h2 : 0 ≤ hxI (nx s ⟨q, 0⟩)) : dg s ⟨q, 0⟩ = (hxI (nx s ⟨q, 0⟩), ⟨q + 1, 0⟩) := by
  unfold dg
  rw [if_neg (by omega), if_neg (by omega)]; rfl
theorem dg_err (s : ByteArray) (q : Nat) : dg s ⟨q, 3⟩ = (0, ⟨q, 3⟩) := by
  unfold dg
  rw [if_pos (by rw [nx_err (show ¬ (3 : Int) = 0 by decide)]; decide)]; rfl
set_option maxRecDepth 100000 in
set_option maxHeartbeats 16000000 in
theorem item_any (s : ByteArray) (hs : s.size ≤ 200) (x : Sx) (m op : Int) (g : Nat) (w : World) (he : x.e = 0) (hp : x.p ≤ s.size) (hR : Tq m w g s x op) :
    Calls Try.prog 92 #[.pointer (some ⟨g, 0, none⟩)] w (ItRes s x op g w) := by
  obtain ⟨r, hT⟩ := hR.at0 he
  obtain ⟨p, e⟩ := x
  dsimp only at he hp hT
  subst he
  clear hR
  have hx : Iz w g s p op 0 r (w.alloc (.cells #[.int .u64 0, .int .u64 0, .int .u64 0, .int .u64 0] 24)) := ⟨Blk.alloc hT _, SBlk.new w, KeptOff.refl.alloc _, Blk.lt hT⟩
  obtain ⟨W, hW⟩ : ∃ W, w.alloc (.cells #[.int .u64 0, .int .u64 0, .int .u64 0, .int .u64 0] 24) = W := ⟨_, rfl⟩
  have HX := Lib.hid hx
  rw [hW] at HX
  obtain ⟨c0, c1, c2, c3, c4⟩ := HX.out.tb.facts
  clear hx hT
  go_enter Try.func92, Try.ntmps92
  have CP := Lib.hid (peek_any s hs (⟨p, 0⟩ : Sx) (p : Int) op r g W (fun _ => rfl) HX.out.tb)
  obtain ⟨P, hP⟩ : ∃ P, P = pk s (⟨p, 0⟩ : Sx) := ⟨_, rfl⟩
  rw [← hP] at CP
  have HP := Lib.hid hP
  clear hP
  go_wp2_with fail
  refine CP.out.mono ?_
  rintro e w1 ⟨rfl, qq, hqq⟩
  have HX1 := Lib.hid (HX.out.step (wr' := w1) (by rw [hqq]; exact below_drewN (Below.refl _ _) qq))
  clear hqq CP
  clear c0 c1 c2 c3 c4 hW HX
  obtain ⟨c0, c1, c2, c3, c4⟩ := HX1.out.tb.facts
  have cf := HX1.out.tb.froz 1
  have hw : IntKind.i64.wrap ((p : Int) + 1) = (p : Int) + 1 := (IntWalk.i64_in _ (by omega)).trans (by omega)
  have HXu := Lib.hid (HX1.out.at_ ((p : Int) + 1))
  go_upto_region 4 with fail
  obtain ⟨w2, hw2⟩ : ∃ w2, w1.setCell ⟨g, 1, none⟩ (.int .i64 ((p : Int) + 1)) = w2 := ⟨_, rfl⟩
  have HX2 := HXu
  rw [hw2] at HX2 ⊢
  clear hw2 HXu hw HX1
  clear c0 c1 c2 c3 c4 cf
  by_cases h92 : nx s (⟨p, 0⟩ : Sx) = 92
  · have eP92 : (P.toList == [92]) = true := by rw [HP.out, pk_is]; exact beq_iff_eq.2 (show nx s (⟨p, 0⟩ : Sx) = 92 from h92)
    have hx92 := nx_some (s := s) (x := (⟨p, 0⟩ : Sx)) (by omega)
    have hlt : p < s.size := hx92.2
    have CP := Lib.hid (peek_any s hs (⟨p + 1, 0⟩ : Sx) ((p : Int) + 1) op r g w2 (fun _ => by show (p : Int) + 1 = ((p + 1 : Nat) : Int); omega) HX2.out.tb)
    obtain ⟨R, hR⟩ : ∃ R, R = pk s (⟨p + 1, 0⟩ : Sx) := ⟨_, rfl⟩
    rw [← hR] at CP
    have HR := Lib.hid hR
    clear hR
    go_wp2_with fail
    refine CP.out.mono ?_
    rintro e w3 ⟨rfl, qq, hqq⟩
    have HX3 := Lib.hid (HX2.out.step (wr' := w3) (by rw [hqq]; exact below_drewN (Below.refl _ _) qq))
    clear hqq CP
    obtain ⟨c0, c1, c2, c3, c4⟩ := HX3.out.tb.facts
    have cf := HX3.out.tb.froz 1
    have hw : IntKind.i64.wrap ((p : Int) + 1 + 1) = (p : Int) + 2 := (IntWalk.i64_in _ (by omega)).trans (by omega)
    have HXu := Lib.hid (HX3.out.at_ ((p : Int) + 2))
    go_upto_region 11 with fail
    obtain ⟨w4, hw4⟩ : ∃ w4, w3.setCell ⟨g, 1, none⟩ (.int .i64 ((p : Int) + 2)) = w4 := ⟨_, rfl⟩
    have HX4 := HXu
    rw [hw4] at HX4 ⊢
    clear hw4 HXu hw HX3
    clear c0 c1 c2 c3 c4 cf
    by_cases h100 : nx s (⟨p + 1, 0⟩ : Sx) = 100
    · have HG : Hid (gr s (⟨p, 0⟩ : Sx) = some gD) := Lib.hid (by unfold gr; show (if nx s (⟨p, 0⟩ : Sx) = 92 then if nx s (⟨p + 1, 0⟩ : Sx) = 100 then some gD else if nx s (⟨p + 1, 0⟩ : Sx) = 119 then some gW else if nx s (⟨p + 1, 0⟩ : Sx) = 115 then some gS else none else none) = _; rw [if_pos h92, if_pos h100])
      have eR100 : (R.toList == [100]) = true := by rw [HR.out, pk_is]; exact beq_iff_eq.2 (show nx s (⟨p + 1, 0⟩ : Sx) = 100 from h100)
      clear h92 hx92 h100
      have CW : Hid (∀ w', Calls Try.prog 89 #[.func (.func 104) #[] #[]] w' (WhereRes gD w')) := Lib.hid fun w' => where_none 104 gD w' item1_cf fun b w'' hb _ => item1_any b w'' hb
      go_wp2_with fail
      refine (CW.out _).mono ?_
      rintro e w9 ⟨q, rfl, hq, hb9⟩
      have HX9 := Lib.hid (HX4.out.step hb9)
      have HZ := Lib.hid (HX9.out.put q)
      have HQ := Lib.hid hq
      have r0 : w9.cell? ⟨w.heap.size, 0, none⟩ = some (.int .u64 0) := HX9.out.re.cell (k := 0) (by omega)
      have fr0 : w9.frozen? ⟨w.heap.size, 0, none⟩ = false := Blk.frozen HX9.out.re 0
      have r1 : w9.cell? ⟨w.heap.size, 1, none⟩ = some (.int .u64 0) := HX9.out.re.cell (k := 1) (by omega)
      have fr1 : w9.frozen? ⟨w.heap.size, 1, none⟩ = false := Blk.frozen HX9.out.re 1
      have r2 : w9.cell? ⟨w.heap.size, 2, none⟩ = some (.int .u64 0) := HX9.out.re.cell (k := 2) (by omega)
      have fr2 : w9.frozen? ⟨w.heap.size, 2, none⟩ = false := Blk.frozen HX9.out.re 2
      have r3 : w9.cell? ⟨w.heap.size, 3, none⟩ = some (.int .u64 0) := HX9.out.re.cell (k := 3) (by omega)
      have fr3 : w9.frozen? ⟨w.heap.size, 3, none⟩ = false := Blk.frozen HX9.out.re 3
      clear hb9 hq
      unfold setV
      go_wp2_with fail
      obtain ⟨wz, hwz⟩ : ∃ wz, wz = ((((w9.setCell ⟨w.heap.size, 0, none⟩ (.int .u64 (q.a : Int))).setCell ⟨w.heap.size, 1, none⟩ (.int .u64 (q.b : Int))).setCell ⟨w.heap.size, 2, none⟩ (.int .u64 (q.c : Int))).setCell ⟨w.heap.size, 3, none⟩ (.int .u64 (q.d : Int))) := ⟨_, rfl⟩
      have hz := HZ.out
      rw [← hwz] at hz ⊢
      obtain ⟨hzt, hzs, hzk⟩ := hz
      have z0 : wz.cell? ⟨w.heap.size, 0, none⟩ = some (.int .u64 (q.a : Int)) := hzs.cell (k := 0) (by omega)
      have z1 : wz.cell? ⟨w.heap.size, 1, none⟩ = some (.int .u64 (q.b : Int)) := hzs.cell (k := 1) (by omega)
      have z2 : wz.cell? ⟨w.heap.size, 2, none⟩ = some (.int .u64 (q.c : Int)) := hzs.cell (k := 2) (by omega)
      have z3 : wz.cell? ⟨w.heap.size, 3, none⟩ = some (.int .u64 (q.d : Int)) := hzs.cell (k := 3) (by omega)
      refine bodyPost_ret (v := .tuple #[.int .i64 (-1), .int .i64 (p : Int), .agg #[.int .u64 (q.a : Int), .int .u64 (q.b : Int), .int .u64 (q.c : Int), .int .u64 (q.d : Int)]]) (by simp [results, Try.results92, go_sem, z0, z1, z2, z3]) rfl (ItRes.set _ HG.out HQ.out (Tq.good (p := p + 2) hzt (by omega) (by omega)) hzk)
    · skip
      by_cases h119 : nx s (⟨p + 1, 0⟩ : Sx) = 119
      · have HG : Hid (gr s (⟨p, 0⟩ : Sx) = some gW) := Lib.hid (by unfold gr; show (if nx s (⟨p, 0⟩ : Sx) = 92 then if nx s (⟨p + 1, 0⟩ : Sx) = 100 then some gD else if nx s (⟨p + 1, 0⟩ : Sx) = 119 then some gW else if nx s (⟨p + 1, 0⟩ : Sx) = 115 then some gS else none else none) = _; rw [if_pos h92, if_neg h100, if_pos h119])
        have eR100 : (R.toList == [100]) = false := by rw [HR.out, pk_is]; exact beq_eq_false_iff_ne.2 (show ¬ nx s (⟨p + 1, 0⟩ : Sx) = 100 from h100)
        have eR119 : (R.toList == [119]) = true := by rw [HR.out, pk_is]; exact beq_iff_eq.2 (show nx s (⟨p + 1, 0⟩ : Sx) = 119 from h119)
        clear h92 hx92 h100 h119
        have CW : Hid (∀ w', Calls Try.prog 89 #[.func (.func 105) #[] #[]] w' (WhereRes gW w')) := Lib.hid fun w' => where_none 105 gW w' item2_cf fun b w'' hb _ => item2_any b w'' hb
        go_wp2_with fail
        refine (CW.out _).mono ?_
        rintro e w9 ⟨q, rfl, hq, hb9⟩
        have HX9 := Lib.hid (HX4.out.step hb9)
        have HZ := Lib.hid (HX9.out.put q)
        have HQ := Lib.hid hq
        have r0 : w9.cell? ⟨w.heap.size, 0, none⟩ = some (.int .u64 0) := HX9.out.re.cell (k := 0) (by omega)
        have fr0 : w9.frozen? ⟨w.heap.size, 0, none⟩ = false := Blk.frozen HX9.out.re 0
        have r1 : w9.cell? ⟨w.heap.size, 1, none⟩ = some (.int .u64 0) := HX9.out.re.cell (k := 1) (by omega)
        have fr1 : w9.frozen? ⟨w.heap.size, 1, none⟩ = false := Blk.frozen HX9.out.re 1
        have r2 : w9.cell? ⟨w.heap.size, 2, none⟩ = some (.int .u64 0) := HX9.out.re.cell (k := 2) (by omega)
        have fr2 : w9.frozen? ⟨w.heap.size, 2, none⟩ = false := Blk.frozen HX9.out.re 2
        have r3 : w9.cell? ⟨w.heap.size, 3, none⟩ = some (.int .u64 0) := HX9.out.re.cell (k := 3) (by omega)
        have fr3 : w9.frozen? ⟨w.heap.size, 3, none⟩ = false := Blk.frozen HX9.out.re 3
        clear hb9 hq
        unfold setV
        go_wp2_with fail
        obtain ⟨wz, hwz⟩ : ∃ wz, wz = ((((w9.setCell ⟨w.heap.size, 0, none⟩ (.int .u64 (q.a : Int))).setCell ⟨w.heap.size, 1, none⟩ (.int .u64 (q.b : Int))).setCell ⟨w.heap.size, 2, none⟩ (.int .u64 (q.c : Int))).setCell ⟨w.heap.size, 3, none⟩ (.int .u64 (q.d : Int))) := ⟨_, rfl⟩
        have hz := HZ.out
        rw [← hwz] at hz ⊢
        obtain ⟨hzt, hzs, hzk⟩ := hz
        have z0 : wz.cell? ⟨w.heap.size, 0, none⟩ = some (.int .u64 (q.a : Int)) := hzs.cell (k := 0) (by omega)
        have z1 : wz.cell? ⟨w.heap.size, 1, none⟩ = some (.int .u64 (q.b : Int)) := hzs.cell (k := 1) (by omega)
        have z2 : wz.cell? ⟨w.heap.size, 2, none⟩ = some (.int .u64 (q.c : Int)) := hzs.cell (k := 2) (by omega)
        have z3 : wz.cell? ⟨w.heap.size, 3, none⟩ = some (.int .u64 (q.d : Int)) := hzs.cell (k := 3) (by omega)
        refine bodyPost_ret (v := .tuple #[.int .i64 (-1), .int .i64 (p : Int), .agg #[.int .u64 (q.a : Int), .int .u64 (q.b : Int), .int .u64 (q.c : Int), .int .u64 (q.d : Int)]]) (by simp [results, Try.results92, go_sem, z0, z1, z2, z3]) rfl (ItRes.set _ HG.out HQ.out (Tq.good (p := p + 2) hzt (by omega) (by omega)) hzk)
      · skip
        by_cases h115 : nx s (⟨p + 1, 0⟩ : Sx) = 115
        · have HG : Hid (gr s (⟨p, 0⟩ : Sx) = some gS) := Lib.hid (by unfold gr; show (if nx s (⟨p, 0⟩ : Sx) = 92 then if nx s (⟨p + 1, 0⟩ : Sx) = 100 then some gD else if nx s (⟨p + 1, 0⟩ : Sx) = 119 then some gW else if nx s (⟨p + 1, 0⟩ : Sx) = 115 then some gS else none else none) = _; rw [if_pos h92, if_neg h100, if_neg h119, if_pos h115])
          have eR100 : (R.toList == [100]) = false := by rw [HR.out, pk_is]; exact beq_eq_false_iff_ne.2 (show ¬ nx s (⟨p + 1, 0⟩ : Sx) = 100 from h100)
          have eR119 : (R.toList == [119]) = false := by rw [HR.out, pk_is]; exact beq_eq_false_iff_ne.2 (show ¬ nx s (⟨p + 1, 0⟩ : Sx) = 119 from h119)
          have eR115 : (R.toList == [115]) = true := by rw [HR.out, pk_is]; exact beq_iff_eq.2 (show nx s (⟨p + 1, 0⟩ : Sx) = 115 from h115)
          clear h92 hx92 h100 h119 h115
          have CW : Hid (∀ w', Calls Try.prog 89 #[.func (.func 106) #[] #[]] w' (WhereRes gS w')) := Lib.hid fun w' => where_none 106 gS w' item3_cf fun b w'' hb _ => item3_any b w'' hb
          go_wp2_with fail
          refine (CW.out _).mono ?_
          rintro e w9 ⟨q, rfl, hq, hb9⟩
          have HX9 := Lib.hid (HX4.out.step hb9)
          have HZ := Lib.hid (HX9.out.put q)
          have HQ := Lib.hid hq
          have r0 : w9.cell? ⟨w.heap.size, 0, none⟩ = some (.int .u64 0) := HX9.out.re.cell (k := 0) (by omega)
          have fr0 : w9.frozen? ⟨w.heap.size, 0, none⟩ = false := Blk.frozen HX9.out.re 0
          have r1 : w9.cell? ⟨w.heap.size, 1, none⟩ = some (.int .u64 0) := HX9.out.re.cell (k := 1) (by omega)
          have fr1 : w9.frozen? ⟨w.heap.size, 1, none⟩ = false := Blk.frozen HX9.out.re 1
          have r2 : w9.cell? ⟨w.heap.size, 2, none⟩ = some (.int .u64 0) := HX9.out.re.cell (k := 2) (by omega)
          have fr2 : w9.frozen? ⟨w.heap.size, 2, none⟩ = false := Blk.frozen HX9.out.re 2
          have r3 : w9.cell? ⟨w.heap.size, 3, none⟩ = some (.int .u64 0) := HX9.out.re.cell (k := 3) (by omega)
          have fr3 : w9.frozen? ⟨w.heap.size, 3, none⟩ = false := Blk.frozen HX9.out.re 3
          clear hb9 hq
          unfold setV
          go_wp2_with fail
          obtain ⟨wz, hwz⟩ : ∃ wz, wz = ((((w9.setCell ⟨w.heap.size, 0, none⟩ (.int .u64 (q.a : Int))).setCell ⟨w.heap.size, 1, none⟩ (.int .u64 (q.b : Int))).setCell ⟨w.heap.size, 2, none⟩ (.int .u64 (q.c : Int))).setCell ⟨w.heap.size, 3, none⟩ (.int .u64 (q.d : Int))) := ⟨_, rfl⟩
          have hz := HZ.out
          rw [← hwz] at hz ⊢
          obtain ⟨hzt, hzs, hzk⟩ := hz
          have z0 : wz.cell? ⟨w.heap.size, 0, none⟩ = some (.int .u64 (q.a : Int)) := hzs.cell (k := 0) (by omega)
          have z1 : wz.cell? ⟨w.heap.size, 1, none⟩ = some (.int .u64 (q.b : Int)) := hzs.cell (k := 1) (by omega)
          have z2 : wz.cell? ⟨w.heap.size, 2, none⟩ = some (.int .u64 (q.c : Int)) := hzs.cell (k := 2) (by omega)
          have z3 : wz.cell? ⟨w.heap.size, 3, none⟩ = some (.int .u64 (q.d : Int)) := hzs.cell (k := 3) (by omega)
          refine bodyPost_ret (v := .tuple #[.int .i64 (-1), .int .i64 (p : Int), .agg #[.int .u64 (q.a : Int), .int .u64 (q.b : Int), .int .u64 (q.c : Int), .int .u64 (q.d : Int)]]) (by simp [results, Try.results92, go_sem, z0, z1, z2, z3]) rfl (ItRes.set _ HG.out HQ.out (Tq.good (p := p + 2) hzt (by omega) (by omega)) hzk)
        · skip
          by_cases h110 : nx s (⟨p + 1, 0⟩ : Sx) = 110
          · have HG : Hid (gr s (⟨p, 0⟩ : Sx) = none) := Lib.hid (gr_in (x := (⟨p, 0⟩ : Sx)) h100 h119 h115)
            have HC : Hid (ch s (⟨p, 0⟩ : Sx) = (10, ⟨p + 2, 0⟩)) := Lib.hid (by rw [ch_un]; rw [if_pos h92, if_pos h110])
            have eR100 : (R.toList == [100]) = false := by rw [HR.out, pk_is]; exact beq_eq_false_iff_ne.2 (show ¬ nx s (⟨p + 1, 0⟩ : Sx) = 100 from h100)
            have eR119 : (R.toList == [119]) = false := by rw [HR.out, pk_is]; exact beq_eq_false_iff_ne.2 (show ¬ nx s (⟨p + 1, 0⟩ : Sx) = 119 from h119)
            have eR115 : (R.toList == [115]) = false := by rw [HR.out, pk_is]; exact beq_eq_false_iff_ne.2 (show ¬ nx s (⟨p + 1, 0⟩ : Sx) = 115 from h115)
            have eR110 : (R.toList == [110]) = true := by rw [HR.out, pk_is]; exact beq_iff_eq.2 (show nx s (⟨p + 1, 0⟩ : Sx) = 110 from h110)
            clear h92 hx92 h100 h119 h115 h110
            have z0 : w4.cell? ⟨w.heap.size, 0, none⟩ = some (.int .u64 0) := HX4.out.re.cell (k := 0) (by omega)
            have fz0 : w4.frozen? ⟨w.heap.size, 0, none⟩ = false := Blk.frozen HX4.out.re 0
            have z1 : w4.cell? ⟨w.heap.size, 1, none⟩ = some (.int .u64 0) := HX4.out.re.cell (k := 1) (by omega)
            have fz1 : w4.frozen? ⟨w.heap.size, 1, none⟩ = false := Blk.frozen HX4.out.re 1
            have z2 : w4.cell? ⟨w.heap.size, 2, none⟩ = some (.int .u64 0) := HX4.out.re.cell (k := 2) (by omega)
            have fz2 : w4.frozen? ⟨w.heap.size, 2, none⟩ = false := Blk.frozen HX4.out.re 2
            have z3 : w4.cell? ⟨w.heap.size, 3, none⟩ = some (.int .u64 0) := HX4.out.re.cell (k := 3) (by omega)
            have fz3 : w4.frozen? ⟨w.heap.size, 3, none⟩ = false := Blk.frozen HX4.out.re 3
            have HZ := Lib.hid HX4.out.put0
            go_wp2_with fail
            obtain ⟨wz, hwz⟩ : ∃ wz, wz = ((((w4.setCell ⟨w.heap.size, 0, none⟩ (.int .u64 0)).setCell ⟨w.heap.size, 1, none⟩ (.int .u64 0)).setCell ⟨w.heap.size, 2, none⟩ (.int .u64 0)).setCell ⟨w.heap.size, 3, none⟩ (.int .u64 0)) := ⟨_, rfl⟩
            have hz := HZ.out
            rw [← hwz] at hz ⊢
            obtain ⟨hzt, hzs, hzk⟩ := hz
            have y0 : wz.cell? ⟨w.heap.size, 0, none⟩ = some (.int .u64 0) := hzs.cell (k := 0) (by omega)
            have y1 : wz.cell? ⟨w.heap.size, 1, none⟩ = some (.int .u64 0) := hzs.cell (k := 1) (by omega)
            have y2 : wz.cell? ⟨w.heap.size, 2, none⟩ = some (.int .u64 0) := hzs.cell (k := 2) (by omega)
            have y3 : wz.cell? ⟨w.heap.size, 3, none⟩ = some (.int .u64 0) := hzs.cell (k := 3) (by omega)
            refine bodyPost_ret (v := .tuple #[.int .i64 10, .int .i64 (p : Int), .agg #[.int .u64 0, .int .u64 0, .int .u64 0, .int .u64 0]]) (by simp [results, Try.results92, go_sem, y0, y1, y2, y3]) rfl (ItRes.byte _ HG.out HC.out (fun _ => rfl) ⟨by decide, by decide⟩ (Tq.good (p := p + 2) hzt (by omega) (by omega)) hzk)
          · skip
            by_cases h116 : nx s (⟨p + 1, 0⟩ : Sx) = 116
            · have HG : Hid (gr s (⟨p, 0⟩ : Sx) = none) := Lib.hid (gr_in (x := (⟨p, 0⟩ : Sx)) h100 h119 h115)
              have HC : Hid (ch s (⟨p, 0⟩ : Sx) = (9, ⟨p + 2, 0⟩)) := Lib.hid (by rw [ch_un]; rw [if_pos h92, if_neg h110, if_pos h116])
              have eR100 : (R.toList == [100]) = false := by rw [HR.out, pk_is]; exact beq_eq_false_iff_ne.2 (show ¬ nx s (⟨p + 1, 0⟩ : Sx) = 100 from h100)
              have eR119 : (R.toList == [119]) = false := by rw [HR.out, pk_is]; exact beq_eq_false_iff_ne.2 (show ¬ nx s (⟨p + 1, 0⟩ : Sx) = 119 from h119)
              have eR115 : (R.toList == [115]) = false := by rw [HR.out, pk_is]; exact beq_eq_false_iff_ne.2 (show ¬ nx s (⟨p + 1, 0⟩ : Sx) = 115 from h115)
              have eR110 : (R.toList == [110]) = false := by rw [HR.out, pk_is]; exact beq_eq_false_iff_ne.2 (show ¬ nx s (⟨p + 1, 0⟩ : Sx) = 110 from h110)
              have eR116 : (R.toList == [116]) = true := by rw [HR.out, pk_is]; exact beq_iff_eq.2 (show nx s (⟨p + 1, 0⟩ : Sx) = 116 from h116)
              clear h92 hx92 h100 h119 h115 h110 h116
              have z0 : w4.cell? ⟨w.heap.size, 0, none⟩ = some (.int .u64 0) := HX4.out.re.cell (k := 0) (by omega)
              have fz0 : w4.frozen? ⟨w.heap.size, 0, none⟩ = false := Blk.frozen HX4.out.re 0
              have z1 : w4.cell? ⟨w.heap.size, 1, none⟩ = some (.int .u64 0) := HX4.out.re.cell (k := 1) (by omega)
              have fz1 : w4.frozen? ⟨w.heap.size, 1, none⟩ = false := Blk.frozen HX4.out.re 1
              have z2 : w4.cell? ⟨w.heap.size, 2, none⟩ = some (.int .u64 0) := HX4.out.re.cell (k := 2) (by omega)
              have fz2 : w4.frozen? ⟨w.heap.size, 2, none⟩ = false := Blk.frozen HX4.out.re 2
              have z3 : w4.cell? ⟨w.heap.size, 3, none⟩ = some (.int .u64 0) := HX4.out.re.cell (k := 3) (by omega)
              have fz3 : w4.frozen? ⟨w.heap.size, 3, none⟩ = false := Blk.frozen HX4.out.re 3
              have HZ := Lib.hid HX4.out.put0
              go_wp2_with fail
              obtain ⟨wz, hwz⟩ : ∃ wz, wz = ((((w4.setCell ⟨w.heap.size, 0, none⟩ (.int .u64 0)).setCell ⟨w.heap.size, 1, none⟩ (.int .u64 0)).setCell ⟨w.heap.size, 2, none⟩ (.int .u64 0)).setCell ⟨w.heap.size, 3, none⟩ (.int .u64 0)) := ⟨_, rfl⟩
              have hz := HZ.out
              rw [← hwz] at hz ⊢
              obtain ⟨hzt, hzs, hzk⟩ := hz
              have y0 : wz.cell? ⟨w.heap.size, 0, none⟩ = some (.int .u64 0) := hzs.cell (k := 0) (by omega)
              have y1 : wz.cell? ⟨w.heap.size, 1, none⟩ = some (.int .u64 0) := hzs.cell (k := 1) (by omega)
              have y2 : wz.cell? ⟨w.heap.size, 2, none⟩ = some (.int .u64 0) := hzs.cell (k := 2) (by omega)
              have y3 : wz.cell? ⟨w.heap.size, 3, none⟩ = some (.int .u64 0) := hzs.cell (k := 3) (by omega)
              refine bodyPost_ret (v := .tuple #[.int .i64 9, .int .i64 (p : Int), .agg #[.int .u64 0, .int .u64 0, .int .u64 0, .int .u64 0]]) (by simp [results, Try.results92, go_sem, y0, y1, y2, y3]) rfl (ItRes.byte _ HG.out HC.out (fun _ => rfl) ⟨by decide, by decide⟩ (Tq.good (p := p + 2) hzt (by omega) (by omega)) hzk)
            · skip
              by_cases h114 : nx s (⟨p + 1, 0⟩ : Sx) = 114
              · have HG : Hid (gr s (⟨p, 0⟩ : Sx) = none) := Lib.hid (gr_in (x := (⟨p, 0⟩ : Sx)) h100 h119 h115)
                have HC : Hid (ch s (⟨p, 0⟩ : Sx) = (13, ⟨p + 2, 0⟩)) := Lib.hid (by rw [ch_un]; rw [if_pos h92, if_neg h110, if_neg h116, if_pos h114])
                have eR100 : (R.toList == [100]) = false := by rw [HR.out, pk_is]; exact beq_eq_false_iff_ne.2 (show ¬ nx s (⟨p + 1, 0⟩ : Sx) = 100 from h100)
                have eR119 : (R.toList == [119]) = false := by rw [HR.out, pk_is]; exact beq_eq_false_iff_ne.2 (show ¬ nx s (⟨p + 1, 0⟩ : Sx) = 119 from h119)
                have eR115 : (R.toList == [115]) = false := by rw [HR.out, pk_is]; exact beq_eq_false_iff_ne.2 (show ¬ nx s (⟨p + 1, 0⟩ : Sx) = 115 from h115)
                have eR110 : (R.toList == [110]) = false := by rw [HR.out, pk_is]; exact beq_eq_false_iff_ne.2 (show ¬ nx s (⟨p + 1, 0⟩ : Sx) = 110 from h110)
                have eR116 : (R.toList == [116]) = false := by rw [HR.out, pk_is]; exact beq_eq_false_iff_ne.2 (show ¬ nx s (⟨p + 1, 0⟩ : Sx) = 116 from h116)
                have eR114 : (R.toList == [114]) = true := by rw [HR.out, pk_is]; exact beq_iff_eq.2 (show nx s (⟨p + 1, 0⟩ : Sx) = 114 from h114)
                clear h92 hx92 h100 h119 h115 h110 h116 h114
                have z0 : w4.cell? ⟨w.heap.size, 0, none⟩ = some (.int .u64 0) := HX4.out.re.cell (k := 0) (by omega)
                have fz0 : w4.frozen? ⟨w.heap.size, 0, none⟩ = false := Blk.frozen HX4.out.re 0
                have z1 : w4.cell? ⟨w.heap.size, 1, none⟩ = some (.int .u64 0) := HX4.out.re.cell (k := 1) (by omega)
                have fz1 : w4.frozen? ⟨w.heap.size, 1, none⟩ = false := Blk.frozen HX4.out.re 1
                have z2 : w4.cell? ⟨w.heap.size, 2, none⟩ = some (.int .u64 0) := HX4.out.re.cell (k := 2) (by omega)
                have fz2 : w4.frozen? ⟨w.heap.size, 2, none⟩ = false := Blk.frozen HX4.out.re 2
                have z3 : w4.cell? ⟨w.heap.size, 3, none⟩ = some (.int .u64 0) := HX4.out.re.cell (k := 3) (by omega)
                have fz3 : w4.frozen? ⟨w.heap.size, 3, none⟩ = false := Blk.frozen HX4.out.re 3
                have HZ := Lib.hid HX4.out.put0
                go_wp2_with fail
                obtain ⟨wz, hwz⟩ : ∃ wz, wz = ((((w4.setCell ⟨w.heap.size, 0, none⟩ (.int .u64 0)).setCell ⟨w.heap.size, 1, none⟩ (.int .u64 0)).setCell ⟨w.heap.size, 2, none⟩ (.int .u64 0)).setCell ⟨w.heap.size, 3, none⟩ (.int .u64 0)) := ⟨_, rfl⟩
                have hz := HZ.out
                rw [← hwz] at hz ⊢
                obtain ⟨hzt, hzs, hzk⟩ := hz
                have y0 : wz.cell? ⟨w.heap.size, 0, none⟩ = some (.int .u64 0) := hzs.cell (k := 0) (by omega)
                have y1 : wz.cell? ⟨w.heap.size, 1, none⟩ = some (.int .u64 0) := hzs.cell (k := 1) (by omega)
                have y2 : wz.cell? ⟨w.heap.size, 2, none⟩ = some (.int .u64 0) := hzs.cell (k := 2) (by omega)
                have y3 : wz.cell? ⟨w.heap.size, 3, none⟩ = some (.int .u64 0) := hzs.cell (k := 3) (by omega)
                refine bodyPost_ret (v := .tuple #[.int .i64 13, .int .i64 (p : Int), .agg #[.int .u64 0, .int .u64 0, .int .u64 0, .int .u64 0]]) (by simp [results, Try.results92, go_sem, y0, y1, y2, y3]) rfl (ItRes.byte _ HG.out HC.out (fun _ => rfl) ⟨by decide, by decide⟩ (Tq.good (p := p + 2) hzt (by omega) (by omega)) hzk)
              · skip
                by_cases h120 : nx s (⟨p + 1, 0⟩ : Sx) = 120
                · obtain ⟨F, hF⟩ : ∃ F, F = ch s (⟨p, 0⟩ : Sx) := ⟨_, rfl⟩
                  have HF : Hid (F = ((dg s ⟨p + 2, 0⟩).1 * 16 + (dg s (dg s ⟨p + 2, 0⟩).2).1, (dg s (dg s ⟨p + 2, 0⟩).2).2)) := Lib.hid (by rw [hF, ch_un, if_pos h92, if_neg h110, if_neg h116, if_neg h114, if_pos h120])
                  have HFc : Hid (ch s (⟨p, 0⟩ : Sx) = F) := Lib.hid hF.symm
                  have HG : Hid (gr s (⟨p, 0⟩ : Sx) = none) := Lib.hid (gr_in (x := (⟨p, 0⟩ : Sx)) h100 h119 h115)
                  have eR100 : (R.toList == [100]) = false := by rw [HR.out, pk_is]; exact beq_eq_false_iff_ne.2 (show ¬ nx s (⟨p + 1, 0⟩ : Sx) = 100 from h100)
                  have eR119 : (R.toList == [119]) = false := by rw [HR.out, pk_is]; exact beq_eq_false_iff_ne.2 (show ¬ nx s (⟨p + 1, 0⟩ : Sx) = 119 from h119)
                  have eR115 : (R.toList == [115]) = false := by rw [HR.out, pk_is]; exact beq_eq_false_iff_ne.2 (show ¬ nx s (⟨p + 1, 0⟩ : Sx) = 115 from h115)
                  have eR110 : (R.toList == [110]) = false := by rw [HR.out, pk_is]; exact beq_eq_false_iff_ne.2 (show ¬ nx s (⟨p + 1, 0⟩ : Sx) = 110 from h110)
                  have eR116 : (R.toList == [116]) = false := by rw [HR.out, pk_is]; exact beq_eq_false_iff_ne.2 (show ¬ nx s (⟨p + 1, 0⟩ : Sx) = 116 from h116)
                  have eR114 : (R.toList == [114]) = false := by rw [HR.out, pk_is]; exact beq_eq_false_iff_ne.2 (show ¬ nx s (⟨p + 1, 0⟩ : Sx) = 114 from h114)
                  have eR120 : (R.toList == [120]) = true := by rw [HR.out, pk_is]; exact beq_iff_eq.2 (show nx s (⟨p + 1, 0⟩ : Sx) = 120 from h120)
                  clear hF h92 hx92 h120 h100 h119 h115 h110 h116 h114
                  go_wp2_with fail
                  go_loopw [7, 8] (fun nv iv wr => ∃ (i q : Nat) (n : Int), nv = .int .i64 n ∧ iv = .int .i64 (i : Int) ∧ i ≤ 2 ∧ q = p + 2 + i ∧ (0 ≤ n ∧ n ≤ 255 ∧ (i ≤ 1 → n ≤ 15)) ∧ Hid (i = 0 → n = 0) ∧ Hid (i = 1 → dg s ⟨p + 2, 0⟩ = (n, ⟨q, 0⟩)) ∧ Hid (i = 2 → F = (n, ⟨q, 0⟩)) ∧ Hid (Iz w g s (q : Int) op 0 r wr)) (fun _ iv _ => 2 - (intOf iv).toNat)
                  case atStart => exact ⟨0, p + 2, 0, rfl, rfl, by omega, rfl, ⟨by omega, by omega, fun _ => by omega⟩, fun _ => rfl, fun k => absurd k (by decide), fun k => absurd k (by decide), HX4⟩
                  case round =>
                    clear HX4
                    obtain ⟨i, q, n, rfl, rfl, hi, hqe, ⟨hn0, hn1, hn2⟩, H0, H1, H2, HX⟩ := hrel
                    by_cases hi2 : i = 2
                    · have HC : Hid (ch s (⟨p, 0⟩ : Sx) = (n, ⟨q, 0⟩)) := Lib.hid (HFc.out.trans (H2.out hi2))
                      have HN : Hid (0 ≤ n ∧ n ≤ 255) := Lib.hid ⟨hn0, hn1⟩
                      have HQ : Hid ((q : Int) ≤ 210) := Lib.hid (by omega)
                      subst hi2
                      have z0 : wr.cell? ⟨w.heap.size, 0, none⟩ = some (.int .u64 0) := HX.out.re.cell (k := 0) (by omega)
                      have fz0 : wr.frozen? ⟨w.heap.size, 0, none⟩ = false := Blk.frozen HX.out.re 0
                      have z1 : wr.cell? ⟨w.heap.size, 1, none⟩ = some (.int .u64 0) := HX.out.re.cell (k := 1) (by omega)
                      have fz1 : wr.frozen? ⟨w.heap.size, 1, none⟩ = false := Blk.frozen HX.out.re 1
                      have z2 : wr.cell? ⟨w.heap.size, 2, none⟩ = some (.int .u64 0) := HX.out.re.cell (k := 2) (by omega)
                      have fz2 : wr.frozen? ⟨w.heap.size, 2, none⟩ = false := Blk.frozen HX.out.re 2
                      have z3 : wr.cell? ⟨w.heap.size, 3, none⟩ = some (.int .u64 0) := HX.out.re.cell (k := 3) (by omega)
                      have fz3 : wr.frozen? ⟨w.heap.size, 3, none⟩ = false := Blk.frozen HX.out.re 3
                      have HZ := Lib.hid HX.out.put0
                      go_wp2_with fail
                      obtain ⟨wz, hwz⟩ : ∃ wz, wz = ((((wr.setCell ⟨w.heap.size, 0, none⟩ (.int .u64 0)).setCell ⟨w.heap.size, 1, none⟩ (.int .u64 0)).setCell ⟨w.heap.size, 2, none⟩ (.int .u64 0)).setCell ⟨w.heap.size, 3, none⟩ (.int .u64 0)) := ⟨_, rfl⟩
                      have hz := HZ.out
                      rw [← hwz] at hz ⊢
                      obtain ⟨hzt, hzs, hzk⟩ := hz
                      have y0 : wz.cell? ⟨w.heap.size, 0, none⟩ = some (.int .u64 0) := hzs.cell (k := 0) (by omega)
                      have y1 : wz.cell? ⟨w.heap.size, 1, none⟩ = some (.int .u64 0) := hzs.cell (k := 1) (by omega)
                      have y2 : wz.cell? ⟨w.heap.size, 2, none⟩ = some (.int .u64 0) := hzs.cell (k := 2) (by omega)
                      have y3 : wz.cell? ⟨w.heap.size, 3, none⟩ = some (.int .u64 0) := hzs.cell (k := 3) (by omega)
                      refine bodyPost_ret (v := .tuple #[.int .i64 n, .int .i64 (p : Int), .agg #[.int .u64 0, .int .u64 0, .int .u64 0, .int .u64 0]]) (by simp [results, Try.results92, go_sem, y0, y1, y2, y3]) rfl (ItRes.byte _ HG.out HC.out (fun _ => rfl) HN.out (Tq.good (p := q) hzt rfl HQ.out) hzk)
                    · have hi1 : i ≤ 1 := by omega
                      have hil : (i : Int) < 2 := by omega
                      have hn15 := hn2 hi1
                      have hq210 : q ≤ 203 := by omega
                      have HQE := Lib.hid hqe
                      have hbad : ∀ v, dg s (⟨q, 0⟩ : Sx) = (v, ⟨q, 3⟩) → ch s (⟨p, 0⟩ : Sx) = (F.1, ⟨q, 3⟩) := fun v hv => by
                        rw [HFc.out]
                        have e2 : F.2 = ⟨q, 3⟩ := by
                          by_cases h0 : i = 0
                          · have e : q = p + 2 := by omega
                            subst e
                            rw [HF.out, hv]
                            show (dg s ⟨p + 2, 3⟩).2 = _
                            rw [dg_err]
                          · rw [HF.out, H1.out (by omega)]
                            show (dg s ⟨q, 0⟩).2 = _
                            rw [hv]
                        rw [← e2]
                      have HBAD := Lib.hid hbad
                      clear hbad hqe hn2
                      have CP := Lib.hid (peek_any s hs (⟨q, 0⟩ : Sx) (q : Int) op r g wr (fun _ => rfl) HX.out.tb)
                      obtain ⟨D, hD⟩ : ∃ D, D = pk s (⟨q, 0⟩ : Sx) := ⟨_, rfl⟩
                      rw [← hD] at CP
                      have HD := Lib.hid hD
                      clear hD
                      go_wp2_with fail
                      refine CP.out.mono ?_
                      rintro e w5 ⟨rfl, qq, hqq⟩
                      have HX5 := Lib.hid (HX.out.step (wr' := w5) (by rw [hqq]; exact below_drewN (Below.refl _ _) qq))
                      clear hqq CP
                      by_cases hend : nx s (⟨q, 0⟩ : Sx) < 0
                      · have nD : D.toList.isEmpty = true := by rw [HD.out, pk_nil]; exact decide_eq_true hend
                        have HC : Hid (ch s (⟨p, 0⟩ : Sx) = (F.1, ⟨q, 3⟩)) := Lib.hid (HBAD.out 0 (dg_no (.inl hend)))
                        clear hend
                        obtain ⟨c0, c1, c2, c3, c4⟩ := HX5.out.tb.facts
                        have cf := HX5.out.tb.froz 1
                        go_wp2_with fail
                        refine (wrong_yes s (q : Int) op r g _ 3 (q : Int) HX5.out.tb).mono ?_
                        rintro e w9 ⟨rfl, ht9, hk9⟩
                        have HX9 := Lib.hid (HX5.out.kept ht9 hk9)
                        clear ht9 hk9 c0 c1 c2 c3 c4 cf
                        have z0 : w9.cell? ⟨w.heap.size, 0, none⟩ = some (.int .u64 0) := HX9.out.re.cell (k := 0) (by omega)
                        have fz0 : w9.frozen? ⟨w.heap.size, 0, none⟩ = false := Blk.frozen HX9.out.re 0
                        have z1 : w9.cell? ⟨w.heap.size, 1, none⟩ = some (.int .u64 0) := HX9.out.re.cell (k := 1) (by omega)
                        have fz1 : w9.frozen? ⟨w.heap.size, 1, none⟩ = false := Blk.frozen HX9.out.re 1
                        have z2 : w9.cell? ⟨w.heap.size, 2, none⟩ = some (.int .u64 0) := HX9.out.re.cell (k := 2) (by omega)
                        have fz2 : w9.frozen? ⟨w.heap.size, 2, none⟩ = false := Blk.frozen HX9.out.re 2
                        have z3 : w9.cell? ⟨w.heap.size, 3, none⟩ = some (.int .u64 0) := HX9.out.re.cell (k := 3) (by omega)
                        have fz3 : w9.frozen? ⟨w.heap.size, 3, none⟩ = false := Blk.frozen HX9.out.re 3
                        have HZ := Lib.hid HX9.out.put0
                        go_wp2_with fail
                        obtain ⟨wz, hwz⟩ : ∃ wz, wz = ((((w9.setCell ⟨w.heap.size, 0, none⟩ (.int .u64 0)).setCell ⟨w.heap.size, 1, none⟩ (.int .u64 0)).setCell ⟨w.heap.size, 2, none⟩ (.int .u64 0)).setCell ⟨w.heap.size, 3, none⟩ (.int .u64 0)) := ⟨_, rfl⟩
                        have hz := HZ.out
                        rw [← hwz] at hz ⊢
                        obtain ⟨hzt, hzs, hzk⟩ := hz
                        have y0 : wz.cell? ⟨w.heap.size, 0, none⟩ = some (.int .u64 0) := hzs.cell (k := 0) (by omega)
                        have y1 : wz.cell? ⟨w.heap.size, 1, none⟩ = some (.int .u64 0) := hzs.cell (k := 1) (by omega)
                        have y2 : wz.cell? ⟨w.heap.size, 2, none⟩ = some (.int .u64 0) := hzs.cell (k := 2) (by omega)
                        have y3 : wz.cell? ⟨w.heap.size, 3, none⟩ = some (.int .u64 0) := hzs.cell (k := 3) (by omega)
                        refine bodyPost_ret (v := .tuple #[.int .i64 0, .int .i64 (p : Int), .agg #[.int .u64 0, .int .u64 0, .int .u64 0, .int .u64 0]]) (by simp [results, Try.results92, go_sem, y0, y1, y2, y3]) rfl (ItRes.byte _ HG.out HC.out (fun k => absurd k (show ¬ (3 : Int) = 0 by decide)) ⟨by decide, by decide⟩ (Tq.bad (p := q) hzt (show ¬ (3 : Int) = 0 by decide) (by omega) (by omega)) hzk)
                      · have h0D : 0 ≤ nx s (⟨q, 0⟩ : Sx) := by omega
                        have iD1 : (0 : Int) < (D.size : Int) := by have := pk_size (s := s) (y := (⟨q, 0⟩ : Sx)) h0D; rw [HD.out]; omega
                        have iDz : 0 < D.size := by omega
                        have gD : ((D[0]'iDz).toNat : Int) = nx s (⟨q, 0⟩ : Sx) := by
                          have key : ∀ (Q : ByteArray) (hz : 0 < Q.size), Q = pk s (⟨q, 0⟩ : Sx) → ((Q[0]'hz).toNat : Int) = nx s (⟨q, 0⟩ : Sx) := by rintro Q hz rfl; exact pk_get h0D hz
                          exact key _ _ HD.out
                        have lD := nx_lo s (⟨q, 0⟩ : Sx)
                        have nD : D.toList.isEmpty = false := by rw [HD.out, pk_nil]; exact decide_eq_false (by omega)
                        have hsg : hasb ((D[0]'iDz).toNat : Int) [48, 49, 50, 51, 52, 53, 54, 55, 56, 57, 97, 98, 99, 100, 101, 102] = decide (0 ≤ hxI (nx s (⟨q, 0⟩ : Sx))) := by
                          have := hx_has ⟨(D[0]'iDz).toNat, (D[0]'iDz).toNat_lt⟩
                          rw [← gD]; exact this
                        have CI : Hid (∀ w', Calls Try.prog 102 #[.int .u8 ((D[0]'iDz).toNat : Int), .string ⟨#[48, 49, 50, 51, 52, 53, 54, 55, 56, 57, 97, 98, 99, 100, 101, 102]⟩] w' fun e w'' => e = .returned (.bool (decide (0 ≤ hxI (nx s (⟨q, 0⟩ : Sx))))) ∧ w' = w'') := Lib.hid fun w' => by
                          have := in_any ((D[0]'iDz).toNat : Int) ⟨#[48, 49, 50, 51, 52, 53, 54, 55, 56, 57, 97, 98, 99, 100, 101, 102]⟩ w' (by decide) (by omega) (by omega)
                          rw [show (⟨#[48, 49, 50, 51, 52, 53, 54, 55, 56, 57, 97, 98, 99, 100, 101, 102]⟩ : ByteArray).data.toList = [48, 49, 50, 51, 52, 53, 54, 55, 56, 57, 97, 98, 99, 100, 101, 102] from rfl, hsg] at this; exact this
                        by_cases hhx : 0 ≤ hxI (nx s (⟨q, 0⟩ : Sx))
                        · rw [decide_eq_true hhx] at CI
                          have hdy := dg_yes h0D hhx
                          have hvv : hexv ((D[0]'iDz).toNat : Int) = hxI (nx s (⟨q, 0⟩ : Sx)) := by
                            have := hx_val ⟨(D[0]'iDz).toNat, (D[0]'iDz).toNat_lt⟩
                            dsimp only at this
                            rw [gD] at this ⊢
                            exact this hhx
                          have hx15 : hexv ((D[0]'iDz).toNat : Int) ≤ 15 := hexv_le _
                          obtain ⟨v, hv⟩ : ∃ v, v = hxI (nx s (⟨q, 0⟩ : Sx)) := ⟨_, rfl⟩
                          have CV : Hid (∀ w', Calls Try.prog 107 #[.int .u8 ((D[0]'iDz).toNat : Int)] w' fun e w'' => e = .returned (.int .i64 v) ∧ w' = w'') := Lib.hid fun w' => by
                            have := value_any ((D[0]'iDz).toNat : Int) (by omega) (by omega) w'
                            rw [hvv, ← hv] at this; exact this
                          rw [hvv] at hx15
                          rw [← hv] at hdy hhx hx15
                          have HDY := Lib.hid hdy
                          have w1 : IntKind.i64.wrap (n * 16) = n * 16 := IntWalk.i64_in _ (by omega)
                          have w2' : IntKind.i64.wrap (n * 16 + v) = n * 16 + v := IntWalk.i64_in _ (by omega)
                          have hwq : IntKind.i64.wrap ((q : Int) + 1) = (q : Int) + 1 := IntWalk.i64_in _ (by omega)
                          have HXu := Lib.hid (HX5.out.at_ ((q : Int) + 1))
                          have HN : Hid (i = 0 → n = 0) := H0
                          obtain ⟨c0, c1, c2, c3, c4⟩ := HX5.out.tb.facts
                          have cf := HX5.out.tb.froz 1
                          clear hend hsg hvv hv hdy gD
                          go_wp2_with fail
                          refine (CI.out _).mono ?_
                          rintro e w6 ⟨rfl, rfl⟩
                          go_wp2_with fail
                          refine (CV.out _).mono ?_
                          rintro e w6 ⟨rfl, rfl⟩
                          go_wp2_with fail
                          go_roundw
                          case rel => exact ⟨i + 1, q + 1, n * 16 + v, rfl, by go_num, by omega, by have := HQE.out; omega, ⟨by omega, by omega, fun k => by have := HN.out (by omega); omega⟩, Lib.hid (fun k => absurd k (by omega)), Lib.hid (fun k => by
                            have hi0 : i = 0 := by omega
                            have e := HQE.out
                            have e2 : q = p + 2 := by omega
                            rw [← e2, HDY.out, HN.out hi0]
                            congr 1
                            omega), Lib.hid (fun k => by
                            have hi0 : i = 1 := by omega
                            rw [HF.out, H1.out hi0]
                            show (n * 16 + (dg s ⟨q, 0⟩).1, (dg s ⟨q, 0⟩).2) = _
                            rw [HDY.out]), HXu⟩
                          case measure => simp [intOf]; omega
                        · rw [decide_eq_false hhx] at CI
                          have HC : Hid (ch s (⟨p, 0⟩ : Sx) = (F.1, ⟨q, 3⟩)) := Lib.hid (HBAD.out 0 (dg_no (.inr (by omega))))
                          obtain ⟨c0, c1, c2, c3, c4⟩ := HX5.out.tb.facts
                          have cf := HX5.out.tb.froz 1
                          clear hend hsg gD hhx
                          go_wp2_with fail
                          refine (CI.out _).mono ?_
                          rintro e w6 ⟨rfl, rfl⟩
                          go_wp2_with fail
                          refine (wrong_yes s (q : Int) op r g _ 3 (q : Int) HX5.out.tb).mono ?_
                          rintro e w9 ⟨rfl, ht9, hk9⟩
                          have HX9 := Lib.hid (HX5.out.kept ht9 hk9)
                          clear ht9 hk9 c0 c1 c2 c3 c4 cf
                          have z0 : w9.cell? ⟨w.heap.size, 0, none⟩ = some (.int .u64 0) := HX9.out.re.cell (k := 0) (by omega)
                          have fz0 : w9.frozen? ⟨w.heap.size, 0, none⟩ = false := Blk.frozen HX9.out.re 0
                          have z1 : w9.cell? ⟨w.heap.size, 1, none⟩ = some (.int .u64 0) := HX9.out.re.cell (k := 1) (by omega)
                          have fz1 : w9.frozen? ⟨w.heap.size, 1, none⟩ = false := Blk.frozen HX9.out.re 1
                          have z2 : w9.cell? ⟨w.heap.size, 2, none⟩ = some (.int .u64 0) := HX9.out.re.cell (k := 2) (by omega)
                          have fz2 : w9.frozen? ⟨w.heap.size, 2, none⟩ = false := Blk.frozen HX9.out.re 2
                          have z3 : w9.cell? ⟨w.heap.size, 3, none⟩ = some (.int .u64 0) := HX9.out.re.cell (k := 3) (by omega)
                          have fz3 : w9.frozen? ⟨w.heap.size, 3, none⟩ = false := Blk.frozen HX9.out.re 3
                          have HZ := Lib.hid HX9.out.put0
                          go_wp2_with fail
                          obtain ⟨wz, hwz⟩ : ∃ wz, wz = ((((w9.setCell ⟨w.heap.size, 0, none⟩ (.int .u64 0)).setCell ⟨w.heap.size, 1, none⟩ (.int .u64 0)).setCell ⟨w.heap.size, 2, none⟩ (.int .u64 0)).setCell ⟨w.heap.size, 3, none⟩ (.int .u64 0)) := ⟨_, rfl⟩
                          have hz := HZ.out
                          rw [← hwz] at hz ⊢
                          obtain ⟨hzt, hzs, hzk⟩ := hz
                          have y0 : wz.cell? ⟨w.heap.size, 0, none⟩ = some (.int .u64 0) := hzs.cell (k := 0) (by omega)
                          have y1 : wz.cell? ⟨w.heap.size, 1, none⟩ = some (.int .u64 0) := hzs.cell (k := 1) (by omega)
                          have y2 : wz.cell? ⟨w.heap.size, 2, none⟩ = some (.int .u64 0) := hzs.cell (k := 2) (by omega)
                          have y3 : wz.cell? ⟨w.heap.size, 3, none⟩ = some (.int .u64 0) := hzs.cell (k := 3) (by omega)
                          refine bodyPost_ret (v := .tuple #[.int .i64 0, .int .i64 (p : Int), .agg #[.int .u64 0, .int .u64 0, .int .u64 0, .int .u64 0]]) (by simp [results, Try.results92, go_sem, y0, y1, y2, y3]) rfl (ItRes.byte _ HG.out HC.out (fun k => absurd k (show ¬ (3 : Int) = 0 by decide)) ⟨by decide, by decide⟩ (Tq.bad (p := q) hzt (show ¬ (3 : Int) = 0 by decide) (by omega) (by omega)) hzk)
                · skip
                  have eR100 : (R.toList == [100]) = false := by rw [HR.out, pk_is]; exact beq_eq_false_iff_ne.2 (show ¬ nx s (⟨p + 1, 0⟩ : Sx) = 100 from h100)
                  have eR119 : (R.toList == [119]) = false := by rw [HR.out, pk_is]; exact beq_eq_false_iff_ne.2 (show ¬ nx s (⟨p + 1, 0⟩ : Sx) = 119 from h119)
                  have eR115 : (R.toList == [115]) = false := by rw [HR.out, pk_is]; exact beq_eq_false_iff_ne.2 (show ¬ nx s (⟨p + 1, 0⟩ : Sx) = 115 from h115)
                  have eR110 : (R.toList == [110]) = false := by rw [HR.out, pk_is]; exact beq_eq_false_iff_ne.2 (show ¬ nx s (⟨p + 1, 0⟩ : Sx) = 110 from h110)
                  have eR116 : (R.toList == [116]) = false := by rw [HR.out, pk_is]; exact beq_eq_false_iff_ne.2 (show ¬ nx s (⟨p + 1, 0⟩ : Sx) = 116 from h116)
                  have eR114 : (R.toList == [114]) = false := by rw [HR.out, pk_is]; exact beq_eq_false_iff_ne.2 (show ¬ nx s (⟨p + 1, 0⟩ : Sx) = 114 from h114)
                  have eR120 : (R.toList == [120]) = false := by rw [HR.out, pk_is]; exact beq_eq_false_iff_ne.2 (show ¬ nx s (⟨p + 1, 0⟩ : Sx) = 120 from h120)
                  have HG : Hid (gr s (⟨p, 0⟩ : Sx) = none) := Lib.hid (gr_in (x := (⟨p, 0⟩ : Sx)) h100 h119 h115)
                  have hch : ch s (⟨p, 0⟩ : Sx) = if 0 ≤ nx s (⟨p + 1, 0⟩ : Sx) ∧ sgB (nx s (⟨p + 1, 0⟩ : Sx)) = true then (nx s (⟨p + 1, 0⟩ : Sx), ⟨p + 2, 0⟩) else (0, ⟨p + 1, 3⟩) := by rw [ch_un, if_pos h92, if_neg h110, if_neg h116, if_neg h114, if_neg h120]
                  have hwm : IntKind.i64.wrap ((p : Int) + 2 - 1) = (p : Int) + 1 := (IntWalk.i64_in _ (by omega)).trans (by omega)
                  clear h92 hx92 h100 h119 h115 h110 h116 h114 h120
                  by_cases hend : nx s (⟨p + 1, 0⟩ : Sx) < 0
                  · have nR : R.toList.isEmpty = true := by rw [HR.out, pk_nil]; exact decide_eq_true hend
                    have HC : Hid (ch s (⟨p, 0⟩ : Sx) = (0, ⟨p + 1, 3⟩)) := Lib.hid (hch.trans (if_neg fun k => by omega))
                    clear hch hend
                    obtain ⟨c0, c1, c2, c3, c4⟩ := HX4.out.tb.facts
                    have cf := HX4.out.tb.froz 1
                    go_wp2_with fail
                    refine (wrong_yes s ((p : Int) + 2) op r g _ 3 ((p : Int) + 1) HX4.out.tb).mono ?_
                    rintro e w9 ⟨rfl, ht9, hk9⟩
                    have HX9 := Lib.hid (HX4.out.kept ht9 hk9)
                    clear ht9 hk9 c0 c1 c2 c3 c4 cf
                    have z0 : w9.cell? ⟨w.heap.size, 0, none⟩ = some (.int .u64 0) := HX9.out.re.cell (k := 0) (by omega)
                    have fz0 : w9.frozen? ⟨w.heap.size, 0, none⟩ = false := Blk.frozen HX9.out.re 0
                    have z1 : w9.cell? ⟨w.heap.size, 1, none⟩ = some (.int .u64 0) := HX9.out.re.cell (k := 1) (by omega)
                    have fz1 : w9.frozen? ⟨w.heap.size, 1, none⟩ = false := Blk.frozen HX9.out.re 1
                    have z2 : w9.cell? ⟨w.heap.size, 2, none⟩ = some (.int .u64 0) := HX9.out.re.cell (k := 2) (by omega)
                    have fz2 : w9.frozen? ⟨w.heap.size, 2, none⟩ = false := Blk.frozen HX9.out.re 2
                    have z3 : w9.cell? ⟨w.heap.size, 3, none⟩ = some (.int .u64 0) := HX9.out.re.cell (k := 3) (by omega)
                    have fz3 : w9.frozen? ⟨w.heap.size, 3, none⟩ = false := Blk.frozen HX9.out.re 3
                    have HZ := Lib.hid HX9.out.put0
                    go_wp2_with fail
                    obtain ⟨wz, hwz⟩ : ∃ wz, wz = ((((w9.setCell ⟨w.heap.size, 0, none⟩ (.int .u64 0)).setCell ⟨w.heap.size, 1, none⟩ (.int .u64 0)).setCell ⟨w.heap.size, 2, none⟩ (.int .u64 0)).setCell ⟨w.heap.size, 3, none⟩ (.int .u64 0)) := ⟨_, rfl⟩
                    have hz := HZ.out
                    rw [← hwz] at hz ⊢
                    obtain ⟨hzt, hzs, hzk⟩ := hz
                    have y0 : wz.cell? ⟨w.heap.size, 0, none⟩ = some (.int .u64 0) := hzs.cell (k := 0) (by omega)
                    have y1 : wz.cell? ⟨w.heap.size, 1, none⟩ = some (.int .u64 0) := hzs.cell (k := 1) (by omega)
                    have y2 : wz.cell? ⟨w.heap.size, 2, none⟩ = some (.int .u64 0) := hzs.cell (k := 2) (by omega)
                    have y3 : wz.cell? ⟨w.heap.size, 3, none⟩ = some (.int .u64 0) := hzs.cell (k := 3) (by omega)
                    refine bodyPost_ret (v := .tuple #[.int .i64 0, .int .i64 (p : Int), .agg #[.int .u64 0, .int .u64 0, .int .u64 0, .int .u64 0]]) (by simp [results, Try.results92, go_sem, y0, y1, y2, y3]) rfl (ItRes.byte _ HG.out HC.out (fun k => absurd k (show ¬ (3 : Int) = 0 by decide)) ⟨by decide, by decide⟩ (Tq.bad (p := p + 1) hzt (show ¬ (3 : Int) = 0 by decide) (by omega) (by omega)) hzk)
                  · have h0R : 0 ≤ nx s (⟨p + 1, 0⟩ : Sx) := by omega
                    have iR1 : (0 : Int) < (R.size : Int) := by have := pk_size (s := s) (y := (⟨p + 1, 0⟩ : Sx)) h0R; rw [HR.out]; omega
                    have iRz : 0 < R.size := by omega
                    have gR : ((R[0]'iRz).toNat : Int) = nx s (⟨p + 1, 0⟩ : Sx) := by
                      have key : ∀ (Q : ByteArray) (hz : 0 < Q.size), Q = pk s (⟨p + 1, 0⟩ : Sx) → ((Q[0]'hz).toNat : Int) = nx s (⟨p + 1, 0⟩ : Sx) := by rintro Q hz rfl; exact pk_get h0R hz
                      exact key _ _ HR.out
                    have lR := nx_lo s (⟨p + 1, 0⟩ : Sx)
                    have nR : R.toList.isEmpty = false := by rw [HR.out, pk_nil]; exact decide_eq_false (by omega)
                    have hsg : hasb ((R[0]'iRz).toNat : Int) [40, 41, 91, 93, 124, 42, 43, 63, 46, 94, 36, 45, 92] = sgB (nx s (⟨p + 1, 0⟩ : Sx)) := by
                      have := sg_has ⟨(R[0]'iRz).toNat, (R[0]'iRz).toNat_lt⟩
                      rw [← gR]; exact this
                    have CI : Hid (∀ w', Calls Try.prog 102 #[.int .u8 ((R[0]'iRz).toNat : Int), .string ⟨#[40, 41, 91, 93, 124, 42, 43, 63, 46, 94, 36, 45, 92]⟩] w' fun e w'' => e = .returned (.bool (sgB (nx s (⟨p + 1, 0⟩ : Sx)))) ∧ w' = w'') := Lib.hid fun w' => by
                      have := in_any ((R[0]'iRz).toNat : Int) ⟨#[40, 41, 91, 93, 124, 42, 43, 63, 46, 94, 36, 45, 92]⟩ w' (by decide) (by omega) (by omega)
                      rw [show (⟨#[40, 41, 91, 93, 124, 42, 43, 63, 46, 94, 36, 45, 92]⟩ : ByteArray).data.toList = [40, 41, 91, 93, 124, 42, 43, 63, 46, 94, 36, 45, 92] from rfl, hsg] at this; exact this
                    cases hb : sgB (nx s (⟨p + 1, 0⟩ : Sx)) with
                    | true =>
                      have HC : Hid (ch s (⟨p, 0⟩ : Sx) = (nx s (⟨p + 1, 0⟩ : Sx), ⟨p + 2, 0⟩)) := Lib.hid (hch.trans (if_pos ⟨h0R, hb⟩))
                      rw [hb] at CI
                      have HGR := Lib.hid gR
                      have HLR : Hid (0 ≤ nx s (⟨p + 1, 0⟩ : Sx) ∧ nx s (⟨p + 1, 0⟩ : Sx) ≤ 255) := Lib.hid ⟨by omega, by omega⟩
                      have hwc : IntKind.i64.wrap ((R[0]'iRz).toNat : Int) = ((R[0]'iRz).toNat : Int) := IntWalk.i64_in _ (by omega)
                      clear hend gR hsg hb lR h0R hch
                      go_wp2_with fail
                      refine (CI.out _).mono ?_
                      rintro e w6 ⟨rfl, rfl⟩
                      have z0 : w4.cell? ⟨w.heap.size, 0, none⟩ = some (.int .u64 0) := HX4.out.re.cell (k := 0) (by omega)
                      have fz0 : w4.frozen? ⟨w.heap.size, 0, none⟩ = false := Blk.frozen HX4.out.re 0
                      have z1 : w4.cell? ⟨w.heap.size, 1, none⟩ = some (.int .u64 0) := HX4.out.re.cell (k := 1) (by omega)
                      have fz1 : w4.frozen? ⟨w.heap.size, 1, none⟩ = false := Blk.frozen HX4.out.re 1
                      have z2 : w4.cell? ⟨w.heap.size, 2, none⟩ = some (.int .u64 0) := HX4.out.re.cell (k := 2) (by omega)
                      have fz2 : w4.frozen? ⟨w.heap.size, 2, none⟩ = false := Blk.frozen HX4.out.re 2
                      have z3 : w4.cell? ⟨w.heap.size, 3, none⟩ = some (.int .u64 0) := HX4.out.re.cell (k := 3) (by omega)
                      have fz3 : w4.frozen? ⟨w.heap.size, 3, none⟩ = false := Blk.frozen HX4.out.re 3
                      have HZ := Lib.hid HX4.out.put0
                      go_wp2_with fail
                      obtain ⟨wz, hwz⟩ : ∃ wz, wz = ((((w4.setCell ⟨w.heap.size, 0, none⟩ (.int .u64 0)).setCell ⟨w.heap.size, 1, none⟩ (.int .u64 0)).setCell ⟨w.heap.size, 2, none⟩ (.int .u64 0)).setCell ⟨w.heap.size, 3, none⟩ (.int .u64 0)) := ⟨_, rfl⟩
                      have hz := HZ.out
                      rw [← hwz] at hz ⊢
                      obtain ⟨hzt, hzs, hzk⟩ := hz
                      have y0 : wz.cell? ⟨w.heap.size, 0, none⟩ = some (.int .u64 0) := hzs.cell (k := 0) (by omega)
                      have y1 : wz.cell? ⟨w.heap.size, 1, none⟩ = some (.int .u64 0) := hzs.cell (k := 1) (by omega)
                      have y2 : wz.cell? ⟨w.heap.size, 2, none⟩ = some (.int .u64 0) := hzs.cell (k := 2) (by omega)
                      have y3 : wz.cell? ⟨w.heap.size, 3, none⟩ = some (.int .u64 0) := hzs.cell (k := 3) (by omega)
                      refine bodyPost_ret (v := .tuple #[.int .i64 ((R[0]'iRz).toNat : Int), .int .i64 (p : Int), .agg #[.int .u64 0, .int .u64 0, .int .u64 0, .int .u64 0]]) (by simp [results, Try.results92, go_sem, y0, y1, y2, y3]) rfl (ItRes.byte _ HG.out HC.out (fun _ => HGR.out) (by rw [HGR.out]; exact HLR.out) (Tq.good (p := p + 2) hzt (by omega) (by omega)) hzk)
                    | false =>
                      have HC : Hid (ch s (⟨p, 0⟩ : Sx) = (0, ⟨p + 1, 3⟩)) := Lib.hid (hch.trans (if_neg fun k => by rw [hb] at k; cases k.2))
                      rw [hb] at CI
                      clear hend gR hsg hb hch
                      go_wp2_with fail
                      refine (CI.out _).mono ?_
                      rintro e w6 ⟨rfl, rfl⟩
                      obtain ⟨c0, c1, c2, c3, c4⟩ := HX4.out.tb.facts
                      have cf := HX4.out.tb.froz 1
                      go_wp2_with fail
                      refine (wrong_yes s ((p : Int) + 2) op r g _ 3 ((p : Int) + 1) HX4.out.tb).mono ?_
                      rintro e w9 ⟨rfl, ht9, hk9⟩
                      have HX9 := Lib.hid (HX4.out.kept ht9 hk9)
                      clear ht9 hk9 c0 c1 c2 c3 c4 cf
                      have z0 : w9.cell? ⟨w.heap.size, 0, none⟩ = some (.int .u64 0) := HX9.out.re.cell (k := 0) (by omega)
                      have fz0 : w9.frozen? ⟨w.heap.size, 0, none⟩ = false := Blk.frozen HX9.out.re 0
                      have z1 : w9.cell? ⟨w.heap.size, 1, none⟩ = some (.int .u64 0) := HX9.out.re.cell (k := 1) (by omega)
                      have fz1 : w9.frozen? ⟨w.heap.size, 1, none⟩ = false := Blk.frozen HX9.out.re 1
                      have z2 : w9.cell? ⟨w.heap.size, 2, none⟩ = some (.int .u64 0) := HX9.out.re.cell (k := 2) (by omega)
                      have fz2 : w9.frozen? ⟨w.heap.size, 2, none⟩ = false := Blk.frozen HX9.out.re 2
                      have z3 : w9.cell? ⟨w.heap.size, 3, none⟩ = some (.int .u64 0) := HX9.out.re.cell (k := 3) (by omega)
                      have fz3 : w9.frozen? ⟨w.heap.size, 3, none⟩ = false := Blk.frozen HX9.out.re 3
                      have HZ := Lib.hid HX9.out.put0
                      go_wp2_with fail
                      obtain ⟨wz, hwz⟩ : ∃ wz, wz = ((((w9.setCell ⟨w.heap.size, 0, none⟩ (.int .u64 0)).setCell ⟨w.heap.size, 1, none⟩ (.int .u64 0)).setCell ⟨w.heap.size, 2, none⟩ (.int .u64 0)).setCell ⟨w.heap.size, 3, none⟩ (.int .u64 0)) := ⟨_, rfl⟩
                      have hz := HZ.out
                      rw [← hwz] at hz ⊢
                      obtain ⟨hzt, hzs, hzk⟩ := hz
                      have y0 : wz.cell? ⟨w.heap.size, 0, none⟩ = some (.int .u64 0) := hzs.cell (k := 0) (by omega)
                      have y1 : wz.cell? ⟨w.heap.size, 1, none⟩ = some (.int .u64 0) := hzs.cell (k := 1) (by omega)
                      have y2 : wz.cell? ⟨w.heap.size, 2, none⟩ = some (.int .u64 0) := hzs.cell (k := 2) (by omega)
                      have y3 : wz.cell? ⟨w.heap.size, 3, none⟩ = some (.int .u64 0) := hzs.cell (k := 3) (by omega)
                      refine bodyPost_ret (v := .tuple #[.int .i64 0, .int .i64 (p : Int), .agg #[.int .u64 0, .int .u64 0, .int .u64 0, .int .u64 0]]) (by simp [results, Try.results92, go_sem, y0, y1, y2, y3]) rfl (ItRes.byte _ HG.out HC.out (fun k => absurd k (show ¬ (3 : Int) = 0 by decide)) ⟨by decide, by decide⟩ (Tq.bad (p := p + 1) hzt (show ¬ (3 : Int) = 0 by decide) (by omega) (by omega)) hzk)
  · have HG : Hid (gr s (⟨p, 0⟩ : Sx) = none) := Lib.hid (gr_out h92)
    have eP92 : (P.toList == [92]) = false := by rw [HP.out, pk_is]; exact beq_eq_false_iff_ne.2 (show ¬ nx s (⟨p, 0⟩ : Sx) = 92 from h92)
    by_cases hend : nx s (⟨p, 0⟩ : Sx) < 0
    · have nP : P.toList.isEmpty = true := by rw [HP.out, pk_nil]; exact decide_eq_true hend
      have HC : Hid (ch s (⟨p, 0⟩ : Sx) = (0, ⟨p, 3⟩)) := Lib.hid (by unfold ch; rw [if_neg h92, if_pos (.inl (by omega))]; rfl)
      clear h92 hend
      go_wp2_with fail
      refine (wrong_yes s ((p : Int) + 1) op r g _ 3 (p : Int) HX2.out.tb).mono ?_
      rintro e w9 ⟨rfl, ht9, hk9⟩
      have HX9 := Lib.hid (HX2.out.kept ht9 hk9)
      clear ht9 hk9
      have z0 : w9.cell? ⟨w.heap.size, 0, none⟩ = some (.int .u64 0) := HX9.out.re.cell (k := 0) (by omega)
      have fz0 : w9.frozen? ⟨w.heap.size, 0, none⟩ = false := Blk.frozen HX9.out.re 0
      have z1 : w9.cell? ⟨w.heap.size, 1, none⟩ = some (.int .u64 0) := HX9.out.re.cell (k := 1) (by omega)
      have fz1 : w9.frozen? ⟨w.heap.size, 1, none⟩ = false := Blk.frozen HX9.out.re 1
      have z2 : w9.cell? ⟨w.heap.size, 2, none⟩ = some (.int .u64 0) := HX9.out.re.cell (k := 2) (by omega)
      have fz2 : w9.frozen? ⟨w.heap.size, 2, none⟩ = false := Blk.frozen HX9.out.re 2
      have z3 : w9.cell? ⟨w.heap.size, 3, none⟩ = some (.int .u64 0) := HX9.out.re.cell (k := 3) (by omega)
      have fz3 : w9.frozen? ⟨w.heap.size, 3, none⟩ = false := Blk.frozen HX9.out.re 3
      have HZ := Lib.hid HX9.out.put0
      go_wp2_with fail
      obtain ⟨wz, hwz⟩ : ∃ wz, wz = ((((w9.setCell ⟨w.heap.size, 0, none⟩ (.int .u64 0)).setCell ⟨w.heap.size, 1, none⟩ (.int .u64 0)).setCell ⟨w.heap.size, 2, none⟩ (.int .u64 0)).setCell ⟨w.heap.size, 3, none⟩ (.int .u64 0)) := ⟨_, rfl⟩
      have hz := HZ.out
      rw [← hwz] at hz ⊢
      obtain ⟨hzt, hzs, hzk⟩ := hz
      have y0 : wz.cell? ⟨w.heap.size, 0, none⟩ = some (.int .u64 0) := hzs.cell (k := 0) (by omega)
      have y1 : wz.cell? ⟨w.heap.size, 1, none⟩ = some (.int .u64 0) := hzs.cell (k := 1) (by omega)
      have y2 : wz.cell? ⟨w.heap.size, 2, none⟩ = some (.int .u64 0) := hzs.cell (k := 2) (by omega)
      have y3 : wz.cell? ⟨w.heap.size, 3, none⟩ = some (.int .u64 0) := hzs.cell (k := 3) (by omega)
      refine bodyPost_ret (v := .tuple #[.int .i64 0, .int .i64 (p : Int), .agg #[.int .u64 0, .int .u64 0, .int .u64 0, .int .u64 0]]) (by simp [results, Try.results92, go_sem, y0, y1, y2, y3]) rfl (ItRes.byte _ HG.out HC.out (fun k => absurd k (show ¬ (3 : Int) = 0 by decide)) ⟨by decide, by decide⟩ (Tq.bad (p := p) hzt (show ¬ (3 : Int) = 0 by decide) (by omega) (by omega)) hzk)
    · have h0P : 0 ≤ nx s (⟨p, 0⟩ : Sx) := by omega
      have iP1 : (0 : Int) < (P.size : Int) := by have := pk_size (s := s) (y := (⟨p, 0⟩ : Sx)) h0P; rw [HP.out]; omega
      have iPz : 0 < P.size := by omega
      have gP : ((P[0]'iPz).toNat : Int) = nx s (⟨p, 0⟩ : Sx) := by
        have key : ∀ (Q : ByteArray) (hz : 0 < Q.size), Q = pk s (⟨p, 0⟩ : Sx) → ((Q[0]'hz).toNat : Int) = nx s (⟨p, 0⟩ : Sx) := by rintro Q hz rfl; exact pk_get h0P hz
        exact key _ _ HP.out
      have lP := nx_lo s (⟨p, 0⟩ : Sx)
      have nP : P.toList.isEmpty = false := by rw [HP.out, pk_nil]; exact decide_eq_false (by omega)
      by_cases h33 : nx s (⟨p, 0⟩ : Sx) < 33
      · have d1 : decide (((P[0]'iPz).toNat : Int) < 33) = true := decide_eq_true (by omega)
        have d1n : decide ((P[0]'iPz).toNat < 33) = true := decide_eq_true (by omega)
        have HC : Hid (ch s (⟨p, 0⟩ : Sx) = (0, ⟨p, 3⟩)) := Lib.hid (by unfold ch; rw [if_neg h92, if_pos (.inl h33)]; rfl)
        clear h92 hend h33 gP
        go_wp2_with fail
        refine (wrong_yes s ((p : Int) + 1) op r g _ 3 (p : Int) HX2.out.tb).mono ?_
        rintro e w9 ⟨rfl, ht9, hk9⟩
        have HX9 := Lib.hid (HX2.out.kept ht9 hk9)
        clear ht9 hk9
        have z0 : w9.cell? ⟨w.heap.size, 0, none⟩ = some (.int .u64 0) := HX9.out.re.cell (k := 0) (by omega)
        have fz0 : w9.frozen? ⟨w.heap.size, 0, none⟩ = false := Blk.frozen HX9.out.re 0
        have z1 : w9.cell? ⟨w.heap.size, 1, none⟩ = some (.int .u64 0) := HX9.out.re.cell (k := 1) (by omega)
        have fz1 : w9.frozen? ⟨w.heap.size, 1, none⟩ = false := Blk.frozen HX9.out.re 1
        have z2 : w9.cell? ⟨w.heap.size, 2, none⟩ = some (.int .u64 0) := HX9.out.re.cell (k := 2) (by omega)
        have fz2 : w9.frozen? ⟨w.heap.size, 2, none⟩ = false := Blk.frozen HX9.out.re 2
        have z3 : w9.cell? ⟨w.heap.size, 3, none⟩ = some (.int .u64 0) := HX9.out.re.cell (k := 3) (by omega)
        have fz3 : w9.frozen? ⟨w.heap.size, 3, none⟩ = false := Blk.frozen HX9.out.re 3
        have HZ := Lib.hid HX9.out.put0
        go_wp2_with fail
        obtain ⟨wz, hwz⟩ : ∃ wz, wz = ((((w9.setCell ⟨w.heap.size, 0, none⟩ (.int .u64 0)).setCell ⟨w.heap.size, 1, none⟩ (.int .u64 0)).setCell ⟨w.heap.size, 2, none⟩ (.int .u64 0)).setCell ⟨w.heap.size, 3, none⟩ (.int .u64 0)) := ⟨_, rfl⟩
        have hz := HZ.out
        rw [← hwz] at hz ⊢
        obtain ⟨hzt, hzs, hzk⟩ := hz
        have y0 : wz.cell? ⟨w.heap.size, 0, none⟩ = some (.int .u64 0) := hzs.cell (k := 0) (by omega)
        have y1 : wz.cell? ⟨w.heap.size, 1, none⟩ = some (.int .u64 0) := hzs.cell (k := 1) (by omega)
        have y2 : wz.cell? ⟨w.heap.size, 2, none⟩ = some (.int .u64 0) := hzs.cell (k := 2) (by omega)
        have y3 : wz.cell? ⟨w.heap.size, 3, none⟩ = some (.int .u64 0) := hzs.cell (k := 3) (by omega)
        refine bodyPost_ret (v := .tuple #[.int .i64 0, .int .i64 (p : Int), .agg #[.int .u64 0, .int .u64 0, .int .u64 0, .int .u64 0]]) (by simp [results, Try.results92, go_sem, y0, y1, y2, y3]) rfl (ItRes.byte _ HG.out HC.out (fun k => absurd k (show ¬ (3 : Int) = 0 by decide)) ⟨by decide, by decide⟩ (Tq.bad (p := p) hzt (show ¬ (3 : Int) = 0 by decide) (by omega) (by omega)) hzk)
      · have d1 : decide (((P[0]'iPz).toNat : Int) < 33) = false := decide_eq_false (by omega)
        have d1n : decide ((P[0]'iPz).toNat < 33) = false := decide_eq_false (by omega)
        by_cases h126 : 126 < nx s (⟨p, 0⟩ : Sx)
        · have d2 : decide (126 < ((P[0]'iPz).toNat : Int)) = true := decide_eq_true (by omega)
          have d2n : decide (126 < (P[0]'iPz).toNat) = true := decide_eq_true (by omega)
          have e2 : 126 < ((P[0]'iPz).toNat : Int) := by omega
          have HC : Hid (ch s (⟨p, 0⟩ : Sx) = (0, ⟨p, 3⟩)) := Lib.hid (by unfold ch; rw [if_neg h92, if_pos (.inr (.inl h126))]; rfl)
          clear h92 hend h33 h126 gP
          go_wp2_with fail
          refine (wrong_yes s ((p : Int) + 1) op r g _ 3 (p : Int) HX2.out.tb).mono ?_
          rintro e w9 ⟨rfl, ht9, hk9⟩
          have HX9 := Lib.hid (HX2.out.kept ht9 hk9)
          clear ht9 hk9
          have z0 : w9.cell? ⟨w.heap.size, 0, none⟩ = some (.int .u64 0) := HX9.out.re.cell (k := 0) (by omega)
          have fz0 : w9.frozen? ⟨w.heap.size, 0, none⟩ = false := Blk.frozen HX9.out.re 0
          have z1 : w9.cell? ⟨w.heap.size, 1, none⟩ = some (.int .u64 0) := HX9.out.re.cell (k := 1) (by omega)
          have fz1 : w9.frozen? ⟨w.heap.size, 1, none⟩ = false := Blk.frozen HX9.out.re 1
          have z2 : w9.cell? ⟨w.heap.size, 2, none⟩ = some (.int .u64 0) := HX9.out.re.cell (k := 2) (by omega)
          have fz2 : w9.frozen? ⟨w.heap.size, 2, none⟩ = false := Blk.frozen HX9.out.re 2
          have z3 : w9.cell? ⟨w.heap.size, 3, none⟩ = some (.int .u64 0) := HX9.out.re.cell (k := 3) (by omega)
          have fz3 : w9.frozen? ⟨w.heap.size, 3, none⟩ = false := Blk.frozen HX9.out.re 3
          have HZ := Lib.hid HX9.out.put0
          go_wp2_with fail
          obtain ⟨wz, hwz⟩ : ∃ wz, wz = ((((w9.setCell ⟨w.heap.size, 0, none⟩ (.int .u64 0)).setCell ⟨w.heap.size, 1, none⟩ (.int .u64 0)).setCell ⟨w.heap.size, 2, none⟩ (.int .u64 0)).setCell ⟨w.heap.size, 3, none⟩ (.int .u64 0)) := ⟨_, rfl⟩
          have hz := HZ.out
          rw [← hwz] at hz ⊢
          obtain ⟨hzt, hzs, hzk⟩ := hz
          have y0 : wz.cell? ⟨w.heap.size, 0, none⟩ = some (.int .u64 0) := hzs.cell (k := 0) (by omega)
          have y1 : wz.cell? ⟨w.heap.size, 1, none⟩ = some (.int .u64 0) := hzs.cell (k := 1) (by omega)
          have y2 : wz.cell? ⟨w.heap.size, 2, none⟩ = some (.int .u64 0) := hzs.cell (k := 2) (by omega)
          have y3 : wz.cell? ⟨w.heap.size, 3, none⟩ = some (.int .u64 0) := hzs.cell (k := 3) (by omega)
          refine bodyPost_ret (v := .tuple #[.int .i64 0, .int .i64 (p : Int), .agg #[.int .u64 0, .int .u64 0, .int .u64 0, .int .u64 0]]) (by simp [results, Try.results92, go_sem, y0, y1, y2, y3]) rfl (ItRes.byte _ HG.out HC.out (fun k => absurd k (show ¬ (3 : Int) = 0 by decide)) ⟨by decide, by decide⟩ (Tq.bad (p := p) hzt (show ¬ (3 : Int) = 0 by decide) (by omega) (by omega)) hzk)
        · have d2 : decide (126 < ((P[0]'iPz).toNat : Int)) = false := decide_eq_false (by omega)
          have d2n : decide (126 < (P[0]'iPz).toNat) = false := decide_eq_false (by omega)
          have e2 : ¬ 126 < ((P[0]'iPz).toNat : Int) := by omega
          have hsg : hasb ((P[0]'iPz).toNat : Int) [40, 41, 91, 93, 124, 42, 43, 63, 46, 94, 36, 45, 92] = sgB (nx s (⟨p, 0⟩ : Sx)) := by
            have := sg_has ⟨(P[0]'iPz).toNat, (P[0]'iPz).toNat_lt⟩
            rw [← gP]; exact this
          have CI : Hid (∀ w', Calls Try.prog 102 #[.int .u8 ((P[0]'iPz).toNat : Int), .string ⟨#[40, 41, 91, 93, 124, 42, 43, 63, 46, 94, 36, 45, 92]⟩] w' fun e w'' => e = .returned (.bool (sgB (nx s (⟨p, 0⟩ : Sx)))) ∧ w' = w'') := Lib.hid fun w' => by
            have := in_any ((P[0]'iPz).toNat : Int) ⟨#[40, 41, 91, 93, 124, 42, 43, 63, 46, 94, 36, 45, 92]⟩ w' (by decide) (by omega) (by omega)
            rw [show (⟨#[40, 41, 91, 93, 124, 42, 43, 63, 46, 94, 36, 45, 92]⟩ : ByteArray).data.toList = [40, 41, 91, 93, 124, 42, 43, 63, 46, 94, 36, 45, 92] from rfl, hsg] at this; exact this
          cases hb : sgB (nx s (⟨p, 0⟩ : Sx)) with
          | true =>
            have HC : Hid (ch s (⟨p, 0⟩ : Sx) = (0, ⟨p, 3⟩)) := Lib.hid (by unfold ch; rw [if_neg h92, if_pos (.inr (.inr hb))]; rfl)
            rw [hb] at CI
            clear h92 hend h33 h126 gP hsg hb
            go_wp2_with fail
            refine (CI.out _).mono ?_
            rintro e w3 ⟨rfl, rfl⟩
            go_wp2_with fail
            refine (wrong_yes s ((p : Int) + 1) op r g _ 3 (p : Int) HX2.out.tb).mono ?_
            rintro e w9 ⟨rfl, ht9, hk9⟩
            have HX9 := Lib.hid (HX2.out.kept ht9 hk9)
            clear ht9 hk9
            have z0 : w9.cell? ⟨w.heap.size, 0, none⟩ = some (.int .u64 0) := HX9.out.re.cell (k := 0) (by omega)
            have fz0 : w9.frozen? ⟨w.heap.size, 0, none⟩ = false := Blk.frozen HX9.out.re 0
            have z1 : w9.cell? ⟨w.heap.size, 1, none⟩ = some (.int .u64 0) := HX9.out.re.cell (k := 1) (by omega)
            have fz1 : w9.frozen? ⟨w.heap.size, 1, none⟩ = false := Blk.frozen HX9.out.re 1
            have z2 : w9.cell? ⟨w.heap.size, 2, none⟩ = some (.int .u64 0) := HX9.out.re.cell (k := 2) (by omega)
            have fz2 : w9.frozen? ⟨w.heap.size, 2, none⟩ = false := Blk.frozen HX9.out.re 2
            have z3 : w9.cell? ⟨w.heap.size, 3, none⟩ = some (.int .u64 0) := HX9.out.re.cell (k := 3) (by omega)
            have fz3 : w9.frozen? ⟨w.heap.size, 3, none⟩ = false := Blk.frozen HX9.out.re 3
            have HZ := Lib.hid HX9.out.put0
            go_wp2_with fail
            obtain ⟨wz, hwz⟩ : ∃ wz, wz = ((((w9.setCell ⟨w.heap.size, 0, none⟩ (.int .u64 0)).setCell ⟨w.heap.size, 1, none⟩ (.int .u64 0)).setCell ⟨w.heap.size, 2, none⟩ (.int .u64 0)).setCell ⟨w.heap.size, 3, none⟩ (.int .u64 0)) := ⟨_, rfl⟩
            have hz := HZ.out
            rw [← hwz] at hz ⊢
            obtain ⟨hzt, hzs, hzk⟩ := hz
            have y0 : wz.cell? ⟨w.heap.size, 0, none⟩ = some (.int .u64 0) := hzs.cell (k := 0) (by omega)
            have y1 : wz.cell? ⟨w.heap.size, 1, none⟩ = some (.int .u64 0) := hzs.cell (k := 1) (by omega)
            have y2 : wz.cell? ⟨w.heap.size, 2, none⟩ = some (.int .u64 0) := hzs.cell (k := 2) (by omega)
            have y3 : wz.cell? ⟨w.heap.size, 3, none⟩ = some (.int .u64 0) := hzs.cell (k := 3) (by omega)
            refine bodyPost_ret (v := .tuple #[.int .i64 0, .int .i64 (p : Int), .agg #[.int .u64 0, .int .u64 0, .int .u64 0, .int .u64 0]]) (by simp [results, Try.results92, go_sem, y0, y1, y2, y3]) rfl (ItRes.byte _ HG.out HC.out (fun k => absurd k (show ¬ (3 : Int) = 0 by decide)) ⟨by decide, by decide⟩ (Tq.bad (p := p) hzt (show ¬ (3 : Int) = 0 by decide) (by omega) (by omega)) hzk)
          | false =>
            have HC : Hid (ch s (⟨p, 0⟩ : Sx) = (nx s (⟨p, 0⟩ : Sx), ⟨p + 1, 0⟩)) := Lib.hid (by unfold ch; rw [if_neg h92, if_neg (by rintro (k | k | k) <;> first | omega | (rw [hb] at k; cases k))]; rfl)
            rw [hb] at CI
            have HGP := Lib.hid gP
            have HLP : Hid (0 ≤ nx s (⟨p, 0⟩ : Sx) ∧ nx s (⟨p, 0⟩ : Sx) ≤ 255) := Lib.hid ⟨by omega, by omega⟩
            have hwc : IntKind.i64.wrap ((P[0]'iPz).toNat : Int) = ((P[0]'iPz).toNat : Int) := IntWalk.i64_in _ (by omega)
            clear h92 hend h33 h126 gP hsg hb lP h0P
            go_wp2_with fail
            refine (CI.out _).mono ?_
            rintro e w3 ⟨rfl, rfl⟩
            have z0 : w2.cell? ⟨w.heap.size, 0, none⟩ = some (.int .u64 0) := HX2.out.re.cell (k := 0) (by omega)
            have fz0 : w2.frozen? ⟨w.heap.size, 0, none⟩ = false := Blk.frozen HX2.out.re 0
            have z1 : w2.cell? ⟨w.heap.size, 1, none⟩ = some (.int .u64 0) := HX2.out.re.cell (k := 1) (by omega)
            have fz1 : w2.frozen? ⟨w.heap.size, 1, none⟩ = false := Blk.frozen HX2.out.re 1
            have z2 : w2.cell? ⟨w.heap.size, 2, none⟩ = some (.int .u64 0) := HX2.out.re.cell (k := 2) (by omega)
            have fz2 : w2.frozen? ⟨w.heap.size, 2, none⟩ = false := Blk.frozen HX2.out.re 2
            have z3 : w2.cell? ⟨w.heap.size, 3, none⟩ = some (.int .u64 0) := HX2.out.re.cell (k := 3) (by omega)
            have fz3 : w2.frozen? ⟨w.heap.size, 3, none⟩ = false := Blk.frozen HX2.out.re 3
            have HZ := Lib.hid HX2.out.put0
            go_wp2_with fail
            obtain ⟨wz, hwz⟩ : ∃ wz, wz = ((((w2.setCell ⟨w.heap.size, 0, none⟩ (.int .u64 0)).setCell ⟨w.heap.size, 1, none⟩ (.int .u64 0)).setCell ⟨w.heap.size, 2, none⟩ (.int .u64 0)).setCell ⟨w.heap.size, 3, none⟩ (.int .u64 0)) := ⟨_, rfl⟩
            have hz := HZ.out
            rw [← hwz] at hz ⊢
            obtain ⟨hzt, hzs, hzk⟩ := hz
            have y0 : wz.cell? ⟨w.heap.size, 0, none⟩ = some (.int .u64 0) := hzs.cell (k := 0) (by omega)
            have y1 : wz.cell? ⟨w.heap.size, 1, none⟩ = some (.int .u64 0) := hzs.cell (k := 1) (by omega)
            have y2 : wz.cell? ⟨w.heap.size, 2, none⟩ = some (.int .u64 0) := hzs.cell (k := 2) (by omega)
            have y3 : wz.cell? ⟨w.heap.size, 3, none⟩ = some (.int .u64 0) := hzs.cell (k := 3) (by omega)
            refine bodyPost_ret (v := .tuple #[.int .i64 ((P[0]'iPz).toNat : Int), .int .i64 (p : Int), .agg #[.int .u64 0, .int .u64 0, .int .u64 0, .int .u64 0]]) (by simp [results, Try.results92, go_sem, y0, y1, y2, y3]) rfl (ItRes.byte _ HG.out HC.out (fun _ => HGP.out) (by rw [HGP.out]; exact HLP.out) (Tq.good hzt (by omega) (by omega)) hzk)
end Go.Proofs.Ytkdcgkdbieeijaa
