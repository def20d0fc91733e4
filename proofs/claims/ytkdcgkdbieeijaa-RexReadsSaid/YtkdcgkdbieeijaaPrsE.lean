/- Walk: (*rex.reader).group. (printed by gen_prse.py) -/
import Derived.Test.YtkdcgkdbieeijaaPrsC
import Derived.Test.YtkdcgkdbieeijaaPrsD
namespace Go.Proofs.Ytkdcgkdbieeijaa
open Go.RowKit
set_option linter.unusedVariables false
set_option linter.unusedSimpArgs false

theorem rangeA (lo hi : Nat) (hh : hi ≤ 255) (w : World) :
    Calls Try.prog 84 #[.int .i64 (lo : Int), .int .i64 (hi : Int)] w fun e w' => ∃ q : Q4, e = .returned (.agg #[.int .u64 (q.a : Int), .int .u64 (q.b : Int), .int .u64 (q.c : Int), .int .u64 (q.d : Int)]) ∧ SetOf q (rngF lo hi) ∧ Below w.heap.size w w' := range2_any lo hi hh w
theorem unionA (q r : Q4) (hq : q.ok) (hr : r.ok) (w : World) :
    Calls Try.prog 98 #[.agg #[.int .u64 (q.a : Int), .int .u64 (q.b : Int), .int .u64 (q.c : Int), .int .u64 (q.d : Int)], .agg #[.int .u64 (r.a : Int), .int .u64 (r.b : Int), .int .u64 (r.c : Int), .int .u64 (r.d : Int)]] w fun e w' => ∃ p : Q4, e = .returned (.agg #[.int .u64 (p.a : Int), .int .u64 (p.b : Int), .int .u64 (p.c : Int), .int .u64 (p.d : Int)]) ∧ p = q.or r ∧ Below w.heap.size w w' :=
  (union_any q r hq hr w).mono fun e w' h => ⟨q.or r, h.1, rfl, h.2⟩
theorem or_is {q r : Q4} {f g : Nat → Bool} (h : SetOf q f) (k : SetOf r g) : SetOf (q.or r) (fun b => f b || g b) := ⟨Q4.or_ok h.1 k.1, fun b hb => by rw [setB_or, h.2 b hb, k.2 b hb]⟩
theorem set_put {w : World} {g : Nat} {q0 : Q4} (h : SBlk w g q0) (q : Q4) : SBlk (((((w).setCell ⟨g, 0, none⟩ (.int .u64 (q.a : Int))).setCell ⟨g, 1, none⟩ (.int .u64 (q.b : Int))).setCell ⟨g, 2, none⟩ (.int .u64 (q.c : Int))).setCell ⟨g, 3, none⟩ (.int .u64 (q.d : Int))) g q := by
  have h1 : SBlk _ _ _ := h.setW (k := 0) (by omega) q.a
  have h2 : SBlk _ _ _ := h1.setW (k := 1) (by omega) q.b
  have h3 : SBlk _ _ _ := h2.setW (k := 2) (by omega) q.c
  have h4 : SBlk _ _ _ := h3.setW (k := 3) (by omega) q.d
  exact h4
theorem Blk.far4 {w : World} {g g' : Nat} {t : TypeId} {cs : Array Value} (h : Blk w g' t cs) (hne : g ≠ g') (q : Q4) : Blk (((((w).setCell ⟨g, 0, none⟩ (.int .u64 (q.a : Int))).setCell ⟨g, 1, none⟩ (.int .u64 (q.b : Int))).setCell ⟨g, 2, none⟩ (.int .u64 (q.c : Int))).setCell ⟨g, 3, none⟩ (.int .u64 (q.d : Int))) g' t cs := (((h.far (by dsimp only; omega) _).far (by dsimp only; omega) _).far (by dsimp only; omega) _).far (by dsimp only; omega) _
theorem KeptOff.put4 {w wr : World} {g g' : Nat} (h : KeptOff w wr g) (hg : w.heap.size ≤ g') (q : Q4) : KeptOff w (((((wr).setCell ⟨g', 0, none⟩ (.int .u64 (q.a : Int))).setCell ⟨g', 1, none⟩ (.int .u64 (q.b : Int))).setCell ⟨g', 2, none⟩ (.int .u64 (q.c : Int))).setCell ⟨g', 3, none⟩ (.int .u64 (q.d : Int))) g := (((h.new_ (p := ⟨g', 0, none⟩) hg _).new_ (p := ⟨g', 1, none⟩) hg _).new_ (p := ⟨g', 2, none⟩) hg _).new_ (p := ⟨g', 3, none⟩) hg _
/-- the reader's box, the result's and a set's -/
structure Gp (w : World) (g : Nat) (s : ByteArray) (x : Sx) (op : Int) (q : Q4) (wr : World) : Prop where
  rd : Rd wr g s x op
  re : SBlk wr w.heap.size ⟨0, 0, 0, 0⟩
  se : SBlk wr (w.heap.size + 1) q
  ko : KeptOff w wr g
  lt : g < w.heap.size
section
variable {w wr wr' : World} {g : Nat} {s : ByteArray} {x : Sx} {op : Int} {q : Q4}
theorem Gp.step (h : Gp w g s x op q wr) (hb : Below wr.heap.size wr wr') : Gp w g s x op q wr' := ⟨h.rd.below hb, Blk.below h.re hb (Blk.lt h.re), Blk.below h.se hb (Blk.lt h.se), h.ko.tr (KeptOff.of_below hb), h.lt⟩
theorem Gp.put (h : Gp w g s x op q wr) (r : Q4) : Gp w g s x op r (((((wr).setCell ⟨w.heap.size + 1, 0, none⟩ (.int .u64 (r.a : Int))).setCell ⟨w.heap.size + 1, 1, none⟩ (.int .u64 (r.b : Int))).setCell ⟨w.heap.size + 1, 2, none⟩ (.int .u64 (r.c : Int))).setCell ⟨w.heap.size + 1, 3, none⟩ (.int .u64 (r.d : Int))) := ⟨Blk.far4 h.rd (by have := h.lt; omega) r, Blk.far4 h.re (by omega) r, set_put h.se r, h.ko.put4 (by omega) r, h.lt⟩
theorem Gp.go (h : Gp w g s x op q wr) : Gp w g s x.up.up op q (wr.setCell ⟨g, 1, none⟩ (.int .i64 ((x.p : Int) + 2))) := by
  have hlt := h.lt
  refine ⟨?_, Blk.far h.re (by dsimp only; omega) _, Blk.far h.se (by dsimp only; omega) _, h.ko.set_ 1 _, h.lt⟩
  have h2 := h.rd.setP (x.p + 2)
  rw [show ((x.p + 2 : Nat) : Int) = (x.p : Int) + 2 by omega] at h2
  exact h2
end
/-- what group answers -/
def GrRes (s : ByteArray) (x : Sx) (op : Int) (g : Nat) (w : World) (e : Ending) (w' : World) : Prop := ∃ (q : Q4) (ok : Bool), e = .returned (.tuple #[.agg #[.int .u64 (q.a : Int), .int .u64 (q.b : Int), .int .u64 (q.c : Int), .int .u64 (q.d : Int)], .bool ok]) ∧ ok = (gr s x).isSome ∧ (∀ f, gr s x = some f → SetOf q f) ∧ q.ok ∧ Rd w' g s (if ok = true then x.up.up else x) op ∧ KeptOff w w' g
set_option maxRecDepth 100000 in
set_option maxHeartbeats 8000000 in
theorem group_any (s : ByteArray) (hs : s.size ≤ 200) (x : Sx) (op : Int) (g : Nat) (w : World) (he : x.e = 0) (hp : x.p ≤ s.size) (hR : Rd w g s x op) :
    Calls Try.prog 87 #[.pointer (some ⟨g, 0, none⟩)] w (GrRes s x op g w) := by
  obtain ⟨W, hW⟩ : ∃ W, w.alloc (.cells #[.int .u64 0, .int .u64 0, .int .u64 0, .int .u64 0] 24) = W := ⟨_, rfl⟩
  have hWR : Rd W g s x op := by rw [← hW]; exact Blk.alloc hR _
  have hWS : SBlk W w.heap.size ⟨0, 0, 0, 0⟩ := by rw [← hW]; exact SBlk.new w
  have hWK : KeptOff w W g := by rw [← hW]; exact KeptOff.refl.alloc _
  have hglt : g < w.heap.size := Blk.lt hR
  have CN : Hid (∀ n, Calls Try.prog 47 #[.pointer (some ⟨g, 0, none⟩)] (W.drewN n) fun e w'' => e = .returned (.int .i64 (nx s x)) ∧ ∃ m, w'' = W.drewN m) := Lib.hid fun n => (next_any s x op g _ hp (hWR.drewN n)).mono fun e w'' h => ⟨h.1, by obtain ⟨q, hq⟩ := h.2; exact ⟨_, hq.trans (World.drewN_drewN _ _ _)⟩⟩
  obtain ⟨c0, c1, c2, c3⟩ := hWR.facts
  have HR := Lib.hid hWR
  have HS := Lib.hid hWS
  have HK := Lib.hid hWK
  have hWz : W.heap.size = w.heap.size + 1 := by rw [← hW]; simp
  clear hR hWR hWS hWK
  by_cases h92 : nx s x = 92
  · have hx := nx_some (s := s) (x := x) (by omega)
    by_cases hend : x.p + 1 = s.size
    · have hnu : nx s x.up = -1 := nx_end fun k => by have := k.2; have e : x.up.p = x.p + 1 := rfl; omega
      have CN : Hid (∀ n, Calls Try.prog 47 #[.pointer (some ⟨g, 0, none⟩)] (W.drewN n) fun e w'' => e = .returned (.int .i64 92) ∧ ∃ m, w'' = W.drewN m) := Lib.hid (by rw [← h92]; exact CN.out)
      have hw1 : IntKind.i64.wrap ((x.p : Int) + 1) = (s.size : Int) := by rw [← hend]; exact IntWalk.i64_in _ (by omega)
      have HG : Hid (gr s x = none) := Lib.hid (by unfold gr; rw [if_pos h92, hnu, if_neg (by decide), if_neg (by decide), if_neg (by decide)])
      go_enter Try.func87, Try.ntmps87
      go_wp2_with fail
      go_quiet (first | (go_at_call 47; exact CN.out _))
      obtain ⟨V, hV⟩ : ∃ V, W.drewN nq = V := ⟨_, rfl⟩
      rw [hV]
      have hVS : SBlk V w.heap.size ⟨0, 0, 0, 0⟩ := by rw [← hV]; exact HS.out
      have hVR : Rd V g s x op := by rw [← hV]; exact HR.out.drewN _
      have hVK : KeptOff w V g := by rw [← hV]; exact HK.out.drewN _
      have r0 : V.cell? ⟨w.heap.size, 0, none⟩ = some (.int .u64 0) := hVS.cell (k := 0) (by omega)
      have f0 : V.frozen? ⟨w.heap.size, 0, none⟩ = false := Blk.frozen hVS 0
      have r1 : V.cell? ⟨w.heap.size, 1, none⟩ = some (.int .u64 0) := hVS.cell (k := 1) (by omega)
      have f1 : V.frozen? ⟨w.heap.size, 1, none⟩ = false := Blk.frozen hVS 1
      have r2 : V.cell? ⟨w.heap.size, 2, none⟩ = some (.int .u64 0) := hVS.cell (k := 2) (by omega)
      have f2 : V.frozen? ⟨w.heap.size, 2, none⟩ = false := Blk.frozen hVS 2
      have r3 : V.cell? ⟨w.heap.size, 3, none⟩ = some (.int .u64 0) := hVS.cell (k := 3) (by omega)
      have f3 : V.frozen? ⟨w.heap.size, 3, none⟩ = false := Blk.frozen hVS 3
      have HZ := Lib.hid (set_put hVS ⟨0, 0, 0, 0⟩)
      have HZK := Lib.hid (hVK.put4 (Nat.le_refl _) ⟨0, 0, 0, 0⟩)
      have HZR := Lib.hid (Blk.far4 hVR (by omega : w.heap.size ≠ g) ⟨0, 0, 0, 0⟩)
      clear h92 hend hV hVS hVR hVK hW hWz
      go_wp2_with fail
      obtain ⟨wz, hwz⟩ : ∃ wz, wz = (((V.setCell ⟨w.heap.size, 0, none⟩ (.int .u64 0)).setCell ⟨w.heap.size, 1, none⟩ (.int .u64 0)).setCell ⟨w.heap.size, 2, none⟩ (.int .u64 0)).setCell ⟨w.heap.size, 3, none⟩ (.int .u64 0) := ⟨_, rfl⟩
      have hz : SBlk wz w.heap.size ⟨0, 0, 0, 0⟩ := by rw [hwz]; exact HZ.out
      have hzk : KeptOff w wz g := by rw [hwz]; exact HZK.out
      have hzr : Rd wz g s x op := by rw [hwz]; exact HZR.out
      rw [← hwz]
      have z0 : wz.cell? ⟨w.heap.size, 0, none⟩ = some (.int .u64 0) := hz.cell (k := 0) (by omega)
      have z1 : wz.cell? ⟨w.heap.size, 1, none⟩ = some (.int .u64 0) := hz.cell (k := 1) (by omega)
      have z2 : wz.cell? ⟨w.heap.size, 2, none⟩ = some (.int .u64 0) := hz.cell (k := 2) (by omega)
      have z3 : wz.cell? ⟨w.heap.size, 3, none⟩ = some (.int .u64 0) := hz.cell (k := 3) (by omega)
      refine bodyPost_ret (v := .tuple #[.agg #[.int .u64 0, .int .u64 0, .int .u64 0, .int .u64 0], .bool false]) (by simp [results, Try.results87, go_sem, z0, z1, z2, z3]) rfl ⟨⟨0, 0, 0, 0⟩, false, rfl, by rw [HG.out]; rfl, (fun f hf => by rw [HG.out] at hf; cases hf), ⟨by decide, by decide, by decide, by decide⟩, hzr, hzk⟩
    · have hlt : x.p + 1 < s.size := by omega
      have hnu : nx s x.up = (s[x.p + 1].toNat : Int) := nx_at (x := x.up) he hlt
      have CN : Hid (∀ n, Calls Try.prog 47 #[.pointer (some ⟨g, 0, none⟩)] (W.drewN n) fun e w'' => e = .returned (.int .i64 92) ∧ ∃ m, w'' = W.drewN m) := Lib.hid (by rw [← h92]; exact CN.out)
      have hw1 : IntKind.i64.wrap ((x.p : Int) + 1) = (x.p : Int) + 1 := IntWalk.i64_in _ (by omega)
      have hw1' : IntKind.i64.wrap ((x.p : Int) + 2) = (x.p : Int) + 2 := IntWalk.i64_in _ (by omega)
      have fne : ((x.p : Int) + 1 == (s.size : Int)) = false := by rw [beq_eq_false_iff_ne]; omega
      go_enter Try.func87, Try.ntmps87
      go_wp2_with fail
      go_quiet (first | (go_at_call 47; exact CN.out _))
      obtain ⟨V, hV⟩ : ∃ V, W.drewN nq = V := ⟨_, rfl⟩
      rw [hV]
      have hVz : V.heap.size = w.heap.size + 1 := by rw [← hV]; exact hWz
      have hVS : SBlk V w.heap.size ⟨0, 0, 0, 0⟩ := by rw [← hV]; exact HS.out
      have hVR : Rd V g s x op := by rw [← hV]; exact HR.out.drewN _
      have hVK : KeptOff w V g := by rw [← hV]; exact HK.out.drewN _
      have hU0 : Gp w g s x op ⟨0, 0, 0, 0⟩ (V.alloc (.cells #[.int .u64 0, .int .u64 0, .int .u64 0, .int .u64 0] 24)) := ⟨Blk.alloc hVR _, Blk.alloc hVS _, by have := SBlk.new V; rw [hVz] at this; exact this, hVK.alloc _, hglt⟩
      clear hV hVS hVR hVK hW hWz c0 c1 c2 c3
      go_upto_region 4 with fail
      obtain ⟨U, hU⟩ : ∃ U, V.alloc (.cells #[.int .u64 0, .int .u64 0, .int .u64 0, .int .u64 0] 24) = U := ⟨_, rfl⟩
      rw [hU] at hU0 ⊢
      obtain ⟨c0, c1, c2, c3⟩ := hU0.rd.facts
      have i0 : (0 : Int) ≤ (x.p : Int) + 1 := by omega
      have i1 : (x.p : Int) + 1 < (s.size : Int) := by omega
      have i2 : ((x.p : Int) + 1).toNat = x.p + 1 := by omega
      have HU := Lib.hid hU0
      clear hU hU0 hVz
      go_wp2_with fail
      go_quiet (fail)
      obtain ⟨Y, hY⟩ : ∃ Y, U.drewN nq = Y := ⟨_, rfl⟩
      rw [hY]
      have HY : Hid (Gp w g s x op ⟨0, 0, 0, 0⟩ Y) := Lib.hid (by rw [← hY]; exact HU.out.step (below_drewN (Below.refl _ _) nq))
      have hgr : gr s x = if nx s x.up = 100 then some gD else if nx s x.up = 119 then some gW else if nx s x.up = 115 then some gS else none := by unfold gr; rw [if_pos h92]
      rw [hnu] at hgr
      clear hY c0 c1 c2 c3 h92 hend HU HR HS HK CN hnu fne
      by_cases h100 : s[x.p + 1].toNat = 100
      · have e100 : ((s[x.p + 1].toNat : Int) == 100) = true := by rw [beq_iff_eq]; omega
        have HG : Hid (gr s x = some gD) := Lib.hid (by rw [hgr, if_pos (by omega)])
        clear hgr h100
        go_wp2_with fail
        refine (rangeA 48 57 (by omega) _).mono ?_
        rintro e w21 ⟨q21, rfl, hq21, hb21⟩
        have H21 := Lib.hid (HY.out.step hb21)
        have Q21 := Lib.hid hq21
        clear hb21 hq21
        have HQ : Hid (SetOf q21 gD) := Lib.hid Q21.out
        have s0 : w21.cell? ⟨w.heap.size + 1, 0, none⟩ = some (.int .u64 0) := H21.out.se.cell (k := 0) (by omega)
        have g0 : w21.frozen? ⟨w.heap.size + 1, 0, none⟩ = false := Blk.frozen H21.out.se 0
        have s1 : w21.cell? ⟨w.heap.size + 1, 1, none⟩ = some (.int .u64 0) := H21.out.se.cell (k := 1) (by omega)
        have g1 : w21.frozen? ⟨w.heap.size + 1, 1, none⟩ = false := Blk.frozen H21.out.se 1
        have s2 : w21.cell? ⟨w.heap.size + 1, 2, none⟩ = some (.int .u64 0) := H21.out.se.cell (k := 2) (by omega)
        have g2 : w21.frozen? ⟨w.heap.size + 1, 2, none⟩ = false := Blk.frozen H21.out.se 2
        have s3 : w21.cell? ⟨w.heap.size + 1, 3, none⟩ = some (.int .u64 0) := H21.out.se.cell (k := 3) (by omega)
        have g3 : w21.frozen? ⟨w.heap.size + 1, 3, none⟩ = false := Blk.frozen H21.out.se 3
        have HP := Lib.hid (H21.out.put q21)
        go_upto_region 12 with fail
        obtain ⟨w6, hw6⟩ : ∃ w6, (((((w21).setCell ⟨w.heap.size + 1, 0, none⟩ (.int .u64 (q21.a : Int))).setCell ⟨w.heap.size + 1, 1, none⟩ (.int .u64 (q21.b : Int))).setCell ⟨w.heap.size + 1, 2, none⟩ (.int .u64 (q21.c : Int))).setCell ⟨w.heap.size + 1, 3, none⟩ (.int .u64 (q21.d : Int))) = w6 := ⟨_, rfl⟩
        have HG6 : Hid (Gp w g s x op q21 w6) := Lib.hid (by rw [← hw6]; exact HP.out)
        rw [hw6]
        clear hw6 HP s0 s1 s2 s3 g0 g1 g2 g3
        obtain ⟨c0, c1, c2, c3⟩ := HG6.out.rd.facts
        have cf : w6.frozen? ⟨g, 1, none⟩ = false := Blk.frozen HG6.out.rd 1
        have HP := Lib.hid HG6.out.go
        go_upto_region 13 with fail
        obtain ⟨w7, hw7⟩ : ∃ w7, w6.setCell ⟨g, 1, none⟩ (.int .i64 ((x.p : Int) + 2)) = w7 := ⟨_, rfl⟩
        have HG7 : Hid (Gp w g s x.up.up op q21 w7) := Lib.hid (by rw [← hw7]; exact HP.out)
        rw [hw7]
        clear hw7 HP c0 c1 c2 c3 cf
        have s0 : w7.cell? ⟨w.heap.size + 1, 0, none⟩ = some (.int .u64 (q21.a : Int)) := HG7.out.se.cell (k := 0) (by omega)
        have s1 : w7.cell? ⟨w.heap.size + 1, 1, none⟩ = some (.int .u64 (q21.b : Int)) := HG7.out.se.cell (k := 1) (by omega)
        have s2 : w7.cell? ⟨w.heap.size + 1, 2, none⟩ = some (.int .u64 (q21.c : Int)) := HG7.out.se.cell (k := 2) (by omega)
        have s3 : w7.cell? ⟨w.heap.size + 1, 3, none⟩ = some (.int .u64 (q21.d : Int)) := HG7.out.se.cell (k := 3) (by omega)
        have t0 : w7.cell? ⟨w.heap.size, 0, none⟩ = some (.int .u64 0) := HG7.out.re.cell (k := 0) (by omega)
        have g0 : w7.frozen? ⟨w.heap.size, 0, none⟩ = false := Blk.frozen HG7.out.re 0
        have t1 : w7.cell? ⟨w.heap.size, 1, none⟩ = some (.int .u64 0) := HG7.out.re.cell (k := 1) (by omega)
        have g1 : w7.frozen? ⟨w.heap.size, 1, none⟩ = false := Blk.frozen HG7.out.re 1
        have t2 : w7.cell? ⟨w.heap.size, 2, none⟩ = some (.int .u64 0) := HG7.out.re.cell (k := 2) (by omega)
        have g2 : w7.frozen? ⟨w.heap.size, 2, none⟩ = false := Blk.frozen HG7.out.re 2
        have t3 : w7.cell? ⟨w.heap.size, 3, none⟩ = some (.int .u64 0) := HG7.out.re.cell (k := 3) (by omega)
        have g3 : w7.frozen? ⟨w.heap.size, 3, none⟩ = false := Blk.frozen HG7.out.re 3
        have HZ := Lib.hid (set_put HG7.out.re q21)
        have HZK := Lib.hid (HG7.out.ko.put4 (Nat.le_refl _) q21)
        have HZR := Lib.hid (Blk.far4 HG7.out.rd (by omega : w.heap.size ≠ g) q21)
        clear HG7
        go_wp2_with fail
        obtain ⟨wz, hwz⟩ : ∃ wz, wz = (((((w7).setCell ⟨w.heap.size, 0, none⟩ (.int .u64 (q21.a : Int))).setCell ⟨w.heap.size, 1, none⟩ (.int .u64 (q21.b : Int))).setCell ⟨w.heap.size, 2, none⟩ (.int .u64 (q21.c : Int))).setCell ⟨w.heap.size, 3, none⟩ (.int .u64 (q21.d : Int))) := ⟨_, rfl⟩
        have hz : SBlk wz w.heap.size q21 := by rw [hwz]; exact HZ.out
        have hzk : KeptOff w wz g := by rw [hwz]; exact HZK.out
        have hzr : Rd wz g s x.up.up op := by rw [hwz]; exact HZR.out
        rw [← hwz]
        have z0 : wz.cell? ⟨w.heap.size, 0, none⟩ = some (.int .u64 (q21.a : Int)) := hz.cell (k := 0) (by omega)
        have z1 : wz.cell? ⟨w.heap.size, 1, none⟩ = some (.int .u64 (q21.b : Int)) := hz.cell (k := 1) (by omega)
        have z2 : wz.cell? ⟨w.heap.size, 2, none⟩ = some (.int .u64 (q21.c : Int)) := hz.cell (k := 2) (by omega)
        have z3 : wz.cell? ⟨w.heap.size, 3, none⟩ = some (.int .u64 (q21.d : Int)) := hz.cell (k := 3) (by omega)
        refine bodyPost_ret (v := .tuple #[.agg #[.int .u64 (q21.a : Int), .int .u64 (q21.b : Int), .int .u64 (q21.c : Int), .int .u64 (q21.d : Int)], .bool true]) (by simp [results, Try.results87, go_sem, z0, z1, z2, z3]) rfl ⟨q21, true, rfl, by rw [HG.out]; rfl, (fun f hf => by rw [HG.out] at hf; cases hf; exact HQ.out), HQ.out.1, hzr, hzk⟩
      · have e100 : ((s[x.p + 1].toNat : Int) == 100) = false := by rw [beq_eq_false_iff_ne]; omega
        have n100 : ¬ (s[x.p + 1].toNat : Int) = 100 := by omega
        by_cases h119 : s[x.p + 1].toNat = 119
        · have e119 : ((s[x.p + 1].toNat : Int) == 119) = true := by rw [beq_iff_eq]; omega
          have HG : Hid (gr s x = some gW) := Lib.hid (by rw [hgr, if_neg n100, if_pos (by omega)])
          clear hgr h119
          go_wp2_with fail
          refine (rangeA 97 122 (by omega) _).mono ?_
          rintro e w21 ⟨q21, rfl, hq21, hb21⟩
          have H21 := Lib.hid (HY.out.step hb21)
          have Q21 := Lib.hid hq21
          clear hb21 hq21
          go_wp2_with fail
          refine (rangeA 65 90 (by omega) _).mono ?_
          rintro e w22 ⟨q22, rfl, hq22, hb22⟩
          have H22 := Lib.hid (H21.out.step hb22)
          have Q22 := Lib.hid hq22
          clear hb22 hq22
          go_wp2_with fail
          refine (unionA q21 q22 Q21.out.1 Q22.out.1 _).mono ?_
          rintro e w23 ⟨q23, rfl, hq23, hb23⟩
          have H23 := Lib.hid (H22.out.step hb23)
          have Q23 := Lib.hid (or_is Q21.out Q22.out)
          rw [← hq23] at Q23
          clear hb23 hq23
          go_wp2_with fail
          refine (rangeA 48 57 (by omega) _).mono ?_
          rintro e w24 ⟨q24, rfl, hq24, hb24⟩
          have H24 := Lib.hid (H23.out.step hb24)
          have Q24 := Lib.hid hq24
          clear hb24 hq24
          go_wp2_with fail
          refine (rangeA 95 95 (by omega) _).mono ?_
          rintro e w25 ⟨q25, rfl, hq25, hb25⟩
          have H25 := Lib.hid (H24.out.step hb25)
          have Q25 := Lib.hid hq25
          clear hb25 hq25
          go_wp2_with fail
          refine (unionA q24 q25 Q24.out.1 Q25.out.1 _).mono ?_
          rintro e w26 ⟨q26, rfl, hq26, hb26⟩
          have H26 := Lib.hid (H25.out.step hb26)
          have Q26 := Lib.hid (or_is Q24.out Q25.out)
          rw [← hq26] at Q26
          clear hb26 hq26
          go_wp2_with fail
          refine (unionA q23 q26 Q23.out.1 Q26.out.1 _).mono ?_
          rintro e w27 ⟨q27, rfl, hq27, hb27⟩
          have H27 := Lib.hid (H26.out.step hb27)
          have Q27 := Lib.hid (or_is Q23.out Q26.out)
          rw [← hq27] at Q27
          clear hb27 hq27
          have HQ : Hid (SetOf q27 gW) := Lib.hid Q27.out
          have s0 : w27.cell? ⟨w.heap.size + 1, 0, none⟩ = some (.int .u64 0) := H27.out.se.cell (k := 0) (by omega)
          have g0 : w27.frozen? ⟨w.heap.size + 1, 0, none⟩ = false := Blk.frozen H27.out.se 0
          have s1 : w27.cell? ⟨w.heap.size + 1, 1, none⟩ = some (.int .u64 0) := H27.out.se.cell (k := 1) (by omega)
          have g1 : w27.frozen? ⟨w.heap.size + 1, 1, none⟩ = false := Blk.frozen H27.out.se 1
          have s2 : w27.cell? ⟨w.heap.size + 1, 2, none⟩ = some (.int .u64 0) := H27.out.se.cell (k := 2) (by omega)
          have g2 : w27.frozen? ⟨w.heap.size + 1, 2, none⟩ = false := Blk.frozen H27.out.se 2
          have s3 : w27.cell? ⟨w.heap.size + 1, 3, none⟩ = some (.int .u64 0) := H27.out.se.cell (k := 3) (by omega)
          have g3 : w27.frozen? ⟨w.heap.size + 1, 3, none⟩ = false := Blk.frozen H27.out.se 3
          have HP := Lib.hid (H27.out.put q27)
          go_upto_region 12 with fail
          obtain ⟨w6, hw6⟩ : ∃ w6, (((((w27).setCell ⟨w.heap.size + 1, 0, none⟩ (.int .u64 (q27.a : Int))).setCell ⟨w.heap.size + 1, 1, none⟩ (.int .u64 (q27.b : Int))).setCell ⟨w.heap.size + 1, 2, none⟩ (.int .u64 (q27.c : Int))).setCell ⟨w.heap.size + 1, 3, none⟩ (.int .u64 (q27.d : Int))) = w6 := ⟨_, rfl⟩
          have HG6 : Hid (Gp w g s x op q27 w6) := Lib.hid (by rw [← hw6]; exact HP.out)
          rw [hw6]
          clear hw6 HP s0 s1 s2 s3 g0 g1 g2 g3
          obtain ⟨c0, c1, c2, c3⟩ := HG6.out.rd.facts
          have cf : w6.frozen? ⟨g, 1, none⟩ = false := Blk.frozen HG6.out.rd 1
          have HP := Lib.hid HG6.out.go
          go_upto_region 13 with fail
          obtain ⟨w7, hw7⟩ : ∃ w7, w6.setCell ⟨g, 1, none⟩ (.int .i64 ((x.p : Int) + 2)) = w7 := ⟨_, rfl⟩
          have HG7 : Hid (Gp w g s x.up.up op q27 w7) := Lib.hid (by rw [← hw7]; exact HP.out)
          rw [hw7]
          clear hw7 HP c0 c1 c2 c3 cf
          have s0 : w7.cell? ⟨w.heap.size + 1, 0, none⟩ = some (.int .u64 (q27.a : Int)) := HG7.out.se.cell (k := 0) (by omega)
          have s1 : w7.cell? ⟨w.heap.size + 1, 1, none⟩ = some (.int .u64 (q27.b : Int)) := HG7.out.se.cell (k := 1) (by omega)
          have s2 : w7.cell? ⟨w.heap.size + 1, 2, none⟩ = some (.int .u64 (q27.c : Int)) := HG7.out.se.cell (k := 2) (by omega)
          have s3 : w7.cell? ⟨w.heap.size + 1, 3, none⟩ = some (.int .u64 (q27.d : Int)) := HG7.out.se.cell (k := 3) (by omega)
          have t0 : w7.cell? ⟨w.heap.size, 0, none⟩ = some (.int .u64 0) := HG7.out.re.cell (k := 0) (by omega)
          have g0 : w7.frozen? ⟨w.heap.size, 0, none⟩ = false := Blk.frozen HG7.out.re 0
          have t1 : w7.cell? ⟨w.heap.size, 1, none⟩ = some (.int .u64 0) := HG7.out.re.cell (k := 1) (by omega)
          have g1 : w7.frozen? ⟨w.heap.size, 1, none⟩ = false := Blk.frozen HG7.out.re 1
          have t2 : w7.cell? ⟨w.heap.size, 2, none⟩ = some (.int .u64 0) := HG7.out.re.cell (k := 2) (by omega)
          have g2 : w7.frozen? ⟨w.heap.size, 2, none⟩ = false := Blk.frozen HG7.out.re 2
          have t3 : w7.cell? ⟨w.heap.size, 3, none⟩ = some (.int .u64 0) := HG7.out.re.cell (k := 3) (by omega)
          have g3 : w7.frozen? ⟨w.heap.size, 3, none⟩ = false := Blk.frozen HG7.out.re 3
          have HZ := Lib.hid (set_put HG7.out.re q27)
          have HZK := Lib.hid (HG7.out.ko.put4 (Nat.le_refl _) q27)
          have HZR := Lib.hid (Blk.far4 HG7.out.rd (by omega : w.heap.size ≠ g) q27)
          clear HG7
          go_wp2_with fail
          obtain ⟨wz, hwz⟩ : ∃ wz, wz = (((((w7).setCell ⟨w.heap.size, 0, none⟩ (.int .u64 (q27.a : Int))).setCell ⟨w.heap.size, 1, none⟩ (.int .u64 (q27.b : Int))).setCell ⟨w.heap.size, 2, none⟩ (.int .u64 (q27.c : Int))).setCell ⟨w.heap.size, 3, none⟩ (.int .u64 (q27.d : Int))) := ⟨_, rfl⟩
          have hz : SBlk wz w.heap.size q27 := by rw [hwz]; exact HZ.out
          have hzk : KeptOff w wz g := by rw [hwz]; exact HZK.out
          have hzr : Rd wz g s x.up.up op := by rw [hwz]; exact HZR.out
          rw [← hwz]
          have z0 : wz.cell? ⟨w.heap.size, 0, none⟩ = some (.int .u64 (q27.a : Int)) := hz.cell (k := 0) (by omega)
          have z1 : wz.cell? ⟨w.heap.size, 1, none⟩ = some (.int .u64 (q27.b : Int)) := hz.cell (k := 1) (by omega)
          have z2 : wz.cell? ⟨w.heap.size, 2, none⟩ = some (.int .u64 (q27.c : Int)) := hz.cell (k := 2) (by omega)
          have z3 : wz.cell? ⟨w.heap.size, 3, none⟩ = some (.int .u64 (q27.d : Int)) := hz.cell (k := 3) (by omega)
          refine bodyPost_ret (v := .tuple #[.agg #[.int .u64 (q27.a : Int), .int .u64 (q27.b : Int), .int .u64 (q27.c : Int), .int .u64 (q27.d : Int)], .bool true]) (by simp [results, Try.results87, go_sem, z0, z1, z2, z3]) rfl ⟨q27, true, rfl, by rw [HG.out]; rfl, (fun f hf => by rw [HG.out] at hf; cases hf; exact HQ.out), HQ.out.1, hzr, hzk⟩
        · have e119 : ((s[x.p + 1].toNat : Int) == 119) = false := by rw [beq_eq_false_iff_ne]; omega
          have n119 : ¬ (s[x.p + 1].toNat : Int) = 119 := by omega
          by_cases h115 : s[x.p + 1].toNat = 115
          · have e115 : ((s[x.p + 1].toNat : Int) == 115) = true := by rw [beq_iff_eq]; omega
            have HG : Hid (gr s x = some gS) := Lib.hid (by rw [hgr, if_neg n100, if_neg n119, if_pos (by omega)])
            clear hgr h115
            go_wp2_with fail
            refine (rangeA 9 13 (by omega) _).mono ?_
            rintro e w21 ⟨q21, rfl, hq21, hb21⟩
            have H21 := Lib.hid (HY.out.step hb21)
            have Q21 := Lib.hid hq21
            clear hb21 hq21
            go_wp2_with fail
            refine (rangeA 32 32 (by omega) _).mono ?_
            rintro e w22 ⟨q22, rfl, hq22, hb22⟩
            have H22 := Lib.hid (H21.out.step hb22)
            have Q22 := Lib.hid hq22
            clear hb22 hq22
            go_wp2_with fail
            refine (unionA q21 q22 Q21.out.1 Q22.out.1 _).mono ?_
            rintro e w23 ⟨q23, rfl, hq23, hb23⟩
            have H23 := Lib.hid (H22.out.step hb23)
            have Q23 := Lib.hid (or_is Q21.out Q22.out)
            rw [← hq23] at Q23
            clear hb23 hq23
            have HQ : Hid (SetOf q23 gS) := Lib.hid Q23.out
            have s0 : w23.cell? ⟨w.heap.size + 1, 0, none⟩ = some (.int .u64 0) := H23.out.se.cell (k := 0) (by omega)
            have g0 : w23.frozen? ⟨w.heap.size + 1, 0, none⟩ = false := Blk.frozen H23.out.se 0
            have s1 : w23.cell? ⟨w.heap.size + 1, 1, none⟩ = some (.int .u64 0) := H23.out.se.cell (k := 1) (by omega)
            have g1 : w23.frozen? ⟨w.heap.size + 1, 1, none⟩ = false := Blk.frozen H23.out.se 1
            have s2 : w23.cell? ⟨w.heap.size + 1, 2, none⟩ = some (.int .u64 0) := H23.out.se.cell (k := 2) (by omega)
            have g2 : w23.frozen? ⟨w.heap.size + 1, 2, none⟩ = false := Blk.frozen H23.out.se 2
            have s3 : w23.cell? ⟨w.heap.size + 1, 3, none⟩ = some (.int .u64 0) := H23.out.se.cell (k := 3) (by omega)
            have g3 : w23.frozen? ⟨w.heap.size + 1, 3, none⟩ = false := Blk.frozen H23.out.se 3
            have HP := Lib.hid (H23.out.put q23)
            go_upto_region 12 with fail
            obtain ⟨w6, hw6⟩ : ∃ w6, (((((w23).setCell ⟨w.heap.size + 1, 0, none⟩ (.int .u64 (q23.a : Int))).setCell ⟨w.heap.size + 1, 1, none⟩ (.int .u64 (q23.b : Int))).setCell ⟨w.heap.size + 1, 2, none⟩ (.int .u64 (q23.c : Int))).setCell ⟨w.heap.size + 1, 3, none⟩ (.int .u64 (q23.d : Int))) = w6 := ⟨_, rfl⟩
            have HG6 : Hid (Gp w g s x op q23 w6) := Lib.hid (by rw [← hw6]; exact HP.out)
            rw [hw6]
            clear hw6 HP s0 s1 s2 s3 g0 g1 g2 g3
            obtain ⟨c0, c1, c2, c3⟩ := HG6.out.rd.facts
            have cf : w6.frozen? ⟨g, 1, none⟩ = false := Blk.frozen HG6.out.rd 1
            have HP := Lib.hid HG6.out.go
            go_upto_region 13 with fail
            obtain ⟨w7, hw7⟩ : ∃ w7, w6.setCell ⟨g, 1, none⟩ (.int .i64 ((x.p : Int) + 2)) = w7 := ⟨_, rfl⟩
            have HG7 : Hid (Gp w g s x.up.up op q23 w7) := Lib.hid (by rw [← hw7]; exact HP.out)
            rw [hw7]
            clear hw7 HP c0 c1 c2 c3 cf
            have s0 : w7.cell? ⟨w.heap.size + 1, 0, none⟩ = some (.int .u64 (q23.a : Int)) := HG7.out.se.cell (k := 0) (by omega)
            have s1 : w7.cell? ⟨w.heap.size + 1, 1, none⟩ = some (.int .u64 (q23.b : Int)) := HG7.out.se.cell (k := 1) (by omega)
            have s2 : w7.cell? ⟨w.heap.size + 1, 2, none⟩ = some (.int .u64 (q23.c : Int)) := HG7.out.se.cell (k := 2) (by omega)
            have s3 : w7.cell? ⟨w.heap.size + 1, 3, none⟩ = some (.int .u64 (q23.d : Int)) := HG7.out.se.cell (k := 3) (by omega)
            have t0 : w7.cell? ⟨w.heap.size, 0, none⟩ = some (.int .u64 0) := HG7.out.re.cell (k := 0) (by omega)
            have g0 : w7.frozen? ⟨w.heap.size, 0, none⟩ = false := Blk.frozen HG7.out.re 0
            have t1 : w7.cell? ⟨w.heap.size, 1, none⟩ = some (.int .u64 0) := HG7.out.re.cell (k := 1) (by omega)
            have g1 : w7.frozen? ⟨w.heap.size, 1, none⟩ = false := Blk.frozen HG7.out.re 1
            have t2 : w7.cell? ⟨w.heap.size, 2, none⟩ = some (.int .u64 0) := HG7.out.re.cell (k := 2) (by omega)
            have g2 : w7.frozen? ⟨w.heap.size, 2, none⟩ = false := Blk.frozen HG7.out.re 2
            have t3 : w7.cell? ⟨w.heap.size, 3, none⟩ = some (.int .u64 0) := HG7.out.re.cell (k := 3) (by omega)
            have g3 : w7.frozen? ⟨w.heap.size, 3, none⟩ = false := Blk.frozen HG7.out.re 3
            have HZ := Lib.hid (set_put HG7.out.re q23)
            have HZK := Lib.hid (HG7.out.ko.put4 (Nat.le_refl _) q23)
            have HZR := Lib.hid (Blk.far4 HG7.out.rd (by omega : w.heap.size ≠ g) q23)
            clear HG7
            go_wp2_with fail
            obtain ⟨wz, hwz⟩ : ∃ wz, wz = (((((w7).setCell ⟨w.heap.size, 0, none⟩ (.int .u64 (q23.a : Int))).setCell ⟨w.heap.size, 1, none⟩ (.int .u64 (q23.b : Int))).setCell ⟨w.heap.size, 2, none⟩ (.int .u64 (q23.c : Int))).setCell ⟨w.heap.size, 3, none⟩ (.int .u64 (q23.d : Int))) := ⟨_, rfl⟩
            have hz : SBlk wz w.heap.size q23 := by rw [hwz]; exact HZ.out
            have hzk : KeptOff w wz g := by rw [hwz]; exact HZK.out
            have hzr : Rd wz g s x.up.up op := by rw [hwz]; exact HZR.out
            rw [← hwz]
            have z0 : wz.cell? ⟨w.heap.size, 0, none⟩ = some (.int .u64 (q23.a : Int)) := hz.cell (k := 0) (by omega)
            have z1 : wz.cell? ⟨w.heap.size, 1, none⟩ = some (.int .u64 (q23.b : Int)) := hz.cell (k := 1) (by omega)
            have z2 : wz.cell? ⟨w.heap.size, 2, none⟩ = some (.int .u64 (q23.c : Int)) := hz.cell (k := 2) (by omega)
            have z3 : wz.cell? ⟨w.heap.size, 3, none⟩ = some (.int .u64 (q23.d : Int)) := hz.cell (k := 3) (by omega)
            refine bodyPost_ret (v := .tuple #[.agg #[.int .u64 (q23.a : Int), .int .u64 (q23.b : Int), .int .u64 (q23.c : Int), .int .u64 (q23.d : Int)], .bool true]) (by simp [results, Try.results87, go_sem, z0, z1, z2, z3]) rfl ⟨q23, true, rfl, by rw [HG.out]; rfl, (fun f hf => by rw [HG.out] at hf; cases hf; exact HQ.out), HQ.out.1, hzr, hzk⟩
          · have e115 : ((s[x.p + 1].toNat : Int) == 115) = false := by rw [beq_eq_false_iff_ne]; omega
            have HG : Hid (gr s x = none) := Lib.hid (by rw [hgr, if_neg n100, if_neg n119, if_neg (by omega)])
            clear hgr h115
            have s0 : Y.cell? ⟨w.heap.size, 0, none⟩ = some (.int .u64 0) := HY.out.re.cell (k := 0) (by omega)
            have g0 : Y.frozen? ⟨w.heap.size, 0, none⟩ = false := Blk.frozen HY.out.re 0
            have s1 : Y.cell? ⟨w.heap.size, 1, none⟩ = some (.int .u64 0) := HY.out.re.cell (k := 1) (by omega)
            have g1 : Y.frozen? ⟨w.heap.size, 1, none⟩ = false := Blk.frozen HY.out.re 1
            have s2 : Y.cell? ⟨w.heap.size, 2, none⟩ = some (.int .u64 0) := HY.out.re.cell (k := 2) (by omega)
            have g2 : Y.frozen? ⟨w.heap.size, 2, none⟩ = false := Blk.frozen HY.out.re 2
            have s3 : Y.cell? ⟨w.heap.size, 3, none⟩ = some (.int .u64 0) := HY.out.re.cell (k := 3) (by omega)
            have g3 : Y.frozen? ⟨w.heap.size, 3, none⟩ = false := Blk.frozen HY.out.re 3
            have HZ := Lib.hid (set_put HY.out.re ⟨0, 0, 0, 0⟩)
            have HZK := Lib.hid (HY.out.ko.put4 (Nat.le_refl _) ⟨0, 0, 0, 0⟩)
            have HZR := Lib.hid (Blk.far4 HY.out.rd (by omega : w.heap.size ≠ g) ⟨0, 0, 0, 0⟩)
            clear HY
            go_wp2_with fail
            obtain ⟨wz, hwz⟩ : ∃ wz, wz = (((Y.setCell ⟨w.heap.size, 0, none⟩ (.int .u64 0)).setCell ⟨w.heap.size, 1, none⟩ (.int .u64 0)).setCell ⟨w.heap.size, 2, none⟩ (.int .u64 0)).setCell ⟨w.heap.size, 3, none⟩ (.int .u64 0) := ⟨_, rfl⟩
            have hz : SBlk wz w.heap.size ⟨0, 0, 0, 0⟩ := by rw [hwz]; exact HZ.out
            have hzk : KeptOff w wz g := by rw [hwz]; exact HZK.out
            have hzr : Rd wz g s x op := by rw [hwz]; exact HZR.out
            rw [← hwz]
            have z0 : wz.cell? ⟨w.heap.size, 0, none⟩ = some (.int .u64 0) := hz.cell (k := 0) (by omega)
            have z1 : wz.cell? ⟨w.heap.size, 1, none⟩ = some (.int .u64 0) := hz.cell (k := 1) (by omega)
            have z2 : wz.cell? ⟨w.heap.size, 2, none⟩ = some (.int .u64 0) := hz.cell (k := 2) (by omega)
            have z3 : wz.cell? ⟨w.heap.size, 3, none⟩ = some (.int .u64 0) := hz.cell (k := 3) (by omega)
            refine bodyPost_ret (v := .tuple #[.agg #[.int .u64 0, .int .u64 0, .int .u64 0, .int .u64 0], .bool false]) (by simp [results, Try.results87, go_sem, z0, z1, z2, z3]) rfl ⟨⟨0, 0, 0, 0⟩, false, rfl, by rw [HG.out]; rfl, (fun f hf => by rw [HG.out] at hf; cases hf), ⟨by decide, by decide, by decide, by decide⟩, hzr, hzk⟩
  · have fne : (nx s x != 92) = true := by rw [bne_iff_ne]; exact h92
    have HG : Hid (gr s x = none) := Lib.hid (by unfold gr; rw [if_neg h92])
    go_enter Try.func87, Try.ntmps87
    go_wp2_with fail
    go_quiet (first | (go_at_call 47; exact CN.out _))
    obtain ⟨V, hV⟩ : ∃ V, W.drewN nq = V := ⟨_, rfl⟩
    rw [hV]
    have hVS : SBlk V w.heap.size ⟨0, 0, 0, 0⟩ := by rw [← hV]; exact HS.out
    have hVR : Rd V g s x op := by rw [← hV]; exact HR.out.drewN _
    have hVK : KeptOff w V g := by rw [← hV]; exact HK.out.drewN _
    have r0 : V.cell? ⟨w.heap.size, 0, none⟩ = some (.int .u64 0) := hVS.cell (k := 0) (by omega)
    have f0 : V.frozen? ⟨w.heap.size, 0, none⟩ = false := Blk.frozen hVS 0
    have r1 : V.cell? ⟨w.heap.size, 1, none⟩ = some (.int .u64 0) := hVS.cell (k := 1) (by omega)
    have f1 : V.frozen? ⟨w.heap.size, 1, none⟩ = false := Blk.frozen hVS 1
    have r2 : V.cell? ⟨w.heap.size, 2, none⟩ = some (.int .u64 0) := hVS.cell (k := 2) (by omega)
    have f2 : V.frozen? ⟨w.heap.size, 2, none⟩ = false := Blk.frozen hVS 2
    have r3 : V.cell? ⟨w.heap.size, 3, none⟩ = some (.int .u64 0) := hVS.cell (k := 3) (by omega)
    have f3 : V.frozen? ⟨w.heap.size, 3, none⟩ = false := Blk.frozen hVS 3
    have HZ := Lib.hid (set_put hVS ⟨0, 0, 0, 0⟩)
    have HZK := Lib.hid (hVK.put4 (Nat.le_refl _) ⟨0, 0, 0, 0⟩)
    have HZR := Lib.hid (Blk.far4 hVR (by omega : w.heap.size ≠ g) ⟨0, 0, 0, 0⟩)
    clear h92 hV hVS hVR hVK hW hWz
    go_wp2_with fail
    obtain ⟨wz, hwz⟩ : ∃ wz, wz = (((V.setCell ⟨w.heap.size, 0, none⟩ (.int .u64 0)).setCell ⟨w.heap.size, 1, none⟩ (.int .u64 0)).setCell ⟨w.heap.size, 2, none⟩ (.int .u64 0)).setCell ⟨w.heap.size, 3, none⟩ (.int .u64 0) := ⟨_, rfl⟩
    have hz : SBlk wz w.heap.size ⟨0, 0, 0, 0⟩ := by rw [hwz]; exact HZ.out
    have hzk : KeptOff w wz g := by rw [hwz]; exact HZK.out
    have hzr : Rd wz g s x op := by rw [hwz]; exact HZR.out
    rw [← hwz]
    have z0 : wz.cell? ⟨w.heap.size, 0, none⟩ = some (.int .u64 0) := hz.cell (k := 0) (by omega)
    have z1 : wz.cell? ⟨w.heap.size, 1, none⟩ = some (.int .u64 0) := hz.cell (k := 1) (by omega)
    have z2 : wz.cell? ⟨w.heap.size, 2, none⟩ = some (.int .u64 0) := hz.cell (k := 2) (by omega)
    have z3 : wz.cell? ⟨w.heap.size, 3, none⟩ = some (.int .u64 0) := hz.cell (k := 3) (by omega)
    refine bodyPost_ret (v := .tuple #[.agg #[.int .u64 0, .int .u64 0, .int .u64 0, .int .u64 0], .bool false]) (by simp [results, Try.results87, go_sem, z0, z1, z2, z3]) rfl ⟨⟨0, 0, 0, 0⟩, false, rfl, by rw [HG.out]; rfl, (fun f hf => by rw [HG.out] at hf; cases hf), ⟨by decide, by decide, by decide, by decide⟩, hzr, hzk⟩
end Go.Proofs.Ytkdcgkdbieeijaa
