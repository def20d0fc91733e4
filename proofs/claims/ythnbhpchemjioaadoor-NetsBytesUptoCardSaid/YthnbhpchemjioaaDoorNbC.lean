/- Walk: wickref.Ranges. -/
import Derived.Test.YthnbhpchemjioaaDoorNbB
import Derived.Test.YthnbhpchemjioaaDoorBoR
namespace Go.Proofs.YthnbhpchemjioaaDoor
open Go.RowKit
set_option linter.unusedVariables false
set_option linter.unusedSimpArgs false

theorem zc256 : Tryd.zeroCells108 = (List.replicate 256 (Value.bool false)).toArray := by kernel_rfl
theorem bo256 (w : World) : BoR (w.alloc (.cells Tryd.zeroCells108 108)) w.heap.size 256 (fun _ => false) := by
  have h := Blk.new w 108 Tryd.zeroCells108
  refine ⟨h.lt, fun i hi => ?_, fun i _ => h.frozen i⟩
  rw [h.cell i, zc256, List.getElem?_toArray, List.getElem?_replicate, if_pos hi]
/-- the result's block and 256 bools, made by the call -/
structure Rb2 (w wr : World) (f : Nat → Bool) : Prop where
  res : SBlk wr w.heap.size ⟨0, 0, 0, 0⟩
  row : BoR wr (w.heap.size + 1) 256 f
  be : Below w.heap.size w wr
section
variable {w wr w' : World} {f : Nat → Bool}
theorem Rb2.kept (h : Rb2 w wr f) (hb : Below wr.heap.size wr w') : Rb2 w w' f := ⟨Blk.below h.res hb (Blk.lt h.res), h.row.kept hb, h.be.trans (hb.mono h.be.size)⟩
theorem Rb2.drewN (h : Rb2 w wr f) (n : Nat) : Rb2 w (wr.drewN n) f := ⟨h.res, h.row.drewN n, below_drewN h.be n⟩
theorem Rb2.set_ (h : Rb2 w wr f) {k : Nat} (hk : k < 256) : Rb2 w (wr.setCell ⟨w.heap.size + 1, k, none⟩ (.bool true)) (fun j => if j = k then true else f j) :=
  ⟨Blk.far h.res (by dsimp only; omega) _, h.row.set_ hk true, h.be.setCell (p := ⟨w.heap.size + 1, k, none⟩) (by dsimp only; omega) _⟩
theorem Rb2.congr {g : Nat → Bool} (h : Rb2 w wr f) (e : ∀ i, i < 256 → f i = g i) : Rb2 w wr g := ⟨h.res, h.row.congr e, h.be⟩
theorem Rb2.resF (h : Rb2 w wr f) : ResF w wr :=
  ⟨h.res.cell (k := 0) (by omega), h.res.cell (k := 1) (by omega), h.res.cell (k := 2) (by omega), h.res.cell (k := 3) (by omega), Blk.frozen h.res 0, Blk.frozen h.res 1, Blk.frozen h.res 2, Blk.frozen h.res 3⟩
theorem Rb2.put_ (h : Rb2 w wr f) (q : Q4) :
    ∃ wz, wz = (((wr.setCell ⟨w.heap.size, 0, none⟩ (.int .u64 (q.a : Int))).setCell ⟨w.heap.size, 1, none⟩ (.int .u64 (q.b : Int))).setCell ⟨w.heap.size, 2, none⟩ (.int .u64 (q.c : Int))).setCell ⟨w.heap.size, 3, none⟩ (.int .u64 (q.d : Int)) ∧ Below w.heap.size w wz ∧
      wz.cell? ⟨w.heap.size, 0, none⟩ = some (.int .u64 (q.a : Int)) ∧ wz.cell? ⟨w.heap.size, 1, none⟩ = some (.int .u64 (q.b : Int)) ∧ wz.cell? ⟨w.heap.size, 2, none⟩ = some (.int .u64 (q.c : Int)) ∧ wz.cell? ⟨w.heap.size, 3, none⟩ = some (.int .u64 (q.d : Int)) := by
  have h1 : SBlk _ _ _ := h.res.setW (k := 0) (by omega) q.a
  have h2 : SBlk _ _ _ := h1.setW (k := 1) (by omega) q.b
  have h3 : SBlk _ _ _ := h2.setW (k := 2) (by omega) q.c
  have h4 : SBlk _ _ _ := h3.setW (k := 3) (by omega) q.d
  exact ⟨_, rfl, (((h.be.setCell (p := ⟨w.heap.size, 0, none⟩) (Nat.le_refl _) _).setCell (p := ⟨w.heap.size, 1, none⟩) (Nat.le_refl _) _).setCell (p := ⟨w.heap.size, 2, none⟩) (Nat.le_refl _) _).setCell (p := ⟨w.heap.size, 3, none⟩) (Nat.le_refl _) _, h4.cell (k := 0) (by omega), h4.cell (k := 1) (by omega), h4.cell (k := 2) (by omega), h4.cell (k := 3) (by omega)⟩
end
/-- Ranges$1: is it among them? -/
theorem ranges1_any (b : Nat) (g : Nat) (f : Nat → Bool) (w : World) (hb : b < 256) (h : BoR w g 256 f) :
    Calls Tryd.prog 74 #[.int .i64 (b : Int), .pointer (some ⟨g, 0, none⟩)] w fun e w' => e = .returned (.bool (f b)) ∧ Below w.heap.size w w' := by
  have y0 := h.cell b hb
  have i1 : (b : Int) < 256 := by omega
  have i2 : (0 : Int) ≤ (b : Int) := by omega
  clear h
  go_enter Tryd.func74, Tryd.ntmps74
  go_wp2_with fail
  go_ret
  exact ⟨rfl, Below.refl _ _⟩
theorem ranges1_cf (g : Nat) (b : Int) (w' : World) : (callFunc 74 #[.int .i64 b, .pointer (some ⟨g, 0, none⟩)]).run Tryd.prog w' = .ok (.enter 74 #[.int .i64 b, .pointer (some ⟨g, 0, none⟩)]) w' := by kernel_rfl
set_option maxRecDepth 100000 in
set_option maxHeartbeats 4000000 in
theorem ranges_any (s : ByteArray) (w : World) (hs : s.size ≤ 1048576) :
    Calls Tryd.prog 14 #[.string s] w (RgRes s w) := by
  obtain ⟨W, hW⟩ : ∃ W, (w.alloc (.cells #[.int .u64 0, .int .u64 0, .int .u64 0, .int .u64 0] 24)).alloc (.cells Tryd.zeroCells108 108) = W := ⟨_, rfl⟩
  have hS0 : Rb2 w W (fun _ => false) := by
    refine ⟨?_, ?_, by rw [← hW]; exact ((Below.refl _ _).alloc (Nat.le_refl _) _).alloc (by simp) _⟩
    · rw [← hW]; exact Blk.alloc (SBlk.new w) _
    · have := bo256 (w.alloc (.cells #[.int .u64 0, .int .u64 0, .int .u64 0, .int .u64 0] 24))
      rw [hW] at this; simpa using this
  have CS := Lib.hid (pieces_any s ⟨#[44]⟩ W hs (by decide) (by decide))
  have hWz : w.heap.size + 1 < W.heap.size := hS0.row.lt
  obtain ⟨L, hL⟩ : ∃ L, L = pcs s ⟨#[44]⟩ := ⟨_, rfl⟩
  have HLs : Hid (∀ x ∈ L, x.size ≤ s.size) := by rw [hL]; exact pcs_mem _ (by decide) s.size s (Nat.le_refl _)
  have hL0 : 0 < L.length := by rw [hL]; exact pcs_pos _ _ (by decide)
  have hL1 : L.length ≤ 1048577 := by rw [hL]; have := pcs_le (s := s) (t := ⟨#[44]⟩) (by decide); omega
  rw [← hL] at CS
  have HL := Lib.hid hL
  have HS0 := Lib.hid hS0
  clear hL hS0
  go_enter Tryd.func14, Tryd.ntmps14
  go_wp2_with fail
  refine CS.out.mono ?_
  rintro e w1 ⟨v, rfl, ho, b1⟩
  obtain ⟨A, c, rfl⟩ := ho.form
  obtain ⟨g, rfl, hg, hgl, _, hcell⟩ := ho.at_ hL0
  have HS1 := Lib.hid (HS0.out.kept b1)
  have HO1 : Hid (SR w1 g L) := ⟨hgl, hcell⟩
  clear ho b1 CS hW hcell
  go_wp2_with fail
  go_loopw [6] (fun u wr => ∃ (k : Nat) (f : Nat → Bool), u = .int .i64 (k : Int) ∧ k ≤ L.length ∧ Rb2 w wr f ∧ SR wr g L ∧ Hid (∀ j, j < 256 → f j = rgU (L.take k) j) ∧ Hid (∀ x ∈ L.take k, rgOk x)) (fun u _ => L.length - (intOf u).toNat)
  case atStart => exact ⟨0, _, rfl, by omega, HS1.out, HO1.out, fun b _ => rfl, fun x hx => absurd hx (by simp)⟩
  case round =>
    clear HS0 HS1 HO1
    obtain ⟨k, f, rfl, hk, hS, hO, HQ, HA⟩ := hrel
    have HS := Lib.hid hS
    have HO := Lib.hid hO
    by_cases hlk : k < L.length
    · have k1 : (k : Int) < (L.length : Int) := by omega
      have k2 : (0 : Int) ≤ (k : Int) := by omega
      obtain ⟨x, hx⟩ : ∃ x, x = L[k] := ⟨_, rfl⟩
      have y0 : wr.cell? ⟨g, k, none⟩ = some (.string x) := by rw [hx]; exact hO.cell k hlk
      have hxs : x.size ≤ s.size := HLs.out x (by rw [hx]; exact List.getElem_mem _)
      have CC := rsplit_any x ⟨#[45]⟩ wr (by omega) (by decide)
      have hsz := cutS_size x ⟨#[45]⟩
      have hbd := rg_bd x
      have HT : Hid (L.take (k + 1) = L.take k ++ [x]) := by show _ = _; rw [take_snocB hlk, hx]
      have HX : Hid (x ∈ pcs s ⟨#[44]⟩) := by show _ ∈ _; rw [← HL.out, hx]; exact List.getElem_mem _
      have hA : rgA x = (cutS x ⟨#[45]⟩).1 := rfl
      have hB : rgB x = if (cutS x ⟨#[45]⟩).2.2 = true then (cutS x ⟨#[45]⟩).2.1 else (cutS x ⟨#[45]⟩).1 := rfl
      obtain ⟨c1, hc1⟩ : ∃ c1, c1 = (cutS x ⟨#[45]⟩).1 := ⟨_, rfl⟩
      obtain ⟨c2, hc2⟩ : ∃ c2, c2 = (cutS x ⟨#[45]⟩).2.1 := ⟨_, rfl⟩
      obtain ⟨c3, hc3⟩ : ∃ c3, c3 = (cutS x ⟨#[45]⟩).2.2 := ⟨_, rfl⟩
      rw [← hc1, ← hc2, ← hc3] at CC hB
      rw [← hc1] at hA
      rw [← hc1, ← hc2] at hsz
      obtain ⟨hz1, hz2⟩ := hsz
      have CN1 := fun w' => small_any c1 255 w' (by unfold maxLen; omega)
      obtain ⟨lo, hlo⟩ : ∃ lo, lo = rgLo x := ⟨_, rfl⟩
      obtain ⟨hi, hhi⟩ : ∃ hi, hi = rgHi x := ⟨_, rfl⟩
      have e1 : smN c1 255 = lo := by rw [hlo]; unfold rgLo; rw [hA]
      rw [e1] at CN1
      rw [← hlo, ← hhi] at hbd
      obtain ⟨l1, l2, l3, l4⟩ := hbd
      have HOK : Hid (rgOk x ↔ 0 ≤ lo ∧ lo ≤ hi) := by show rgOk x ↔ _; unfold rgOk; rw [← hlo, ← hhi]
      have HU : Hid (∀ j, rgU (L.take (k + 1)) j = (rgU (L.take k) j || decide (lo ≤ (j : Int) ∧ (j : Int) ≤ hi))) := fun j => by rw [HT.out, rgU_snoc, ← hlo, ← hhi]
      have CN2 : Hid (∀ w', Calls Tryd.prog 72 #[.string (if c3 = true then c2 else c1), .int .i64 255] w' fun e w'' => e = .returned (.int .i64 hi) ∧ ∃ q, w'' = w'.drewN q) := fun w' => by
        have := small_any (rgB x) 255 w' (by rw [hB]; unfold maxLen; split <;> omega)
        rw [hhi]; rw [hB] at this; unfold rgHi; rw [hB]; exact this
      have CN1 := Lib.hid CN1
      have CC := Lib.hid CC
      clear hx hc1 hc2 hc3 hA hB e1 hlo hhi hS hO
      go_wp2_with fail
      refine CC.out.mono ?_
      rintro e w2 ⟨rfl, q2, hq2⟩
      have hS2 := HS.out.drewN q2
      have hO2 := HO.out.drewN q2
      rw [← hq2] at hS2 hO2
      have HS2 := Lib.hid hS2
      have HO2 := Lib.hid hO2
      clear hS2 hO2 hq2 HS HO CC y0
      cases c3
      all_goals
        simp only [if_true, if_false, Bool.false_eq_true] at CN2
        go_wp2_with fail
        refine (CN1.out _).mono ?_
        rintro e w3 ⟨rfl, q3, hq3⟩
        have hS3 := HS2.out.drewN q3
        have hO3 := HO2.out.drewN q3
        rw [← hq3] at hS3 hO3
        have HS3 := Lib.hid hS3
        have HO3 := Lib.hid hO3
        clear hS3 hO3 hq3
        go_wp2_with fail
        refine (CN2.out _).mono ?_
        rintro e w4 ⟨rfl, q4, hq4⟩
        have hS4 := HS3.out.drewN q4
        have hO4 := HO3.out.drewN q4
        rw [← hq4] at hS4 hO4
        have HS4 := Lib.hid hS4
        have HO4 := Lib.hid hO4
        obtain ⟨r0, r1, r2, r3, f0, f1, f2, f3⟩ := hS4.resF
        clear hS4 hO4 hq4 HS3 HO3
        by_cases hok : 0 ≤ lo ∧ lo ≤ hi
        · obtain ⟨g1, g2⟩ := hok
          have HOK1 : Hid (∀ y ∈ L.take (k + 1), rgOk y) := fun y hy => by
            rw [HT.out, List.mem_append, List.mem_singleton] at hy
            rcases hy with hy | rfl
            · exact HA.out y hy
            · exact HOK.out.2 ⟨g1, g2⟩
          obtain ⟨a, rfl⟩ := Int.eq_ofNat_of_zero_le g1
          obtain ⟨b, rfl⟩ := Int.eq_ofNat_of_zero_le (show 0 ≤ hi by omega)
          have d1 : ¬ (a : Int) < 0 := by omega
          have d2 : ¬ (b : Int) < 0 := by omega
          have d3 : ¬ (b : Int) < (a : Int) := by omega
          clear r0 r1 r2 r3 f0 f1 f2 f3
          go_wp2_with fail
          obtain ⟨wm, rfl⟩ : ∃ wm : World, wm = wr := ⟨_, rfl⟩
          go_loopw [12] (fun u wr => ∃ (j : Nat) (f' : Nat → Bool), u = .int .i64 (j : Int) ∧ a ≤ j ∧ j ≤ b + 1 ∧ Rb2 w wr f' ∧ SR wr g L ∧ Hid (∀ z, f' z = (f z || decide (a ≤ z ∧ z < j)))) (fun u _ => b + 1 - (intOf u).toNat)
          case atStart => exact ⟨a, f, rfl, by omega, by omega, HS4.out, HO4.out, fun z => by rw [decide_eq_false (by omega), Bool.or_false]⟩
          case round =>
            obtain ⟨j, f', rfl, haj, hjb, hS, hO, HF⟩ := hrel
            by_cases hjl : j ≤ b
            · have j1 : (j : Int) ≤ (b : Int) := by omega
              have j2 : (0 : Int) ≤ (j : Int) := by omega
              have j3 : (j : Int) < 256 := by omega
              have y0 := hS.row.cell j (by omega)
              have y1 := hS.row.frozen j (by omega)
              have HN := Lib.hid (hS.set_ (k := j) (by omega))
              have HN2 := Lib.hid (hO.far (p := ⟨w.heap.size + 1, j, none⟩) (by dsimp only; omega) (.bool true))
              clear hS hO
              go_wp2_with fail
              go_roundw
              case rel => exact ⟨j + 1, _, by go_num, by omega, by omega, HN.out, HN2.out, fun z => by
                rw [HF.out z]
                by_cases e : z = j
                · subst e; rw [if_pos rfl, decide_eq_true (show a ≤ z ∧ z < z + 1 by omega), Bool.or_true]
                · rw [if_neg e]; congr 1; rw [Bool.eq_iff_iff, decide_eq_true_eq, decide_eq_true_eq]; omega⟩
              case measure => simp [intOf]; omega
            · obtain rfl : j = b + 1 := by omega
              have j1 : ¬ ((b : Int) + 1) ≤ (b : Int) := by omega
              have HS7 := Lib.hid hS
              have HO7 := Lib.hid hO
              clear hS hO hjl
              go_wp2_with fail
              go_roundw
              case rel => exact ⟨k + 1, f', by go_num, by omega, HS7.out, HO7.out, fun z hz => by
                rw [HU.out, HF.out, HQ.out z hz]; congr 1
                rw [Bool.eq_iff_iff, decide_eq_true_eq, decide_eq_true_eq]; omega, HOK1⟩
              case measure => simp [intOf]; omega
        · have HNO : Hid (¬ rgOk x) := fun h => hok (HOK.out.1 h)
          have hcs : lo < 0 ∨ (¬ lo < 0 ∧ hi < 0) ∨ (¬ lo < 0 ∧ ¬ hi < 0 ∧ hi < lo) := by omega
          clear hok
          rcases hcs with d1 | ⟨d1, d2⟩ | ⟨d1, d2, d3⟩
          all_goals
            go_wp2_with fail
            obtain ⟨wz, hwz, hz, z0, z1, z2, z3⟩ := HS4.out.put_ ⟨0, 0, 0, 0⟩
            have hwz2 := hwz
            simp only [Int.natCast_zero] at hwz2 z0 z1 z2 z3
            rw [← hwz2]
            refine bodyPost_ret (v := .tuple #[setV ⟨0, 0, 0, 0⟩, .int .i64 3]) (by simp [results, Tryd.results14, go_sem, z0, z1, z2, z3, setV]) rfl ⟨.inr ⟨⟨x, HX.out, HNO.out⟩, rfl⟩, hz⟩
    · obtain rfl : k = L.length := by omega
      have HTk : Hid (L.take L.length = pcs s ⟨#[44]⟩) := by show _ = _; rw [List.take_length, HL.out]
      have CW := Lib.hid (where_any 74 ⟨w.heap.size + 1, 0, none⟩ f wr (ranges1_cf _) fun b w' hb hbl => ranges1_any b (w.heap.size + 1) f w' hb (hS.row.kept hbl))
      clear hS hO hlk
      go_wp2_with fail
      refine CW.out.mono ?_
      rintro e w9 ⟨q, rfl, hq, b9⟩
      have hS9 := HS.out.kept b9
      obtain ⟨r0, r1, r2, r3, f0, f1, f2, f3⟩ := hS9.resF
      have HS9 := Lib.hid hS9
      have HQ9 := Lib.hid hq
      clear hS9 hq b9 CW
      unfold setV
      go_wp2_with fail
      obtain ⟨wz, hwz, hz, z0, z1, z2, z3⟩ := HS9.out.put_ q
      rw [← hwz]
      refine bodyPost_ret (v := .tuple #[setV q, .int .i64 0]) (by simp [results, Tryd.results14, go_sem, z0, z1, z2, z3, setV]) rfl ⟨.inl ⟨fun y hy => HA.out y (by rw [HTk.out]; exact hy), q, rfl, HQ9.out.1, fun j hj => by rw [HQ9.out.2 j hj, HQ.out j hj, HTk.out]⟩, hz⟩
end Go.Proofs.YthnbhpchemjioaaDoor
