/- Walk: nets.Bytes. -/
import Derived.Test.YthnbhpchemjioaaDoorNbA
import Derived.Test.YthnbhpchemjioaaDoorClnF
namespace Go.Proofs.YthnbhpchemjioaaDoor
open Go.RowKit
set_option linter.unusedVariables false
set_option linter.unusedSimpArgs false

/-- block g holds the strings L, from its head on -/
structure SR (w : World) (g : Nat) (L : List ByteArray) : Prop where
  lt : g < w.heap.size
  cell : ∀ k (hk : k < L.length), w.cell? ⟨g, k, none⟩ = some (.string L[k])
theorem SR.below {w w' : World} {g B : Nat} {L : List ByteArray} (h : SR w g L) (hb : Below B w w') (hB : g < B) : SR w' g L := ⟨Nat.lt_of_lt_of_le h.lt hb.size, fun k hk => (hb.cell (p := ⟨g, k, none⟩) hB).trans (h.cell k hk)⟩
theorem SR.kept {w w' : World} {g : Nat} {L : List ByteArray} (h : SR w g L) (hb : Below w.heap.size w w') : SR w' g L := h.below hb h.lt
theorem SR.far {w : World} {g : Nat} {L : List ByteArray} (h : SR w g L) {p : Addr} (hp : p.block ≠ g) (v : Value) : SR (w.setCell p v) g L :=
  ⟨by simpa [World.setCell] using h.lt, fun k hk => by rw [World.cell?_setCell_other _ _ _ _ (by intro e; subst e; exact hp rfl)]; exact h.cell k hk⟩
theorem SR.drewN {w : World} {g : Nat} {L : List ByteArray} (h : SR w g L) (n : Nat) : SR (w.drewN n) g L := ⟨h.lt, h.cell⟩
theorem SR.of_OS {w : World} {B g c : Nat} {L : List ByteArray} (h : OS w B (.slice (some ⟨g, 0, none⟩) L.length c) L) (h0 : 0 < L.length) : SR w g L := by
  obtain ⟨g', e, _, hlt, _, hc⟩ := h.at_ h0
  injection e with e; injection e with e
  subst e
  exact ⟨hlt, hc⟩
theorem Sb2.drewN {w wr : World} {q : Q4} (h : Sb2 w wr q) (n : Nat) : Sb2 w (wr.drewN n) q := ⟨h.res, h.set, below_drewN h.be n⟩
theorem orK_word (q t : Q4) {k : Nat} (hk : k < 4) : (orK q t k).word k = q.word k := by
  obtain rfl | rfl | rfl | rfl : k = 0 ∨ k = 1 ∨ k = 2 ∨ k = 3 := by omega
  all_goals rfl
theorem orK_next (q t : Q4) {k : Nat} (hk : k < 4) : (orK q t k).setW k (q.word k ||| t.word k) = orK q t (k + 1) := by
  obtain rfl | rfl | rfl | rfl : k = 0 ∨ k = 1 ∨ k = 2 ∨ k = 3 := by omega
  all_goals rfl
/-- the result's cells, where the set is empty -/
theorem Sb2.zero_ {w wr : World} {q : Q4} (h : Sb2 w wr q) :
    ∃ wz, wz = (((wr.setCell ⟨w.heap.size, 0, none⟩ (.int .u64 0)).setCell ⟨w.heap.size, 1, none⟩ (.int .u64 0)).setCell ⟨w.heap.size, 2, none⟩ (.int .u64 0)).setCell ⟨w.heap.size, 3, none⟩ (.int .u64 0) ∧ Below w.heap.size w wz ∧
      wz.cell? ⟨w.heap.size, 0, none⟩ = some (.int .u64 0) ∧ wz.cell? ⟨w.heap.size, 1, none⟩ = some (.int .u64 0) ∧ wz.cell? ⟨w.heap.size, 2, none⟩ = some (.int .u64 0) ∧ wz.cell? ⟨w.heap.size, 3, none⟩ = some (.int .u64 0) := by
  have h1 : SBlk _ _ _ := h.res.setW (k := 0) (by omega) 0
  have h2 : SBlk _ _ _ := h1.setW (k := 1) (by omega) 0
  have h3 : SBlk _ _ _ := h2.setW (k := 2) (by omega) 0
  have h4 : SBlk _ _ _ := h3.setW (k := 3) (by omega) 0
  exact ⟨_, rfl, (((h.be.setCell (p := ⟨w.heap.size, 0, none⟩) (Nat.le_refl _) _).setCell (p := ⟨w.heap.size, 1, none⟩) (Nat.le_refl _) _).setCell (p := ⟨w.heap.size, 2, none⟩) (Nat.le_refl _) _).setCell (p := ⟨w.heap.size, 3, none⟩) (Nat.le_refl _) _, h4.cell (k := 0) (by omega), h4.cell (k := 1) (by omega), h4.cell (k := 2) (by omega), h4.cell (k := 3) (by omega)⟩
structure ResF (w wr : World) : Prop where
  r0 : wr.cell? ⟨w.heap.size, 0, none⟩ = some (.int .u64 0)
  r1 : wr.cell? ⟨w.heap.size, 1, none⟩ = some (.int .u64 0)
  r2 : wr.cell? ⟨w.heap.size, 2, none⟩ = some (.int .u64 0)
  r3 : wr.cell? ⟨w.heap.size, 3, none⟩ = some (.int .u64 0)
  f0 : wr.frozen? ⟨w.heap.size, 0, none⟩ = false
  f1 : wr.frozen? ⟨w.heap.size, 1, none⟩ = false
  f2 : wr.frozen? ⟨w.heap.size, 2, none⟩ = false
  f3 : wr.frozen? ⟨w.heap.size, 3, none⟩ = false
theorem Sb2.resF {w wr : World} {q : Q4} (h : Sb2 w wr q) : ResF w wr :=
  ⟨h.res.cell (k := 0) (by omega), h.res.cell (k := 1) (by omega), h.res.cell (k := 2) (by omega), h.res.cell (k := 3) (by omega), Blk.frozen h.res 0, Blk.frozen h.res 1, Blk.frozen h.res 2, Blk.frozen h.res 3⟩
theorem ix_set0 (a b c d : Int) (w : World) : (Instr.index 24 (.agg #[.int .u64 a, .int .u64 b, .int .u64 c, .int .u64 d]) (.int .i64 0)).run Tryd.prog w = .ok (.int .u64 a) w := by kernel_rfl
theorem ix_set1 (a b c d : Int) (w : World) : (Instr.index 24 (.agg #[.int .u64 a, .int .u64 b, .int .u64 c, .int .u64 d]) (.int .i64 1)).run Tryd.prog w = .ok (.int .u64 b) w := by kernel_rfl
theorem ix_set2 (a b c d : Int) (w : World) : (Instr.index 24 (.agg #[.int .u64 a, .int .u64 b, .int .u64 c, .int .u64 d]) (.int .i64 2)).run Tryd.prog w = .ok (.int .u64 c) w := by kernel_rfl
theorem ix_set3 (a b c d : Int) (w : World) : (Instr.index 24 (.agg #[.int .u64 a, .int .u64 b, .int .u64 c, .int .u64 d]) (.int .i64 3)).run Tryd.prog w = .ok (.int .u64 d) w := by kernel_rfl
set_option maxRecDepth 100000 in
set_option maxHeartbeats 4000000 in
theorem netBytes_any (s : ByteArray) (m : Int) (w : World) (hs : s.size ≤ 1048576) (hm : w.cell? ⟨1, 0, none⟩ = some (.int .i64 m)) :
    Calls Tryd.prog 13 #[.string s] w (RgRes s w) := by
  have h0 := World.block_lt_of_cell? _ _ hm
  have hS0 := Sb2.start w
  obtain ⟨W, hW⟩ : ∃ W, (w.alloc (.cells #[.int .u64 0, .int .u64 0, .int .u64 0, .int .u64 0] 24)).alloc (.cells #[.int .u64 0, .int .u64 0, .int .u64 0, .int .u64 0] 24) = W := ⟨_, rfl⟩
  rw [hW] at hS0
  have HM : Hid (∀ w', Below w.heap.size w w' → w'.cell? ⟨1, 0, none⟩ = some (.int .i64 m)) := fun w' hb => (hb.cell (p := ⟨1, 0, none⟩) h0).trans hm
  have CS := Lib.hid (sp_any s ⟨#[44]⟩ m W hs (HM.out W hS0.be) (by decide))
  have hWz : w.heap.size + 1 < W.heap.size := Blk.lt hS0.set
  obtain ⟨L, hL⟩ : ∃ L, L = pcs s ⟨#[44]⟩ := ⟨_, rfl⟩
  have HLs : Hid (∀ x ∈ L, x.size ≤ s.size) := by rw [hL]; exact pcs_mem _ (by decide) s.size s (Nat.le_refl _)
  have hL0 : 0 < L.length := by rw [hL]; exact pcs_pos _ _ (by decide)
  have hL1 : L.length ≤ 1048577 := by rw [hL]; have := pcs_le (s := s) (t := ⟨#[44]⟩) (by decide); omega
  rw [← hL] at CS
  have HL := Lib.hid hL
  have HS0 := Lib.hid hS0
  clear hL hS0 hm h0
  go_enter Tryd.func13, Tryd.ntmps13
  go_wp2_with fail
  refine CS.out.mono ?_
  rintro e w1 ⟨rfl, ho, b1⟩
  have HS1 := Lib.hid (HS0.out.kept b1)
  have HO1 := Lib.hid (SR.of_OS ho hL0)
  clear ho b1 CS hW
  go_wp2_with fail
  go_loopw [17] (fun u wr => ∃ (k : Nat) (q : Q4), u = .int .i64 (k : Int) ∧ k ≤ L.length ∧ Sb2 w wr q ∧ SR wr W.heap.size L ∧ Hid (SetOf q (rgU (L.take k))) ∧ Hid (∀ x ∈ L.take k, rgOk x)) (fun u _ => L.length - (intOf u).toNat)
  case atStart => exact ⟨0, _, rfl, by omega, HS1.out, HO1.out, ⟨⟨by decide, by decide, by decide, by decide⟩, fun b _ => by rw [setB_none]; rfl⟩, fun x hx => absurd hx (by simp)⟩
  case round =>
    clear HS0 HS1 HO1
    obtain ⟨k, q, rfl, hk, hS, hO, HQ, HA⟩ := hrel
    have HS := Lib.hid hS
    have HO := Lib.hid hO
    by_cases hlk : k < L.length
    · have k1 : (k : Int) < (L.length : Int) := by omega
      obtain ⟨x, hx⟩ : ∃ x, x = L[k] := ⟨_, rfl⟩
      have y0 : wr.cell? ⟨W.heap.size, k, none⟩ = some (.string x) := by rw [hx]; exact hO.cell k hlk
      have hxs : x.size ≤ s.size := HLs.out x (by rw [hx]; exact List.getElem_mem _)
      have CC := cut_any x ⟨#[45]⟩ m wr (by omega) (HM.out wr hS.be)
      have hsz := cutS_size x ⟨#[45]⟩
      have hbd := rg_bd x
      have HT : Hid (L.take (k + 1) = L.take k ++ [x]) := by show _ = _; rw [take_snocB hlk, hx]
      have HX : Hid (x ∈ pcs s ⟨#[44]⟩) := by show _ ∈ _; rw [← HL.out, hx]; exact List.getElem_mem _
      have hA : rgA x = (cutS x ⟨#[45]⟩).1 := rfl
      have hB : rgB x = if (cutS x ⟨#[45]⟩).2.2 = true then (cutS x ⟨#[45]⟩).2.1 else (cutS x ⟨#[45]⟩).1 := rfl
      obtain ⟨c1, hc1⟩ : ∃ c1, c1 = (cutS x ⟨#[45]⟩).1 := ⟨_, rfl⟩
      obtain ⟨c2, hc2⟩ : ∃ c2, c2 = (cutS x ⟨#[45]⟩).2.1 := ⟨_, rfl⟩
      obtain ⟨c3, hc3⟩ : ∃ c3, c3 = (cutS x ⟨#[45]⟩).2.2 := ⟨_, rfl⟩
      rw [← hc1, ← hc2, ← hc3] at CC hB
      rw [← hc1] at hA
      rw [← hc1, ← hc2] at hsz
      obtain ⟨hz1, hz2⟩ := hsz
      have CN1 := fun w' => netNumber_any c1 255 w' (by unfold maxLen; omega)
      obtain ⟨lo, hlo⟩ : ∃ lo, lo = rgLo x := ⟨_, rfl⟩
      obtain ⟨hi, hhi⟩ : ∃ hi, hi = rgHi x := ⟨_, rfl⟩
      have e1 : smN c1 255 = lo := by rw [hlo]; unfold rgLo; rw [hA]
      rw [e1] at CN1
      rw [← hlo, ← hhi] at hbd
      obtain ⟨l1, l2, l3, l4⟩ := hbd
      have HOK : Hid (rgOk x ↔ 0 ≤ lo ∧ lo ≤ hi) := by show rgOk x ↔ _; unfold rgOk; rw [← hlo, ← hhi]
      have HU : Hid (∀ j, rgU (L.take (k + 1)) j = (rgU (L.take k) j || decide (lo ≤ (j : Int) ∧ (j : Int) ≤ hi))) := fun j => by rw [HT.out, rgU_snoc, ← hlo, ← hhi]
      have CN2 : Hid (∀ w', Calls Tryd.prog 68 #[.string (if c3 = true then c2 else c1), .int .i64 255] w' fun e w'' => e = .returned (.int .i64 hi) ∧ ∃ q, w'' = w'.drewN q) := fun w' => by
        have := netNumber_any (rgB x) 255 w' (by rw [hB]; unfold maxLen; split <;> omega)
        rw [hhi]; rw [hB] at this; unfold rgHi; rw [hB]; exact this
      have CN1 := Lib.hid CN1
      have CC := Lib.hid CC
      clear hx hc1 hc2 hc3 hA hB e1 hlo hhi hS hO
      go_wp2_with fail
      refine CC.out.mono ?_
      rintro e w2 ⟨rfl, q2, hq2⟩
      have hS2 := HS.out.drewN q2
      have hO2 := HO.out.drewN q2
      rw [← hq2] at hS2 hO2
      have HS2 := Lib.hid hS2
      have HO2 := Lib.hid hO2
      clear hS2 hO2 hq2 HS HO CC y0
      cases c3
      all_goals
        simp only [if_true, if_false, Bool.false_eq_true] at CN2
        go_wp2_with fail
        refine (CN1.out _).mono ?_
        rintro e w3 ⟨rfl, q3, hq3⟩
        have hS3 := HS2.out.drewN q3
        have hO3 := HO2.out.drewN q3
        rw [← hq3] at hS3 hO3
        have HS3 := Lib.hid hS3
        have HO3 := Lib.hid hO3
        clear hS3 hO3 hq3
        go_wp2_with fail
        refine (CN2.out _).mono ?_
        rintro e w4 ⟨rfl, q4, hq4⟩
        have hS4 := HS3.out.drewN q4
        have hO4 := HO3.out.drewN q4
        rw [← hq4] at hS4 hO4
        have HS4 := Lib.hid hS4
        have HO4 := Lib.hid hO4
        have hrf := hS4.resF
        obtain ⟨r0, r1, r2, r3, f0, f1, f2, f3⟩ := hrf
        clear hS4 hO4 hq4 HS3 HO3
        by_cases hok : 0 ≤ lo ∧ lo ≤ hi
        · obtain ⟨g1, g2⟩ := hok
          have HOK1 : Hid (∀ y ∈ L.take (k + 1), rgOk y) := fun y hy => by
            rw [HT.out, List.mem_append, List.mem_singleton] at hy
            rcases hy with hy | rfl
            · exact HA.out y hy
            · exact HOK.out.2 ⟨g1, g2⟩
          obtain ⟨a, rfl⟩ := Int.eq_ofNat_of_zero_le g1
          obtain ⟨b, rfl⟩ := Int.eq_ofNat_of_zero_le (show 0 ≤ hi by omega)
          have CR := Lib.hid fun w' => range_any a b (by omega) w' (by omega)
          have d1 : ¬ (a : Int) < 0 := by omega
          have d2 : ¬ (b : Int) < (a : Int) := by omega
          go_wp2_with fail
          refine (CR.out _).mono ?_
          rintro e w5 ⟨t, rfl, hT, b5⟩
          have HT5 := Lib.hid hT
          have HS5 := Lib.hid (HS4.out.kept b5)
          have HO5 := Lib.hid (HO4.out.kept b5)
          clear hT b5 CR r0 r1 r2 r3 f0 f1 f2 f3
          unfold setV
          go_wp2_with fail
          obtain ⟨wm, rfl⟩ : ∃ wm : World, wm = wr := ⟨_, rfl⟩
          go_loopw [45] (fun u wr => ∃ (j : Nat), u = .int .i64 (j : Int) ∧ j ≤ 4 ∧ Sb2 w wr (orK q t j) ∧ SR wr W.heap.size L) (fun u _ => 4 - (intOf u).toNat)
          case atStart => exact ⟨0, rfl, by omega, by rw [orK_0]; exact HS5.out, HO5.out⟩
          case round =>
            obtain ⟨j, rfl, hj, hS, hO⟩ := hrel
            by_cases hj4 : j < 4
            · have HN := hS.setW hj4 (q.word j ||| t.word j)
              rw [orK_next q t hj4] at HN
              have HN := Lib.hid HN
              have HO6 := Lib.hid (hO.far (p := ⟨w.heap.size + 1, j, none⟩) (by dsimp only; omega) (.int .u64 ((q.word j ||| t.word j : Nat) : Int)))
              have y0 := hS.set.cell hj4
              rw [orK_word q t hj4] at y0
              have y1 : wr.frozen? ⟨w.heap.size + 1, j, none⟩ = false := Blk.frozen hS.set _
              have HV := Lib.hid (bits_or_u64_nat (q.word j) (t.word j) (Q4.word_lt HQ.out.1 _) (Q4.word_lt HT5.out.1 _))
              clear hS hO
              obtain rfl | rfl | rfl | rfl : j = 0 ∨ j = 1 ∨ j = 2 ∨ j = 3 := by omega
              · have HV' : Hid (bits .or .u64 ((q.word 0 : Nat) : Int) (t.a : Int) = _) := HV.out
                have ix := ix_set0
                rw [show ((0 : Nat) : Int) = 0 from rfl]
                go_wp2_with fail
                go_roundw
                case rel => exact ⟨1, by go_num, by omega, by rw [HV'.out]; exact HN.out, by rw [HV'.out]; exact HO6.out⟩
                case measure => simp [intOf]
              · have HV' : Hid (bits .or .u64 ((q.word 1 : Nat) : Int) (t.b : Int) = _) := HV.out
                have ix := ix_set1
                rw [show ((1 : Nat) : Int) = 1 from rfl]
                go_wp2_with fail
                go_roundw
                case rel => exact ⟨2, by go_num, by omega, by rw [HV'.out]; exact HN.out, by rw [HV'.out]; exact HO6.out⟩
                case measure => simp [intOf]
              · have HV' : Hid (bits .or .u64 ((q.word 2 : Nat) : Int) (t.c : Int) = _) := HV.out
                have ix := ix_set2
                rw [show ((2 : Nat) : Int) = 2 from rfl]
                go_wp2_with fail
                go_roundw
                case rel => exact ⟨3, by go_num, by omega, by rw [HV'.out]; exact HN.out, by rw [HV'.out]; exact HO6.out⟩
                case measure => simp [intOf]
              · have HV' : Hid (bits .or .u64 ((q.word 3 : Nat) : Int) (t.d : Int) = _) := HV.out
                have ix := ix_set3
                rw [show ((3 : Nat) : Int) = 3 from rfl]
                go_wp2_with fail
                go_roundw
                case rel => exact ⟨4, by go_num, by omega, by rw [HV'.out]; exact HN.out, by rw [HV'.out]; exact HO6.out⟩
                case measure => simp [intOf]
            · obtain rfl : j = 4 := by omega
              have HSo : Hid (SetOf (q.or t) (rgU (L.take (k + 1)))) := SetOf.or HQ.out HT5.out fun z _ => by
                rw [HU.out]; unfold rngTo; congr 1
                rw [Bool.eq_iff_iff, decide_eq_true_eq, decide_eq_true_eq]; omega
              rw [orK_4] at hS
              have HS7 := Lib.hid hS
              have HO7 := Lib.hid hO
              clear hS hO
              go_wp2_with fail
              go_roundw
              case rel => exact ⟨k + 1, q.or t, by go_num, by omega, HS7.out, HO7.out, HSo, HOK1⟩
              case measure => simp [intOf]; omega
        · have HNO : Hid (¬ rgOk x) := fun h => hok (HOK.out.1 h)
          have hcs : lo < 0 ∨ (¬ lo < 0 ∧ hi < lo) := by omega
          clear hok
          rcases hcs with d1 | ⟨d1, d2⟩
          all_goals
            go_wp2_with fail
            obtain ⟨wz, hwz, hz, z0, z1, z2, z3⟩ := HS4.out.zero_
            rw [← hwz]
            refine bodyPost_ret (v := .tuple #[setV ⟨0, 0, 0, 0⟩, .int .i64 3]) (by simp [results, Tryd.results13, go_sem, z0, z1, z2, z3, setV]) rfl ⟨.inr ⟨⟨x, HX.out, HNO.out⟩, rfl⟩, hz⟩
    · obtain rfl : k = L.length := by omega
      have HTk : Hid (L.take L.length = pcs s ⟨#[44]⟩) := by show _ = _; rw [List.take_length, HL.out]
      obtain ⟨r0, r1, r2, r3, f0, f1, f2, f3⟩ := hS.resF
      have y0 : wr.cell? ⟨w.heap.size + 1, 0, none⟩ = some (.int .u64 (q.a : Int)) := hS.set.cell (k := 0) (by omega)
      have y1 : wr.cell? ⟨w.heap.size + 1, 1, none⟩ = some (.int .u64 (q.b : Int)) := hS.set.cell (k := 1) (by omega)
      have y2 : wr.cell? ⟨w.heap.size + 1, 2, none⟩ = some (.int .u64 (q.c : Int)) := hS.set.cell (k := 2) (by omega)
      have y3 : wr.cell? ⟨w.heap.size + 1, 3, none⟩ = some (.int .u64 (q.d : Int)) := hS.set.cell (k := 3) (by omega)
      clear hS hO hlk
      go_wp2_with fail
      obtain ⟨wz, hwz, hz, z0, z1, z2, z3⟩ := HS.out.put_
      rw [← hwz]
      refine bodyPost_ret (v := .tuple #[setV q, .int .i64 0]) (by simp [results, Tryd.results13, go_sem, z0, z1, z2, z3, setV]) rfl ⟨.inl ⟨fun y hy => HA.out y (by rw [HTk.out]; exact hy), q, rfl, by have := HQ.out; rwa [HTk.out] at this⟩, hz⟩
end Go.Proofs.YthnbhpchemjioaaDoor
