/- Walks: rex.union; rex.Range of any two bytes. -/
import Derived.Test.YtkdcgkdbieeijaaRsyE
import Derived.Test.YtkdcgkdbieeijaaSbC
import Derived.Laws.BitsAllLaws
namespace Go.Proofs.Ytkdcgkdbieeijaa
open Go.RowKit
set_option linter.unusedVariables false
set_option linter.unusedSimpArgs false

/-- Range of any two bytes -/
def Range2Res (lo hi : Int) (w : World) (e : Ending) (w' : World) : Prop := ∃ q, e = .returned (setV q) ∧ SetOf q (rngF lo hi) ∧ Below w.heap.size w w'
set_option maxHeartbeats 1000000 in
theorem range2_any (lo hi : Nat) (hh : hi ≤ 255) (w : World) :
    Calls Try.prog 84 #[.int .i64 (lo : Int), .int .i64 (hi : Int)] w (Range2Res lo hi w) := by
  by_cases h : lo ≤ hi + 1
  · refine (range_any lo hi hh w h).mono ?_
    rintro e w' ⟨q, h1, h2, h3⟩
    refine ⟨q, h1, ⟨h2.1, fun b hb => ?_⟩, h3⟩
    rw [h2.2 b hb]
    unfold rngTo rngF
    rw [Bool.eq_iff_iff, decide_eq_true_eq, decide_eq_true_eq]; omega
  · have HS := Lib.hid (Sb2.start w)
    have i1 : ¬ (lo : Int) ≤ (hi : Int) := by omega
    have HQ : Hid (SetOf ⟨0, 0, 0, 0⟩ (rngF lo hi)) := Lib.hid ⟨⟨by decide, by decide, by decide, by decide⟩, fun b _ => by
      rw [setB_none]; unfold rngF; rw [eq_comm, decide_eq_false_iff_not]; omega⟩
    obtain ⟨W, hW⟩ : ∃ W, (w.alloc (.cells #[.int .u64 0, .int .u64 0, .int .u64 0, .int .u64 0] 24)).alloc (.cells #[.int .u64 0, .int .u64 0, .int .u64 0, .int .u64 0] 24) = W := ⟨_, rfl⟩
    have hS : Sb2 w W ⟨0, 0, 0, 0⟩ := by rw [← hW]; exact HS.out
    have y0 : W.cell? ⟨w.heap.size + 1, 0, none⟩ = some (.int .u64 0) := hS.set.cell (k := 0) (by omega)
    have y1 : W.cell? ⟨w.heap.size + 1, 1, none⟩ = some (.int .u64 0) := hS.set.cell (k := 1) (by omega)
    have y2 : W.cell? ⟨w.heap.size + 1, 2, none⟩ = some (.int .u64 0) := hS.set.cell (k := 2) (by omega)
    have y3 : W.cell? ⟨w.heap.size + 1, 3, none⟩ = some (.int .u64 0) := hS.set.cell (k := 3) (by omega)
    have r0 : W.cell? ⟨w.heap.size, 0, none⟩ = some (.int .u64 0) := hS.res.cell (k := 0) (by omega)
    have r1 : W.cell? ⟨w.heap.size, 1, none⟩ = some (.int .u64 0) := hS.res.cell (k := 1) (by omega)
    have r2 : W.cell? ⟨w.heap.size, 2, none⟩ = some (.int .u64 0) := hS.res.cell (k := 2) (by omega)
    have r3 : W.cell? ⟨w.heap.size, 3, none⟩ = some (.int .u64 0) := hS.res.cell (k := 3) (by omega)
    have f0 : W.frozen? ⟨w.heap.size, 0, none⟩ = false := Blk.frozen hS.res 0
    have f1 : W.frozen? ⟨w.heap.size, 1, none⟩ = false := Blk.frozen hS.res 1
    have f2 : W.frozen? ⟨w.heap.size, 2, none⟩ = false := Blk.frozen hS.res 2
    have f3 : W.frozen? ⟨w.heap.size, 3, none⟩ = false := Blk.frozen hS.res 3
    have HS2 := Lib.hid hS
    clear hS h HS
    go_enter Try.func84, Try.ntmps84
    go_wp2_with fail
    go_loopw [6] (fun u wr => u = .int .i64 (lo : Int) ∧ wr = W) (fun u _ => 0)
    case atStart => exact ⟨rfl, rfl⟩
    case round =>
      obtain ⟨rfl, rfl⟩ := hrel
      clear hW
      go_wp2_with fail
      obtain ⟨wz, hwz, hz, z0, z1, z2, z3⟩ := HS2.out.put_
      rw [show (((0 : Nat) : Int)) = 0 from rfl] at hwz z0 z1 z2 z3
      rw [← hwz]
      refine bodyPost_ret (v := setV ⟨0, 0, 0, 0⟩) (by simp [results, Try.results84, go_sem, z0, z1, z2, z3, setV]) rfl ⟨_, rfl, HQ.out, hz⟩
/-- the first k words joined -/
def orK (q r : Q4) (k : Nat) : Q4 := ⟨if 0 < k then q.a ||| r.a else q.a, if 1 < k then q.b ||| r.b else q.b, if 2 < k then q.c ||| r.c else q.c, if 3 < k then q.d ||| r.d else q.d⟩
theorem orK_word (q r : Q4) {k : Nat} (hk : k < 4) : (orK q r k).word k = q.word k := by
  obtain rfl | rfl | rfl | rfl : k = 0 ∨ k = 1 ∨ k = 2 ∨ k = 3 := by omega
  all_goals rfl
theorem orK_next (q r : Q4) {k : Nat} (hk : k < 4) : (orK q r k).setW k (q.word k ||| r.word k) = orK q r (k + 1) := by
  obtain rfl | rfl | rfl | rfl : k = 0 ∨ k = 1 ∨ k = 2 ∨ k = 3 := by omega
  all_goals rfl
/-- the boxes of union: two sets and the result -/
structure Un (w wr : World) (q r : Q4) (k : Nat) : Prop where
  sa : SBlk wr w.heap.size (orK q r k)
  sb : SBlk wr (w.heap.size + 1) r
  re : SBlk wr (w.heap.size + 2) ⟨0, 0, 0, 0⟩
  be : Below w.heap.size w wr
theorem Un.drew {w wr : World} {q r : Q4} {k : Nat} (h : Un w wr q r k) : Un w wr.drew q r k := ⟨h.sa.drew, h.sb.drew, h.re.drew, h.be.drew⟩
theorem Un.next {w wr : World} {q r : Q4} {k : Nat} (h : Un w wr q r k) (hk : k < 4) : Un w (wr.setCell ⟨w.heap.size, k, none⟩ (.int .u64 ((q.word k ||| r.word k : Nat) : Int))) q r (k + 1) := by
  have hN := h.sa.setW hk (q.word k ||| r.word k)
  rw [orK_next q r hk] at hN
  exact ⟨hN, Blk.far h.sb (by dsimp only; omega) _, Blk.far h.re (by dsimp only; omega) _, h.be.setCell (p := ⟨w.heap.size, k, none⟩) (Nat.le_refl _) _⟩
set_option maxRecDepth 100000 in
set_option maxHeartbeats 2000000 in
theorem union_any (q r : Q4) (hq : q.ok) (hr : r.ok) (w : World) :
    Calls Try.prog 98 #[setV q, setV r] w fun e w' => e = .returned (setV (q.or r)) ∧ Below w.heap.size w w' := by
  obtain ⟨W, hW⟩ : ∃ W, ((w.alloc (.cells #[.int .u64 (q.a : Int), .int .u64 (q.b : Int), .int .u64 (q.c : Int), .int .u64 (q.d : Int)] 24)).alloc (.cells #[.int .u64 (r.a : Int), .int .u64 (r.b : Int), .int .u64 (r.c : Int), .int .u64 (r.d : Int)] 24)).alloc (.cells #[.int .u64 0, .int .u64 0, .int .u64 0, .int .u64 0] 24) = W := ⟨_, rfl⟩
  have HU : Hid (Un w W q r 0) := Lib.hid (by
    rw [← hW]
    refine ⟨(Blk.alloc (Blk.alloc (Blk.new w _ _) _) _), Blk.alloc ?_ _, ?_, (((Below.refl _ _).alloc (Nat.le_refl _) _).alloc (by simp) _).alloc (by simp; omega) _⟩
    · have := Blk.new (w.alloc (.cells #[.int .u64 (q.a : Int), .int .u64 (q.b : Int), .int .u64 (q.c : Int), .int .u64 (q.d : Int)] 24)) 24 #[.int .u64 (r.a : Int), .int .u64 (r.b : Int), .int .u64 (r.c : Int), .int .u64 (r.d : Int)]
      simpa using this
    · have := SBlk.new ((w.alloc (.cells #[.int .u64 (q.a : Int), .int .u64 (q.b : Int), .int .u64 (q.c : Int), .int .u64 (q.d : Int)] 24)).alloc (.cells #[.int .u64 (r.a : Int), .int .u64 (r.b : Int), .int .u64 (r.c : Int), .int .u64 (r.d : Int)] 24))
      simpa using this)
  unfold setV
  go_enter Try.func98, Try.ntmps98
  go_wp2_with fail
  rw [show w.heap.size + 1 + 1 = w.heap.size + 2 from rfl]
  go_loopw [6] (fun u wr => ∃ k : Nat, u = .int .i64 (k : Int) ∧ k ≤ 4 ∧ Hid (Un w wr q r k)) (fun u _ => 4 - (intOf u).toNat)
  case atStart => exact ⟨0, rfl, by omega, HU⟩
  case round =>
    obtain ⟨k, rfl, hk, HK⟩ := hrel
    clear HU hW
    by_cases hlt : k < 4
    · have y0 := HK.out.sa.cell hlt
      rw [orK_word q r hlt] at y0
      have y1 : wr.frozen? ⟨w.heap.size, k, none⟩ = false := Blk.frozen HK.out.sa _
      have y2 := HK.out.sb.cell hlt
      have HN := Lib.hid (HK.out.drew.next hlt)
      have HV := Lib.hid (u64_or_nat (q.word k) (r.word k) (Q4.word_lt hq k) (Q4.word_lt hr k))
      obtain rfl | rfl | rfl | rfl : k = 0 ∨ k = 1 ∨ k = 2 ∨ k = 3 := by omega
      · go_wp2_with fail
        go_region
        all_goals go_wp2_with fail
        all_goals go_roundw
        case rel => exact ⟨1, rfl, by omega, by rw [HV.out]; exact HN⟩
        case measure => simp [intOf]
      · go_wp2_with fail
        go_region
        all_goals go_wp2_with fail
        all_goals go_roundw
        case rel => exact ⟨2, rfl, by omega, by rw [HV.out]; exact HN⟩
        case measure => simp [intOf]
      · go_wp2_with fail
        go_region
        all_goals go_wp2_with fail
        all_goals go_roundw
        case rel => exact ⟨3, rfl, by omega, by rw [HV.out]; exact HN⟩
        case measure => simp [intOf]
      · go_wp2_with fail
        go_region
        all_goals go_wp2_with fail
        all_goals go_roundw
        case rel => exact ⟨4, rfl, by omega, by rw [HV.out]; exact HN⟩
        case measure => simp [intOf]
    · obtain rfl : k = 4 := by omega
      have hS4 : SBlk wr w.heap.size (q.or r) := HK.out.sa
      have hR := HK.out.re
      have hB := HK.out.be
      have y0 : wr.cell? ⟨w.heap.size, 0, none⟩ = some (.int .u64 ((q.or r).a : Int)) := hS4.cell (k := 0) (by omega)
      have y1 : wr.cell? ⟨w.heap.size, 1, none⟩ = some (.int .u64 ((q.or r).b : Int)) := hS4.cell (k := 1) (by omega)
      have y2 : wr.cell? ⟨w.heap.size, 2, none⟩ = some (.int .u64 ((q.or r).c : Int)) := hS4.cell (k := 2) (by omega)
      have y3 : wr.cell? ⟨w.heap.size, 3, none⟩ = some (.int .u64 ((q.or r).d : Int)) := hS4.cell (k := 3) (by omega)
      have r0 : wr.cell? ⟨w.heap.size + 2, 0, none⟩ = some (.int .u64 0) := hR.cell (k := 0) (by omega)
      have r1 : wr.cell? ⟨w.heap.size + 2, 1, none⟩ = some (.int .u64 0) := hR.cell (k := 1) (by omega)
      have r2 : wr.cell? ⟨w.heap.size + 2, 2, none⟩ = some (.int .u64 0) := hR.cell (k := 2) (by omega)
      have r3 : wr.cell? ⟨w.heap.size + 2, 3, none⟩ = some (.int .u64 0) := hR.cell (k := 3) (by omega)
      have f0 : wr.frozen? ⟨w.heap.size + 2, 0, none⟩ = false := Blk.frozen hR 0
      have f1 : wr.frozen? ⟨w.heap.size + 2, 1, none⟩ = false := Blk.frozen hR 1
      have f2 : wr.frozen? ⟨w.heap.size + 2, 2, none⟩ = false := Blk.frozen hR 2
      have f3 : wr.frozen? ⟨w.heap.size + 2, 3, none⟩ = false := Blk.frozen hR 3
      obtain ⟨Q, hQ⟩ : ∃ Q, Q = q.or r := ⟨_, rfl⟩
      rw [← hQ] at y0 y1 y2 y3
      have HQ := Lib.hid hQ
      have h1 : SBlk _ _ _ := hR.setW (k := 0) (by omega) Q.a
      have h2 : SBlk _ _ _ := h1.setW (k := 1) (by omega) Q.b
      have h3 : SBlk _ _ _ := h2.setW (k := 2) (by omega) Q.c
      have h4 : SBlk _ _ _ := h3.setW (k := 3) (by omega) Q.d
      have HZ := Lib.hid h4
      have HBZ := Lib.hid ((((hB.setCell (p := ⟨w.heap.size + 2, 0, none⟩) (by dsimp only; omega) (.int .u64 (Q.a : Int))).setCell (p := ⟨w.heap.size + 2, 1, none⟩) (by dsimp only; omega) (.int .u64 (Q.b : Int))).setCell (p := ⟨w.heap.size + 2, 2, none⟩) (by dsimp only; omega) (.int .u64 (Q.c : Int))).setCell (p := ⟨w.heap.size + 2, 3, none⟩) (by dsimp only; omega) (.int .u64 (Q.d : Int)))
      clear hR hB hS4 hlt h1 h2 h3 h4 hQ HK
      go_wp2_with fail
      obtain ⟨wz, hwz⟩ : ∃ wz, wz = (((wr.setCell ⟨w.heap.size + 2, 0, none⟩ (.int .u64 (Q.a : Int))).setCell ⟨w.heap.size + 2, 1, none⟩ (.int .u64 (Q.b : Int))).setCell ⟨w.heap.size + 2, 2, none⟩ (.int .u64 (Q.c : Int))).setCell ⟨w.heap.size + 2, 3, none⟩ (.int .u64 (Q.d : Int)) := ⟨_, rfl⟩
      have hz := HZ.out
      have hbz := HBZ.out
      rw [← hwz] at hz hbz ⊢
      have z0 : wz.cell? ⟨w.heap.size + 2, 0, none⟩ = some (.int .u64 (Q.a : Int)) := hz.cell (k := 0) (by omega)
      have z1 : wz.cell? ⟨w.heap.size + 2, 1, none⟩ = some (.int .u64 (Q.b : Int)) := hz.cell (k := 1) (by omega)
      have z2 : wz.cell? ⟨w.heap.size + 2, 2, none⟩ = some (.int .u64 (Q.c : Int)) := hz.cell (k := 2) (by omega)
      have z3 : wz.cell? ⟨w.heap.size + 2, 3, none⟩ = some (.int .u64 (Q.d : Int)) := hz.cell (k := 3) (by omega)
      refine bodyPost_ret (v := setV Q) (by simp [results, Try.results98, go_sem, z0, z1, z2, z3, setV]) rfl ⟨by rw [HQ.out]; rfl, hbz⟩
end Go.Proofs.Ytkdcgkdbieeijaa
