/- Walks: rex.Range, wickref.Where: sets of bytes are built. -/
import Derived.Test.YtkdcgkdbieeijaaSbA
import Derived.RegionTactic
import Derived.BigRegion
import Derived.LoopTactic
namespace Go.Proofs.Ytkdcgkdbieeijaa
open Go.RowKit
set_option linter.unusedVariables false
set_option linter.unusedSimpArgs false

/-- block g holds the set q -/
def SBlk (w : World) (g : Nat) (q : Q4) : Prop := Blk w g 24 #[.int .u64 (q.a : Int), .int .u64 (q.b : Int), .int .u64 (q.c : Int), .int .u64 (q.d : Int)]
theorem SBlk.cell {w : World} {g : Nat} {q : Q4} (h : SBlk w g q) {k : Nat} (hk : k < 4) : w.cell? ⟨g, k, none⟩ = some (.int .u64 (q.word k : Int)) := by
  rw [Blk.cell h]
  obtain rfl | rfl | rfl | rfl : k = 0 ∨ k = 1 ∨ k = 2 ∨ k = 3 := by omega
  all_goals rfl
theorem SBlk.setW {w : World} {g : Nat} {q : Q4} (h : SBlk w g q) {k : Nat} (hk : k < 4) (v : Nat) : SBlk (w.setCell ⟨g, k, none⟩ (.int .u64 (v : Int))) g (q.setW k v) := by
  have := Blk.set_ h k (.int .u64 (v : Int))
  obtain rfl | rfl | rfl | rfl : k = 0 ∨ k = 1 ∨ k = 2 ∨ k = 3 := by omega
  all_goals exact this
theorem SBlk.drew {w : World} {g : Nat} {q : Q4} (h : SBlk w g q) : SBlk w.drew g q := h
theorem SBlk.new (w : World) : SBlk (w.alloc (.cells #[.int .u64 0, .int .u64 0, .int .u64 0, .int .u64 0] 24)) w.heap.size ⟨0, 0, 0, 0⟩ := Blk.new _ _ _
def setV (q : Q4) : Value := .agg #[.int .u64 (q.a : Int), .int .u64 (q.b : Int), .int .u64 (q.c : Int), .int .u64 (q.d : Int)]
/-- two sets' blocks, made by the call -/
structure Sb2 (w wr : World) (q : Q4) : Prop where
  res : SBlk wr w.heap.size ⟨0, 0, 0, 0⟩
  set : SBlk wr (w.heap.size + 1) q
  be : Below w.heap.size w wr
theorem Sb2.start (w : World) : Sb2 w ((w.alloc (.cells #[.int .u64 0, .int .u64 0, .int .u64 0, .int .u64 0] 24)).alloc (.cells #[.int .u64 0, .int .u64 0, .int .u64 0, .int .u64 0] 24)) ⟨0, 0, 0, 0⟩ := by
  refine ⟨Blk.alloc (SBlk.new w) _, ?_, ((Below.refl _ _).alloc (Nat.le_refl _) _).alloc (by simp) _⟩
  have := SBlk.new (w.alloc (.cells #[.int .u64 0, .int .u64 0, .int .u64 0, .int .u64 0] 24))
  simpa using this
theorem Sb2.setW {w wr : World} {q : Q4} (h : Sb2 w wr q) {k : Nat} (hk : k < 4) (v : Nat) : Sb2 w (wr.setCell ⟨w.heap.size + 1, k, none⟩ (.int .u64 (v : Int))) (q.setW k v) :=
  ⟨Blk.far h.res (by dsimp only; omega) _, h.set.setW hk v, h.be.setCell (p := ⟨w.heap.size + 1, k, none⟩) (by dsimp only; omega) _⟩
theorem Sb2.drew {w wr : World} {q : Q4} (h : Sb2 w wr q) : Sb2 w wr.drew q := ⟨h.res.drew, h.set.drew, h.be.drew⟩
theorem Sb2.kept {w wr w' : World} {q : Q4} (h : Sb2 w wr q) (hb : Below wr.heap.size wr w') : Sb2 w w' q :=
  ⟨Blk.below h.res hb (Blk.lt h.res), Blk.below h.set hb (Blk.lt h.set), h.be.trans (hb.mono h.be.size)⟩
/-- the set put into the result's cells -/
theorem Sb2.put_ {w wr : World} {q : Q4} (h : Sb2 w wr q) :
    ∃ wz, wz = (((wr.setCell ⟨w.heap.size, 0, none⟩ (.int .u64 (q.a : Int))).setCell ⟨w.heap.size, 1, none⟩ (.int .u64 (q.b : Int))).setCell ⟨w.heap.size, 2, none⟩ (.int .u64 (q.c : Int))).setCell ⟨w.heap.size, 3, none⟩ (.int .u64 (q.d : Int)) ∧ Below w.heap.size w wz ∧
      wz.cell? ⟨w.heap.size, 0, none⟩ = some (.int .u64 (q.a : Int)) ∧ wz.cell? ⟨w.heap.size, 1, none⟩ = some (.int .u64 (q.b : Int)) ∧ wz.cell? ⟨w.heap.size, 2, none⟩ = some (.int .u64 (q.c : Int)) ∧ wz.cell? ⟨w.heap.size, 3, none⟩ = some (.int .u64 (q.d : Int)) := by
  have h1 : SBlk _ _ _ := h.res.setW (k := 0) (by omega) q.a
  have h2 : SBlk _ _ _ := h1.setW (k := 1) (by omega) q.b
  have h3 : SBlk _ _ _ := h2.setW (k := 2) (by omega) q.c
  have h4 : SBlk _ _ _ := h3.setW (k := 3) (by omega) q.d
  exact ⟨_, rfl, (((h.be.setCell (p := ⟨w.heap.size, 0, none⟩) (Nat.le_refl _) _).setCell (p := ⟨w.heap.size, 1, none⟩) (Nat.le_refl _) _).setCell (p := ⟨w.heap.size, 2, none⟩) (Nat.le_refl _) _).setCell (p := ⟨w.heap.size, 3, none⟩) (Nat.le_refl _) _, h4.cell (k := 0) (by omega), h4.cell (k := 1) (by omega), h4.cell (k := 2) (by omega), h4.cell (k := 3) (by omega)⟩
/-- the bytes from lo up to b, b not among them -/
def rngTo (lo b : Int) (j : Nat) : Bool := decide (lo ≤ (j : Int) ∧ (j : Int) < b)
theorem setOf_start (lo : Int) : SetOf ⟨0, 0, 0, 0⟩ (rngTo lo lo) := ⟨⟨by decide, by decide, by decide, by decide⟩, fun b _ => by
  rw [setB_none]; unfold rngTo; exact (decide_eq_false (by omega)).symm⟩
theorem setOf_next {q : Q4} {lo : Int} {b : Nat} (h : SetOf q (rngTo lo b)) (hb : b < 256) (hlo : lo ≤ b) : SetOf (q.put b) (rngTo lo ((b : Int) + 1)) :=
  ⟨Q4.put_ok h.1 b, fun j hj => by
    rw [setB_put q hb hj, h.2 j hj]
    unfold rngTo
    rw [Bool.eq_iff_iff, Bool.or_eq_true, decide_eq_true_eq, decide_eq_true_eq, decide_eq_true_eq]; omega⟩
theorem and63i : ∀ b : UInt8, bits .and .i64 (b.toNat : Int) 63 = ((b.toNat % 64 : Nat) : Int) := all_bytes (by decide +kernel)
theorem and63n {b : Nat} (hb : b ≤ 255) : bits .and .i64 (b : Int) 63 = ((b % 64 : Nat) : Int) := by
  have := and63i (UInt8.ofNat b)
  rwa [toNat_of b (by omega)] at this
theorem or_bit (x b : Nat) (hx : x < 18446744073709551616) : bits .or .u64 (x : Int) (IntKind.u64.wrap (2 ^ (b % 64))) = ((x ||| 2 ^ (b % 64) : Nat) : Int) := by
  have h := pow_lt64 b
  have e : ((2 : Int) ^ (b % 64)) = ((2 ^ (b % 64) : Nat) : Int) := by simp
  have e2 : IntKind.u64.wrap (2 ^ (b % 64)) = ((2 ^ (b % 64) : Nat) : Int) := by
    rw [e, IntKind.wrap_u64]
    generalize 2 ^ (b % 64) = m at *
    omega
  rw [e2, bits_or_u64_nat _ _ hx h]
def RangeRes (lo hi : Int) (w : World) (e : Ending) (w' : World) : Prop := ∃ q, e = .returned (setV q) ∧ SetOf q (rngTo lo (hi + 1)) ∧ Below w.heap.size w w'
set_option maxHeartbeats 2000000 in
theorem range_any (lo hi : Nat) (hh : hi ≤ 255) (w : World) (h : lo ≤ hi + 1) :
    Calls Try.prog 84 #[.int .i64 (lo : Int), .int .i64 (hi : Int)] w (RangeRes lo hi w) := by
  have HS := Lib.hid (Sb2.start w)
  go_enter Try.func84, Try.ntmps84
  go_wp2_with fail
  go_loopw [6] (fun u wr => ∃ (b : Nat) (q : Q4), u = .int .i64 (b : Int) ∧ lo ≤ b ∧ b ≤ hi + 1 ∧ Sb2 w wr q ∧ Hid (SetOf q (rngTo lo b))) (fun u _ => hi + 1 - (intOf u).toNat)
  case atStart => exact ⟨lo, _, rfl, Nat.le_refl _, h, HS.out, setOf_start _⟩
  case round =>
    obtain ⟨b, q, rfl, hlo, hb, hS, HQ⟩ := hrel
    by_cases hlt : b ≤ hi
    · have i1 : (b : Int) ≤ (hi : Int) := by omega
      have HN : Hid (SetOf (q.put b) (rngTo lo ((b : Int) + 1))) := setOf_next HQ.out (by omega) (by omega)
      have h63 := and63n (b := b) (by omega)
      have hq4 : b / 64 < 4 := by omega
      have HN2 := Lib.hid (hS.setW hq4 (q.word (b / 64) ||| 2 ^ (b % 64)))
      have y0 := hS.set.cell hq4
      have y1 : wr.frozen? ⟨w.heap.size + 1, b / 64, none⟩ = false := Blk.frozen hS.set _
      have HS2 := Lib.hid hS
      clear hS
      have HV := Lib.hid (or_bit (q.word (b / 64)) b (Q4.word_lt HQ.out.1 _))
      rcases quarter (b := b) (by omega) with ⟨h6, e6⟩ | ⟨h6, e6⟩ | ⟨h6, e6⟩ | ⟨h6, e6⟩
      all_goals
        have HP : Hid (q.put b = q.setW (b / 64) (q.word (b / 64) ||| 2 ^ (b % 64))) := rfl
        rw [h6] at y0 y1 HN2 HV HP
        clear h6 hq4
        go_wp2_with fail
        go_region
        all_goals go_wp2_with fail
        all_goals go_roundw
        case rel => exact ⟨b + 1, q.put b, by go_num, by omega, by omega, by rw [HV.out, HP.out]; exact HN2.out.drew, by rw [Int.natCast_succ]; exact HN⟩
        case measure => simp [intOf]; omega
    · obtain rfl : b = hi + 1 := by omega
      have i1 : ¬ ((hi : Int) + 1) ≤ (hi : Int) := by omega
      have y0 : wr.cell? ⟨w.heap.size + 1, 0, none⟩ = some (.int .u64 (q.a : Int)) := hS.set.cell (k := 0) (by omega)
      have y1 : wr.cell? ⟨w.heap.size + 1, 1, none⟩ = some (.int .u64 (q.b : Int)) := hS.set.cell (k := 1) (by omega)
      have y2 : wr.cell? ⟨w.heap.size + 1, 2, none⟩ = some (.int .u64 (q.c : Int)) := hS.set.cell (k := 2) (by omega)
      have y3 : wr.cell? ⟨w.heap.size + 1, 3, none⟩ = some (.int .u64 (q.d : Int)) := hS.set.cell (k := 3) (by omega)
      have r0 : wr.cell? ⟨w.heap.size, 0, none⟩ = some (.int .u64 0) := hS.res.cell (k := 0) (by omega)
      have r1 : wr.cell? ⟨w.heap.size, 1, none⟩ = some (.int .u64 0) := hS.res.cell (k := 1) (by omega)
      have r2 : wr.cell? ⟨w.heap.size, 2, none⟩ = some (.int .u64 0) := hS.res.cell (k := 2) (by omega)
      have r3 : wr.cell? ⟨w.heap.size, 3, none⟩ = some (.int .u64 0) := hS.res.cell (k := 3) (by omega)
      have f0 : wr.frozen? ⟨w.heap.size, 0, none⟩ = false := Blk.frozen hS.res 0
      have f1 : wr.frozen? ⟨w.heap.size, 1, none⟩ = false := Blk.frozen hS.res 1
      have f2 : wr.frozen? ⟨w.heap.size, 2, none⟩ = false := Blk.frozen hS.res 2
      have f3 : wr.frozen? ⟨w.heap.size, 3, none⟩ = false := Blk.frozen hS.res 3
      have HS := Lib.hid hS
      clear hS hlt
      go_wp2_with fail
      obtain ⟨wz, hwz, hz, z0, z1, z2, z3⟩ := HS.out.put_
      rw [← hwz]
      refine bodyPost_ret (v := setV q) (by simp [results, Try.results84, go_sem, z0, z1, z2, z3, setV]) rfl ⟨q, rfl, by have := HQ.out; rwa [Int.natCast_succ] at this, hz⟩
end Go.Proofs.Ytkdcgkdbieeijaa
