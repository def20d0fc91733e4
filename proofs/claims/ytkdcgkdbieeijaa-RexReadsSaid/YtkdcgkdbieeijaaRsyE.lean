/- Walks: rex.not, rex.bytes; the closure of wickref.RexText. -/
import Derived.Test.YtkdcgkdbieeijaaSbC
namespace Go.Proofs.Ytkdcgkdbieeijaa
open Go.RowKit
set_option linter.unusedVariables false
set_option linter.unusedSimpArgs false

def notW (x : Nat) : Nat := 18446744073709551616 - (x + 1)
def Q4.not (q : Q4) : Q4 := ⟨notW q.a, notW q.b, notW q.c, notW q.d⟩
/-- the first k words turned -/
def notK (q : Q4) (k : Nat) : Q4 := ⟨if 0 < k then notW q.a else q.a, if 1 < k then notW q.b else q.b, if 2 < k then notW q.c else q.c, if 3 < k then notW q.d else q.d⟩
theorem notK_word (q : Q4) {k : Nat} (hk : k < 4) : (notK q k).word k = q.word k := by
  obtain rfl | rfl | rfl | rfl : k = 0 ∨ k = 1 ∨ k = 2 ∨ k = 3 := by omega
  all_goals rfl
theorem notK_next (q : Q4) {k : Nat} (hk : k < 4) : (notK q k).setW k (notW (q.word k)) = notK q (k + 1) := by
  obtain rfl | rfl | rfl | rfl : k = 0 ∨ k = 1 ∨ k = 2 ∨ k = 3 := by omega
  all_goals rfl
theorem notW_lt (x : Nat) : notW x < 18446744073709551616 := by unfold notW; omega
theorem setB_not {q : Q4} (h : q.ok) {b : Nat} (hb : b < 256) : setB q.not b = !setB q b := by
  rw [setB_bit, setB_bit]
  have hw : q.not.word (b / 64) = notW (q.word (b / 64)) := by
    obtain e | e | e | e : b / 64 = 0 ∨ b / 64 = 1 ∨ b / 64 = 2 ∨ b / 64 = 3 := by omega
    all_goals rw [e]; rfl
  rw [hw]
  unfold notW
  have hx := Q4.word_lt h (b / 64)
  rw [show (18446744073709551616 : Nat) = 2 ^ 64 by decide, Nat.testBit_two_pow_sub_succ (by omega), decide_eq_true (by omega), Bool.true_and]
theorem Q4.not_ok (q : Q4) : q.not.ok := ⟨notW_lt _, notW_lt _, notW_lt _, notW_lt _⟩
theorem not_bit (x : Nat) (hx : x < 18446744073709551616) : bits .xor .u64 (if IntKind.u64.signed = true then -1 else IntKind.u64.max) (x : Int) = ((notW x : Nat) : Int) := by
  have e : (if IntKind.u64.signed = true then (-1 : Int) else IntKind.u64.max) = 18446744073709551615 := by decide
  rw [e]
  have h2 : (BitVec.ofInt 64 (x : Int)).toNat = x := by
    rw [BitVec.ofInt_natCast, BitVec.toNat_ofNat]; exact Nat.mod_eq_of_lt (by omega)
  have h1 : BitVec.ofInt 64 18446744073709551615 = BitVec.allOnes 64 := by decide
  show IntKind.u64.wrap ((BitVec.ofInt 64 18446744073709551615 ^^^ BitVec.ofInt 64 (x : Int)).toNat : Int) = _
  rw [h1, BitVec.allOnes_xor, BitVec.toNat_not, h2, IntKind.wrap_u64]
  unfold notW
  omega
set_option maxRecDepth 100000 in
set_option maxHeartbeats 2000000 in
theorem not_any (q : Q4) (hq : q.ok) (w : World) :
    Calls Try.prog 83 #[setV q] w fun e w' => e = .returned (setV q.not) ∧ Below w.heap.size w w' := by
  obtain ⟨W, hW⟩ : ∃ W, (w.alloc (.cells #[.int .u64 (q.a : Int), .int .u64 (q.b : Int), .int .u64 (q.c : Int), .int .u64 (q.d : Int)] 24)).alloc (.cells #[.int .u64 0, .int .u64 0, .int .u64 0, .int .u64 0] 24) = W := ⟨_, rfl⟩
  have hS0 : SBlk W w.heap.size (notK q 0) := by rw [← hW]; exact Blk.alloc (Blk.new w _ _) _
  have hR0 : SBlk W (w.heap.size + 1) ⟨0, 0, 0, 0⟩ := by
    have := SBlk.new (w.alloc (.cells #[.int .u64 (q.a : Int), .int .u64 (q.b : Int), .int .u64 (q.c : Int), .int .u64 (q.d : Int)] 24))
    rw [hW] at this; simpa using this
  have HB0 : Hid (Below w.heap.size w W) := by show Below _ _ _; rw [← hW]; exact ((Below.refl _ _).alloc (Nat.le_refl _) _).alloc (by simp) _
  have HS0 := Lib.hid hS0
  have HR0 := Lib.hid hR0
  clear hS0 hR0
  unfold setV
  go_enter Try.func83, Try.ntmps83
  go_wp2_with fail
  go_loopw [4] (fun u wr => ∃ k : Nat, u = .int .i64 (k : Int) ∧ k ≤ 4 ∧ SBlk wr w.heap.size (notK q k) ∧ SBlk wr (w.heap.size + 1) ⟨0, 0, 0, 0⟩ ∧ Below w.heap.size w wr) (fun u _ => 4 - (intOf u).toNat)
  case atStart => exact ⟨0, rfl, by omega, HS0.out, HR0.out, HB0.out⟩
  case round =>
    obtain ⟨k, rfl, hk, hS, hR, hB⟩ := hrel
    clear HS0 HR0 HB0 hW
    by_cases hlt : k < 4
    · have y0 := hS.cell hlt
      rw [notK_word q hlt] at y0
      have y1 : wr.frozen? ⟨w.heap.size, k, none⟩ = false := Blk.frozen hS _
      have hN := hS.setW hlt (notW (q.word k))
      rw [notK_next q hlt] at hN
      have HN := Lib.hid hN
      have HR2 : Hid (SBlk (wr.setCell ⟨w.heap.size, k, none⟩ (.int .u64 ((notW (q.word k) : Nat) : Int))) (w.heap.size + 1) ⟨0, 0, 0, 0⟩) := Blk.far hR (by dsimp only; omega) _
      have HB2 := Lib.hid (hB.setCell (p := ⟨w.heap.size, k, none⟩) (Nat.le_refl _) (.int .u64 ((notW (q.word k) : Nat) : Int)))
      have HV := Lib.hid (not_bit (q.word k) (Q4.word_lt hq k))
      clear hS hR hB hN
      obtain rfl | rfl | rfl | rfl : k = 0 ∨ k = 1 ∨ k = 2 ∨ k = 3 := by omega
      · go_wp2_with fail
        exact ⟨⟨1, rfl, by omega, by rw [HV.out]; exact HN.out, by rw [HV.out]; exact HR2.out, by rw [HV.out]; exact HB2.out⟩, by simp [intOf]⟩
      · go_wp2_with fail
        exact ⟨⟨2, rfl, by omega, by rw [HV.out]; exact HN.out, by rw [HV.out]; exact HR2.out, by rw [HV.out]; exact HB2.out⟩, by simp [intOf]⟩
      · go_wp2_with fail
        exact ⟨⟨3, rfl, by omega, by rw [HV.out]; exact HN.out, by rw [HV.out]; exact HR2.out, by rw [HV.out]; exact HB2.out⟩, by simp [intOf]⟩
      · go_wp2_with fail
        exact ⟨⟨4, rfl, by omega, by rw [HV.out]; exact HN.out, by rw [HV.out]; exact HR2.out, by rw [HV.out]; exact HB2.out⟩, by simp [intOf]⟩
    · obtain rfl : k = 4 := by omega
      have hS4 : SBlk wr w.heap.size q.not := hS
      have y0 : wr.cell? ⟨w.heap.size, 0, none⟩ = some (.int .u64 (q.not.a : Int)) := hS4.cell (k := 0) (by omega)
      have y1 : wr.cell? ⟨w.heap.size, 1, none⟩ = some (.int .u64 (q.not.b : Int)) := hS4.cell (k := 1) (by omega)
      have y2 : wr.cell? ⟨w.heap.size, 2, none⟩ = some (.int .u64 (q.not.c : Int)) := hS4.cell (k := 2) (by omega)
      have y3 : wr.cell? ⟨w.heap.size, 3, none⟩ = some (.int .u64 (q.not.d : Int)) := hS4.cell (k := 3) (by omega)
      have r0 : wr.cell? ⟨w.heap.size + 1, 0, none⟩ = some (.int .u64 0) := hR.cell (k := 0) (by omega)
      have r1 : wr.cell? ⟨w.heap.size + 1, 1, none⟩ = some (.int .u64 0) := hR.cell (k := 1) (by omega)
      have r2 : wr.cell? ⟨w.heap.size + 1, 2, none⟩ = some (.int .u64 0) := hR.cell (k := 2) (by omega)
      have r3 : wr.cell? ⟨w.heap.size + 1, 3, none⟩ = some (.int .u64 0) := hR.cell (k := 3) (by omega)
      have f0 : wr.frozen? ⟨w.heap.size + 1, 0, none⟩ = false := Blk.frozen hR 0
      have f1 : wr.frozen? ⟨w.heap.size + 1, 1, none⟩ = false := Blk.frozen hR 1
      have f2 : wr.frozen? ⟨w.heap.size + 1, 2, none⟩ = false := Blk.frozen hR 2
      have f3 : wr.frozen? ⟨w.heap.size + 1, 3, none⟩ = false := Blk.frozen hR 3
      obtain ⟨Q, hQ⟩ : ∃ Q, Q = q.not := ⟨_, rfl⟩
      rw [← hQ] at y0 y1 y2 y3
      have HQ := Lib.hid hQ
      have h1 : SBlk _ _ _ := hR.setW (k := 0) (by omega) Q.a
      have h2 : SBlk _ _ _ := h1.setW (k := 1) (by omega) Q.b
      have h3 : SBlk _ _ _ := h2.setW (k := 2) (by omega) Q.c
      have h4 : SBlk _ _ _ := h3.setW (k := 3) (by omega) Q.d
      have HZ := Lib.hid h4
      have HBZ := Lib.hid ((((hB.setCell (p := ⟨w.heap.size + 1, 0, none⟩) (by dsimp only; omega) (.int .u64 (Q.a : Int))).setCell (p := ⟨w.heap.size + 1, 1, none⟩) (by dsimp only; omega) (.int .u64 (Q.b : Int))).setCell (p := ⟨w.heap.size + 1, 2, none⟩) (by dsimp only; omega) (.int .u64 (Q.c : Int))).setCell (p := ⟨w.heap.size + 1, 3, none⟩) (by dsimp only; omega) (.int .u64 (Q.d : Int)))
      clear hS hR hB hS4 hlt h1 h2 h3 h4 hQ
      go_wp2_with fail
      obtain ⟨wz, hwz⟩ : ∃ wz, wz = (((wr.setCell ⟨w.heap.size + 1, 0, none⟩ (.int .u64 (Q.a : Int))).setCell ⟨w.heap.size + 1, 1, none⟩ (.int .u64 (Q.b : Int))).setCell ⟨w.heap.size + 1, 2, none⟩ (.int .u64 (Q.c : Int))).setCell ⟨w.heap.size + 1, 3, none⟩ (.int .u64 (Q.d : Int)) := ⟨_, rfl⟩
      have hz := HZ.out
      have hbz := HBZ.out
      rw [← hwz] at hz hbz ⊢
      have z0 : wz.cell? ⟨w.heap.size + 1, 0, none⟩ = some (.int .u64 (Q.a : Int)) := hz.cell (k := 0) (by omega)
      have z1 : wz.cell? ⟨w.heap.size + 1, 1, none⟩ = some (.int .u64 (Q.b : Int)) := hz.cell (k := 1) (by omega)
      have z2 : wz.cell? ⟨w.heap.size + 1, 2, none⟩ = some (.int .u64 (Q.c : Int)) := hz.cell (k := 2) (by omega)
      have z3 : wz.cell? ⟨w.heap.size + 1, 3, none⟩ = some (.int .u64 (Q.d : Int)) := hz.cell (k := 3) (by omega)
      refine bodyPost_ret (v := setV Q) (by simp [results, Try.results83, go_sem, z0, z1, z2, z3, setV]) rfl ⟨by rw [HQ.out]; rfl, hbz⟩
end Go.Proofs.Ytkdcgkdbieeijaa
