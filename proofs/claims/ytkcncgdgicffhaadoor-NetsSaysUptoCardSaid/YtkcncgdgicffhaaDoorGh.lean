/- Bits of addresses, plainly; walks: nets.In, wickref.Within. -/
import Derived.Test.YtkcncgdgicffhaaDoorGg
import Derived.Test.YtkcncgdgicffhaaDoorGc
import Derived.Deep.QuietTactic
import Derived.BigQuiet
namespace Go.Proofs.YtkcncgdgicffhaaDoor
open Go.RowKit
set_option linter.unusedVariables false
set_option linter.unusedSimpArgs false

theorem mod_zero (a j : Nat) : a % 2 ^ j = 0 ↔ ∀ i, i < j → a.testBit i = false := by
  constructor
  · intro h i hi
    have := Nat.testBit_mod_two_pow a j i
    rw [h, Nat.zero_testBit] at this
    simpa [hi] using this.symm
  · intro h
    refine Nat.eq_of_testBit_eq fun i => ?_
    rw [Nat.testBit_mod_two_pow, Nat.zero_testBit]
    by_cases hi : i < j
    · rw [h i hi]; simp
    · simp [hi]
theorem msk_not : ∀ b : Fin 33, BitVec.ofNat 32 (4294967296 - 2 ^ (32 - b.val)) = ~~~ BitVec.ofNat 32 (2 ^ (32 - b.val) - 1) := by decide +kernel
theorem msk_bv (bits : Int) : BitVec.ofInt 32 (mskN bits : Int) = ~~~ BitVec.ofNat 32 (2 ^ (32 - mskB bits) - 1) := by
  rw [BitVec.ofInt_natCast]
  exact msk_not ⟨mskB bits, by have := mskB_le bits; omega⟩
theorem andNot_msk (a : Nat) (bits : Int) (ha : a < 4294967296) : Go.bits .andNot .u32 (a : Int) (mskN bits : Int) = ((a % 2 ^ (32 - mskB bits) : Nat) : Int) := by
  show IntKind.u32.wrap ((BitVec.ofInt 32 (a : Int) &&& ~~~ BitVec.ofInt 32 (mskN bits : Int)).toNat : Int) = _
  have hk : 2 ^ (32 - mskB bits) ≤ 4294967296 := Nat.pow_le_pow_right (by decide) (show 32 - mskB bits ≤ 32 by omega)
  have h : (BitVec.ofInt 32 (a : Int) &&& ~~~ BitVec.ofInt 32 (mskN bits : Int)).toNat = a % 2 ^ (32 - mskB bits) := by
    rw [msk_bv, BitVec.not_not, BitVec.toNat_and, BitVec.ofInt_natCast, BitVec.toNat_ofNat, BitVec.toNat_ofNat, Nat.mod_eq_of_lt (by omega), Nat.mod_eq_of_lt (a := 2 ^ (32 - mskB bits) - 1) (by omega), Nat.and_two_pow_sub_one_eq_mod]
  rw [h]
  have hm : a % 2 ^ (32 - mskB bits) ≤ a := Nat.mod_le _ _
  exact IntWalk.u32_in _ ⟨by omega, by omega⟩
/-- two addresses agree in the bits from k on -/
def SameHi (a b k : Nat) : Prop := ∀ j, k ≤ j → j < 32 → a.testBit j = b.testBit j
theorem in_bits (a b : Nat) (n : Int) (ha : a < 4294967296) (hb : b < 4294967296) : Go.bits .and .u32 (Go.bits .xor .u32 (a : Int) (b : Int)) (mskN n : Int) = 0 ↔ SameHi a b (32 - mskB n) := by
  have hx : Go.bits .xor .u32 (a : Int) (b : Int) = ((a ^^^ b : Nat) : Int) := by
    show IntKind.u32.wrap ((BitVec.ofInt 32 (a : Int) ^^^ BitVec.ofInt 32 (b : Int)).toNat : Int) = _
    have h : (BitVec.ofInt 32 (a : Int) ^^^ BitVec.ofInt 32 (b : Int)).toNat = a ^^^ b := by
      rw [BitVec.toNat_xor, BitVec.ofInt_natCast, BitVec.ofInt_natCast, BitVec.toNat_ofNat, BitVec.toNat_ofNat, Nat.mod_eq_of_lt (by omega), Nat.mod_eq_of_lt (by omega)]
    rw [h]
    have : a ^^^ b < 2 ^ 32 := Nat.xor_lt_two_pow (by omega) (by omega)
    exact IntWalk.u32_in _ ⟨by omega, by omega⟩
  rw [hx]
  have hxl : a ^^^ b < 2 ^ 32 := Nat.xor_lt_two_pow (by omega) (by omega)
  have hv : (BitVec.ofInt 32 ((a ^^^ b : Nat) : Int) &&& BitVec.ofInt 32 (mskN n : Int)).toNat < 2 ^ 32 := BitVec.isLt _
  have he : Go.bits .and .u32 ((a ^^^ b : Nat) : Int) (mskN n : Int) = ((BitVec.ofInt 32 ((a ^^^ b : Nat) : Int) &&& BitVec.ofInt 32 (mskN n : Int)).toNat : Int) := by
    show IntKind.u32.wrap ((BitVec.ofInt 32 ((a ^^^ b : Nat) : Int) &&& BitVec.ofInt 32 (mskN n : Int)).toNat : Int) = _
    exact IntWalk.u32_in _ ⟨by omega, by omega⟩
  rw [he, msk_bv, BitVec.ofInt_natCast]
  constructor
  · intro h j hj hj2
    have h0 : BitVec.ofNat 32 (a ^^^ b) &&& ~~~ BitVec.ofNat 32 (2 ^ (32 - mskB n) - 1) = 0#32 := BitVec.eq_of_toNat_eq (by rw [BitVec.toNat_ofNat]; omega)
    have h1 := congrArg (fun x => x.getLsbD j) h0
    simp only [BitVec.getLsbD_and, BitVec.getLsbD_not, BitVec.getLsbD_ofNat, Nat.testBit_two_pow_sub_one, Nat.testBit_xor, Nat.zero_testBit, hj2, decide_true, Bool.true_and, Bool.and_false] at h1
    rw [decide_eq_false (show ¬ j < 32 - mskB n by omega)] at h1
    simpa using h1
  · intro h
    have h0 : BitVec.ofNat 32 (a ^^^ b) &&& ~~~ BitVec.ofNat 32 (2 ^ (32 - mskB n) - 1) = 0#32 := by
      refine BitVec.eq_of_getLsbD_eq fun j hj => ?_
      simp only [BitVec.getLsbD_and, BitVec.getLsbD_not, BitVec.getLsbD_ofNat, Nat.testBit_two_pow_sub_one, Nat.testBit_xor, Nat.zero_testBit, hj, decide_true, Bool.true_and, Bool.and_false]
      by_cases hk : j < 32 - mskB n
      · simp [hk]
      · rw [h j (by omega) hj]; simp
    rw [h0]; rfl
/-- what both say of an address -/
noncomputable def inN (a b : Nat) (n : Int) : Bool := @decide (SameHi a b (32 - mskB n)) (Classical.propDecidable _)
theorem inN_iff (a b : Nat) (n : Int) : inN a b n = true ↔ SameHi a b (32 - mskB n) := by unfold inN; exact @decide_eq_true_iff _ (Classical.propDecidable _)
theorem inN_no {a b : Nat} {n : Int} (h : ¬ SameHi a b (32 - mskB n)) : inN a b n = false := by rw [Bool.eq_false_iff]; intro e; exact h ((inN_iff a b n).1 e)
set_option maxHeartbeats 1000000 in
theorem netIn_any (a b : Nat) (n : Int) (w : World) (ha : a < 4294967296) (hb : b < 4294967296) :
    Calls Tryd.prog 38 #[.agg #[.int .u32 a, .int .i64 n], .int .u32 b] w fun e w' => e = .returned (.bool (inN a b n)) ∧ Below w.heap.size w w' := by
  obtain ⟨W, hW⟩ : ∃ W, w.alloc (.cells #[.int .u32 a, .int .i64 n] 70) = W := ⟨_, rfl⟩
  have hWb : Below w.heap.size w W := by rw [← hW]; exact (Below.refl _ _).alloc (Nat.le_refl _) _
  have hWk : Blk W w.heap.size 70 #[.int .u32 a, .int .i64 n] := by rw [← hW]; exact Blk.new _ _ _
  have x0 : W.cell? ⟨w.heap.size, 0, none⟩ = some (.int .u32 a) := hWk.cell 0
  have x1 : W.cell? ⟨w.heap.size, 1, none⟩ = some (.int .i64 n) := hWk.cell 1
  have CM := Lib.hid fun w' => mask_any n w'
  have HI := Lib.hid (in_bits a b n ha hb)
  have HB := Lib.hid hWb
  obtain ⟨X, hX⟩ : ∃ X, Go.bits .and .u32 (Go.bits .xor .u32 (a : Int) (b : Int)) (mskN n : Int) = X := ⟨_, rfl⟩
  rw [hX] at HI
  have HR : Hid (inN a b n = (X == 0)) := Lib.hid (by
    rw [Bool.eq_iff_iff, inN_iff, beq_iff_eq]
    exact HI.out.symm)
  clear hWb hWk
  go_enter Tryd.func38, Tryd.ntmps38
  go_wp2_with fail
  go_quiet (first | (go_at_call 84; exact (CM.out _).mono fun _ _ h => ⟨h.1, _, h.2.symm⟩))
  go_wp2_with fail
  go_ret
  exact ⟨ret_bool (by rw [HR.out]), below_drewN HB.out _⟩
/-- a bit as the walk spells it -/
theorem bit_as {a p : Nat} {x : Bool} (h : a.testBit p = x) : ((a : Int) / 2 ^ p).tmod 2 = (x.toNat : Int) := by
  have h1 : (a : Int) / 2 ^ p = ((a / 2 ^ p : Nat) : Int) := by rw [Int.natCast_ediv, Int.natCast_pow]; rfl
  rw [h1, Int.tmod_eq_emod_of_nonneg (Int.natCast_nonneg _)]
  rw [Nat.testBit_eq_decide_div_mod_eq] at h
  cases x with
  | true => have := of_decide_eq_true h; show _ = (1 : Int); omega
  | false => have := of_decide_eq_false h; show _ = (0 : Int); omega
set_option maxHeartbeats 2000000 in
theorem within_any (a b : Nat) (n : Int) (w : World) (ha : a < 4294967296) (hb : b < 4294967296) :
    Calls Tryd.prog 39 #[.agg #[.int .u32 a, .int .i64 n], .int .u32 b] w fun e w' => e = .returned (.bool (inN a b n)) ∧ Below w.heap.size w w' := by
  obtain ⟨W, hW⟩ : ∃ W, w.alloc (.cells #[.int .u32 a, .int .i64 n] 70) = W := ⟨_, rfl⟩
  have hWb : Below w.heap.size w W := by rw [← hW]; exact (Below.refl _ _).alloc (Nat.le_refl _) _
  have hWk : Blk W w.heap.size 70 #[.int .u32 a, .int .i64 n] := by rw [← hW]; exact Blk.new _ _ _
  obtain ⟨R, hR⟩ : ∃ R, R = inN a b n := ⟨_, rfl⟩
  rw [← hR]
  have HR := Lib.hid hR
  have HK := Lib.hid hWk
  have HB := Lib.hid hWb
  clear hWb hWk hR
  go_enter Tryd.func39, Tryd.ntmps39
  go_wp2_with fail
  clear hW
  go_loopw [5] (fun u wr => ∃ (k q : Nat), u = .int .i64 (k : Int) ∧ k ≤ 32 ∧ wr = W.drewN q ∧ ((k : Int) ≤ n ∨ k = 0) ∧ Hid (SameHi a b (32 - k))) (fun u _ => 32 - (intOf u).toNat)
  case atStart => exact ⟨0, 0, rfl, by omega, rfl, .inr rfl, fun j h1 h2 => absurd h2 (by omega)⟩
  case round =>
    obtain ⟨k, q, rfl, hk, rfl, hkn, HS⟩ := hrel
    obtain ⟨wr, hwr⟩ : ∃ wr, wr = W.drewN q := ⟨_, rfl⟩
    have hk2 : Blk wr w.heap.size 70 #[.int .u32 a, .int .i64 n] := by rw [hwr]; exact HK.out.drewN q
    rw [← hwr]
    have HWR := Lib.hid hwr
    have x0 : wr.cell? ⟨w.heap.size, 0, none⟩ = some (.int .u32 a) := hk2.cell 0
    have x1 : wr.cell? ⟨w.heap.size, 1, none⟩ = some (.int .i64 n) := hk2.cell 1
    clear hwr hk2
    by_cases h32 : k < 32
    · have d1 : decide ((k : Int) < 32) = true := decide_eq_true (by omega)
      have d1' : decide (k < 32) = true := decide_eq_true h32
      by_cases hn : (k : Int) < n
      · have d2 : decide ((k : Int) < n) = true := decide_eq_true hn
        have j1 : IntKind.i64.wrap ((31 : Int) - (k : Int)) = (31 : Int) - (k : Int) := IntWalk.i64_in _ (by omega)
        have i1 : (0 : Int) ≤ (31 : Int) - (k : Int) := by omega
        obtain ⟨p, hp⟩ : ∃ p : Nat, p = 31 - k := ⟨_, rfl⟩
        have j2 : ((31 : Int) - (k : Int)).toNat = p := by omega
        have hpk := Lib.hid hp
        clear hp
        have hps : p < 32 := by have := hpk.out; omega
        obtain ⟨x, hx⟩ : ∃ x, a.testBit p = x := ⟨_, rfl⟩
        obtain ⟨y, hy⟩ : ∃ y, b.testBit p = y := ⟨_, rfl⟩
        have ex := bit_as hx
        have ey := bit_as hy
        by_cases hxy : x = y
        · subst hxy
          have HS2 : Hid (SameHi a b (32 - (k + 1))) := fun j h1 h2 => by
            by_cases e : j = p
            · rw [e, hx, hy]
            · exact HS.out j (by have := hpk.out; omega) h2
          have exy : ((x.toNat : Int) != (x.toNat : Int)) = false := by simp
          clear hx hy
          go_wp2_with fail
          go_quiet (fail)
          go_wp2_with fail
          go_roundw
          case rel => exact ⟨k + 1, _, by go_num, by omega, by rw [HWR.out]; exact World.drewN_drewN _ _ _, .inl (by omega), HS2⟩
          case measure => simp [intOf]; omega
        · have HF : Hid (R = false) := Lib.hid (by
            rw [HR.out]
            refine inN_no fun hs => hxy ?_
            have := hs p (by have := hpk.out; unfold mskB; omega) hps
            rw [hx, hy] at this; exact this)
          have exy : ((x.toNat : Int) != (y.toNat : Int)) = true := by cases x <;> cases y <;> simp_all
          clear hx hy hxy
          go_wp2_with fail
          go_quiet (fail)
          go_wp2_with fail
          go_ret
          exact ⟨ret_bool HF.out.symm, below_drewN (by rw [HWR.out]; exact below_drewN HB.out _) _⟩
      · have HT : Hid (R = true) := Lib.hid (by
          rw [HR.out, inN_iff]
          exact fun j h1 h2 => HS.out j (by unfold mskB at h1; omega) h2)
        have d2 : decide ((k : Int) < n) = false := decide_eq_false hn
        clear hn
        go_wp2_with fail
        go_ret
        exact ⟨ret_bool HT.out.symm, by rw [HWR.out]; exact below_drewN HB.out _⟩
    · obtain rfl : k = 32 := by omega
      have HT : Hid (R = true) := Lib.hid (by
        rw [HR.out, inN_iff]
        exact fun j h1 h2 => HS.out j (by omega) h2)
      go_wp2_with fail
      go_ret
      exact ⟨ret_bool HT.out.symm, by rw [HWR.out]; exact below_drewN HB.out _⟩
end Go.Proofs.YtkcncgdgicffhaaDoor
