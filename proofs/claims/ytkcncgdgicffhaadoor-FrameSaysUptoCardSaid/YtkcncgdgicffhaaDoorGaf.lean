/- Walk: strconv's formatBits at base 16. -/
import Derived.Test.YtkcncgdgicffhaaDoorGae
namespace Go.Proofs.YtkcncgdgicffhaaDoor
open Go.RowKit
set_option linter.unusedVariables false
set_option linter.unusedSimpArgs false

/-- a digit of base 16 -/
def hxc (u : Nat) : UInt8 := if u < 10 then UInt8.ofNat (48 + u) else UInt8.ofNat (87 + u)
/-- the digits of a number, ahead of what is there -/
def hxL : Nat → Nat → List UInt8 → List UInt8
  | 0, _, acc => acc
  | f + 1, u, acc => if u < 16 then hxc u :: acc else hxL f (u / 16) (hxc (u % 16) :: acc)
def fmtL (n : Nat) : List UInt8 := hxL 16 n []
theorem hxL_len : ∀ (f u : Nat) (acc : List UInt8), (hxL f u acc).length ≤ f + acc.length
  | 0, _, acc => by simp [hxL]
  | f + 1, u, acc => by
    unfold hxL; split
    · simp; omega
    · have := hxL_len f (u / 16) (hxc (u % 16) :: acc)
      simp at this; omega
theorem dig36 : ∀ k : Fin 16, ((ByteArray.mk #[48, 49, 50, 51, 52, 53, 54, 55, 56, 57, 97, 98, 99, 100, 101, 102, 103, 104, 105, 106, 107, 108, 109, 110, 111, 112, 113, 114, 115, 116, 117, 118, 119, 120, 121, 122])[k.val]'(by have := k.isLt; show k.val < 36; omega)).toNat = (hxc k.val).toNat := by decide
theorem dig_at (k : Nat) (h : k < 16) (h2 : k < (ByteArray.mk #[48, 49, 50, 51, 52, 53, 54, 55, 56, 57, 97, 98, 99, 100, 101, 102, 103, 104, 105, 106, 107, 108, 109, 110, 111, 112, 113, 114, 115, 116, 117, 118, 119, 120, 121, 122]).size) : ((ByteArray.mk #[48, 49, 50, 51, 52, 53, 54, 55, 56, 57, 97, 98, 99, 100, 101, 102, 103, 104, 105, 106, 107, 108, 109, 110, 111, 112, 113, 114, 115, 116, 117, 118, 119, 120, 121, 122])[k]'h2).toNat = (hxc k).toNat := dig36 ⟨k, h⟩
theorem and15 (v : Nat) (h : v < 18446744073709551616) : bits .and .u64 (v : Int) 15 = ((v % 16 : Nat) : Int) := by
  have h15 : (BitVec.ofInt 64 15).toNat = 2 ^ 4 - 1 := by decide
  have hv : (BitVec.ofInt 64 (v : Int)).toNat = v := by rw [BitVec.ofInt_natCast, BitVec.toNat_ofNat]; exact Nat.mod_eq_of_lt (by omega)
  have h : (BitVec.ofInt 64 (v : Int) &&& BitVec.ofInt 64 15).toNat = v % 16 := by rw [BitVec.toNat_and, h15, hv, Nat.and_two_pow_sub_one_eq_mod]
  show IntKind.u64.wrap ((BitVec.ofInt 64 (v : Int) &&& BitVec.ofInt 64 15).toNat : Int) = _
  rw [h]
  exact IntWalk.u64_in _ ⟨by omega, by omega⟩
/-- the digits that are written: the cells from p on -/
structure Hx (w wr : World) (p : Nat) (acc : List UInt8) : Prop where
  cs : ∃ cs : Array Value, Blk wr w.heap.size 155 cs ∧ cs.size = 65 ∧ ∀ j (hj : j < acc.length), cs[p + j]? = some (bv acc[j])
  len : p + acc.length = 65
  be : Below w.heap.size w wr
theorem Hx.put {w wr : World} {q : Nat} {acc : List UInt8} (h : Hx w wr (q + 1) acc) (c : UInt8) : Hx w (wr.setCell ⟨w.heap.size, q, none⟩ (.int .u8 (c.toNat : Int))) q (c :: acc) := by
  obtain ⟨cs, h1, h2, h3⟩ := h.cs
  have hl := h.len
  refine ⟨⟨_, h1.set_ q (bv c), by simpa using h2, fun j hj => ?_⟩, by rw [List.length_cons]; omega, h.be.setCell (p := ⟨w.heap.size, q, none⟩) (Nat.le_refl _) _⟩
  rw [Array.getElem?_setIfInBounds]
  cases j with
  | zero => rw [if_pos (by omega), if_pos (by omega)]; rfl
  | succ j =>
    rw [if_neg (by omega), show q + (j + 1) = q + 1 + j by omega]
    rw [List.length_cons] at hj
    exact h3 j (by omega)
theorem Hx.conv {w wr : World} {q : Nat} {acc : List UInt8} (h : Hx w wr q acc) : (convert 90 9 (.slice (some ⟨w.heap.size, q, none⟩) (65 - q) (65 - q))).run Tryd.prog wr = .ok (.string (str acc)) wr := by
  obtain ⟨cs, h1, h2, h3⟩ := h.cs
  have hl := h.len
  rw [run_convert_bytes_arg (P := Tryd.prog) wr 90 5 Tryd.underlying90 Tryd.underlying5 w.heap.size q (65 - q) (65 - q) (acc.map fun b => (b.toNat : Int)) (by rw [List.length_map]; omega) (fun i hi => by
      rw [h1.cell (q + i), h3 i (by omega)]
      simp [List.getD, bv, show i < acc.length by omega]) 9 Tryd.underlying9, str_nums]
theorem arr65 : Tryd.prog.arrayLen 155 = 65 := by kernel_rfl
theorem und65 : Tryd.prog.underlying 155 = some (.array (Tryd.prog.arrayLen 155) (Tryd.prog.elem 155)) := by kernel_rfl
theorem el65 (w : World) : (sizeOf (Tryd.prog.elem 155)).run Tryd.prog w = .ok 1 w := by
  rw [show Tryd.prog.elem 155 = 5 by kernel_rfl]
  obtain ⟨i0, hi, _, hz1, _⟩ := info_parts infoByte
  simp [sizeOf, typeInfo, hi, hz1]
theorem sl65 (g q : Nat) (hq : q < 65) (w : World) : (Instr.sliceAt 155 (.pointer (some ⟨g, 0, none⟩)) (some (.int .i64 (q : Int))) none none).run Tryd.prog w = .ok (.slice (some ⟨g, q, none⟩) (65 - q) (65 - q)) w := by
  rw [run_sliceAt_array_l (P := Tryd.prog) w 155 ⟨g, 0, none⟩ und65 .i64 (q : Int) (by omega) (by rw [arr65]; omega), el65]
  simp only [Result.andThen, slicedAt, arr65, Int.toNat_natCast]
  rw [if_neg (by omega)]
  simp only [Addr.add, Nat.mul_one, Nat.zero_add]
  split
  · next h => subst h; rfl
  · rfl
set_option maxRecDepth 100000 in
set_option maxHeartbeats 2000000 in
theorem formatBits_any (n : Nat) (w : World) (hn : n < 18446744073709551616) (hT : ToB w) (hg : 3 < w.heap.size) :
    Calls Tryd.prog 115 #[.slice none 0 0, .int .u64 n, .int .i64 16, .bool false, .bool false] w fun e w' => e = .returned (.tuple #[.slice none 0 0, .string (str (fmtL n))]) ∧ Below w.heap.size w w' := by
  obtain ⟨R, hR⟩ : ∃ R, R = fmtL n := ⟨_, rfl⟩
  rw [← hR]
  have HR0 : Hid (hxL 16 n [] = R) := Lib.hid hR.symm
  clear hR
  go_enter Tryd.func115, Tryd.ntmps115
  go_wp2_with fail
  refine (pow2_16 _).mono ?_
  rintro e w1 ⟨rfl, rfl⟩
  have hT1 : ToB (w.alloc (Obj.cells Tryd.zeroCells155 155)) := hT.below ((Below.refl w.heap.size w).alloc (Nat.le_refl _) _) hg
  have C1 := Lib.hid (tz_16 _ hT1)
  clear hT1
  go_wp2_with fail
  refine C1.out.mono ?_
  rintro e w1 ⟨rfl, rfl⟩
  have H0 : Hid (Hx w (w.alloc (Obj.cells Tryd.zeroCells155 155)) 65 []) := Lib.hid ⟨⟨_, Blk.new _ _ _, by kernel_rfl, fun j hj => absurd hj (by simp)⟩, rfl, (Below.refl w.heap.size w).alloc (Nat.le_refl _) _⟩
  clear C1
  go_wp2_with fail
  go_loopw [1, 13] (fun u i wr => ∃ (v p f : Nat) (acc : List UInt8), u = .int .u64 (v : Int) ∧ i = .int .i64 (p : Int) ∧ Hx w wr p acc ∧ f + acc.length = 16 ∧ 1 ≤ f ∧ Hid (v < 16 ^ f) ∧ v < 18446744073709551616 ∧ Hid (hxL f v acc = R)) (fun u _ _ => (intOf u).toNat)
  case atStart => exact ⟨n, 65, 16, [], rfl, rfl, H0.out, rfl, by omega, hn, hn, HR0.out⟩
  case round =>
    obtain ⟨v, p, f, acc, rfl, rfl, hx, hfa, hf1, HV, hv64, HC⟩ := hrel
    have hlen := hx.len
    have HX := Lib.hid hx
    clear hx H0
    obtain ⟨q, hq⟩ : ∃ q, p = q + 1 := ⟨p - 1, by omega⟩
    have jp : IntKind.i64.wrap ((p : Int) - 1) = (q : Int) := by rw [IntWalk.i64_in _ (by omega)]; omega
    have iq : (0 : Int) ≤ (q : Int) := by omega
    have iq2 : (q : Int) < 65 := by omega
    obtain ⟨cs, hcs, hcz, hcd⟩ := HX.out.cs
    have hq65 : q < cs.size := by omega
    have y0 : wr.cell? ⟨w.heap.size, q, none⟩ = some (cs[q]'hq65) := by rw [hcs.cell q]; exact Array.getElem?_eq_getElem hq65
    have fq : wr.frozen? ⟨w.heap.size, q, none⟩ = false := hcs.frozen q
    by_cases hlt : v < 16
    · have d1 : decide ((16 : Int) ≤ (v : Int)) = false := decide_eq_false (by omega)
      have d1' : decide (16 ≤ v) = false := decide_eq_false (by omega)
      have hd := dig_at v hlt
      have i3 : (v : Int) < 36 := by omega
      subst hq
      have HX2 := Lib.hid (HX.out.put (hxc v))
      have hcv := HX2.out.conv
      have hR : R = hxc v :: acc := by
        have := HC.out
        obtain ⟨f', rfl⟩ : ∃ f', f = f' + 1 := ⟨f - 1, by omega⟩
        rw [hxL, if_pos hlt] at this; exact this.symm
      have HRR := Lib.hid hR
      rw [← hR] at hcv
      have hsl := fun w' => sl65 w.heap.size q (by omega) w'
      clear hcs hcd HX hR
      go_wp2_with fail
      go_ret2
      exact ⟨rfl, HX2.out.be⟩
    · have d1 : decide ((16 : Int) ≤ (v : Int)) = true := decide_eq_true (by omega)
      have d1' : decide (16 ≤ v) = true := decide_eq_true (by omega)
      have ha := and15 v hv64
      have hd := dig_at (v % 16) (by omega)
      have i3 : (0 : Int) ≤ ((v % 16 : Nat) : Int) := by omega
      subst hq
      have HX2 := Lib.hid (HX.out.put (hxc (v % 16)))
      obtain ⟨f, rfl⟩ : ∃ f', f = f' + 1 := ⟨f - 1, by omega⟩
      have HC2 : Hid (hxL f (v / 16) (hxc (v % 16) :: acc) = R) := Lib.hid (by have := HC.out; rw [hxL, if_neg hlt] at this; exact this)
      have HV2 : Hid (v / 16 < 16 ^ f ∧ 1 ≤ f) := by
        have h := HV.out
        rw [Nat.pow_succ] at h
        refine ⟨Nat.div_lt_of_lt_mul (by omega), ?_⟩
        cases f with
        | zero => omega
        | succ f => omega
      clear hcs hcd HX HV HC
      go_wp2_with fail
      exact ⟨⟨v / 16, q, f, hxc (v % 16) :: acc, by rw [show (v : Int) / 16 = ((v / 16 : Nat) : Int) by omega], rfl, HX2.out, by rw [List.length_cons]; omega, HV2.out.2, HV2.out.1, by omega, HC2⟩, by simp [intOf]; omega⟩
end Go.Proofs.YtkcncgdgicffhaaDoor
