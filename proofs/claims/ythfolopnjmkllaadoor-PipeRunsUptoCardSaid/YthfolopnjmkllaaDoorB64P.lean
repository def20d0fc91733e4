/- Base64 by groups, plainly. -/
import Derived.Test.YthfolopnjmkllaaDoorB64A
import Derived.Test.YthfolopnjmkllaaDoorUrlA
import Derived.Deep.RegionLaw
import Derived.Laws.BitsAllLaws
namespace Go.Proofs.YthfolopnjmkllaaDoor
open Go.RowKit
set_option linter.unusedVariables false
set_option linter.unusedSimpArgs false

/-- the number of the first bytes of a group -/
def accB (l : List UInt8) : Nat → Nat
  | 0 => 0
  | j + 1 => accB l j * 256 + (l.getD j 0).toNat
theorem accB_lt (l : List UInt8) : ∀ j, accB l j < 256 ^ j
  | 0 => by simp [accB]
  | j + 1 => by
    have := accB_lt l j
    have h2 := (l.getD j 0).toNat_lt
    rw [accB, Nat.pow_succ]; omega
theorem getD_none {l : List UInt8} {j : Nat} (h : l.length ≤ j) : l.getD j 0 = 0 := by rw [List.getD, List.getElem?_eq_none h]; rfl
theorem str_getD {l : List UInt8} {j : Nat} (h : j < (str l).size) : l.getD j 0 = (str l)[j] := by
  have h2 : j < l.length := by rw [size_str] at h; exact h
  rw [List.getD, List.getElem?_eq_getElem h2]; rfl
/-- sign j of a group of k bytes whose number is N -/
def gB (N k j : Nat) : UInt8 := if j ≤ k then sg (N / 64 ^ (3 - j) % 64) else 61
theorem encB_grp (l : List UInt8) (k : Nat) (h1 : 1 ≤ k) (h2 : k ≤ 3) (h3 : k ≤ l.length) (h4 : k < 3 → k = l.length) : encB l = (List.range 4).map (gB (accB l 3) k) ++ encB (l.drop k) := by
  match l, h3, h4 with
  | [], h3, h4 => simp at h3; omega
  | [a], h3, h4 =>
    obtain rfl : k = 1 := by simp at h3; omega
    have ha := a.toNat_lt
    simp [encB, gB, accB, List.range, List.range.loop]
    constructor
    · congr 1; omega
    · congr 1; omega
  | [a, b], h3, h4 =>
    obtain rfl : k = 2 := by simp at h3 h4; omega
    have ha := a.toNat_lt
    have hb := b.toNat_lt
    simp [encB, gB, accB, List.range, List.range.loop]
    refine ⟨?_, ?_, ?_⟩
    · congr 1; omega
    · congr 1; omega
    · congr 1; omega
  | a :: b :: c :: r, h3, h4 =>
    obtain rfl : k = 3 := by simp at h4; omega
    have ha := a.toNat_lt
    have hb := b.toNat_lt
    have hc := c.toNat_lt
    simp [encB, gB, accB, List.range, List.range.loop]
    refine ⟨?_, ?_, ?_, ?_⟩
    · congr 1; omega
    · congr 1; omega
    · congr 1; omega
    · congr 1; omega
theorem vI {k : IntKind} {a b : Int} (h : a = b) : Value.int k a = .int k b := by rw [h]
theorem or32 (a b : Nat) (ha : a < 65536) (hb : b < 256) : bits .or .u32 ((a : Int) * 256) ((b : Int)) = ((a * 256 + b : Nat) : Int) := by
  have := u32_or_nat (a * 256) b (by omega) (by omega)
  rw [show ((a * 256 : Nat) : Int) = (a : Int) * 256 by omega] at this
  rw [this]
  have h := Nat.two_pow_add_eq_or_of_lt (i := 8) (b := b) (by omega) a
  rw [Nat.mul_comm a 256, h]
theorem signs_size : (ByteArray.mk #[65, 66, 67, 68, 69, 70, 71, 72, 73, 74, 75, 76, 77, 78, 79, 80, 81, 82, 83, 84, 85, 86, 87, 88, 89, 90, 97, 98, 99, 100, 101, 102, 103, 104, 105, 106, 107, 108, 109, 110, 111, 112, 113, 114, 115, 116, 117, 118, 119, 120, 121, 122, 48, 49, 50, 51, 52, 53, 54, 55, 56, 57, 43, 47]).size = 64 := rfl
set_option maxRecDepth 10000 in
theorem signs_get : ∀ k : Fin 64, ((ByteArray.mk #[65, 66, 67, 68, 69, 70, 71, 72, 73, 74, 75, 76, 77, 78, 79, 80, 81, 82, 83, 84, 85, 86, 87, 88, 89, 90, 97, 98, 99, 100, 101, 102, 103, 104, 105, 106, 107, 108, 109, 110, 111, 112, 113, 114, 115, 116, 117, 118, 119, 120, 121, 122, 48, 49, 50, 51, 52, 53, 54, 55, 56, 57, 43, 47])[k.val]'(by rw [signs_size]; exact k.isLt)) = sg k.val := by decide +kernel
theorem signs_at (i : Nat) (h : i < (ByteArray.mk #[65, 66, 67, 68, 69, 70, 71, 72, 73, 74, 75, 76, 77, 78, 79, 80, 81, 82, 83, 84, 85, 86, 87, 88, 89, 90, 97, 98, 99, 100, 101, 102, 103, 104, 105, 106, 107, 108, 109, 110, 111, 112, 113, 114, 115, 116, 117, 118, 119, 120, 121, 122, 48, 49, 50, 51, 52, 53, 54, 55, 56, 57, 43, 47]).size) (j : Nat) (e : i = j) : ((ByteArray.mk #[65, 66, 67, 68, 69, 70, 71, 72, 73, 74, 75, 76, 77, 78, 79, 80, 81, 82, 83, 84, 85, 86, 87, 88, 89, 90, 97, 98, 99, 100, 101, 102, 103, 104, 105, 106, 107, 108, 109, 110, 111, 112, 113, 114, 115, 116, 117, 118, 119, 120, 121, 122, 48, 49, 50, 51, 52, 53, 54, 55, 56, 57, 43, 47])[i]'h) = sg j := by
  subst e; exact signs_get ⟨i, h⟩

theorem and63 (N d : Nat) (h : N < 4294967296) : (bits .and .u32 ((N : Int) / (d : Int)) 63).toNat = N / d % 64 := by
  have h2 : N / d < 4294967296 := Nat.lt_of_le_of_lt (Nat.div_le_self _ _) h
  have := u32_and_nat (N / d) 63 h2 (by decide)
  rw [show ((N / d : Nat) : Int) = (N : Int) / (d : Int) from rfl] at this
  rw [show ((63 : Nat) : Int) = 63 from rfl] at this
  rw [this, Int.toNat_natCast]
  exact Nat.and_two_pow_sub_one_eq_mod _ 6
theorem and63' (N : Nat) (h : N < 4294967296) : (bits .and .u32 (N : Int) 63).toNat = N % 64 := by
  have := u32_and_nat N 63 h (by decide)
  rw [show ((63 : Nat) : Int) = 63 from rfl] at this
  rw [this, Int.toNat_natCast]
  exact Nat.and_two_pow_sub_one_eq_mod _ 6
theorem and63b (x : Int) (h0 : 0 ≤ x) (h : x < 4294967296) : 0 ≤ bits .and .u32 x 63 ∧ bits .and .u32 x 63 < 64 := by
  obtain ⟨n, rfl⟩ := Int.eq_ofNat_of_zero_le h0
  have := and63' n (by omega)
  have h2 := u32_and_nat n 63 (by omega) (by decide)
  rw [show ((63 : Nat) : Int) = 63 from rfl] at h2
  constructor
  · rw [h2]; omega
  · omega
def slen (v : Value) : Nat := match v with | .string x => x.size | _ => 0
theorem ext_drop (l : List UInt8) (k m : Nat) (hm : m = l.length) : (str l).extract k m = str (l.drop k) := by
  apply lst_inj
  rw [lst_ext, lst_mk, lst_mk, hm, List.take_length]
end Go.Proofs.YthfolopnjmkllaaDoor
