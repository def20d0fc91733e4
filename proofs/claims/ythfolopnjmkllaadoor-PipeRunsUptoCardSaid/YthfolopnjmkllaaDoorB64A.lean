/- Plain: base64 by groups; by bits; the two agree. -/
import Derived.Test.YthfolopnjmkllaaDoorPlain
import Derived.Test.YthfolopnjmkllaaDoorUrlA
namespace Go.Proofs.YthfolopnjmkllaaDoor
open Go.RowKit
set_option linter.unusedVariables false
set_option linter.unusedSimpArgs false

def sgL : List UInt8 := [65, 66, 67, 68, 69, 70, 71, 72, 73, 74, 75, 76, 77, 78, 79, 80, 81, 82, 83, 84, 85, 86, 87, 88, 89, 90, 97, 98, 99, 100, 101, 102, 103, 104, 105, 106, 107, 108, 109, 110, 111, 112, 113, 114, 115, 116, 117, 118, 119, 120, 121, 122, 48, 49, 50, 51, 52, 53, 54, 55, 56, 57, 43, 47]
def sg (n : Nat) : UInt8 := sgL.getD n 0
/-- base64 by groups of three bytes -/
def encB : List UInt8 → List UInt8
  | [] => []
  | [a] => [sg (a.toNat / 4), sg (a.toNat % 4 * 16), 61, 61]
  | [a, b] => [sg (a.toNat / 4), sg (a.toNat % 4 * 16 + b.toNat / 16), sg (b.toNat % 16 * 4), 61]
  | a :: b :: c :: r => sg (a.toNat / 4) :: sg (a.toNat % 4 * 16 + b.toNat / 16) :: sg (b.toNat % 16 * 4 + c.toNat / 64) :: sg (c.toNat % 64) :: encB r

/-- the bits of a number, the highest first -/
def bitsL (wide v : Nat) : List Nat := (List.range wide).map fun i => v / 2 ^ (wide - 1 - i) % 2
theorem bitsL_len (wide v : Nat) : (bitsL wide v).length = wide := by simp [bitsL]
theorem bits8 (v : Nat) : bitsL 8 v = [v / 128 % 2, v / 64 % 2, v / 32 % 2, v / 16 % 2, v / 8 % 2, v / 4 % 2, v / 2 % 2, v % 2] := by
  simp [bitsL, List.range, List.range.loop]
theorem bits6 (v : Nat) : bitsL 6 v = [v / 32 % 2, v / 16 % 2, v / 8 % 2, v / 4 % 2, v / 2 % 2, v % 2] := by
  simp [bitsL, List.range, List.range.loop]
/-- the number of some bits -/
def valL (l : List Nat) : Nat := l.foldl (fun n b => 2 * n + b) 0
/-- numbers of so many bits each -/
def numL (wide : Nat) (l : List Nat) : List Nat := (List.range (l.length / wide)).map fun j => valL ((l.drop (j * wide)).take wide)
theorem numL_cons {wide : Nat} (h0 : 0 < wide) {p r : List Nat} (hp : p.length = wide) : numL wide (p ++ r) = valL p :: numL wide r := by
  unfold numL
  have h1 : (p ++ r).length / wide = r.length / wide + 1 := by
    rw [List.length_append, hp, Nat.add_comm, Nat.add_div_right _ h0]
  rw [h1, List.range_succ_eq_map, List.map_cons, List.map_map]
  congr 1
  · rw [Nat.zero_mul, List.drop_zero, ← hp, List.take_left']
    rfl
  · apply List.map_congr_left
    intro j _
    simp only [Function.comp]
    congr 2
    rw [Nat.succ_mul, Nat.add_comm, ← List.drop_drop, ← hp, List.drop_left]
theorem numL_short {wide : Nat} {l : List Nat} (h : l.length < wide) : numL wide l = [] := by
  unfold numL; rw [Nat.div_eq_of_lt h]; rfl

/-- a list that is filled up to a multiple -/
def padTo {α : Type} (m : Nat) (c : α) (l : List α) : List α := l ++ List.replicate ((m - l.length % m) % m) c
theorem padTo_app {α : Type} (m : Nat) (c : α) (p l : List α) (h : p.length % m = 0) : padTo m c (p ++ l) = p ++ padTo m c l := by
  unfold padTo
  rw [List.length_append, Nat.add_mod, h, Nat.zero_add, Nat.mod_mod, List.append_assoc]

/-- base64 by bits, as the reference has it -/
def encR (l : List UInt8) : List UInt8 := padTo 4 61 ((numL 6 (padTo 6 0 (l.flatMap fun b => bitsL 8 b.toNat))).map sg)

theorem val6 (a b c d e f : Nat) : valL [a, b, c, d, e, f] = 32 * a + 16 * b + 8 * c + 4 * d + 2 * e + f := by simp [valL]; omega
theorem val8 (a b c d e f g h : Nat) : valL [a, b, c, d, e, f, g, h] = 128 * a + 64 * b + 32 * c + 16 * d + 8 * e + 4 * f + 2 * g + h := by simp [valL]; omega

theorem num6c (a b c d e f : Nat) (R : List Nat) : numL 6 ([a, b, c, d, e, f] ++ R) = (32 * a + 16 * b + 8 * c + 4 * d + 2 * e + f) :: numL 6 R := by rw [numL_cons (wide := 6) (by decide) (by rfl), val6]
theorem num8c (a b c d e f g h : Nat) (R : List Nat) : numL 8 ([a, b, c, d, e, f, g, h] ++ R) = (128 * a + 64 * b + 32 * c + 16 * d + 8 * e + 4 * f + 2 * g + h) :: numL 8 R := by rw [numL_cons (wide := 8) (by decide) (by rfl), val8]
theorem pad6c (a b c d e f : Nat) (R : List Nat) : padTo 6 0 ([a, b, c, d, e, f] ++ R) = [a, b, c, d, e, f] ++ padTo 6 0 R := padTo_app 6 0 _ _ (by simp)
theorem pad4c (a b c d : UInt8) (R : List UInt8) : padTo 4 61 (a :: b :: c :: d :: R) = a :: b :: c :: d :: padTo 4 61 R := padTo_app 4 61 [a, b, c, d] R (by simp)

theorem encR_eq : ∀ l : List UInt8, encR l = encB l
  | [] => by simp [encR, padTo, numL, encB]
  | [a] => by
    have ha := a.toNat_lt
    unfold encR
    simp only [List.flatMap_cons, List.flatMap_nil, List.append_nil, bits8]
    have e : padTo 6 0 [a.toNat / 128 % 2, a.toNat / 64 % 2, a.toNat / 32 % 2, a.toNat / 16 % 2, a.toNat / 8 % 2, a.toNat / 4 % 2, a.toNat / 2 % 2, a.toNat % 2] = [a.toNat / 128 % 2, a.toNat / 64 % 2, a.toNat / 32 % 2, a.toNat / 16 % 2, a.toNat / 8 % 2, a.toNat / 4 % 2] ++ ([a.toNat / 2 % 2, a.toNat % 2, 0, 0, 0, 0] ++ []) := by simp [padTo, List.replicate]
    rw [e, num6c, num6c, numL_short (by decide)]
    have e1 : 32 * (a.toNat / 128 % 2) + 16 * (a.toNat / 64 % 2) + 8 * (a.toNat / 32 % 2) + 4 * (a.toNat / 16 % 2) + 2 * (a.toNat / 8 % 2) + a.toNat / 4 % 2 = a.toNat / 4 := by omega
    have e2 : 32 * (a.toNat / 2 % 2) + 16 * (a.toNat % 2) + 8 * 0 + 4 * 0 + 2 * 0 + 0 = a.toNat % 4 * 16 := by omega
    rw [e1, e2]
    rfl
  | [a, b] => by
    have ha := a.toNat_lt
    have hb := b.toNat_lt
    unfold encR
    simp only [List.flatMap_cons, List.flatMap_nil, List.append_nil, bits8]
    have e : padTo 6 0 ([a.toNat / 128 % 2, a.toNat / 64 % 2, a.toNat / 32 % 2, a.toNat / 16 % 2, a.toNat / 8 % 2, a.toNat / 4 % 2, a.toNat / 2 % 2, a.toNat % 2] ++ [b.toNat / 128 % 2, b.toNat / 64 % 2, b.toNat / 32 % 2, b.toNat / 16 % 2, b.toNat / 8 % 2, b.toNat / 4 % 2, b.toNat / 2 % 2, b.toNat % 2]) = [a.toNat / 128 % 2, a.toNat / 64 % 2, a.toNat / 32 % 2, a.toNat / 16 % 2, a.toNat / 8 % 2, a.toNat / 4 % 2] ++ ([a.toNat / 2 % 2, a.toNat % 2, b.toNat / 128 % 2, b.toNat / 64 % 2, b.toNat / 32 % 2, b.toNat / 16 % 2] ++ ([b.toNat / 8 % 2, b.toNat / 4 % 2, b.toNat / 2 % 2, b.toNat % 2, 0, 0] ++ [])) := by simp [padTo, List.replicate]
    rw [e, num6c, num6c, num6c, numL_short (by decide)]
    have e1 : 32 * (a.toNat / 128 % 2) + 16 * (a.toNat / 64 % 2) + 8 * (a.toNat / 32 % 2) + 4 * (a.toNat / 16 % 2) + 2 * (a.toNat / 8 % 2) + a.toNat / 4 % 2 = a.toNat / 4 := by omega
    have e2 : 32 * (a.toNat / 2 % 2) + 16 * (a.toNat % 2) + 8 * (b.toNat / 128 % 2) + 4 * (b.toNat / 64 % 2) + 2 * (b.toNat / 32 % 2) + b.toNat / 16 % 2 = a.toNat % 4 * 16 + b.toNat / 16 := by omega
    have e3 : 32 * (b.toNat / 8 % 2) + 16 * (b.toNat / 4 % 2) + 8 * (b.toNat / 2 % 2) + 4 * (b.toNat % 2) + 2 * 0 + 0 = b.toNat % 16 * 4 := by omega
    rw [e1, e2, e3]
    rfl
  | a :: b :: c :: r => by
    have ha := a.toNat_lt
    have hb := b.toNat_lt
    have hc := c.toNat_lt
    have ih := encR_eq r
    unfold encR at ih ⊢
    simp only [List.flatMap_cons, bits8] at ih ⊢
    have e : ∀ R : List Nat, [a.toNat / 128 % 2, a.toNat / 64 % 2, a.toNat / 32 % 2, a.toNat / 16 % 2, a.toNat / 8 % 2, a.toNat / 4 % 2, a.toNat / 2 % 2, a.toNat % 2] ++ ([b.toNat / 128 % 2, b.toNat / 64 % 2, b.toNat / 32 % 2, b.toNat / 16 % 2, b.toNat / 8 % 2, b.toNat / 4 % 2, b.toNat / 2 % 2, b.toNat % 2] ++ ([c.toNat / 128 % 2, c.toNat / 64 % 2, c.toNat / 32 % 2, c.toNat / 16 % 2, c.toNat / 8 % 2, c.toNat / 4 % 2, c.toNat / 2 % 2, c.toNat % 2] ++ R)) = [a.toNat / 128 % 2, a.toNat / 64 % 2, a.toNat / 32 % 2, a.toNat / 16 % 2, a.toNat / 8 % 2, a.toNat / 4 % 2] ++ ([a.toNat / 2 % 2, a.toNat % 2, b.toNat / 128 % 2, b.toNat / 64 % 2, b.toNat / 32 % 2, b.toNat / 16 % 2] ++ ([b.toNat / 8 % 2, b.toNat / 4 % 2, b.toNat / 2 % 2, b.toNat % 2, c.toNat / 128 % 2, c.toNat / 64 % 2] ++ ([c.toNat / 32 % 2, c.toNat / 16 % 2, c.toNat / 8 % 2, c.toNat / 4 % 2, c.toNat / 2 % 2, c.toNat % 2] ++ R))) := fun R => rfl
    rw [e, pad6c, pad6c, pad6c, pad6c, num6c, num6c, num6c, num6c]
    have e1 : 32 * (a.toNat / 128 % 2) + 16 * (a.toNat / 64 % 2) + 8 * (a.toNat / 32 % 2) + 4 * (a.toNat / 16 % 2) + 2 * (a.toNat / 8 % 2) + a.toNat / 4 % 2 = a.toNat / 4 := by omega
    have e2 : 32 * (a.toNat / 2 % 2) + 16 * (a.toNat % 2) + 8 * (b.toNat / 128 % 2) + 4 * (b.toNat / 64 % 2) + 2 * (b.toNat / 32 % 2) + b.toNat / 16 % 2 = a.toNat % 4 * 16 + b.toNat / 16 := by omega
    have e3 : 32 * (b.toNat / 8 % 2) + 16 * (b.toNat / 4 % 2) + 8 * (b.toNat / 2 % 2) + 4 * (b.toNat % 2) + 2 * (c.toNat / 128 % 2) + c.toNat / 64 % 2 = b.toNat % 16 * 4 + c.toNat / 64 := by omega
    have e4 : 32 * (c.toNat / 32 % 2) + 16 * (c.toNat / 16 % 2) + 8 * (c.toNat / 8 % 2) + 4 * (c.toNat / 4 % 2) + 2 * (c.toNat / 2 % 2) + c.toNat % 2 = c.toNat % 64 := by omega
    rw [e1, e2, e3, e4]
    simp only [List.map_cons]
    rw [pad4c, ih]
    rfl

/-! ### decoding -/
/-- the number that a sign stands for; -1: none -/
def sx (c : UInt8) : Int := ixb sgL (c.toNat : Int)
theorem sx_facts : ∀ c : UInt8, (sx c = -1 ∨ 0 ≤ sx c ∧ sx c < 64 ∧ sg (sx c).toNat = c) := all_bytes (by decide +kernel)
theorem sg_inj : ∀ a b : Fin 64, sg a.val = sg b.val → a = b := by decide +kernel
theorem sg_inj' {a b : Nat} (ha : a < 64) (hb : b < 64) (h : sg a = sg b) : a = b := by
  have := sg_inj ⟨a, ha⟩ ⟨b, hb⟩ h; exact congrArg Fin.val this

/-- the state of the decoder: the number, how many bits, the bytes -/
def stepD (st : Nat × Nat × List UInt8) (v : Nat) : Nat × Nat × List UInt8 :=
  if st.2.1 + 6 < 8 then (st.1 * 64 + v, st.2.1 + 6, st.2.2) else ((st.1 * 64 + v) % 2 ^ (st.2.1 - 2), st.2.1 - 2, st.2.2 ++ [UInt8.ofNat ((st.1 * 64 + v) / 2 ^ (st.2.1 - 2))])
def foldD (st : Nat × Nat × List UInt8) (V : List Nat) : Nat × Nat × List UInt8 := V.foldl stepD st
/-- the bytes by bits -/
def outR (V : List Nat) : List UInt8 := (numL 8 (V.flatMap (bitsL 6))).map UInt8.ofNat

theorem outR_four {a b c d : Nat} (ha : a < 64) (hb : b < 64) (hc : c < 64) (hd : d < 64) (r : List Nat) :
    outR (a :: b :: c :: d :: r) = UInt8.ofNat (a * 4 + b / 16) :: UInt8.ofNat (b % 16 * 16 + c / 4) :: UInt8.ofNat (c % 4 * 64 + d) :: outR r := by
  unfold outR
  simp only [List.flatMap_cons, bits6]
  have e : ∀ R : List Nat, [a / 32 % 2, a / 16 % 2, a / 8 % 2, a / 4 % 2, a / 2 % 2, a % 2] ++ ([b / 32 % 2, b / 16 % 2, b / 8 % 2, b / 4 % 2, b / 2 % 2, b % 2] ++ ([c / 32 % 2, c / 16 % 2, c / 8 % 2, c / 4 % 2, c / 2 % 2, c % 2] ++ ([d / 32 % 2, d / 16 % 2, d / 8 % 2, d / 4 % 2, d / 2 % 2, d % 2] ++ R))) = [a / 32 % 2, a / 16 % 2, a / 8 % 2, a / 4 % 2, a / 2 % 2, a % 2, b / 32 % 2, b / 16 % 2] ++ ([b / 8 % 2, b / 4 % 2, b / 2 % 2, b % 2, c / 32 % 2, c / 16 % 2, c / 8 % 2, c / 4 % 2] ++ ([c / 2 % 2, c % 2, d / 32 % 2, d / 16 % 2, d / 8 % 2, d / 4 % 2, d / 2 % 2, d % 2] ++ R)) := fun R => rfl
  rw [e, num8c, num8c, num8c]
  have g1 : 128 * (a / 32 % 2) + 64 * (a / 16 % 2) + 32 * (a / 8 % 2) + 16 * (a / 4 % 2) + 8 * (a / 2 % 2) + 4 * (a % 2) + 2 * (b / 32 % 2) + b / 16 % 2 = a * 4 + b / 16 := by omega
  have g2 : 128 * (b / 8 % 2) + 64 * (b / 4 % 2) + 32 * (b / 2 % 2) + 16 * (b % 2) + 8 * (c / 32 % 2) + 4 * (c / 16 % 2) + 2 * (c / 8 % 2) + c / 4 % 2 = b % 16 * 16 + c / 4 := by omega
  have g3 : 128 * (c / 2 % 2) + 64 * (c % 2) + 32 * (d / 32 % 2) + 16 * (d / 16 % 2) + 8 * (d / 8 % 2) + 4 * (d / 4 % 2) + 2 * (d / 2 % 2) + d % 2 = c % 4 * 64 + d := by omega
  rw [g1, g2, g3]
  simp only [List.map_cons]
theorem outR_one (a : Nat) : outR [a] = [] := by unfold outR; simp only [List.flatMap_cons, List.flatMap_nil, bits6]; rw [numL_short (by simp)]; rfl
theorem outR_two {a b : Nat} (ha : a < 64) (hb : b < 64) : outR [a, b] = [UInt8.ofNat (a * 4 + b / 16)] := by
  unfold outR
  simp only [List.flatMap_cons, List.flatMap_nil, bits6]
  have e : [a / 32 % 2, a / 16 % 2, a / 8 % 2, a / 4 % 2, a / 2 % 2, a % 2] ++ ([b / 32 % 2, b / 16 % 2, b / 8 % 2, b / 4 % 2, b / 2 % 2, b % 2] ++ []) = [a / 32 % 2, a / 16 % 2, a / 8 % 2, a / 4 % 2, a / 2 % 2, a % 2, b / 32 % 2, b / 16 % 2] ++ [b / 8 % 2, b / 4 % 2, b / 2 % 2, b % 2] := rfl
  rw [e, num8c, numL_short (by simp)]
  have g1 : 128 * (a / 32 % 2) + 64 * (a / 16 % 2) + 32 * (a / 8 % 2) + 16 * (a / 4 % 2) + 8 * (a / 2 % 2) + 4 * (a % 2) + 2 * (b / 32 % 2) + b / 16 % 2 = a * 4 + b / 16 := by omega
  rw [g1]
  rfl
theorem outR_three {a b c : Nat} (ha : a < 64) (hb : b < 64) (hc : c < 64) : outR [a, b, c] = [UInt8.ofNat (a * 4 + b / 16), UInt8.ofNat (b % 16 * 16 + c / 4)] := by
  unfold outR
  simp only [List.flatMap_cons, List.flatMap_nil, bits6]
  have e : [a / 32 % 2, a / 16 % 2, a / 8 % 2, a / 4 % 2, a / 2 % 2, a % 2] ++ ([b / 32 % 2, b / 16 % 2, b / 8 % 2, b / 4 % 2, b / 2 % 2, b % 2] ++ ([c / 32 % 2, c / 16 % 2, c / 8 % 2, c / 4 % 2, c / 2 % 2, c % 2] ++ [])) = [a / 32 % 2, a / 16 % 2, a / 8 % 2, a / 4 % 2, a / 2 % 2, a % 2, b / 32 % 2, b / 16 % 2] ++ ([b / 8 % 2, b / 4 % 2, b / 2 % 2, b % 2, c / 32 % 2, c / 16 % 2, c / 8 % 2, c / 4 % 2] ++ [c / 2 % 2, c % 2]) := rfl
  rw [e, num8c, num8c, numL_short (by simp)]
  have g1 : 128 * (a / 32 % 2) + 64 * (a / 16 % 2) + 32 * (a / 8 % 2) + 16 * (a / 4 % 2) + 8 * (a / 2 % 2) + 4 * (a % 2) + 2 * (b / 32 % 2) + b / 16 % 2 = a * 4 + b / 16 := by omega
  have g2 : 128 * (b / 8 % 2) + 64 * (b / 4 % 2) + 32 * (b / 2 % 2) + 16 * (b % 2) + 8 * (c / 32 % 2) + 4 * (c / 16 % 2) + 2 * (c / 8 % 2) + c / 4 % 2 = b % 16 * 16 + c / 4 := by omega
  rw [g1, g2]
  rfl

theorem nat_of {n : Nat} (h : n < 256) : (UInt8.ofNat n).toNat = n := by simp; omega

theorem stepD0 (n : Nat) (A : List UInt8) (v : Nat) : stepD (n, 0, A) v = (n * 64 + v, 6, A) := rfl
theorem stepD6 (n : Nat) (A : List UInt8) (v : Nat) : stepD (n, 6, A) v = ((n * 64 + v) % 16, 4, A ++ [UInt8.ofNat ((n * 64 + v) / 16)]) := rfl
theorem stepD4 (n : Nat) (A : List UInt8) (v : Nat) : stepD (n, 4, A) v = ((n * 64 + v) % 4, 2, A ++ [UInt8.ofNat ((n * 64 + v) / 4)]) := rfl
theorem stepD2 (n : Nat) (A : List UInt8) (v : Nat) : stepD (n, 2, A) v = ((n * 64 + v) % 1, 0, A ++ [UInt8.ofNat ((n * 64 + v) / 1)]) := rfl
/-- what the decoder accepts, and what the reference accepts, are one -/
def GoodD (V : List Nat) (p : Nat) : Prop := (V.length + p) % 4 = 0 ∧ (foldD (0, 0, []) V).1 = 0 ∧ (foldD (0, 0, []) V).2.1 ≠ 6
theorem foldD_four {a b c d : Nat} (ha : a < 64) (hb : b < 64) (hc : c < 64) (hd : d < 64) (A : List UInt8) (r : List Nat) :
    foldD (0, 0, A) (a :: b :: c :: d :: r) = foldD (0, 0, A ++ [UInt8.ofNat (a * 4 + b / 16), UInt8.ofNat (b % 16 * 16 + c / 4), UInt8.ofNat (c % 4 * 64 + d)]) r := by
  unfold foldD
  simp only [List.foldl_cons, stepD0, stepD6, stepD4, stepD2]
  have e1 : (((0 * 64 + a) * 64 + b) % 16 * 64 + c) % 4 * 64 + d = c % 4 * 64 + d := by omega
  have e2 : ((0 * 64 + a) * 64 + b) / 16 = a * 4 + b / 16 := by omega
  have e3 : (((0 * 64 + a) * 64 + b) % 16 * 64 + c) / 4 = b % 16 * 16 + c / 4 := by omega
  rw [e1, e2, e3, Nat.mod_one, Nat.div_one, List.append_assoc, List.append_assoc]
  rfl
theorem foldD_out : ∀ (V : List Nat) (A : List UInt8), (foldD (0, 0, A) V).1 = (foldD (0, 0, []) V).1 ∧ (foldD (0, 0, A) V).2.1 = (foldD (0, 0, []) V).2.1 ∧ (foldD (0, 0, A) V).2.2 = A ++ (foldD (0, 0, []) V).2.2 := by
  have key : ∀ (V : List Nat) (n b : Nat) (A C : List UInt8), (foldD (n, b, A ++ C) V).1 = (foldD (n, b, C) V).1 ∧ (foldD (n, b, A ++ C) V).2.1 = (foldD (n, b, C) V).2.1 ∧ (foldD (n, b, A ++ C) V).2.2 = A ++ (foldD (n, b, C) V).2.2 := by
    intro V
    induction V with
    | nil => intro n b A C; exact ⟨rfl, rfl, rfl⟩
    | cons v V ih =>
      intro n b A C
      unfold foldD at ih ⊢
      simp only [List.foldl_cons, stepD]
      split
      · exact ih _ _ _ _
      · rw [List.append_assoc]; exact ih _ _ _ _
  intro V A
  have := key V 0 0 A []
  rwa [List.append_nil] at this

theorem dec_main : ∀ (V : List Nat) (p : Nat), (∀ v ∈ V, v < 64) → p ≤ 2 →
    (foldD (0, 0, []) V).2.2 = outR V ∧ ((encB (outR V) = V.map sg ++ List.replicate p 61) ↔ GoodD V p)
  | [], p, _, hp => by
    refine ⟨by simp [foldD, outR, numL], ?_⟩
    have : outR [] = [] := by simp [outR, numL]
    rw [this]
    simp only [encB, List.map_nil, List.nil_append, GoodD, foldD, List.foldl_nil, List.length_nil]
    have h3 : p = 0 ∨ p = 1 ∨ p = 2 := by omega
    rcases h3 with rfl | rfl | rfl <;> simp [List.replicate]
  | [a], p, hV, hp => by
    refine ⟨by rw [outR_one]; rfl, ?_⟩
    rw [outR_one]
    simp only [encB, GoodD, List.length_cons, List.length_nil]
    constructor
    · intro h; simp at h
    · intro h; omega
  | [a, b], p, hV, hp => by
    have ha := hV a (by simp)
    have hb := hV b (by simp)
    rw [outR_two ha hb]
    have e1 : (foldD (0, 0, []) [a, b]).2.2 = [UInt8.ofNat (a * 4 + b / 16)] := by
      unfold foldD; simp only [List.foldl_cons, List.foldl_nil, stepD0, stepD6]; rw [List.nil_append, show ((0 * 64 + a) * 64 + b) / 16 = a * 4 + b / 16 by omega]
    have e2 : (foldD (0, 0, []) [a, b]).1 = b % 16 := by
      unfold foldD; simp only [List.foldl_cons, List.foldl_nil, stepD0, stepD6, stepD4]; omega
    have e3 : (foldD (0, 0, []) [a, b]).2.1 = 4 := by
      unfold foldD; simp only [List.foldl_cons, List.foldl_nil, stepD0, stepD6, stepD4]
    refine ⟨e1, ?_⟩
    unfold GoodD
    rw [e2, e3]
    simp only [encB, nat_of (show a * 4 + b / 16 < 256 by omega), List.length_cons, List.length_nil, List.map_cons, List.map_nil]
    have f1 : (a * 4 + b / 16) / 4 = a := by omega
    have f2 : (a * 4 + b / 16) % 4 * 16 = b / 16 * 16 := by omega
    rw [f1, f2]
    constructor
    · intro h
      have h1 : p = 2 := by
        have := congrArg List.length h; simp at this; omega
      subst h1
      simp [List.replicate] at h
      have := sg_inj' (by omega) hb h
      exact ⟨by omega, by omega, by omega⟩
    · rintro ⟨h1, h2, _⟩
      obtain rfl : p = 2 := by omega
      rw [show b / 16 * 16 = b by omega]; rfl
  | [a, b, c], p, hV, hp => by
    have ha := hV a (by simp)
    have hb := hV b (by simp)
    have hc := hV c (by simp)
    rw [outR_three ha hb hc]
    have e1 : (foldD (0, 0, []) [a, b, c]).2.2 = [UInt8.ofNat (a * 4 + b / 16), UInt8.ofNat (b % 16 * 16 + c / 4)] := by
      unfold foldD; simp only [List.foldl_cons, List.foldl_nil, stepD0, stepD6, stepD4]
      rw [List.nil_append, show ((0 * 64 + a) * 64 + b) / 16 = a * 4 + b / 16 by omega, show (((0 * 64 + a) * 64 + b) % 16 * 64 + c) / 4 = b % 16 * 16 + c / 4 by omega]; rfl
    have e2 : (foldD (0, 0, []) [a, b, c]).1 = c % 4 := by
      unfold foldD; simp only [List.foldl_cons, List.foldl_nil, stepD0, stepD6, stepD4]; omega
    have e3 : (foldD (0, 0, []) [a, b, c]).2.1 = 2 := by
      unfold foldD; simp only [List.foldl_cons, List.foldl_nil, stepD0, stepD6, stepD4]
    refine ⟨e1, ?_⟩
    unfold GoodD
    rw [e2, e3]
    simp only [encB, nat_of (show a * 4 + b / 16 < 256 by omega), nat_of (show b % 16 * 16 + c / 4 < 256 by omega), List.length_cons, List.length_nil, List.map_cons, List.map_nil]
    have f1 : (a * 4 + b / 16) / 4 = a := by omega
    have f2 : (a * 4 + b / 16) % 4 * 16 + (b % 16 * 16 + c / 4) / 16 = b := by omega
    have f3 : (b % 16 * 16 + c / 4) % 16 * 4 = c / 4 * 4 := by omega
    rw [f1, f2, f3]
    constructor
    · intro h
      have h1 : p = 1 := by
        have := congrArg List.length h; simp at this; omega
      subst h1
      simp [List.replicate] at h
      have := sg_inj' (by omega) hc h
      exact ⟨by omega, by omega, by omega⟩
    · rintro ⟨h1, h2, _⟩
      obtain rfl : p = 1 := by omega
      rw [show c / 4 * 4 = c by omega]; rfl
  | a :: b :: c :: d :: r, p, hV, hp => by
    have ha := hV a (by simp)
    have hb := hV b (by simp)
    have hc := hV c (by simp)
    have hd := hV d (by simp)
    obtain ⟨i1, i2⟩ := dec_main r p (fun v h => hV v (by simp [h])) hp
    obtain ⟨o1, o2, o3⟩ := foldD_out r [UInt8.ofNat (a * 4 + b / 16), UInt8.ofNat (b % 16 * 16 + c / 4), UInt8.ofNat (c % 4 * 64 + d)]
    have hf := foldD_four ha hb hc hd [] r
    rw [List.nil_append] at hf
    rw [outR_four ha hb hc hd]
    refine ⟨by rw [hf, o3, i1]; rfl, ?_⟩
    unfold GoodD at i2 ⊢
    rw [hf, o1, o2]
    simp only [encB, nat_of (show a * 4 + b / 16 < 256 by omega), nat_of (show b % 16 * 16 + c / 4 < 256 by omega), nat_of (show c % 4 * 64 + d < 256 by omega), List.length_cons, List.map_cons, List.cons_append]
    have f1 : (a * 4 + b / 16) / 4 = a := by omega
    have f2 : (a * 4 + b / 16) % 4 * 16 + (b % 16 * 16 + c / 4) / 16 = b := by omega
    have f3 : (b % 16 * 16 + c / 4) % 16 * 4 + (c % 4 * 64 + d) / 64 = c := by omega
    have f4 : (c % 4 * 64 + d) % 64 = d := by omega
    rw [f1, f2, f3, f4]
    simp only [List.cons.injEq, true_and]
    rw [i2]
    constructor
    · rintro ⟨h1, h2, h3⟩; exact ⟨by omega, h2, h3⟩
    · rintro ⟨h1, h2, h3⟩; exact ⟨by omega, h2, h3⟩
end Go.Proofs.YthfolopnjmkllaaDoor
