/- Plain: the table of ranges of wickref.Utf8 says what octet.size says. -/
import Derived.Test.YtahcgajipnkojaaUtfB
namespace Go.Proofs.Ytahcgajipnkojaa
open Go.RowKit
set_option linter.unusedVariables false
set_option linter.unusedSimpArgs false

/-- the table of ranges -/
def u8rows : List (List UInt8) := [[0, 127], [194, 223, 128, 191], [224, 224, 160, 191, 128, 191], [225, 236, 128, 191, 128, 191], [238, 239, 128, 191, 128, 191], [237, 237, 128, 159, 128, 191], [240, 240, 144, 191, 128, 191, 128, 191], [241, 243, 128, 191, 128, 191, 128, 191], [244, 244, 128, 143, 128, 191, 128, 191]]
def rowC (k : Nat) : List UInt8 := u8rows.getD k []
/-- does a text begin as a row says? -/
def rowB : List UInt8 → List UInt8 → Bool
  | lo :: hi :: r, b :: l => (decide (lo.toNat ≤ b.toNat) && decide (b.toNat ≤ hi.toNat)) && rowB r l
  | _ :: _ :: _, [] => false
  | _, _ => true
/-- the size by the first k rows -/
def u8tab (l : List UInt8) : Nat → Nat
  | 0 => 0
  | k + 1 => if rowB (rowC k) l = true then (rowC k).length / 2 else u8tab l k
def tailF (n lo hi : Nat) (r : List UInt8) : Nat :=
  if r.length + 1 < n then 0 else
    match r with
    | [] => 0
    | c :: r2 => if c.toNat < lo ∨ hi < c.toNat then 0 else if (r2.take (n - 2)).all contB then n else 0
theorem rowB_cons (lo hi b : UInt8) (q r : List UInt8) : rowB (lo :: hi :: q) (b :: r) = ((decide (lo.toNat ≤ b.toNat) && decide (b.toNat ≤ hi.toNat)) && rowB q r) := by rw [rowB]
theorem rowB_nil (l : List UInt8) : rowB [] l = true := by cases l <;> rfl
theorem rowB_end (lo hi : UInt8) (q : List UInt8) : rowB (lo :: hi :: q) [] = false := rfl
theorem cont_row (b : UInt8) : contB b = (decide ((128 : UInt8).toNat ≤ b.toNat) && decide (b.toNat ≤ (191 : UInt8).toNat)) := rfl
theorem rng_out {lo hi c : Nat} (h : c < lo ∨ hi < c) : (decide (lo ≤ c) && decide (c ≤ hi)) = false := by
  rw [Bool.and_eq_false_iff, decide_eq_false_iff_not, decide_eq_false_iff_not]; omega
theorem rng_in {lo hi c : Nat} (h : ¬ (c < lo ∨ hi < c)) : (decide (lo ≤ c) && decide (c ≤ hi)) = true := by
  rw [Bool.and_eq_true, decide_eq_true_iff, decide_eq_true_iff]; omega
theorem tail2 (lo hi : UInt8) (r : List UInt8) : (if rowB [lo, hi] r = true then 2 else 0) = tailF 2 lo.toNat hi.toNat r := by
  cases r with
  | nil => rfl
  | cons c r =>
    rw [rowB_cons, rowB_nil, Bool.and_true]
    have hl : ¬ ((c :: r).length + 1 < 2) := by simp only [List.length_cons]; omega
    unfold tailF
    by_cases h : c.toNat < lo.toNat ∨ hi.toNat < c.toNat
    · simp only [if_neg hl, if_pos h, rng_out h]; rfl
    · simp only [if_neg hl, if_neg h, rng_in h]; rfl
theorem tail3 (lo hi : UInt8) (r : List UInt8) : (if rowB [lo, hi, 128, 191] r = true then 3 else 0) = tailF 3 lo.toNat hi.toNat r := by
  match r with
  | [] => rfl
  | [c] => rw [rowB_cons, rowB_end, Bool.and_false]; rfl
  | c :: d :: r =>
    rw [rowB_cons, rowB_cons, rowB_nil, Bool.and_true, ← cont_row]
    have hl : ¬ ((c :: d :: r).length + 1 < 3) := by simp only [List.length_cons]; omega
    unfold tailF
    by_cases h : c.toNat < lo.toNat ∨ hi.toNat < c.toNat
    · simp only [if_neg hl, if_pos h, rng_out h, Bool.false_and]; rfl
    · simp only [if_neg hl, if_neg h, rng_in h, Bool.true_and]
      simp
theorem tail4 (lo hi : UInt8) (r : List UInt8) : (if rowB [lo, hi, 128, 191, 128, 191] r = true then 4 else 0) = tailF 4 lo.toNat hi.toNat r := by
  match r with
  | [] => rfl
  | [c] => rw [rowB_cons, rowB_end, Bool.and_false]; rfl
  | [c, d] => rw [rowB_cons, rowB_cons, rowB_end, Bool.and_false, Bool.and_false]; rfl
  | c :: d :: e :: r =>
    rw [rowB_cons, rowB_cons, rowB_cons, rowB_nil, Bool.and_true, ← cont_row, ← cont_row]
    have hl : ¬ ((c :: d :: e :: r).length + 1 < 4) := by simp only [List.length_cons]; omega
    unfold tailF
    by_cases h : c.toNat < lo.toNat ∨ hi.toNat < c.toNat
    · simp only [if_neg hl, if_pos h, rng_out h, Bool.false_and]; rfl
    · simp only [if_neg hl, if_neg h, rng_in h, Bool.true_and]
      simp
theorem u8size_tail {b : UInt8} {r : List UInt8} {n lo hi : Nat} (hb : ¬ b.toNat < 128) (hl : u8lead b.toNat = (n, lo, hi)) (hn : ¬ n = 0) : u8size (b :: r) = tailF n lo hi r := by
  unfold u8size tailF
  simp only [if_neg hb, hl, if_neg hn]
  cases r <;> rfl
theorem u8tab_nine (b : UInt8) (r : List UInt8) : u8tab (b :: r) 9 =
    (if ((decide ((244 : UInt8).toNat ≤ b.toNat) && decide (b.toNat ≤ (244 : UInt8).toNat)) && rowB [128, 143, 128, 191, 128, 191] r) = true then 4 else (if ((decide ((241 : UInt8).toNat ≤ b.toNat) && decide (b.toNat ≤ (243 : UInt8).toNat)) && rowB [128, 191, 128, 191, 128, 191] r) = true then 4 else (if ((decide ((240 : UInt8).toNat ≤ b.toNat) && decide (b.toNat ≤ (240 : UInt8).toNat)) && rowB [144, 191, 128, 191, 128, 191] r) = true then 4 else (if ((decide ((237 : UInt8).toNat ≤ b.toNat) && decide (b.toNat ≤ (237 : UInt8).toNat)) && rowB [128, 159, 128, 191] r) = true then 3 else (if ((decide ((238 : UInt8).toNat ≤ b.toNat) && decide (b.toNat ≤ (239 : UInt8).toNat)) && rowB [128, 191, 128, 191] r) = true then 3 else (if ((decide ((225 : UInt8).toNat ≤ b.toNat) && decide (b.toNat ≤ (236 : UInt8).toNat)) && rowB [128, 191, 128, 191] r) = true then 3 else (if ((decide ((224 : UInt8).toNat ≤ b.toNat) && decide (b.toNat ≤ (224 : UInt8).toNat)) && rowB [160, 191, 128, 191] r) = true then 3 else (if ((decide ((194 : UInt8).toNat ≤ b.toNat) && decide (b.toNat ≤ (223 : UInt8).toNat)) && rowB [128, 191] r) = true then 2 else (if (decide ((0 : UInt8).toNat ≤ b.toNat) && decide (b.toNat ≤ (127 : UInt8).toNat)) = true then 1 else 0))))))))) := by
  simp only [u8tab, rowC, u8rows, List.getD_cons_zero, List.getD_cons_succ, rowB_cons, rowB_nil, Bool.and_true]
  rfl
theorem u8tab_eq (b : UInt8) (r : List UInt8) : u8tab (b :: r) 9 = u8size (b :: r) := by
  have hb := b.toNat_lt
  rw [u8tab_nine]
  by_cases h0 : 0 ≤ b.toNat ∧ b.toNat ≤ 127
  · have e0 : (decide ((0 : UInt8).toNat ≤ b.toNat) && decide (b.toNat ≤ (127 : UInt8).toNat)) = true := rng_in (by show ¬ (b.toNat < 0 ∨ 127 < b.toNat); omega)
    have e1 : (decide ((194 : UInt8).toNat ≤ b.toNat) && decide (b.toNat ≤ (223 : UInt8).toNat)) = false := rng_out (by show (b.toNat < 194 ∨ 223 < b.toNat); omega)
    have e2 : (decide ((224 : UInt8).toNat ≤ b.toNat) && decide (b.toNat ≤ (224 : UInt8).toNat)) = false := rng_out (by show (b.toNat < 224 ∨ 224 < b.toNat); omega)
    have e3 : (decide ((225 : UInt8).toNat ≤ b.toNat) && decide (b.toNat ≤ (236 : UInt8).toNat)) = false := rng_out (by show (b.toNat < 225 ∨ 236 < b.toNat); omega)
    have e4 : (decide ((238 : UInt8).toNat ≤ b.toNat) && decide (b.toNat ≤ (239 : UInt8).toNat)) = false := rng_out (by show (b.toNat < 238 ∨ 239 < b.toNat); omega)
    have e5 : (decide ((237 : UInt8).toNat ≤ b.toNat) && decide (b.toNat ≤ (237 : UInt8).toNat)) = false := rng_out (by show (b.toNat < 237 ∨ 237 < b.toNat); omega)
    have e6 : (decide ((240 : UInt8).toNat ≤ b.toNat) && decide (b.toNat ≤ (240 : UInt8).toNat)) = false := rng_out (by show (b.toNat < 240 ∨ 240 < b.toNat); omega)
    have e7 : (decide ((241 : UInt8).toNat ≤ b.toNat) && decide (b.toNat ≤ (243 : UInt8).toNat)) = false := rng_out (by show (b.toNat < 241 ∨ 243 < b.toNat); omega)
    have e8 : (decide ((244 : UInt8).toNat ≤ b.toNat) && decide (b.toNat ≤ (244 : UInt8).toNat)) = false := rng_out (by show (b.toNat < 244 ∨ 244 < b.toNat); omega)
    simp only [e0, e1, e2, e3, e4, e5, e6, e7, e8, Bool.false_and, Bool.true_and, Bool.false_eq_true, if_false, if_true]
    unfold u8size; simp only [if_pos (show b.toNat < 128 by omega)]
  by_cases h1 : 194 ≤ b.toNat ∧ b.toNat ≤ 223
  · have e0 : (decide ((0 : UInt8).toNat ≤ b.toNat) && decide (b.toNat ≤ (127 : UInt8).toNat)) = false := rng_out (by show (b.toNat < 0 ∨ 127 < b.toNat); omega)
    have e1 : (decide ((194 : UInt8).toNat ≤ b.toNat) && decide (b.toNat ≤ (223 : UInt8).toNat)) = true := rng_in (by show ¬ (b.toNat < 194 ∨ 223 < b.toNat); omega)
    have e2 : (decide ((224 : UInt8).toNat ≤ b.toNat) && decide (b.toNat ≤ (224 : UInt8).toNat)) = false := rng_out (by show (b.toNat < 224 ∨ 224 < b.toNat); omega)
    have e3 : (decide ((225 : UInt8).toNat ≤ b.toNat) && decide (b.toNat ≤ (236 : UInt8).toNat)) = false := rng_out (by show (b.toNat < 225 ∨ 236 < b.toNat); omega)
    have e4 : (decide ((238 : UInt8).toNat ≤ b.toNat) && decide (b.toNat ≤ (239 : UInt8).toNat)) = false := rng_out (by show (b.toNat < 238 ∨ 239 < b.toNat); omega)
    have e5 : (decide ((237 : UInt8).toNat ≤ b.toNat) && decide (b.toNat ≤ (237 : UInt8).toNat)) = false := rng_out (by show (b.toNat < 237 ∨ 237 < b.toNat); omega)
    have e6 : (decide ((240 : UInt8).toNat ≤ b.toNat) && decide (b.toNat ≤ (240 : UInt8).toNat)) = false := rng_out (by show (b.toNat < 240 ∨ 240 < b.toNat); omega)
    have e7 : (decide ((241 : UInt8).toNat ≤ b.toNat) && decide (b.toNat ≤ (243 : UInt8).toNat)) = false := rng_out (by show (b.toNat < 241 ∨ 243 < b.toNat); omega)
    have e8 : (decide ((244 : UInt8).toNat ≤ b.toNat) && decide (b.toNat ≤ (244 : UInt8).toNat)) = false := rng_out (by show (b.toNat < 244 ∨ 244 < b.toNat); omega)
    simp only [e0, e1, e2, e3, e4, e5, e6, e7, e8, Bool.false_and, Bool.true_and, Bool.false_eq_true, if_false, if_true]
    have hlead : u8lead b.toNat = (2, 128, 191) := by
      unfold u8lead
      repeat' split
      all_goals first | rfl | (exfalso; omega)
    rw [u8size_tail (by omega) hlead (by omega)]
    exact tail2 128 191 r
  by_cases h2 : 224 ≤ b.toNat ∧ b.toNat ≤ 224
  · have e0 : (decide ((0 : UInt8).toNat ≤ b.toNat) && decide (b.toNat ≤ (127 : UInt8).toNat)) = false := rng_out (by show (b.toNat < 0 ∨ 127 < b.toNat); omega)
    have e1 : (decide ((194 : UInt8).toNat ≤ b.toNat) && decide (b.toNat ≤ (223 : UInt8).toNat)) = false := rng_out (by show (b.toNat < 194 ∨ 223 < b.toNat); omega)
    have e2 : (decide ((224 : UInt8).toNat ≤ b.toNat) && decide (b.toNat ≤ (224 : UInt8).toNat)) = true := rng_in (by show ¬ (b.toNat < 224 ∨ 224 < b.toNat); omega)
    have e3 : (decide ((225 : UInt8).toNat ≤ b.toNat) && decide (b.toNat ≤ (236 : UInt8).toNat)) = false := rng_out (by show (b.toNat < 225 ∨ 236 < b.toNat); omega)
    have e4 : (decide ((238 : UInt8).toNat ≤ b.toNat) && decide (b.toNat ≤ (239 : UInt8).toNat)) = false := rng_out (by show (b.toNat < 238 ∨ 239 < b.toNat); omega)
    have e5 : (decide ((237 : UInt8).toNat ≤ b.toNat) && decide (b.toNat ≤ (237 : UInt8).toNat)) = false := rng_out (by show (b.toNat < 237 ∨ 237 < b.toNat); omega)
    have e6 : (decide ((240 : UInt8).toNat ≤ b.toNat) && decide (b.toNat ≤ (240 : UInt8).toNat)) = false := rng_out (by show (b.toNat < 240 ∨ 240 < b.toNat); omega)
    have e7 : (decide ((241 : UInt8).toNat ≤ b.toNat) && decide (b.toNat ≤ (243 : UInt8).toNat)) = false := rng_out (by show (b.toNat < 241 ∨ 243 < b.toNat); omega)
    have e8 : (decide ((244 : UInt8).toNat ≤ b.toNat) && decide (b.toNat ≤ (244 : UInt8).toNat)) = false := rng_out (by show (b.toNat < 244 ∨ 244 < b.toNat); omega)
    simp only [e0, e1, e2, e3, e4, e5, e6, e7, e8, Bool.false_and, Bool.true_and, Bool.false_eq_true, if_false, if_true]
    have hlead : u8lead b.toNat = (3, 160, 191) := by
      unfold u8lead
      repeat' split
      all_goals first | rfl | (exfalso; omega)
    rw [u8size_tail (by omega) hlead (by omega)]
    exact tail3 160 191 r
  by_cases h3 : 225 ≤ b.toNat ∧ b.toNat ≤ 236
  · have e0 : (decide ((0 : UInt8).toNat ≤ b.toNat) && decide (b.toNat ≤ (127 : UInt8).toNat)) = false := rng_out (by show (b.toNat < 0 ∨ 127 < b.toNat); omega)
    have e1 : (decide ((194 : UInt8).toNat ≤ b.toNat) && decide (b.toNat ≤ (223 : UInt8).toNat)) = false := rng_out (by show (b.toNat < 194 ∨ 223 < b.toNat); omega)
    have e2 : (decide ((224 : UInt8).toNat ≤ b.toNat) && decide (b.toNat ≤ (224 : UInt8).toNat)) = false := rng_out (by show (b.toNat < 224 ∨ 224 < b.toNat); omega)
    have e3 : (decide ((225 : UInt8).toNat ≤ b.toNat) && decide (b.toNat ≤ (236 : UInt8).toNat)) = true := rng_in (by show ¬ (b.toNat < 225 ∨ 236 < b.toNat); omega)
    have e4 : (decide ((238 : UInt8).toNat ≤ b.toNat) && decide (b.toNat ≤ (239 : UInt8).toNat)) = false := rng_out (by show (b.toNat < 238 ∨ 239 < b.toNat); omega)
    have e5 : (decide ((237 : UInt8).toNat ≤ b.toNat) && decide (b.toNat ≤ (237 : UInt8).toNat)) = false := rng_out (by show (b.toNat < 237 ∨ 237 < b.toNat); omega)
    have e6 : (decide ((240 : UInt8).toNat ≤ b.toNat) && decide (b.toNat ≤ (240 : UInt8).toNat)) = false := rng_out (by show (b.toNat < 240 ∨ 240 < b.toNat); omega)
    have e7 : (decide ((241 : UInt8).toNat ≤ b.toNat) && decide (b.toNat ≤ (243 : UInt8).toNat)) = false := rng_out (by show (b.toNat < 241 ∨ 243 < b.toNat); omega)
    have e8 : (decide ((244 : UInt8).toNat ≤ b.toNat) && decide (b.toNat ≤ (244 : UInt8).toNat)) = false := rng_out (by show (b.toNat < 244 ∨ 244 < b.toNat); omega)
    simp only [e0, e1, e2, e3, e4, e5, e6, e7, e8, Bool.false_and, Bool.true_and, Bool.false_eq_true, if_false, if_true]
    have hlead : u8lead b.toNat = (3, 128, 191) := by
      unfold u8lead
      repeat' split
      all_goals first | rfl | (exfalso; omega)
    rw [u8size_tail (by omega) hlead (by omega)]
    exact tail3 128 191 r
  by_cases h4 : 238 ≤ b.toNat ∧ b.toNat ≤ 239
  · have e0 : (decide ((0 : UInt8).toNat ≤ b.toNat) && decide (b.toNat ≤ (127 : UInt8).toNat)) = false := rng_out (by show (b.toNat < 0 ∨ 127 < b.toNat); omega)
    have e1 : (decide ((194 : UInt8).toNat ≤ b.toNat) && decide (b.toNat ≤ (223 : UInt8).toNat)) = false := rng_out (by show (b.toNat < 194 ∨ 223 < b.toNat); omega)
    have e2 : (decide ((224 : UInt8).toNat ≤ b.toNat) && decide (b.toNat ≤ (224 : UInt8).toNat)) = false := rng_out (by show (b.toNat < 224 ∨ 224 < b.toNat); omega)
    have e3 : (decide ((225 : UInt8).toNat ≤ b.toNat) && decide (b.toNat ≤ (236 : UInt8).toNat)) = false := rng_out (by show (b.toNat < 225 ∨ 236 < b.toNat); omega)
    have e4 : (decide ((238 : UInt8).toNat ≤ b.toNat) && decide (b.toNat ≤ (239 : UInt8).toNat)) = true := rng_in (by show ¬ (b.toNat < 238 ∨ 239 < b.toNat); omega)
    have e5 : (decide ((237 : UInt8).toNat ≤ b.toNat) && decide (b.toNat ≤ (237 : UInt8).toNat)) = false := rng_out (by show (b.toNat < 237 ∨ 237 < b.toNat); omega)
    have e6 : (decide ((240 : UInt8).toNat ≤ b.toNat) && decide (b.toNat ≤ (240 : UInt8).toNat)) = false := rng_out (by show (b.toNat < 240 ∨ 240 < b.toNat); omega)
    have e7 : (decide ((241 : UInt8).toNat ≤ b.toNat) && decide (b.toNat ≤ (243 : UInt8).toNat)) = false := rng_out (by show (b.toNat < 241 ∨ 243 < b.toNat); omega)
    have e8 : (decide ((244 : UInt8).toNat ≤ b.toNat) && decide (b.toNat ≤ (244 : UInt8).toNat)) = false := rng_out (by show (b.toNat < 244 ∨ 244 < b.toNat); omega)
    simp only [e0, e1, e2, e3, e4, e5, e6, e7, e8, Bool.false_and, Bool.true_and, Bool.false_eq_true, if_false, if_true]
    have hlead : u8lead b.toNat = (3, 128, 191) := by
      unfold u8lead
      repeat' split
      all_goals first | rfl | (exfalso; omega)
    rw [u8size_tail (by omega) hlead (by omega)]
    exact tail3 128 191 r
  by_cases h5 : 237 ≤ b.toNat ∧ b.toNat ≤ 237
  · have e0 : (decide ((0 : UInt8).toNat ≤ b.toNat) && decide (b.toNat ≤ (127 : UInt8).toNat)) = false := rng_out (by show (b.toNat < 0 ∨ 127 < b.toNat); omega)
    have e1 : (decide ((194 : UInt8).toNat ≤ b.toNat) && decide (b.toNat ≤ (223 : UInt8).toNat)) = false := rng_out (by show (b.toNat < 194 ∨ 223 < b.toNat); omega)
    have e2 : (decide ((224 : UInt8).toNat ≤ b.toNat) && decide (b.toNat ≤ (224 : UInt8).toNat)) = false := rng_out (by show (b.toNat < 224 ∨ 224 < b.toNat); omega)
    have e3 : (decide ((225 : UInt8).toNat ≤ b.toNat) && decide (b.toNat ≤ (236 : UInt8).toNat)) = false := rng_out (by show (b.toNat < 225 ∨ 236 < b.toNat); omega)
    have e4 : (decide ((238 : UInt8).toNat ≤ b.toNat) && decide (b.toNat ≤ (239 : UInt8).toNat)) = false := rng_out (by show (b.toNat < 238 ∨ 239 < b.toNat); omega)
    have e5 : (decide ((237 : UInt8).toNat ≤ b.toNat) && decide (b.toNat ≤ (237 : UInt8).toNat)) = true := rng_in (by show ¬ (b.toNat < 237 ∨ 237 < b.toNat); omega)
    have e6 : (decide ((240 : UInt8).toNat ≤ b.toNat) && decide (b.toNat ≤ (240 : UInt8).toNat)) = false := rng_out (by show (b.toNat < 240 ∨ 240 < b.toNat); omega)
    have e7 : (decide ((241 : UInt8).toNat ≤ b.toNat) && decide (b.toNat ≤ (243 : UInt8).toNat)) = false := rng_out (by show (b.toNat < 241 ∨ 243 < b.toNat); omega)
    have e8 : (decide ((244 : UInt8).toNat ≤ b.toNat) && decide (b.toNat ≤ (244 : UInt8).toNat)) = false := rng_out (by show (b.toNat < 244 ∨ 244 < b.toNat); omega)
    simp only [e0, e1, e2, e3, e4, e5, e6, e7, e8, Bool.false_and, Bool.true_and, Bool.false_eq_true, if_false, if_true]
    have hlead : u8lead b.toNat = (3, 128, 159) := by
      unfold u8lead
      repeat' split
      all_goals first | rfl | (exfalso; omega)
    rw [u8size_tail (by omega) hlead (by omega)]
    exact tail3 128 159 r
  by_cases h6 : 240 ≤ b.toNat ∧ b.toNat ≤ 240
  · have e0 : (decide ((0 : UInt8).toNat ≤ b.toNat) && decide (b.toNat ≤ (127 : UInt8).toNat)) = false := rng_out (by show (b.toNat < 0 ∨ 127 < b.toNat); omega)
    have e1 : (decide ((194 : UInt8).toNat ≤ b.toNat) && decide (b.toNat ≤ (223 : UInt8).toNat)) = false := rng_out (by show (b.toNat < 194 ∨ 223 < b.toNat); omega)
    have e2 : (decide ((224 : UInt8).toNat ≤ b.toNat) && decide (b.toNat ≤ (224 : UInt8).toNat)) = false := rng_out (by show (b.toNat < 224 ∨ 224 < b.toNat); omega)
    have e3 : (decide ((225 : UInt8).toNat ≤ b.toNat) && decide (b.toNat ≤ (236 : UInt8).toNat)) = false := rng_out (by show (b.toNat < 225 ∨ 236 < b.toNat); omega)
    have e4 : (decide ((238 : UInt8).toNat ≤ b.toNat) && decide (b.toNat ≤ (239 : UInt8).toNat)) = false := rng_out (by show (b.toNat < 238 ∨ 239 < b.toNat); omega)
    have e5 : (decide ((237 : UInt8).toNat ≤ b.toNat) && decide (b.toNat ≤ (237 : UInt8).toNat)) = false := rng_out (by show (b.toNat < 237 ∨ 237 < b.toNat); omega)
    have e6 : (decide ((240 : UInt8).toNat ≤ b.toNat) && decide (b.toNat ≤ (240 : UInt8).toNat)) = true := rng_in (by show ¬ (b.toNat < 240 ∨ 240 < b.toNat); omega)
    have e7 : (decide ((241 : UInt8).toNat ≤ b.toNat) && decide (b.toNat ≤ (243 : UInt8).toNat)) = false := rng_out (by show (b.toNat < 241 ∨ 243 < b.toNat); omega)
    have e8 : (decide ((244 : UInt8).toNat ≤ b.toNat) && decide (b.toNat ≤ (244 : UInt8).toNat)) = false := rng_out (by show (b.toNat < 244 ∨ 244 < b.toNat); omega)
    simp only [e0, e1, e2, e3, e4, e5, e6, e7, e8, Bool.false_and, Bool.true_and, Bool.false_eq_true, if_false, if_true]
    have hlead : u8lead b.toNat = (4, 144, 191) := by
      unfold u8lead
      repeat' split
      all_goals first | rfl | (exfalso; omega)
    rw [u8size_tail (by omega) hlead (by omega)]
    exact tail4 144 191 r
  by_cases h7 : 241 ≤ b.toNat ∧ b.toNat ≤ 243
  · have e0 : (decide ((0 : UInt8).toNat ≤ b.toNat) && decide (b.toNat ≤ (127 : UInt8).toNat)) = false := rng_out (by show (b.toNat < 0 ∨ 127 < b.toNat); omega)
    have e1 : (decide ((194 : UInt8).toNat ≤ b.toNat) && decide (b.toNat ≤ (223 : UInt8).toNat)) = false := rng_out (by show (b.toNat < 194 ∨ 223 < b.toNat); omega)
    have e2 : (decide ((224 : UInt8).toNat ≤ b.toNat) && decide (b.toNat ≤ (224 : UInt8).toNat)) = false := rng_out (by show (b.toNat < 224 ∨ 224 < b.toNat); omega)
    have e3 : (decide ((225 : UInt8).toNat ≤ b.toNat) && decide (b.toNat ≤ (236 : UInt8).toNat)) = false := rng_out (by show (b.toNat < 225 ∨ 236 < b.toNat); omega)
    have e4 : (decide ((238 : UInt8).toNat ≤ b.toNat) && decide (b.toNat ≤ (239 : UInt8).toNat)) = false := rng_out (by show (b.toNat < 238 ∨ 239 < b.toNat); omega)
    have e5 : (decide ((237 : UInt8).toNat ≤ b.toNat) && decide (b.toNat ≤ (237 : UInt8).toNat)) = false := rng_out (by show (b.toNat < 237 ∨ 237 < b.toNat); omega)
    have e6 : (decide ((240 : UInt8).toNat ≤ b.toNat) && decide (b.toNat ≤ (240 : UInt8).toNat)) = false := rng_out (by show (b.toNat < 240 ∨ 240 < b.toNat); omega)
    have e7 : (decide ((241 : UInt8).toNat ≤ b.toNat) && decide (b.toNat ≤ (243 : UInt8).toNat)) = true := rng_in (by show ¬ (b.toNat < 241 ∨ 243 < b.toNat); omega)
    have e8 : (decide ((244 : UInt8).toNat ≤ b.toNat) && decide (b.toNat ≤ (244 : UInt8).toNat)) = false := rng_out (by show (b.toNat < 244 ∨ 244 < b.toNat); omega)
    simp only [e0, e1, e2, e3, e4, e5, e6, e7, e8, Bool.false_and, Bool.true_and, Bool.false_eq_true, if_false, if_true]
    have hlead : u8lead b.toNat = (4, 128, 191) := by
      unfold u8lead
      repeat' split
      all_goals first | rfl | (exfalso; omega)
    rw [u8size_tail (by omega) hlead (by omega)]
    exact tail4 128 191 r
  by_cases h8 : 244 ≤ b.toNat ∧ b.toNat ≤ 244
  · have e0 : (decide ((0 : UInt8).toNat ≤ b.toNat) && decide (b.toNat ≤ (127 : UInt8).toNat)) = false := rng_out (by show (b.toNat < 0 ∨ 127 < b.toNat); omega)
    have e1 : (decide ((194 : UInt8).toNat ≤ b.toNat) && decide (b.toNat ≤ (223 : UInt8).toNat)) = false := rng_out (by show (b.toNat < 194 ∨ 223 < b.toNat); omega)
    have e2 : (decide ((224 : UInt8).toNat ≤ b.toNat) && decide (b.toNat ≤ (224 : UInt8).toNat)) = false := rng_out (by show (b.toNat < 224 ∨ 224 < b.toNat); omega)
    have e3 : (decide ((225 : UInt8).toNat ≤ b.toNat) && decide (b.toNat ≤ (236 : UInt8).toNat)) = false := rng_out (by show (b.toNat < 225 ∨ 236 < b.toNat); omega)
    have e4 : (decide ((238 : UInt8).toNat ≤ b.toNat) && decide (b.toNat ≤ (239 : UInt8).toNat)) = false := rng_out (by show (b.toNat < 238 ∨ 239 < b.toNat); omega)
    have e5 : (decide ((237 : UInt8).toNat ≤ b.toNat) && decide (b.toNat ≤ (237 : UInt8).toNat)) = false := rng_out (by show (b.toNat < 237 ∨ 237 < b.toNat); omega)
    have e6 : (decide ((240 : UInt8).toNat ≤ b.toNat) && decide (b.toNat ≤ (240 : UInt8).toNat)) = false := rng_out (by show (b.toNat < 240 ∨ 240 < b.toNat); omega)
    have e7 : (decide ((241 : UInt8).toNat ≤ b.toNat) && decide (b.toNat ≤ (243 : UInt8).toNat)) = false := rng_out (by show (b.toNat < 241 ∨ 243 < b.toNat); omega)
    have e8 : (decide ((244 : UInt8).toNat ≤ b.toNat) && decide (b.toNat ≤ (244 : UInt8).toNat)) = true := rng_in (by show ¬ (b.toNat < 244 ∨ 244 < b.toNat); omega)
    simp only [e0, e1, e2, e3, e4, e5, e6, e7, e8, Bool.false_and, Bool.true_and, Bool.false_eq_true, if_false, if_true]
    have hlead : u8lead b.toNat = (4, 128, 143) := by
      unfold u8lead
      repeat' split
      all_goals first | rfl | (exfalso; omega)
    rw [u8size_tail (by omega) hlead (by omega)]
    exact tail4 128 143 r
  have e0 : (decide ((0 : UInt8).toNat ≤ b.toNat) && decide (b.toNat ≤ (127 : UInt8).toNat)) = false := rng_out (by show (b.toNat < 0 ∨ 127 < b.toNat); omega)
  have e1 : (decide ((194 : UInt8).toNat ≤ b.toNat) && decide (b.toNat ≤ (223 : UInt8).toNat)) = false := rng_out (by show (b.toNat < 194 ∨ 223 < b.toNat); omega)
  have e2 : (decide ((224 : UInt8).toNat ≤ b.toNat) && decide (b.toNat ≤ (224 : UInt8).toNat)) = false := rng_out (by show (b.toNat < 224 ∨ 224 < b.toNat); omega)
  have e3 : (decide ((225 : UInt8).toNat ≤ b.toNat) && decide (b.toNat ≤ (236 : UInt8).toNat)) = false := rng_out (by show (b.toNat < 225 ∨ 236 < b.toNat); omega)
  have e4 : (decide ((238 : UInt8).toNat ≤ b.toNat) && decide (b.toNat ≤ (239 : UInt8).toNat)) = false := rng_out (by show (b.toNat < 238 ∨ 239 < b.toNat); omega)
  have e5 : (decide ((237 : UInt8).toNat ≤ b.toNat) && decide (b.toNat ≤ (237 : UInt8).toNat)) = false := rng_out (by show (b.toNat < 237 ∨ 237 < b.toNat); omega)
  have e6 : (decide ((240 : UInt8).toNat ≤ b.toNat) && decide (b.toNat ≤ (240 : UInt8).toNat)) = false := rng_out (by show (b.toNat < 240 ∨ 240 < b.toNat); omega)
  have e7 : (decide ((241 : UInt8).toNat ≤ b.toNat) && decide (b.toNat ≤ (243 : UInt8).toNat)) = false := rng_out (by show (b.toNat < 241 ∨ 243 < b.toNat); omega)
  have e8 : (decide ((244 : UInt8).toNat ≤ b.toNat) && decide (b.toNat ≤ (244 : UInt8).toNat)) = false := rng_out (by show (b.toNat < 244 ∨ 244 < b.toNat); omega)
  simp only [e0, e1, e2, e3, e4, e5, e6, e7, e8, Bool.false_and, Bool.false_eq_true, if_false]
  unfold u8size; simp only [if_neg (show ¬ b.toNat < 128 by omega)]
  rw [if_pos (by unfold u8lead; rw [if_neg (by omega), if_neg (by omega), if_neg (by omega)])]
end Go.Proofs.Ytahcgajipnkojaa
