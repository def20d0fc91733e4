/- One request at the front of a text (P29), plainly. -/
import Derived.Test.YtkcncgdgicffhaaDoorGr
import Derived.Test.YtkcncgdgicffhaaDoorGu
import Derived.Test.YtkcncgdgicffhaaDoorGv
import Derived.Lib.IndexMore
namespace Go.Proofs.YtkcncgdgicffhaaDoor
open Go.RowKit
set_option linter.unusedVariables false
set_option linter.unusedSimpArgs false

/-- what frame.Of can answer -/
theorem fr_cases (a b : List ByteArray) : (∃ e : Int, frR a b = (0, 0, e) ∧ e = 4) ∨ frR a b = (1, 0, 0) ∨ frR a b = (3, 0, 0) ∨ (∃ n : Nat, frR a b = (2, (n : Int), 0) ∧ n ≤ 68719476736) := by
  have hnum : ∀ x : ByteArray, ∃ n : Nat, numN 10 9 x = n ∧ n ≤ 68719476736 := by
    intro x
    by_cases h : numB 10 9 x = true
    · have h2 := h
      unfold numB at h2
      simp only [Bool.and_eq_true, decide_eq_true_iff] at h2
      obtain ⟨⟨h3, h4⟩, h5⟩ := h2
      have := numv_bd8 (base := 10) (by decide) (by decide) _ h3 (by rw [lst_len]; omega)
      refine ⟨(numv 10 x.data.toList).toNat, ?_, by omega⟩
      unfold numN; rw [if_pos h]; omega
    · exact ⟨0, by unfold numN; rw [if_neg h]; rfl, by omega⟩
  match a, b with
  | [], [] => exact .inr (.inl rfl)
  | [], [x] =>
    rw [fr_one]
    by_cases h : chunkB x = true
    · rw [if_pos h]; exact .inr (.inr (.inl rfl))
    · rw [if_neg h]; exact .inl ⟨4, rfl, rfl⟩
  | [], _ :: _ :: _ => exact .inl ⟨4, rfl, rfl⟩
  | _ :: _, _ :: _ => exact .inl ⟨4, rfl, rfl⟩
  | a0 :: a, [] =>
    rw [fr_num]
    by_cases h : numE 10 9 a0 = 0 ∧ allS (a0 :: a) a0 = true
    · rw [if_pos h]
      obtain ⟨n, h1, h2⟩ := hnum a0
      exact .inr (.inr (.inr ⟨n, by rw [h1], h2⟩))
    · rw [if_neg h]; exact .inl ⟨4, rfl, rfl⟩

/-- the body of a head's request at the front of a rest: the body, how many bytes it takes, the error -/
def bodR (F : Int × Int × Int) (r : ByteArray) (B : Int) : ByteArray × Nat × Int :=
  if F.2.2 ≠ 0 then (⟨#[]⟩, 0, F.2.2)
  else if F.1 = 1 then (⟨#[]⟩, 0, 0)
  else if F.1 = 3 then (str (chkR r.data.toList B).1, (chkR r.data.toList B).2.1, (chkR r.data.toList B).2.2)
  else if B < F.2.1 then (⟨#[]⟩, 0, 6)
  else if (r.size : Int) < F.2.1 then (⟨#[]⟩, 0, 7)
  else (r.extract 0 F.2.1.toNat, F.2.1.toNat, 0)
theorem bodR_bad {e : Int} {r : ByteArray} {B : Int} (he : ¬ e = 0) {k n : Int} : bodR (k, n, e) r B = (⟨#[]⟩, 0, e) := by unfold bodR; rw [if_pos he]
theorem bodR_none {r : ByteArray} {B : Int} : bodR (1, 0, 0) r B = (⟨#[]⟩, 0, 0) := rfl
theorem bodR_chunk {r : ByteArray} {B : Int} : bodR (3, 0, 0) r B = (str (chkR r.data.toList B).1, (chkR r.data.toList B).2.1, (chkR r.data.toList B).2.2) := rfl
theorem bodR_large {r : ByteArray} {B : Int} {n : Nat} (h : B < n) : bodR (2, (n : Int), 0) r B = (⟨#[]⟩, 0, 6) := by
  unfold bodR; rw [if_neg (by simp), if_neg (by simp), if_neg (by simp), if_pos h]
theorem bodR_short {r : ByteArray} {B : Int} {n : Nat} (h : (n : Int) ≤ B) (h2 : r.size < n) : bodR (2, (n : Int), 0) r B = (⟨#[]⟩, 0, 7) := by
  unfold bodR; rw [if_neg (by simp), if_neg (by simp), if_neg (by simp), if_neg (by simp only []; omega), if_pos (by simp only []; omega)]
theorem bodR_ok {r : ByteArray} {B : Int} {n : Nat} (h : (n : Int) ≤ B) (h2 : n ≤ r.size) : bodR (2, (n : Int), 0) r B = (r.extract 0 n, n, 0) := by
  unfold bodR; rw [if_neg (by simp), if_neg (by simp), if_neg (by simp), if_neg (by simp only []; omega), if_neg (by simp only []; omega)]
  simp
theorem bodR_bd (a b : List ByteArray) (r : ByteArray) (B : Int) : (bodR (frR a b) r B).1.size ≤ r.size ∧ (bodR (frR a b) r B).2.1 ≤ r.size := by
  rcases fr_cases a b with ⟨e, h, rfl⟩ | h | h | ⟨n, h, _⟩
  · rw [h, bodR_bad (by decide)]; exact ⟨Nat.zero_le _, Nat.zero_le _⟩
  · rw [h, bodR_none]; exact ⟨Nat.zero_le _, Nat.zero_le _⟩
  · rw [h, bodR_chunk]
    have := chkR_bd r B
    exact ⟨by simp only [size_str]; omega, by simp only []; omega⟩
  · rw [h]
    by_cases h1 : B < n
    · rw [bodR_large h1]; exact ⟨Nat.zero_le _, Nat.zero_le _⟩
    · by_cases h2 : r.size < n
      · rw [bodR_short (by omega) h2]; exact ⟨Nat.zero_le _, Nat.zero_le _⟩
      · rw [bodR_ok (by omega) (by omega)]; exact ⟨by simp only [ByteArray.size_extract]; omega, by simp only []; omega⟩

/-- where the head's end begins; -1: there is none -/
def sepI (s : ByteArray) : Int := Lib.index s.data.toList crlf2.data.toList
theorem sep_ge (s : ByteArray) : -1 ≤ sepI s := Lib.index_ge _ _
theorem sep_room {s : ByteArray} (h : 0 ≤ sepI s) : sepI s + 4 ≤ s.size := by
  have := Lib.index_room s.data.toList crlf2.data.toList h
  rw [lst_len] at this; exact this
/-- the same in a part at the front -/
theorem sep_front (s : ByteArray) (H : Nat) (hH : H ≤ s.size) : sepI (s.extract 0 H) = if 0 ≤ sepI s ∧ sepI s + 4 ≤ H then sepI s else -1 := by
  have hz : (s.extract 0 H).size = H := by rw [ByteArray.size_extract]; omega
  have hl : (s.extract 0 H).data.toList = s.data.toList.take H := by rw [lst_ext, List.drop_zero]
  have c4 : crlf2.data.toList.length = 4 := rfl
  have occ : ∀ j, Lib.occAt (s.extract 0 H).data.toList crlf2.data.toList j = true ↔ Lib.occAt s.data.toList crlf2.data.toList j = true ∧ j + 4 ≤ H := by
    intro j
    rw [hl]
    unfold Lib.occAt
    rw [List.isPrefixOf_iff_prefix, List.isPrefixOf_iff_prefix, List.prefix_iff_eq_take, List.prefix_iff_eq_take, c4, List.drop_take, List.take_take]
    constructor
    · intro h
      have h2 := congrArg List.length h
      rw [c4, List.length_take, List.length_drop, lst_len] at h2
      rw [Nat.min_eq_left (by omega)] at h
      exact ⟨h, by omega⟩
    · rintro ⟨h, h2⟩
      rw [Nat.min_eq_left (by omega)]; exact h
  rcases Lib.index_spec s.data.toList crlf2.data.toList with ⟨h1, h2⟩ | ⟨i, h1, h2, h3, h4⟩
  · have e : sepI s = -1 := h1
    rw [e, if_neg (by omega)]
    refine Lib.index_none fun j hj => ?_
    rw [Bool.eq_false_iff]; intro hc
    rw [hl, List.length_take, lst_len] at hj
    have := h2 j (by rw [lst_len]; omega)
    rw [((occ j).1 hc).1] at this; exact absurd this (by decide)
  · have e : sepI s = i := h1
    rw [e]
    by_cases hi : i + 4 ≤ H
    · rw [if_pos (by omega)]
      refine Lib.index_first (by rw [lst_len, hz]; omega) ((occ i).2 ⟨h3, hi⟩) fun j hj => ?_
      rw [Bool.eq_false_iff]; intro hc
      have := h4 j hj
      rw [((occ j).1 hc).1] at this; exact absurd this (by decide)
    · rw [if_neg (by omega)]
      refine Lib.index_none fun j hj => ?_
      rw [Bool.eq_false_iff]; intro hc
      obtain ⟨h5, h6⟩ := (occ j).1 hc
      have := h4 j (by omega)
      rw [h5] at this; exact absurd this (by decide)

/-- a request at the front: the error, the head, the body, how many bytes it takes -/
noncomputable def reqR (s : ByteArray) (H B : Int) : Int × Hd × ByteArray × Nat :=
  if sepI s < 0 ∨ H < sepI s + 4 then (if H ≤ s.size then 5 else 7, zHd, ⟨#[]⟩, 0)
  else if rhE (s.extract 0 ((sepI s).toNat + 4)) ≠ 0 then (rhE (s.extract 0 ((sepI s).toNat + 4)), zHd, ⟨#[]⟩, 0)
  else
    let h := rhR (s.extract 0 ((sepI s).toNat + 4))
    let b := bodR (frR (getL h.fs clB) (getL h.fs teB)) (s.extract ((sepI s).toNat + 4) s.size) B
    if b.2.2 ≠ 0 then (b.2.2, zHd, ⟨#[]⟩, 0) else (0, h, b.1, (sepI s).toNat + 4 + b.2.1)
section
variable {s : ByteArray} {H B : Int} {n : Nat}
theorem req_nohead (h : sepI s < 0 ∨ H < sepI s + 4) : reqR s H B = (if H ≤ s.size then 5 else 7, zHd, ⟨#[]⟩, 0) := by unfold reqR; rw [if_pos h]
theorem req_head (hn : sepI s = n) (h : (n : Int) + 4 ≤ H) {p : ByteArray} (hp : s.extract 0 (n + 4) = p) (he : ¬ rhE p = 0) : reqR s H B = (rhE p, zHd, ⟨#[]⟩, 0) := by
  unfold reqR; rw [if_neg (by omega), hn, Int.toNat_natCast, hp, if_pos he]
theorem req_body (hn : sepI s = n) (h : (n : Int) + 4 ≤ H) {p r x : ByteArray} {k : Nat} {e : Int} (hp : s.extract 0 (n + 4) = p) (he : rhE p = 0) (hr : s.extract (n + 4) s.size = r)
    (hb : bodR (frR (getL (rhR p).fs clB) (getL (rhR p).fs teB)) r B = (x, k, e)) (h2 : ¬ e = 0) : reqR s H B = (e, zHd, ⟨#[]⟩, 0) := by
  unfold reqR; rw [if_neg (by omega), hn, Int.toNat_natCast, hp, if_neg (by simp [he]), hr]; simp only [hb]; rw [if_pos h2]
theorem req_ok (hn : sepI s = n) (h : (n : Int) + 4 ≤ H) {p r x : ByteArray} {k : Nat} (hp : s.extract 0 (n + 4) = p) (he : rhE p = 0) (hr : s.extract (n + 4) s.size = r)
    (hb : bodR (frR (getL (rhR p).fs clB) (getL (rhR p).fs teB)) r B = (x, k, 0)) : reqR s H B = (0, rhR p, x, n + 4 + k) := by
  unfold reqR; rw [if_neg (by omega), hn, Int.toNat_natCast, hp, if_neg (by simp [he]), hr]; simp only [hb]; rw [if_neg (by simp)]
end
/-- bounds: what is wrong -/
def bdE (H B A : Int) : Int := if H < 30 ∨ 4096 < H ∨ B < 0 ∨ 4096 < B ∨ A < 1 ∨ 40 < A then 1 else 0
end Go.Proofs.YtkcncgdgicffhaaDoor
