/- Plain lemmas on byte strings as lists: no program in sight. -/
import Derived.WalkKit
import Derived.Lib.Strings
import Derived.Lib.IndexBytes
namespace Go.Proofs.Ytkdcgkdbieeijaa
open Go.RowKit
set_option linter.unusedVariables false
set_option linter.unusedSimpArgs false

theorem ret_int {k : IntKind} {a b : Int} (h : a = b) : Ending.returned (.int k a) = .returned (.int k b) := by rw [h]
theorem ret_bool {a b : Bool} (h : a = b) : Ending.returned (.bool a) = .returned (.bool b) := by rw [h]
theorem ret_str {a b : ByteArray} (h : a = b) : Ending.returned (.string a) = .returned (.string b) := by rw [h]
theorem ret_two {a b c d : Value} (h : a = b) (h2 : c = d) : Ending.returned (.tuple #[a, c]) = .returned (.tuple #[b, d]) := by rw [h, h2]

/-- a string's bytes -/
abbrev lst (s : ByteArray) : List UInt8 := s.data.toList
/-- a string out of bytes -/
abbrev str (l : List UInt8) : ByteArray := ⟨l.toArray⟩
theorem lst_len (s : ByteArray) : s.data.toList.length = s.size := by rw [Array.length_toList]; rfl
theorem lst_str (l : List UInt8) : lst (str l) = l := by simp [lst, str]
theorem str_lst (s : ByteArray) : str (lst s) = s := by simp [lst, str]
theorem size_str (l : List UInt8) : (str l).size = l.length := by show l.toArray.size = _; simp
theorem lst_get (s : ByteArray) (k : Nat) (h : k < s.size) : s.data.toList[k]'(by rw [lst_len]; exact h) = s[k] := by
  simp; rfl
theorem lst_get? (s : ByteArray) (k : Nat) (h : k < s.size) : s.data.toList[k]? = some s[k] := by
  rw [List.getElem?_eq_getElem (by rw [lst_len]; exact h), lst_get s k h]
theorem take_snoc (s : ByteArray) (k : Nat) (h : k < s.size) : s.data.toList.take (k + 1) = s.data.toList.take k ++ [s[k]] := by
  rw [List.take_succ_eq_append_getElem (by rw [lst_len]; exact h), lst_get s k h]
theorem drop_cons (s : ByteArray) (k : Nat) (h : k < s.size) : s.data.toList.drop k = s[k] :: s.data.toList.drop (k + 1) := by
  rw [List.drop_eq_getElem_cons (by rw [lst_len]; exact h), lst_get s k h]
theorem take_all (s : ByteArray) {k : Nat} (h : s.size ≤ k) : s.data.toList.take k = s.data.toList := List.take_of_length_le (by rw [lst_len]; exact h)
theorem drop_all (s : ByteArray) {k : Nat} (h : s.size ≤ k) : s.data.toList.drop k = [] := List.drop_eq_nil_of_le (by rw [lst_len]; exact h)
theorem take_len (s : ByteArray) (k : Nat) (h : k ≤ s.size) : (s.data.toList.take k).length = k := by rw [List.length_take, lst_len]; omega
theorem byte_lt (b : UInt8) : 0 ≤ (b.toNat : Int) ∧ (b.toNat : Int) ≤ 255 := by have := b.toNat_lt; omega

theorem lst_inj {a b : ByteArray} (h : a.data.toList = b.data.toList) : a = b := by
  cases a; cases b; simp at h; simp [h]
theorem lst_app (a b : ByteArray) : (a ++ b).data.toList = a.data.toList ++ b.data.toList := by
  cases a; cases b; simp [ByteArray.mk_append_mk]
theorem lst_ext (s : ByteArray) (a b : Nat) : (s.extract a b).data.toList = (s.data.toList.take b).drop a := by
  rw [Lib.extract_data, List.drop_take]
theorem lst_mk (l : List UInt8) : (ByteArray.mk l.toArray).data.toList = l := by simp
theorem take_drop_one {l : List UInt8} {k : Nat} (h : k < l.length) : (l.take (k + 1)).drop k = [l.getD k 0] := by
  rw [List.take_succ_eq_append_getElem h, List.drop_append_of_le_length (by simp; omega)]
  have : (l.take k).drop k = [] := List.drop_eq_nil_of_le (by simp; omega)
  rw [this]; simp [List.getD, h]
theorem ext_one (s : ByteArray) (k : Nat) (h : k < s.size) : (s.extract k (k + 1)).data.toList = [s[k]] := by
  rw [lst_ext, take_drop_one (by rw [lst_len]; exact h)]
  simp only [List.getD, lst_get? s k h, Option.getD_some]

/-- what holds of 256 bytes holds of every byte -/
theorem all_bytes {P : UInt8 → Prop} (h : ∀ n : Fin 256, P (UInt8.ofNat n.val)) (b : UInt8) : P b := by
  have := h ⟨b.toNat, b.toNat_lt⟩
  rwa [UInt8.ofNat_toNat] at this

theorem snoc_ind {α : Type} {P : List α → Prop} (h0 : P []) (h1 : ∀ l b, P l → P (l ++ [b])) (l : List α) : P l := by
  have h : ∀ r : List α, P r.reverse := by
    intro r
    induction r with
    | nil => exact h0
    | cons x r ih => rw [List.reverse_cons]; exact h1 _ _ ih
  have := h l.reverse
  rwa [List.reverse_reverse] at this

/-! ### digits of base 16, numbers -/
/-- the value of a digit of base 16; -1: none -/
def hexv (n : Int) : Int := if 48 ≤ n ∧ n ≤ 57 then n - 48 else if 97 ≤ n ∧ n ≤ 102 then n - 87 else if 65 ≤ n ∧ n ≤ 70 then n - 55 else -1
theorem hexv_le (n : Int) : hexv n ≤ 15 := by unfold hexv; repeat' split <;> omega
theorem hexv_ge (n : Int) : -1 ≤ hexv n := by unfold hexv; repeat' split <;> omega
theorem lo_size : (ByteArray.mk #[48, 49, 50, 51, 52, 53, 54, 55, 56, 57, 97, 98, 99, 100, 101, 102]).size = 16 := rfl
theorem up_size : (ByteArray.mk #[48, 49, 50, 51, 52, 53, 54, 55, 56, 57, 65, 66, 67, 68, 69, 70]).size = 16 := rfl
theorem lo_fin : ∀ k : Fin 16, ((ByteArray.mk #[48, 49, 50, 51, 52, 53, 54, 55, 56, 57, 97, 98, 99, 100, 101, 102])[k.val]'(by rw [lo_size]; exact k.isLt)).toNat = if k.val < 10 then 48 + k.val else 87 + k.val := by decide
theorem up_fin : ∀ k : Fin 16, ((ByteArray.mk #[48, 49, 50, 51, 52, 53, 54, 55, 56, 57, 65, 66, 67, 68, 69, 70])[k.val]'(by rw [up_size]; exact k.isLt)).toNat = if k.val < 10 then 48 + k.val else 55 + k.val := by decide
theorem lo_at (k : Nat) (h : k < 16) : ((ByteArray.mk #[48, 49, 50, 51, 52, 53, 54, 55, 56, 57, 97, 98, 99, 100, 101, 102])[k]'(by rw [lo_size]; exact h)).toNat = if k < 10 then 48 + k else 87 + k := lo_fin ⟨k, h⟩
theorem up_at (k : Nat) (h : k < 16) : ((ByteArray.mk #[48, 49, 50, 51, 52, 53, 54, 55, 56, 57, 65, 66, 67, 68, 69, 70])[k]'(by rw [up_size]; exact h)).toNat = if k < 10 then 48 + k else 55 + k := up_fin ⟨k, h⟩
theorem hex_lo (k : Nat) (h : k < 16) : hexv (((ByteArray.mk #[48, 49, 50, 51, 52, 53, 54, 55, 56, 57, 97, 98, 99, 100, 101, 102])[k]'(by rw [lo_size]; exact h)).toNat : Int) = k := by
  rw [lo_at k h]; unfold hexv; split <;> split <;> (try split) <;> (try split) <;> omega
theorem hex_up (k : Nat) (h : k < 16) : hexv (((ByteArray.mk #[48, 49, 50, 51, 52, 53, 54, 55, 56, 57, 65, 66, 67, 68, 69, 70])[k]'(by rw [up_size]; exact h)).toNat : Int) = k := by
  rw [up_at k h]; unfold hexv; split <;> split <;> (try split) <;> (try split) <;> omega
theorem hex_not (n : Int) (k : Nat) (h : k < 16) (h1 : ¬ n = (((ByteArray.mk #[48, 49, 50, 51, 52, 53, 54, 55, 56, 57, 97, 98, 99, 100, 101, 102])[k]'(by rw [lo_size]; exact h)).toNat : Int))
    (h2 : ¬ n = (((ByteArray.mk #[48, 49, 50, 51, 52, 53, 54, 55, 56, 57, 65, 66, 67, 68, 69, 70])[k]'(by rw [up_size]; exact h)).toNat : Int)) : hexv n ≠ k := by
  rw [lo_at k h] at h1; rw [up_at k h] at h2; intro e; unfold hexv at e
  by_cases h10 : k < 10
  · simp only [h10, if_true] at h1 h2; split at e <;> (try split at e) <;> (try split at e) <;> omega
  · simp only [h10, if_false] at h1 h2; split at e <;> (try split at e) <;> (try split at e) <;> omega

/-- the number that digits write -/
def numv (base : Int) (l : List UInt8) : Int := l.foldl (fun n b => n * base + hexv b.toNat) 0
/-- is every byte a digit of the base? -/
def digs (base : Int) (l : List UInt8) : Bool := l.all fun b => decide (0 ≤ hexv b.toNat) && decide (hexv b.toNat < base)
theorem numv_snoc (base : Int) (l : List UInt8) (b : UInt8) : numv base (l ++ [b]) = numv base l * base + hexv b.toNat := by simp [numv]
theorem digs_snoc (base : Int) (l : List UInt8) (b : UInt8) : digs base (l ++ [b]) = (digs base l && (decide (0 ≤ hexv b.toNat) && decide (hexv b.toNat < base))) := by simp [digs]
theorem digs_part {base : Int} {l : List UInt8} {k : Nat} (h : digs base (l.take k) = false) : digs base l = false := by
  unfold digs at *; rw [List.all_eq_false] at *; obtain ⟨x, hx, hn⟩ := h; exact ⟨x, List.mem_of_mem_take hx, hn⟩
theorem numv_bd {base : Int} (hb : 2 ≤ base) (hb2 : base ≤ 16) (l : List UInt8) : digs base l = true → 0 ≤ numv base l ∧ numv base l + 1 ≤ ((16 ^ l.length : Nat) : Int) := by
  induction l using snoc_ind with
  | h0 => intro _; simp [numv]
  | h1 l b ih =>
    intro h
    rw [digs_snoc, Bool.and_eq_true, Bool.and_eq_true, decide_eq_true_iff, decide_eq_true_iff] at h
    obtain ⟨h1, h2, h3⟩ := h
    obtain ⟨i1, i2⟩ := ih h1
    rw [numv_snoc, List.length_append, List.length_singleton, Nat.pow_succ]
    have m1 : 0 ≤ numv base l * base := Int.mul_nonneg i1 (by omega)
    have m2 : numv base l * base ≤ numv base l * 16 := Int.mul_le_mul_of_nonneg_left hb2 i1
    omega
theorem numv_bd8 {base : Int} (hb : 2 ≤ base) (hb2 : base ≤ 16) (l : List UInt8) (h : digs base l = true) (hl : l.length ≤ 9) :
    0 ≤ numv base l ∧ numv base l ≤ 68719476736 ∧ 0 ≤ numv base l * base ∧ numv base l * base ≤ 1099511627776 := by
  obtain ⟨h1, h2⟩ := numv_bd hb hb2 l h
  have h3 : 16 ^ l.length ≤ 16 ^ 9 := Nat.pow_le_pow_right (by omega) hl
  have h4 : 16 ^ 9 = 68719476736 := by decide
  have m1 : 0 ≤ numv base l * base := Int.mul_nonneg h1 (by omega)
  have m2 : numv base l * base ≤ numv base l * 16 := Int.mul_le_mul_of_nonneg_left hb2 h1
  omega
/-- a right number: its length and its digits -/
def numB (base most : Int) (s : ByteArray) : Bool := digs base s.data.toList && decide (1 ≤ s.size) && decide ((s.size : Int) ≤ most)
def numN (base most : Int) (s : ByteArray) : Int := if numB base most s then numv base s.data.toList else 0
def numE (base most : Int) (s : ByteArray) : Int := if numB base most s then 0 else 4
theorem num_bad {base most : Int} {s : ByteArray} (h : digs base s.data.toList = false ∨ s.size < 1 ∨ most < s.size) : numN base most s = 0 ∧ numE base most s = 4 := by
  have : numB base most s = false := by
    unfold numB
    rcases h with h | h | h
    · simp [h]
    · have h0 : ¬ 1 ≤ s.size := by omega
      simp [h0]
    · have h0 : ¬ (s.size : Int) ≤ most := by omega
      simp [h0]
  simp [numN, numE, this]
theorem num_good {base most : Int} {s : ByteArray} (h1 : digs base s.data.toList = true) (h2 : 1 ≤ s.size) (h3 : (s.size : Int) ≤ most) : numN base most s = numv base s.data.toList ∧ numE base most s = 0 := by
  have : numB base most s = true := by simp [numB, h1, h2, h3]
  simp [numN, numE, this]
theorem digs_hit {base : Int} {s : ByteArray} {k : Nat} (hk : k < s.size) (h : hexv s[k].toNat < 0 ∨ base ≤ hexv s[k].toNat) : digs base s.data.toList = false := by
  apply digs_part (k := k + 1)
  rw [take_snoc s k hk, digs_snoc]
  rcases h with h | h
  · have : ¬ 0 ≤ hexv s[k].toNat := by omega
    simp [this]
  · have : ¬ hexv s[k].toNat < base := by omega
    simp [this]
theorem digs_step {base : Int} {s : ByteArray} {k : Nat} (hk : k < s.size) (h : digs base (s.data.toList.take k) = true) (h1 : 0 ≤ hexv s[k].toNat) (h2 : hexv s[k].toNat < base) : digs base (s.data.toList.take (k + 1)) = true := by
  rw [take_snoc s k hk, digs_snoc]; simp [h, h1, h2]
theorem numv_step {base : Int} {s : ByteArray} {k : Nat} (hk : k < s.size) : numv base (s.data.toList.take (k + 1)) = numv base (s.data.toList.take k) * base + hexv s[k].toNat := by
  rw [take_snoc s k hk, numv_snoc]
end Go.Proofs.Ytkdcgkdbieeijaa
