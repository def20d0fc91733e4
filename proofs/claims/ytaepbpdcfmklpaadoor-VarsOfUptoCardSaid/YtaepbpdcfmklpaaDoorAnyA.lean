/- Runes of a text that are no ASCII: what stands under them (plain). -/
import Derived.Test.YtaepbpdcfmklpaaDoorStr
import Derived.Laws.RangeAny
import Derived.Lib.IndexAny
import Derived.Lib.OthersKept
import Derived.Lib.Small
namespace Go.Proofs.YtaepbpdcfmklpaaDoor
open Go.RowKit
set_option linter.unusedVariables false
set_option linter.unusedSimpArgs false

/-- a quote, a line's end -/
abbrev qcr : List UInt8 := [34, 13, 10]
theorem qcr_no : ∀ x : UInt8, 128 ≤ x.toNat → qcr.contains x = false := all_bytes (by decide +kernel)
theorem get_in (s : ByteArray) (k : Nat) (h : k < s.size) : s.get! k = s[k]'h := get_at s k h
/-- all bytes under a rune that is none of ASCII are none of ASCII -/
theorem dec_high (s : ByteArray) (pos : Nat) (h : pos < s.size) (ha : 128 ≤ (s[pos]'h).toNat) (j : Nat) (hj : j < (Utf8.decode s pos).2) : pos + j < s.size ∧ 128 ≤ (s.get! (pos + j)).toNat := by
  have h0 : 128 ≤ (s.get! (pos + 0)).toNat := by rw [get_at s pos h]; exact ha
  have hn : ¬ (s.get! (pos + 0)).toNat < 128 := by omega
  have hone : j = 0 → pos + j < s.size ∧ 128 ≤ (s.get! (pos + j)).toNat := fun e => by subst e; exact ⟨h, h0⟩
  unfold Utf8.decode at hj
  simp only [hn, if_false] at hj
  split at hj
  · rename_i h1
    simp only [Bool.and_eq_true, decide_eq_true_eq, beq_iff_eq] at h1
    split at hj
    · have h2 : j = 0 ∨ j = 1 := by simp only at hj; omega
      rcases h2 with h2 | rfl
      · exact hone h2
      · exact ⟨h1.2.1, by omega⟩
    · exact hone (by simp only at hj; omega)
  · split at hj
    · rename_i h1
      simp only [Bool.and_eq_true, decide_eq_true_eq, beq_iff_eq] at h1
      split at hj
      · have h2 : j = 0 ∨ j = 1 ∨ j = 2 := by simp only at hj; omega
        rcases h2 with h2 | rfl | rfl
        · exact hone h2
        · exact ⟨h1.1.2.1, by omega⟩
        · exact ⟨h1.2.1, by omega⟩
      · exact hone (by simp only at hj; omega)
    · split at hj
      · rename_i h1
        simp only [Bool.and_eq_true, decide_eq_true_eq, beq_iff_eq] at h1
        split at hj
        · have h2 : j = 0 ∨ j = 1 ∨ j = 2 ∨ j = 3 := by simp only at hj; omega
          rcases h2 with h2 | rfl | rfl | rfl
          · exact hone h2
          · exact ⟨h1.1.1.2.1, by omega⟩
          · exact ⟨h1.1.2.1, by omega⟩
          · exact ⟨h1.2.1, by omega⟩
        · exact hone (by simp only at hj; omega)
      · exact hone (by simp only at hj; omega)
theorem dec_no {s : ByteArray} {pos : Nat} (h : pos < s.size) (ha : 128 ≤ (s[pos]'h).toNat) (hno : Lib.NoAny s.data.toList qcr pos) : pos + (Utf8.decode s pos).2 ≤ s.size ∧ Lib.NoAny s.data.toList qcr (pos + (Utf8.decode s pos).2) := by
  have hw := decode_high s pos h ha
  refine ⟨?_, fun j b hj hb => ?_⟩
  · have := (dec_high s pos h ha ((Utf8.decode s pos).2 - 1) (by omega)).1; omega
  · by_cases hlt : j < pos
    · exact hno j b hlt hb
    · obtain ⟨h1, h2⟩ := dec_high s pos h ha (j - pos) (by omega)
      rw [show pos + (j - pos) = j by omega] at h1 h2
      rw [get_in s j h1] at h2
      have h3 := Lib.data_getElem? s j h1
      rw [hb] at h3
      injection h3 with h3
      rw [h3]; exact qcr_no _ h2
/-- the text of a rune that is none of ASCII ends with a byte that is none -/
theorem enc_high (r : Int) (h : 128 ≤ r) : 2 ≤ (Utf8.encode r).size ∧ (Utf8.encode r).size ≤ 4 ∧ ∀ (k : Nat) (hk : k < (Utf8.encode r).size), 128 ≤ ((Utf8.encode r)[k]'hk).toNat := by
  have hc : 128 ≤ (if Utf8.valid r = true then r.toNat else Utf8.runeError) ∧ (if Utf8.valid r = true then r.toNat else Utf8.runeError) ≤ 1114111 := by
    split
    · rename_i hv
      unfold Utf8.valid at hv
      simp only [Bool.or_eq_true, Bool.and_eq_true, decide_eq_true_eq] at hv
      omega
    · decide
  unfold Utf8.encode
  obtain ⟨c, hcc⟩ : ∃ c, c = (if Utf8.valid r = true then r.toNat else Utf8.runeError) := ⟨_, rfl⟩
  rw [← hcc] at hc ⊢
  simp only [show ¬ c < 128 by omega, if_false]
  have hb : ∀ n : Nat, 128 ≤ n → n ≤ 255 → 128 ≤ (UInt8.ofNat n).toNat := fun n h1 h2 => by rw [UInt8.toNat_ofNat_of_lt' (by show n < 256; omega)]; exact h1
  split
  · refine ⟨by show 2 ≤ 2; omega, by show 2 ≤ 4; omega, fun k hk => ?_⟩
    have : k = 0 ∨ k = 1 := by have : k < 2 := hk; omega
    rcases this with rfl | rfl
    · exact hb _ (by omega) (by omega)
    · exact hb _ (by omega) (by omega)
  · split
    · refine ⟨by show 2 ≤ 3; omega, by show 3 ≤ 4; omega, fun k hk => ?_⟩
      have : k = 0 ∨ k = 1 ∨ k = 2 := by have : k < 3 := hk; omega
      rcases this with rfl | rfl | rfl
      · exact hb _ (by omega) (by omega)
      · exact hb _ (by omega) (by omega)
      · exact hb _ (by omega) (by omega)
    · refine ⟨by show 2 ≤ 4; omega, by show 4 ≤ 4; omega, fun k hk => ?_⟩
      have : k = 0 ∨ k = 1 ∨ k = 2 ∨ k = 3 := by have : k < 4 := hk; omega
      rcases this with rfl | rfl | rfl | rfl
      · exact hb _ (by omega) (by omega)
      · exact hb _ (by omega) (by omega)
      · exact hb _ (by omega) (by omega)
      · exact hb _ (by omega) (by omega)
theorem ix_qcr : ∀ x : UInt8, 128 ≤ x.toNat → Lib.indexByte qcr x = -1 := all_bytes (by decide +kernel)
theorem ix_cr : ∀ x : UInt8, 128 ≤ x.toNat → Lib.indexByte [(13 : UInt8), 10] x = -1 := all_bytes (by decide +kernel)
theorem ix_r : ∀ x : UInt8, 128 ≤ x.toNat → Lib.indexByte [(10 : UInt8)] x = -1 := all_bytes (by decide +kernel)
theorem ix_ : ∀ x : UInt8, 128 ≤ x.toNat → Lib.indexByte [] x = -1 := fun _ _ => rfl
end Go.Proofs.YtaepbpdcfmklpaaDoor
