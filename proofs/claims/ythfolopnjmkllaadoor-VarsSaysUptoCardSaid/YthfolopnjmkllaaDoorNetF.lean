/- A net as text (P21), plainly; walk: nets.Print. -/
import Derived.Test.YthfolopnjmkllaaDoorNetP
import Derived.Test.YthfolopnjmkllaaDoorOS
import Derived.Test.YthfolopnjmkllaaDoorShelf
import Derived.Lib.ItoaLen
import Derived.Lib.AppendIntMem
import Derived.Shelf.Unicode.PredsPay
namespace Go.Proofs.YthfolopnjmkllaaDoor
open Go.RowKit
set_option linter.unusedVariables false
set_option linter.unusedSimpArgs false

/-- the decimal digits of a number below 1000 -/
def dd (n : Nat) : List UInt8 := if n < 10 then [UInt8.ofNat (48 + n)] else if n < 100 then [UInt8.ofNat (48 + n / 10), UInt8.ofNat (48 + n % 10)] else [UInt8.ofNat (48 + n / 100), UInt8.ofNat (48 + n / 10 % 10), UInt8.ofNat (48 + n % 10)]
theorem dec_dd (n : Nat) (h : n < 1000) : Lib.decDigits n = dd n := by
  unfold dd
  by_cases h1 : n < 10
  · rw [if_pos h1, Lib.decDigits, dif_pos h1]
  · rw [if_neg h1, Lib.decDigits, dif_neg h1]
    by_cases h2 : n < 100
    · rw [if_pos h2, Lib.decDigits, dif_pos (by omega)]; rfl
    · rw [if_neg h2, Lib.decDigits, dif_neg (by omega), Lib.decDigits, dif_pos (by omega), Nat.div_div_eq_div_mul]; rfl
def dcS (n : Nat) : ByteArray := str (dd n)
theorem jnN_any (A : Option Addr) (c : Nat) (xs : List ByteArray) (t : ByteArray) (w : World) (B : Nat) (ho : OS w B (.slice A xs.length c) xs) (hN : xs.length ≤ 140737488355320) (hj : (Lib.join (dl xs) t.data.toList).length ≤ 140737488355320) :
    Calls Tryd.prog 43 #[.slice A xs.length c, .string t] w fun e w' => e = .returned (.string (str (Lib.join (dl xs) t.data.toList))) ∧ Below w.heap.size w w' := by
  by_cases h0 : xs.length = 0
  · have : xs = [] := List.eq_nil_of_length_eq_zero h0
    subst this
    exact (Tryd.strings_Join_none A c t w).mono fun e w' ⟨h1, h2⟩ => ⟨h1, by rw [h2]; exact Below.refl _ _⟩
  · obtain ⟨g, rfl, _, hg, hc, hcell⟩ := ho.at_ (by omega)
    exact Tryd.strings_Join g 0 c xs t w (fun j x hx => by
      rw [Nat.zero_add]
      obtain ⟨hj, rfl⟩ := List.getElem?_eq_some_iff.1 hx
      exact hcell j hj) hg (by omega) hc (Nat.le_trans hj (by decide))
def TwN (w : World) : Prop := Lib.TabIs Tryd.prog w "internal/strconv.uint64pow10" .u64 Lib.pow10Tab
theorem TwN.below {w w' : World} (h : TwN w) (hb : Below w.heap.size w w') : TwN w' := TabIs_below (g := 1) (by kernel_rfl) h hb
theorem itoaN_any (n : Nat) (w : World) (hn : n < 1000) (hT : TwN w) :
    Calls Tryd.prog 21 #[.int .i64 n] w fun e w' => e = .returned (.string (dcS n)) ∧ Below w.heap.size w w' :=
  (Tryd.strconv_Itoa (n : Int) (by omega) (by omega) w hT).mono fun e w' ⟨h1, k, os, h2⟩ => ⟨by
    rw [h1, show Lib.itoa (n : Int) = dd n by unfold Lib.itoa; rw [if_neg (by omega), Int.toNat_natCast]; exact dec_dd n hn]; rfl, by rw [h2]; exact Lib.below_grow _ _ (Nat.le_refl _) k os⟩
def prL (a : Nat) : List ByteArray := [dcS (a / 16777216 % 256), dcS (a / 65536 % 256), dcS (a / 256 % 256), dcS (a % 256)]
def prA (a : Nat) : ByteArray := str (Lib.join (dl (prL a)) [46])
/-- the text and the error -/
def prR (a : Nat) (b : Int) : ByteArray × Int :=
  if b < 0 ∨ 32 < b then (ByteArray.empty, 1)
  else if a % 2 ^ (32 - mskB b) ≠ 0 then (ByteArray.empty, 1)
  else if b < 32 then (prA a ++ (⟨#[47]⟩ ++ dcS b.toNat), 0) else (prA a, 0)
theorem pr_out {a : Nat} {b : Int} (h : b < 0 ∨ 32 < b) : prR a b = (ByteArray.empty, 1) := by unfold prR; rw [if_pos h]
theorem pr_bad {a : Nat} {b : Int} (h : ¬ a % 2 ^ (32 - mskB b) = 0) : prR a b = (ByteArray.empty, 1) := by
  unfold prR
  by_cases h1 : b < 0 ∨ 32 < b
  · rw [if_pos h1]
  · rw [if_neg h1, if_pos h]
theorem pr_lt {a : Nat} {b : Int} (h0 : 0 ≤ b) (h1 : b < 32) (h : a % 2 ^ (32 - mskB b) = 0) : prR a b = (prA a ++ (⟨#[47]⟩ ++ dcS b.toNat), 0) := by
  unfold prR; rw [if_neg (by omega), if_neg (by simp [h]), if_pos h1]
theorem pr_full {a : Nat} {b : Int} (h1 : b = 32) (h : a % 2 ^ (32 - mskB b) = 0) : prR a b = (prA a, 0) := by
  unfold prR; rw [if_neg (by omega), if_neg (by simp [h]), if_neg (by omega)]
theorem and255 (a : Nat) (ha : a < 4294967296) : Go.bits .and .u32 (a : Int) 255 = ((a % 256 : Nat) : Int) := by
  show IntKind.u32.wrap ((BitVec.ofInt 32 (a : Int) &&& BitVec.ofInt 32 255).toNat : Int) = _
  have h : (BitVec.ofInt 32 (a : Int) &&& BitVec.ofInt 32 255).toNat = a % 256 := by
    rw [show (255 : Int) = ((255 : Nat) : Int) from rfl, BitVec.toNat_and, BitVec.ofInt_natCast, BitVec.ofInt_natCast, BitVec.toNat_ofNat, BitVec.toNat_ofNat, Nat.mod_eq_of_lt (by omega), Nat.mod_eq_of_lt (a := 255) (by decide), show 255 = 2 ^ 8 - 1 from rfl, Nat.and_two_pow_sub_one_eq_mod]
  rw [h]
  exact IntWalk.u32_in _ ⟨by omega, by omega⟩
theorem join4 (a b c d : List UInt8) : (Lib.join [a, b, c, d] [46]).length = a.length + b.length + c.length + d.length + 3 := by
  unfold Lib.join; simp [List.intercalate, List.intersperse]; omega
theorem dd_len (n : Nat) : (dd n).length ≤ 3 := by
  unfold dd
  split
  · simp
  · split <;> simp
theorem dl_prL (a : Nat) : dl (prL a) = [dd (a / 16777216 % 256), dd (a / 65536 % 256), dd (a / 256 % 256), dd (a % 256)] := rfl
theorem prJ_len (a : Nat) : (Lib.join (dl (prL a)) (⟨#[46]⟩ : ByteArray).data.toList).length ≤ 15 := by
  rw [dl_prL, show (⟨#[46]⟩ : ByteArray).data.toList = [46] from rfl, join4]
  have h1 := dd_len (a / 16777216 % 256); have h2 := dd_len (a / 65536 % 256); have h3 := dd_len (a / 256 % 256); have h4 := dd_len (a % 256)
  omega
theorem prA_size (a : Nat) : (prA a).size ≤ 15 := by
  have := prJ_len a
  show (Lib.join (dl (prL a)) [46]).toArray.size ≤ 15
  rw [List.size_toArray]; exact this
theorem dcS_size (n : Nat) : (dcS n).size ≤ 3 := by
  show (dd n).toArray.size ≤ 3
  rw [List.size_toArray]; exact dd_len n
end Go.Proofs.YthfolopnjmkllaaDoor
