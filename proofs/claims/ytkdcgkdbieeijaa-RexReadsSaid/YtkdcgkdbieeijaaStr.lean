/- Walk of wickref.in; small words on strings. -/
import Derived.Test.YtkdcgkdbieeijaaPlain
import Derived.Test.YtkdcgkdbieeijaaMem
import Derived.Test.YtkdcgkdbieeijaaRows
import Derived.WalkKit
import Derived.WalkSpells
import Derived.WalkLawsBesides
import Derived.Lib.Hide
import Derived.Deep.QuietTactic
import Derived.BigQuiet
namespace Go.Proofs.Ytkdcgkdbieeijaa
open Go.RowKit
set_option linter.unusedVariables false
set_option linter.unusedSimpArgs false

/-- does a byte stand in a text? -/
def hasb (n : Int) (l : List UInt8) : Bool := l.any fun b => decide (n = b.toNat)
theorem hasb_step {n : Int} {s : ByteArray} {k : Nat} (hk : k < s.size) (h : hasb n (s.data.toList.take k) = false) (h2 : ¬ n = s[k].toNat) : hasb n (s.data.toList.take (k + 1)) = false := by
  rw [take_snoc s k hk]; unfold hasb at *; simp_all
theorem hasb_hit {n : Int} {s : ByteArray} {k : Nat} (hk : k < s.size) (h2 : n = s[k].toNat) : hasb n s.data.toList = true := by
  unfold hasb; rw [List.any_eq_true]
  exact ⟨s[k], by rw [← lst_get s k hk]; exact List.getElem_mem _, by simpa using h2⟩

set_option maxHeartbeats 400000 in
theorem in_any (n : Int) (s : ByteArray) (w : World) (hs : s.size ≤ maxLen) (h0 : 0 ≤ n) (h1 : n ≤ 255) :
    Calls Try.prog 102 #[.int .u8 n, .string s] w fun e w' => e = .returned (.bool (hasb n s.data.toList)) ∧ w = w' := by
  unfold maxLen at hs
  go_enter Try.func102, Try.ntmps102
  go_wp2
  go_loop [5] (fun i => ∃ k : Nat, k ≤ s.size ∧ i = .int .i64 k ∧ hasb n (s.data.toList.take k) = false) (fun i => s.size - (intOf i).toNat)
  case atStart => exact ⟨0, by omega, rfl, rfl⟩
  case round =>
    obtain ⟨k, hk, rfl, hd⟩ := hrel
    have HD := Lib.hid hd; clear hd
    by_cases hlt : k < s.size
    · by_cases he : n = s[k].toNat
      · have HE := Lib.hid (hasb_hit hlt he)
        have he' := beq_iff_eq.2 he
        clear he
        go_wp2
        go_ret
        rw [HE.out]; exact ⟨rfl, rfl⟩
      · have he' := beq_eq_false_iff_ne.2 he
        go_wp2
        go_round
        case rel => exact ⟨k + 1, by omega, by go_num, hasb_step hlt HD.out he⟩
        case measure => simp [intOf]; omega
    · have h := HD.out
      rw [take_all s (by omega)] at h
      have HE := Lib.hid h
      clear h
      go_wp2
      go_ret
      rw [HE.out]; exact ⟨rfl, rfl⟩

theorem cat_str (L M : List UInt8) : str L ++ str M = str (L ++ M) := ByteArray.mk_append_mk L M
theorem cat_ext1 (L : List UInt8) (s : ByteArray) (k : Nat) (h : k < s.size) : str L ++ s.extract k (k + 1) = str (L ++ [s[k]]) := by
  apply lst_inj; rw [lst_app, ext_one s k h, lst_mk, lst_mk]
theorem ret_s {a b : ByteArray} (h : a = b) : Value.string a = .string b := by rw [h]
theorem in_res (n : Int) (s : ByteArray) (b : Bool) (hb : hasb n s.data.toList = b) (w : World) (hs : s.size ≤ maxLen) (h0 : 0 ≤ n) (h1 : n ≤ 255) :
    Calls Try.prog 102 #[.int .u8 n, .string s] w fun e w' => e = .returned (.bool b) ∧ w = w' := by
  subst hb; exact in_any n s w hs h0 h1

end Go.Proofs.Ytkdcgkdbieeijaa
