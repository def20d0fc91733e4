/- Plain: decoders that read a byte (or more) at a time. -/
import Derived.Test.YtkdcgkdbieeijaaPlain
namespace Go.Proofs.Ytkdcgkdbieeijaa
open Go.RowKit
set_option linter.unusedVariables false
set_option linter.unusedSimpArgs false

/-- f says of a text that is not empty: the byte that its front stands for, and how many bytes the front has -/
def decL (f : List UInt8 → UInt8 × Nat) : List UInt8 → List UInt8
  | [] => []
  | c :: r => (f (c :: r)).1 :: decL f (r.drop ((f (c :: r)).2 - 1))
termination_by l => l.length
decreasing_by simp; omega
theorem decL_nil (f : List UInt8 → UInt8 × Nat) : decL f [] = [] := by rw [decL]
theorem decL_cons (f : List UInt8 → UInt8 × Nat) (c : UInt8) (r : List UInt8) : decL f (c :: r) = (f (c :: r)).1 :: decL f (r.drop ((f (c :: r)).2 - 1)) := by rw [decL]
/-- one step of a decoder at place k -/
theorem decL_step {f : List UInt8 → UInt8 × Nat} {s : ByteArray} {k n : Nat} {b : UInt8} (hk : k < s.size) (hn : 1 ≤ n) (h : f (s.data.toList.drop k) = (b, n)) :
    decL f (s.data.toList.drop k) = b :: decL f (s.data.toList.drop (k + n)) := by
  rw [drop_cons s k hk] at h ⊢
  rw [decL_cons, h]
  simp only [List.drop_drop]
  rw [show k + 1 + (n - 1) = k + n from by omega]
theorem decL_le (f : List UInt8 → UInt8 × Nat) (n : Nat) : ∀ l : List UInt8, l.length ≤ n → (decL f l).length ≤ l.length := by
  induction n with
  | zero => intro l h; cases l with | nil => simp [decL_nil] | cons c r => simp at h
  | succ n ih =>
    intro l h
    cases l with
    | nil => simp [decL_nil]
    | cons c r =>
      rw [decL_cons]
      have := ih (r.drop ((f (c :: r)).2 - 1)) (by simp at h ⊢; omega)
      simp at this ⊢; omega

theorem dec_keep {A X Y T : List UInt8} {b : UInt8} (h : Hid (A ++ X = T)) (h2 : Hid (X = b :: Y)) : Hid ((A ++ [b]) ++ Y = T) := by
  show (A ++ [b]) ++ Y = T
  rw [List.append_assoc, ← h.out, h2.out]; rfl
theorem dec_end {A T : List UInt8} {f : List UInt8 → UInt8 × Nat} {s : ByteArray} {k : Nat} (h : Hid (A ++ decL f (s.data.toList.drop k) = T)) (hk : s.size ≤ k) : A = T := by
  have := h.out
  rw [drop_all s hk, decL_nil, List.append_nil] at this
  exact this
/-- two digits of base 16 at the front; -1: none -/
def pairL : List UInt8 → Int
  | a :: b :: _ => if 0 ≤ hexv a.toNat ∧ 0 ≤ hexv b.toNat then 16 * hexv a.toNat + hexv b.toNat else -1
  | _ => -1
theorem pairL_bd (l : List UInt8) : -1 ≤ pairL l ∧ pairL l ≤ 255 := by
  unfold pairL
  split
  · next a b _ => have := hexv_le a.toNat; have := hexv_le b.toNat; split <;> omega
  · omega
theorem pairL_at {s : ByteArray} {k : Nat} (h : k + 1 < s.size) : pairL (s.data.toList.drop k) = if 0 ≤ hexv s[k].toNat ∧ 0 ≤ hexv s[k+1].toNat then 16 * hexv s[k].toNat + hexv s[k+1].toNat else -1 := by
  rw [drop_cons s k (by omega), drop_cons s (k+1) h]; rfl
theorem pairL_short {s : ByteArray} {k : Nat} (h : s.size ≤ k + 1) : pairL (s.data.toList.drop k) = -1 := by
  have hl : (s.data.toList.drop k).length ≤ 1 := by rw [List.length_drop, lst_len]; omega
  match hd : s.data.toList.drop k with
  | [] => rfl
  | [a] => rfl
  | a :: b :: r => rw [hd] at hl; simp at hl

/-- the front of a text in UrlDecode -/
def urlF (l : List UInt8) : UInt8 × Nat :=
  match l with
  | [] => (0, 1)
  | c :: r => if c = 37 ∧ 0 ≤ pairL r then (UInt8.ofNat (pairL r).toNat, 3) else if c = 43 then (32, 1) else (c, 1)
theorem urlF_at {s : ByteArray} {k : Nat} (h : k < s.size) : urlF (s.data.toList.drop k) =
    if s[k] = 37 ∧ 0 ≤ pairL (s.data.toList.drop (k + 1)) then (UInt8.ofNat (pairL (s.data.toList.drop (k + 1))).toNat, 3) else if s[k] = 43 then (32, 1) else (s[k], 1) := by
  rw [drop_cons s k h]; rfl
theorem toNat_of (n : Nat) (h : n ≤ 255) : (UInt8.ofNat n).toNat = n := by simp [UInt8.toNat_ofNat']; omega
theorem byte_ne {b c : UInt8} (h : ¬ b = c) : ((b.toNat : Int) == (c.toNat : Int)) = false := by
  rw [beq_eq_false_iff_ne]; intro e; apply h; apply UInt8.toNat_inj.1; omega
theorem byte_eq {b c : UInt8} (h : b = c) : ((b.toNat : Int) == (c.toNat : Int)) = true := by rw [h]; exact beq_self_eq_true _
theorem byte_neq {b c : UInt8} (h : ¬ b = c) : ((b.toNat : Int) != (c.toNat : Int)) = true := by rw [bne_iff_ne]; intro e; apply h; apply UInt8.toNat_inj.1; omega
theorem byte_neqf {b c : UInt8} (h : b = c) : ((b.toNat : Int) != (c.toNat : Int)) = false := by rw [h]; simp
end Go.Proofs.Ytkdcgkdbieeijaa
