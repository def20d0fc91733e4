/- Plain: decoders that may fail. -/
import Derived.Test.YtahcgajipnkojaaPlain
namespace Go.Proofs.Ytahcgajipnkojaa
open Go.RowKit
set_option linter.unusedVariables false
set_option linter.unusedSimpArgs false

def decO (f : List UInt8 → Option (UInt8 × Nat)) : List UInt8 → Option (List UInt8)
  | [] => some []
  | c :: r => match f (c :: r) with
    | none => none
    | some (b, n) => (decO f (r.drop (n - 1))).map (b :: ·)
termination_by l => l.length
decreasing_by simp; omega
theorem decO_nil (f : List UInt8 → Option (UInt8 × Nat)) : decO f [] = some [] := by rw [decO]
theorem decO_some {f : List UInt8 → Option (UInt8 × Nat)} {s : ByteArray} {k n : Nat} {b : UInt8} (hk : k < s.size) (hn : 1 ≤ n) (h : f (s.data.toList.drop k) = some (b, n)) :
    decO f (s.data.toList.drop k) = (decO f (s.data.toList.drop (k + n))).map (b :: ·) := by
  rw [drop_cons s k hk] at h ⊢
  rw [decO, h]
  simp only [List.drop_drop]
  rw [show k + 1 + (n - 1) = k + n from by omega]
theorem decO_none {f : List UInt8 → Option (UInt8 × Nat)} {s : ByteArray} {k : Nat} (hk : k < s.size) (h : f (s.data.toList.drop k) = none) : decO f (s.data.toList.drop k) = none := by
  rw [drop_cons s k hk] at h ⊢
  rw [decO, h]
theorem decO_keep {A : List UInt8} {X Y T : Option (List UInt8)} {b : UInt8} (h : Hid (T = X.map (A ++ ·))) (h2 : X = Y.map (b :: ·)) : Hid (T = Y.map ((A ++ [b]) ++ ·)) := by
  show T = _
  rw [h.out, h2]
  cases Y <;> simp
theorem decO_end {A : List UInt8} {T : Option (List UInt8)} {f : List UInt8 → Option (UInt8 × Nat)} {s : ByteArray} {k : Nat} (h : Hid (T = (decO f (s.data.toList.drop k)).map (A ++ ·))) (hk : s.size ≤ k) : T = some A := by
  rw [h.out, drop_all s hk, decO_nil]; simp
theorem decO_bad {A : List UInt8} {T X : Option (List UInt8)} (h : Hid (T = X.map (A ++ ·))) (h2 : X = none) : T = none := by rw [h.out, h2]; rfl
theorem decO_start (T : Option (List UInt8)) : Hid (T = T.map (([] : List UInt8) ++ ·)) := by show T = _; cases T <;> simp
end Go.Proofs.Ytahcgajipnkojaa
