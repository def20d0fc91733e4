/- How an expression is read (P17), plainly. -/
import Derived.Test.YtkdcgkdbieeijaaRexA
import Derived.Test.YtkdcgkdbieeijaaSbA
import Derived.Test.YtkdcgkdbieeijaaSbC
import Derived.Test.YtkdcgkdbieeijaaStr
namespace Go.Proofs.Ytkdcgkdbieeijaa
open Go.RowKit
set_option linter.unusedVariables false
set_option linter.unusedSimpArgs false

/-- where the reading stands and what went wrong -/
structure Sx where
  (p : Nat) (e : Int)
/-- the byte at hand; -1: none, or something went wrong -/
def nx (s : ByteArray) (x : Sx) : Int := if h : x.e = 0 ∧ x.p < s.size then (s[x.p].toNat : Int) else -1
def Sx.fl (x : Sx) (c : Int) : Sx := if x.e = 0 then ⟨x.p, c⟩ else x
def Sx.up (x : Sx) : Sx := ⟨x.p + 1, x.e⟩
theorem nx_lo (s : ByteArray) (x : Sx) : -1 ≤ nx s x ∧ nx s x ≤ 255 := by
  unfold nx
  split
  · have := s[x.p].toNat_lt; omega
  · omega
theorem nx_some {s : ByteArray} {x : Sx} (h : 0 ≤ nx s x) : x.e = 0 ∧ x.p < s.size := by
  unfold nx at h
  split at h
  · assumption
  · omega
theorem nx_at {s : ByteArray} {x : Sx} (h0 : x.e = 0) (h : x.p < s.size) : nx s x = (s[x.p].toNat : Int) := by unfold nx; rw [dif_pos ⟨h0, h⟩]
theorem nx_end {s : ByteArray} {x : Sx} (h : ¬ (x.e = 0 ∧ x.p < s.size)) : nx s x = -1 := by unfold nx; rw [dif_neg h]
theorem nx_err {s : ByteArray} {x : Sx} (h : ¬ x.e = 0) : nx s x = -1 := nx_end fun k => h k.1
/-- signs that want a backslash -/
def sgL : List UInt8 := [40, 41, 91, 93, 124, 42, 43, 63, 46, 94, 36, 45, 92]
def hxL : List UInt8 := [48, 49, 50, 51, 52, 53, 54, 55, 56, 57, 97, 98, 99, 100, 101, 102]
def sgB (b : Int) : Bool := decide (0 ≤ Lib.indexByte sgL b.toNat.toUInt8)
def hxI (b : Int) : Int := Lib.indexByte hxL b.toNat.toUInt8
/-- a digit -/
def dg (s : ByteArray) (x : Sx) : Int × Sx :=
  if nx s x < 0 then (0, x.fl 3) else if hxI (nx s x) < 0 then (0, x.fl 3) else (hxI (nx s x), x.up)
/-- a byte -/
def ch (s : ByteArray) (x : Sx) : Int × Sx :=
  if nx s x = 92 then
    if nx s x.up = 110 then (10, x.up.up)
    else if nx s x.up = 116 then (9, x.up.up)
    else if nx s x.up = 114 then (13, x.up.up)
    else if nx s x.up = 120 then ((dg s x.up.up).1 * 16 + (dg s (dg s x.up.up).2).1, (dg s (dg s x.up.up).2).2)
    else if 0 ≤ nx s x.up ∧ sgB (nx s x.up) = true then (nx s x.up, x.up.up) else (0, x.up.fl 3)
  else if nx s x < 33 ∨ 126 < nx s x ∨ sgB (nx s x) = true then (0, x.fl 3) else (nx s x, x.up)
/-- sets by letters -/
def gD (b : Nat) : Bool := rngF 48 57 b
def gW (b : Nat) : Bool := rngF 97 122 b || rngF 65 90 b || (rngF 48 57 b || rngF 95 95 b)
def gS (b : Nat) : Bool := rngF 9 13 b || rngF 32 32 b
def gr (s : ByteArray) (x : Sx) : Option (Nat → Bool) :=
  if nx s x = 92 then
    if nx s x.up = 100 then some gD else if nx s x.up = 119 then some gW else if nx s x.up = 115 then some gS else none
  else none
/-- the set of the bytes of which something holds -/
theorem mkQ_ex (f : Nat → Bool) : ∃ q, SetOf q f := by
  have key : ∀ k, k ≤ 256 → ∃ q, SetOf q (upTo f k) := by
    intro k
    induction k with
    | zero => intro _; exact ⟨_, upTo_start f⟩
    | succ k ih =>
      intro hk
      obtain ⟨q, hq⟩ := ih (by omega)
      cases hf : f k with
      | false => exact ⟨q, upTo_no hq hf⟩
      | true => exact ⟨_, upTo_yes hq hf (by omega)⟩
  obtain ⟨q, hq⟩ := key 256 (Nat.le_refl _)
  exact ⟨q, hq.1, fun b hb => by rw [hq.2 b hb]; unfold upTo; rw [decide_eq_true hb, Bool.true_and]⟩
noncomputable def mkQ (f : Nat → Bool) : Q4 := Classical.choose (mkQ_ex f)
theorem mkQ_is (f : Nat → Bool) : SetOf (mkQ f) f := Classical.choose_spec (mkQ_ex f)
theorem mkQ_eq {q : Q4} {f g : Nat → Bool} (h : SetOf q g) (e : ∀ b, b < 256 → f b = g b) : q = mkQ f := h.same (mkQ_is f) fun b hb => (e b hb).symm
/-- the items of a class -/
def clL (s : ByteArray) : Nat → Bool → (Nat → Bool) → Sx → (Nat → Bool) × Sx
  | 0, _, f, x => (f, x)
  | m + 1, one, f, x =>
    if x.e = 0 ∧ (one = true ∨ ¬ nx s x = 93) then
      match gr s x with
      | some g => clL s m false (fun b => f b || g b) x.up.up
      | none =>
        if nx s (ch s x).2 = 45 then
          clL s m false (fun b => f b || rngF (ch s x).1 (ch s (ch s x).2.up).1 b) (if (ch s (ch s x).2.up).1 < (ch s x).1 ∧ (ch s (ch s x).2.up).2.e = 0 then ⟨(ch s x).2.p + 1, 3⟩ else (ch s (ch s x).2.up).2)
        else clL s m false (fun b => f b || rngF (ch s x).1 (ch s x).1 b) (ch s x).2
    else (f, x)
/-- a class behind its bracket -/
noncomputable def cls (s : ByteArray) (x : Sx) : Q4 × Sx :=
  let r := clL s (s.size + 1) true (fun _ => false) (if nx s x = 94 then x.up else x)
  let q := mkQ (if nx s x = 94 then fun b => !r.1 b else r.1)
  let y := if q.zero = true then r.2.fl 3 else r.2
  (q, if nx s y = 93 then y.up else y)
/-! trees -/
def zq : Q4 := ⟨0, 0, 0, 0⟩
def tOne (k : Int) : Rx := .mk k zq []
def tTwo (k : Int) (a b : Rx) : Rx := .mk k zq [a, b]
def tStar (a : Rx) : Rx := .mk 6 zq [a]
def tByte (q : Q4) : Rx := .mk 3 q []
mutual
def szR : Rx → Nat
  | .mk _ _ ks => 1 + szL ks
def szL : List Rx → Nat
  | [] => 0
  | k :: ks => szR k + szL ks
end
def tAgain (t : Rx) : Rx := if szR t ≤ 80 then t else tOne 2
def lpP (s : ByteArray) : Nat → Rx → Sx → Rx × Sx
  | 0, t, x => (t, x)
  | m + 1, t, x =>
    if nx s x = 42 then lpP s m (tStar t) x.up
    else if nx s x = 63 then lpP s m (tTwo 5 t (tOne 2)) x.up
    else if nx s x = 43 then lpP s m (tTwo 4 t (tStar (tAgain t))) x.up
    else (t, x)
def enB (s : ByteArray) (x : Sx) : Bool := decide (nx s x < 0 ∨ nx s x = 124 ∨ nx s x = 41)
section
variable (s : ByteArray) (A : Sx → Rx × Sx)
def lpR : Nat → Rx → Sx → Rx × Sx
  | 0, t, x => (t, x)
  | m + 1, t, x => if enB s x = true then (t, x) else lpR m (tTwo 4 t (A x).1) (A x).2
def lpA : Nat → Rx → Sx → Rx × Sx
  | 0, t, x => (t, x)
  | m + 1, t, x => if nx s x = 124 then lpA m (tTwo 5 t (A x.up).1) (A x.up).2 else (t, x)
def pcF (x : Sx) : Rx × Sx := lpP s (s.size + 1) (A x).1 (A x).2
def rwF (x : Sx) : Rx × Sx := if enB s x = true then (tOne 2, x) else lpR s A (s.size + 1) (A x).1 (A x).2
def atF (x : Sx) : Rx × Sx := lpA s A (s.size + 1) (A x).1 (A x).2
end
/-- an alternative, by what reads an atom -/
def alF (s : ByteArray) (A : Sx → Rx × Sx) : Sx → Rx × Sx := atF s (rwF s (pcF s A))
/-- an atom, n brackets more may open -/
noncomputable def amF (s : ByteArray) : Nat → Sx → Rx × Sx
  | n, x =>
    if nx s x = 40 then
      match n with
      | 0 => (tOne 0, x.fl 11)
      | n + 1 =>
        ((alF s (amF s n) x.up).1, if nx s (alF s (amF s n) x.up).2 = 41 then (alF s (amF s n) x.up).2.up else (alF s (amF s n) x.up).2.fl 3)
    else if nx s x = 46 then (tByte (mkQ fun b => decide (¬ b = 10)), x.up)
    else if nx s x = 94 then (tOne 7, x.up)
    else if nx s x = 36 then (tOne 8, x.up)
    else if nx s x = 91 then (tByte (cls s x.up).1, (cls s x.up).2)
    else match gr s x with
      | some g => (tByte (mkQ g), x.up.up)
      | none => (tByte (mkQ (rngF (ch s x).1 (ch s x).1)), (ch s x).2)
/-! how far a reading goes -/
/-- a step that goes on within the text, and by one at the least if nothing goes wrong -/
structure Go1 (s : ByteArray) (x y : Sx) : Prop where
  hi : y.p ≤ s.size
  lo : x.p ≤ y.p
  ok : y.e = 0 → x.p < y.p
theorem fl_p (x : Sx) (c : Int) : (x.fl c).p = x.p := by unfold Sx.fl; split <;> rfl
theorem fl_e {x : Sx} {c : Int} (hc : ¬ c = 0) : ¬ (x.fl c).e = 0 := by
  unfold Sx.fl
  split
  · exact hc
  · assumption
theorem fl_go {s : ByteArray} {x : Sx} {c : Int} (hc : ¬ c = 0) (h : x.p ≤ s.size) : Go1 s x (x.fl c) := ⟨by rw [fl_p]; exact h, by rw [fl_p]; exact Nat.le_refl _, fun k => absurd k (fl_e hc)⟩
theorem up_go {s : ByteArray} {x : Sx} (h : 0 ≤ nx s x) : Go1 s x x.up := ⟨by have := (nx_some h).2; show x.p + 1 ≤ _; omega, by show x.p ≤ x.p + 1; omega, fun _ => by show x.p < x.p + 1; omega⟩
theorem Go1.tr {s : ByteArray} {x y z : Sx} (h : Go1 s x y) (k : Go1 s y z) : Go1 s x z := ⟨k.hi, Nat.le_trans h.lo k.lo, fun e => Nat.lt_of_le_of_lt h.lo (k.ok e)⟩
theorem dg_go (s : ByteArray) (x : Sx) (h : x.p ≤ s.size) : Go1 s x (dg s x).2 := by
  unfold dg
  split
  · exact fl_go (by decide) h
  · split
    · exact fl_go (by decide) h
    · exact up_go (by omega)
theorem ch_go (s : ByteArray) (x : Sx) (h : x.p ≤ s.size) : Go1 s x (ch s x).2 := by
  unfold ch
  split
  · rename_i h92
    have g1 := up_go (s := s) (x := x) (by omega)
    split
    · exact g1.tr (up_go (by omega))
    · split
      · exact g1.tr (up_go (by omega))
      · split
        · exact g1.tr (up_go (by omega))
        · split
          · have g2 := g1.tr (up_go (by omega))
            have g3 := dg_go s x.up.up g2.hi
            exact (g2.tr g3).tr (dg_go s _ g3.hi)
          · split
            · rename_i hh; exact g1.tr (up_go hh.1)
            · exact g1.tr (fl_go (by decide) g1.hi)
  · split
    · exact fl_go (by decide) h
    · rename_i hh
      exact up_go (by omega)
theorem gr_go {s : ByteArray} {x : Sx} {g : Nat → Bool} (h : gr s x = some g) : Go1 s x x.up.up := by
  unfold gr at h
  split at h
  · have g1 := up_go (s := s) (x := x) (by omega)
    split at h
    · exact g1.tr (up_go (by omega))
    · split at h
      · exact g1.tr (up_go (by omega))
      · split at h
        · exact g1.tr (up_go (by omega))
        · cases h
  · cases h
end Go.Proofs.Ytkdcgkdbieeijaa
