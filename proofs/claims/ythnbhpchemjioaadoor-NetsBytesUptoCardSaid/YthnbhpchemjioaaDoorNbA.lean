/- Ranges of bytes (P22), plainly. -/
import Derived.Test.YthnbhpchemjioaaDoorCut
import Derived.Test.YthnbhpchemjioaaDoorSml
import Derived.Test.YthnbhpchemjioaaDoorSbC
namespace Go.Proofs.YthnbhpchemjioaaDoor
open Go.RowKit
set_option linter.unusedVariables false
set_option linter.unusedSimpArgs false

def dashB : ByteArray := ⟨#[45]⟩
def commaB : ByteArray := ⟨#[44]⟩
def rgA (x : ByteArray) : ByteArray := (cutS x ⟨#[45]⟩).1
def rgB (x : ByteArray) : ByteArray := if (cutS x ⟨#[45]⟩).2.2 = true then (cutS x ⟨#[45]⟩).2.1 else (cutS x ⟨#[45]⟩).1
def rgLo (x : ByteArray) : Int := smN (rgA x) 255
def rgHi (x : ByteArray) : Int := smN (rgB x) 255
def rgOk (x : ByteArray) : Prop := 0 ≤ rgLo x ∧ rgLo x ≤ rgHi x
/-- the bytes of some ranges -/
def rgU (L : List ByteArray) (j : Nat) : Bool := L.any fun x => decide (rgLo x ≤ (j : Int) ∧ (j : Int) ≤ rgHi x)
theorem rgU_snoc (L : List ByteArray) (x : ByteArray) (j : Nat) : rgU (L ++ [x]) j = (rgU L j || decide (rgLo x ≤ (j : Int) ∧ (j : Int) ≤ rgHi x)) := by
  unfold rgU; rw [List.any_append]; simp
theorem rg_bd (x : ByteArray) : -1 ≤ rgLo x ∧ rgLo x ≤ 255 ∧ -1 ≤ rgHi x ∧ rgHi x ≤ 255 := by
  have h1 := smN_bd (rgA x) 255 (by omega)
  have h2 := smN_bd (rgB x) 255 (by omega)
  exact ⟨h1.1, h1.2, h2.1, h2.2⟩
/-- what both answer -/
def RgRes (s : ByteArray) (w : World) (e : Ending) (w' : World) : Prop :=
  (((∀ x ∈ pcs s ⟨#[44]⟩, rgOk x) ∧ ∃ q, e = .returned (.tuple #[setV q, .int .i64 0]) ∧ SetOf q (rgU (pcs s ⟨#[44]⟩))) ∨ ((∃ x ∈ pcs s ⟨#[44]⟩, ¬ rgOk x) ∧ e = .returned (.tuple #[setV ⟨0, 0, 0, 0⟩, .int .i64 3]))) ∧ Below w.heap.size w w'
theorem take_snocB {L : List ByteArray} {k : Nat} (h : k < L.length) : L.take (k + 1) = L.take k ++ [L[k]] := List.take_succ_eq_append_getElem h
/-- the first k words of t joined to q -/
def orK (q t : Q4) (k : Nat) : Q4 := ⟨if 0 < k then q.a ||| t.a else q.a, if 1 < k then q.b ||| t.b else q.b, if 2 < k then q.c ||| t.c else q.c, if 3 < k then q.d ||| t.d else q.d⟩
theorem orK_0 (q t : Q4) : orK q t 0 = q := rfl
theorem orK_4 (q t : Q4) : orK q t 4 = q.or t := rfl
theorem SetOf.or {q t : Q4} {f g h : Nat → Bool} (hq : SetOf q f) (ht : SetOf t g) (e : ∀ b, b < 256 → h b = (f b || g b)) : SetOf (q.or t) h :=
  ⟨Q4.or_ok hq.1 ht.1, fun b hb => by rw [setB_or, hq.2 b hb, ht.2 b hb, e b hb]⟩
end Go.Proofs.YthnbhpchemjioaaDoor
