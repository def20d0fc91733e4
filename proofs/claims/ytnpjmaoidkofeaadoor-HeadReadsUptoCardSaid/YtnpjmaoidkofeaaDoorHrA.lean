/- A head read out of a text, plainly. -/
import Derived.Test.YtnpjmaoidkofeaaDoorHedC
import Derived.Test.YtnpjmaoidkofeaaDoorHedP
import Derived.Test.YtnpjmaoidkofeaaDoorCut
import Derived.Test.YtnpjmaoidkofeaaDoorIdx
import Derived.Test.YtnpjmaoidkofeaaDoorPrF
import Derived.Test.YtnpjmaoidkofeaaDoorSuf
import Derived.Lib.IndexBytes
namespace Go.Proofs.YtnpjmaoidkofeaaDoor
open Go.RowKit
set_option linter.unusedVariables false
set_option linter.unusedSimpArgs false

/-- a line of a head -/
def LnOk (x : ByteArray) : Prop := x.size ≠ 0 ∧ ixb x.data.toList 13 < 0 ∧ ixb x.data.toList 10 < 0
def crlf : ByteArray := ⟨#[13, 10]⟩
def hls (s : ByteArray) : List ByteArray := pcs (s.extract 0 (s.size - 4)) crlf
def crlf2 : ByteArray := ⟨#[13, 10, 13, 10]⟩
def endOk (s : ByteArray) : Bool := sufB s crlf2
def LinesOk (s : ByteArray) : Prop := endOk s = true ∧ ∀ x ∈ hls s, LnOk x
def fls (s : ByteArray) : List ByteArray := pcs ((hls s).headD ⟨#[]⟩) ⟨#[32]⟩
def http11 : ByteArray := ⟨#[72, 84, 84, 80, 47, 49, 46, 49]⟩
def fdOf (x : ByteArray) : Fd := ⟨(cutS x ⟨#[58]⟩).1, str (trimL (cutS x ⟨#[58]⟩).2.1.data.toList)⟩
def hasColon (x : ByteArray) : Bool := (cutS x ⟨#[58]⟩).2.2
def Fst3 (s : ByteArray) : Prop := ∃ m t, fls s = [m, t, http11]
def RhForm (s : ByteArray) : Prop := LinesOk s ∧ Fst3 s ∧ ∀ x ∈ (hls s).tail, hasColon x = true
def rhHd (s : ByteArray) : Hd := ⟨(fls s).getD 0 ⟨#[]⟩, (fls s).getD 1 ⟨#[]⟩, (hls s).tail.map fdOf⟩
def zHd : Hd := ⟨⟨#[]⟩, ⟨#[]⟩, []⟩
open Classical in
noncomputable def rhE (s : ByteArray) : Int := if 4096 < s.size then 5 else if RhForm s then hdE (rhHd s) else 4
open Classical in
noncomputable def rhR (s : ByteArray) : Hd := if rhE s = 0 then rhHd s else zHd
/-- the value of a head -/
def HdV (w : World) (B : Nat) (v : Value) (h : Hd) : Prop := ∃ A c, v = .agg #[.string h.m, .string h.t, .slice A h.fs.length c] ∧ OP 55 w B (.slice A h.fs.length c) h.fs
def RhRes (s : ByteArray) (w : World) (e : Ending) (w' : World) : Prop := ∃ v, e = .returned (.tuple #[v, .int .i64 (rhE s)]) ∧ HdV w' w.heap.size v (rhR s) ∧ Below w.heap.size w w'
theorem rh_large {s : ByteArray} (h : 4096 < s.size) : rhE s = 5 ∧ rhR s = zHd := by
  have e : rhE s = 5 := by unfold rhE; rw [if_pos h]
  exact ⟨e, by unfold rhR; rw [e, if_neg (by decide)]⟩
theorem rh_form {s : ByteArray} (h0 : ¬ 4096 < s.size) (h : ¬ RhForm s) : rhE s = 4 ∧ rhR s = zHd := by
  have e : rhE s = 4 := by unfold rhE; rw [if_neg h0, if_neg h]
  exact ⟨e, by unfold rhR; rw [e, if_neg (by decide)]⟩
theorem rh_bad {s : ByteArray} (h0 : ¬ 4096 < s.size) (h : RhForm s) (h2 : ¬ hdE (rhHd s) = 0) : rhE s = hdE (rhHd s) ∧ rhR s = zHd := by
  have e : rhE s = hdE (rhHd s) := by unfold rhE; rw [if_neg h0, if_pos h]
  exact ⟨e, by unfold rhR; rw [e, if_neg h2]⟩
theorem rh_ok {s : ByteArray} (h0 : ¬ 4096 < s.size) (h : RhForm s) (h2 : hdE (rhHd s) = 0) : rhE s = 0 ∧ rhR s = rhHd s := by
  have e : rhE s = hdE (rhHd s) := by unfold rhE; rw [if_neg h0, if_pos h]
  rw [h2] at e
  exact ⟨e, by unfold rhR; rw [e, if_pos rfl]⟩
theorem HdV.zero (w : World) (B : Nat) : HdV w B (.agg #[.string ByteArray.empty, .string ByteArray.empty, .slice none 0 0]) zHd := ⟨none, 0, rfl, OP.nil _ _ _⟩
theorem HdV.kept {w w' : World} {B : Nat} {v : Value} {h : Hd} (k : HdV w B v h) (hb : Below w.heap.size w w') : HdV w' B v h := by
  obtain ⟨A, c, e, o⟩ := k
  exact ⟨A, c, e, o.kept hb⟩
theorem HdV.mono {w : World} {B B' : Nat} {v : Value} {h : Hd} (k : HdV w B v h) (hB : B' ≤ B) : HdV w B' v h := by
  obtain ⟨A, c, e, o⟩ := k
  exact ⟨A, c, e, o.mono hB⟩
/-- the spelling of a byte's absence in the reference: as a text of one byte -/
theorem fnd_one (l : List UInt8) (b : UInt8) : fndL l [b] 0 = ixb l (b.toNat : Int) := by
  rw [fnd0, Lib.index_one]
  unfold ixb
  congr 1
  simp
theorem fls_3 {s m t : ByteArray} (h : fls s = [m, t, http11]) : rhHd s = ⟨m, t, (hls s).tail.map fdOf⟩ := by unfold rhHd; rw [h]; rfl
theorem hls_mem {s x : ByteArray} (h : x ∈ hls s) : x.size ≤ s.size := by
  have := pcs_mem crlf (by decide) (s.extract 0 (s.size - 4)).size _ (Nat.le_refl _) x h
  rw [ByteArray.size_extract] at this; omega
theorem fdOf_size (x : ByteArray) : (fdOf x).n.size ≤ x.size ∧ (fdOf x).v.size ≤ x.size := by
  have h := cutS_size x ⟨#[58]⟩
  refine ⟨h.1, ?_⟩
  unfold fdOf
  dsimp only
  rw [size_str]
  have h2 : ∀ l : List UInt8, (trimL l).length ≤ l.length := fun l => by
    unfold trimL rtrimL ltrimL
    have a1 := (List.dropWhile_sublist wsB (l := l)).length_le
    have a2 := (List.dropWhile_sublist wsB (l := (l.dropWhile wsB).reverse)).length_le
    rw [List.length_reverse] at a2 ⊢
    omega
  have := h2 (cutS x ⟨#[58]⟩).2.1.data.toList
  rw [lst_len] at this
  omega
end Go.Proofs.YtnpjmaoidkofeaaDoor
