/- Pairs of strings: slices of them that came in. -/
import Derived.Test.YthfolopnjmkllaaDoorMem
import Derived.Test.YthfolopnjmkllaaDoorStr
namespace Go.Proofs.YthfolopnjmkllaaDoor
open Go.RowKit
set_option linter.unusedVariables false
set_option linter.unusedSimpArgs false

/-! ### heads -/
structure Fd where
  (n v : ByteArray)
abbrev fdCs (f : Fd) : List Value := [.string f.n, .string f.v]
def fdFlat (fs : List Fd) : List Value := fs.flatMap fdCs
theorem fdFlat_len (l : List Fd) : (fdFlat l).length = l.length * 2 := by
  unfold fdFlat
  induction l with
  | nil => rfl
  | cons x l ih => rw [List.flatMap_cons, List.length_append, ih, List.length_cons]; simp only [fdCs, List.length_cons, List.length_nil]; omega
theorem fdFlat_get {l : List Fd} {k j : Nat} {f : Fd} (h : l[k]? = some f) (hj : j < 2) : (fdFlat l)[k * 2 + j]? = (fdCs f)[j]? := by
  obtain ⟨hk, rfl⟩ := List.getElem?_eq_some_iff.1 h
  have e : l = l.take k ++ l[k] :: l.drop (k + 1) := by rw [← List.drop_eq_getElem_cons hk, List.take_append_drop]
  have hc : fdFlat l = fdFlat (l.take k) ++ (fdCs l[k] ++ fdFlat (l.drop (k + 1))) := by
    conv => lhs; rw [e]
    simp only [fdFlat, List.flatMap_append, List.flatMap_cons]
  have hl : (fdFlat (l.take k)).length = k * 2 := by rw [fdFlat_len, List.length_take, Nat.min_eq_left (by omega)]
  rw [hc, List.getElem?_append_right (by omega), hl, Nat.add_sub_cancel_left, List.getElem?_append_left (by simp; omega)]
/-- fields that lie in memory below B -/
def FdR (w : World) (B : Nat) (A : Option Addr) (cap : Nat) (fs : List Fd) : Prop := Reads w B 2 A fs.length (fdFlat fs) ∧ fs.length ≤ cap ∧ cap ≤ 9223372036854775807 ∧ ∀ f ∈ fs, f.n.size ≤ 1048576 ∧ f.v.size ≤ 1048576
section
variable {w w' : World} {B : Nat} {A : Option Addr} {cap : Nat} {fs : List Fd}
theorem FdR.keep (h : FdR w B A cap fs) (hk : ∀ p : Addr, p.block < B → w'.cell? p = w.cell? p) : FdR w' B A cap fs := ⟨h.1.keep hk, h.2⟩
theorem FdR.below (h : FdR w B A cap fs) (hb : Below B w w') : FdR w' B A cap fs := h.keep fun _ hp => hb.cell hp
theorem FdR.alloc (h : FdR w B A cap fs) (hB : B ≤ w.heap.size) (o : Obj) : FdR (w.alloc o) B A cap fs := h.keep fun p hp => World.cell?_alloc_lt w o p (by omega)
/-- field k -/
theorem FdR.at_ (h : FdR w B A cap fs) {k : Nat} (hk : k < fs.length) : ∃ ad, A = some ad ∧ ad.block < B ∧ w.cell? (ad.add (k * 2)) = some (.string fs[k].n) ∧ w.cell? ((ad.add (k * 2)).add 1) = some (.string fs[k].v) ∧ fs[k].n.size ≤ 1048576 ∧ fs[k].v.size ≤ 1048576 := by
  obtain ⟨ad, e, hb, hc⟩ := h.1.2 (by omega)
  have h0 := fdFlat_get (List.getElem?_eq_getElem hk) (j := 0) (by omega)
  have h1 := fdFlat_get (List.getElem?_eq_getElem hk) (j := 1) (by omega)
  exact ⟨ad, e, hb, hc _ _ h0, by rw [add_of_add]; exact hc _ _ h1, h.2.2.2 _ (List.getElem_mem hk)⟩
end
end Go.Proofs.YthfolopnjmkllaaDoor
