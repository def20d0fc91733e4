/- What is handed on of a head (P31), plainly; strings out of a literal. -/
import Derived.Test.YtkcncgdgicffhaaDoorGs
import Derived.Test.YtkcncgdgicffhaaDoorGr
import Derived.Test.YtkcncgdgicffhaaDoorGe
import Derived.Test.YtkcncgdgicffhaaDoorGp
import Derived.Test.YtkcncgdgicffhaaDoorShelf
namespace Go.Proofs.YtkcncgdgicffhaaDoor
open Go.RowKit
set_option linter.unusedVariables false
set_option linter.unusedSimpArgs false

def lowT (p : ByteArray) : ByteArray := str ((str (trimL p.data.toList)).data.toList.map lowB)
def cnB : ByteArray := ⟨#[99, 111, 110, 110, 101, 99, 116, 105, 111, 110]⟩
def dropC : List ByteArray := [⟨#[99, 111, 110, 110, 101, 99, 116, 105, 111, 110]⟩, ⟨#[107, 101, 101, 112, 45, 97, 108, 105, 118, 101]⟩, ⟨#[112, 114, 111, 120, 121, 45, 99, 111, 110, 110, 101, 99, 116, 105, 111, 110]⟩, ⟨#[116, 101]⟩, ⟨#[116, 114, 97, 105, 108, 101, 114]⟩, ⟨#[116, 114, 97, 110, 115, 102, 101, 114, 45, 101, 110, 99, 111, 100, 105, 110, 103]⟩, ⟨#[117, 112, 103, 114, 97, 100, 101]⟩, ⟨#[99, 111, 110, 116, 101, 110, 116, 45, 108, 101, 110, 103, 116, 104]⟩]
theorem cn_up (fs : List Fd) : getL fs ⟨#[67, 111, 110, 110, 101, 99, 116, 105, 111, 110]⟩ = getL fs cnB := by
  unfold getL sameN
  rw [show (⟨#[67, 111, 110, 110, 101, 99, 116, 105, 111, 110]⟩ : ByteArray).data.toList.map lowB = cnB.data.toList.map lowB by decide +kernel]
def cmB : ByteArray := ⟨#[44]⟩
def cnV (v : ByteArray) : List ByteArray := (pcs v cmB).map lowT
def dropL (fs : List Fd) : List ByteArray := dropC ++ (getL fs cnB).flatMap cnV
def keepD (D : List ByteArray) (f : Fd) : Bool := !(Lib.containsS D (str (f.n.data.toList.map lowB)))
def stripL (fs : List Fd) : List Fd := fs.filter (keepD (dropL fs))
def bulkF (fs : List Fd) : Nat := (fs.map fun f => f.n.size + f.v.size + 3).sum
theorem cnV_le (v : ByteArray) : (cnV v).length ≤ v.size + 1 := by unfold cnV; rw [List.length_map]; exact pcs_le (by decide)
theorem cn_le (name : ByteArray) : ∀ fs : List Fd, ((getL fs name).flatMap cnV).length ≤ bulkF fs
  | [] => Nat.le_refl _
  | f :: fs => by
    have h1 := cn_le name fs
    have h2 := cnV_le f.v
    unfold bulkF at h1 ⊢
    rw [List.map_cons, List.sum_cons]
    by_cases h : sameN name f = true
    · have e : getL (f :: fs) name = f.v :: getL fs name := by unfold getL; rw [List.filter_cons_of_pos h]; rfl
      rw [e, List.flatMap_cons, List.length_append]; omega
    · have e : getL (f :: fs) name = getL fs name := by unfold getL; rw [List.filter_cons_of_neg h]
      rw [e]; omega
section
variable {f : ByteArray → List ByteArray} {X : List ByteArray} {k : Nat}
theorem sm_snoc (h : k < X.length) : (X.take (k + 1)).flatMap f = (X.take k).flatMap f ++ f X[k] := by
  rw [List.take_succ_eq_append_getElem h, List.flatMap_append]; simp
theorem sm_le (h : k < X.length) : ((X.take k).flatMap f).length + (f X[k]).length ≤ (X.flatMap f).length := by
  have e : X = X.take (k + 1) ++ X.drop (k + 1) := (List.take_append_drop _ _).symm
  have : X.flatMap f = (X.take (k + 1)).flatMap f ++ (X.drop (k + 1)).flatMap f := by conv => lhs; rw [e]
                                                                                      rw [List.flatMap_append]
  rw [this, sm_snoc h, List.length_append, List.length_append]; omega
end
theorem lowT_size (p : ByteArray) : (str (trimL p.data.toList)).size ≤ p.size := by
  have hd : ∀ m : List UInt8, (m.dropWhile wsB).length ≤ m.length := fun m => (List.dropWhile_sublist wsB).length_le
  rw [size_str]
  unfold trimL rtrimL ltrimL
  have h1 := hd p.data.toList
  have h2 := hd (p.data.toList.dropWhile wsB).reverse
  rw [List.length_reverse] at h2
  rw [lst_len] at h1
  simp only [List.length_reverse]
  omega
/-- what is kept of the first k -/
theorem strip_yes {D : List ByteArray} {fs : List Fd} {k : Nat} (h : k < fs.length) (h2 : keepD D fs[k] = true) : (fs.take (k + 1)).filter (keepD D) = (fs.take k).filter (keepD D) ++ [fs[k]] := by
  rw [List.take_succ_eq_append_getElem h, List.filter_append]; simp [h2]
theorem strip_no {D : List ByteArray} {fs : List Fd} {k : Nat} (h : k < fs.length) (h2 : keepD D fs[k] = false) : (fs.take (k + 1)).filter (keepD D) = (fs.take k).filter (keepD D) := by
  rw [List.take_succ_eq_append_getElem h, List.filter_append]; simp [h2]
theorem strip_take (D : List ByteArray) (fs : List Fd) (k : Nat) : ((fs.take k).filter (keepD D)).length ≤ fs.length := by
  have h1 := List.length_filter_le (keepD D) (fs.take k)
  rw [List.length_take] at h1; omega
theorem strip_mem {fs : List Fd} {f : Fd} (h : f ∈ stripL fs) : f ∈ fs := (List.mem_filter.1 h).1
theorem strip_len (fs : List Fd) : (stripL fs).length ≤ fs.length := List.length_filter_le _ _
theorem drop_len (fs : List Fd) : (dropL fs).length ≤ 8 + bulkF fs := by
  have := cn_le cnB fs
  unfold dropL
  rw [List.length_append]
  show 8 + _ ≤ _
  omega
/-- the eight strings of a literal -/
theorem OS.lit8 (w : World) : OS (w.alloc (.cells (dropC.map Value.string).toArray 9)) w.heap.size (.slice (some ⟨w.heap.size, 0, none⟩) 8 8) dropC :=
  World.ownsRow_lit (base := w.heap.size) (e := 9) (size := 1) w (dropC.map Value.string).toArray 8 (Nat.le_refl _) (by decide) (by decide)
theorem os_lt {w : World} {B : Nat} {v : Value} {l : List ByteArray} (h : OS w B v l) : ∀ g, v.ownBlock = some g → B ≤ g ∧ g < w.heap.size := fun g hg => World.ownsRow.lt h g hg
/-- strings in block g beside a slice v that grows -/
structure SX (X : List ByteArray) (g : Nat) (v : Value) (w : World) : Prop where
  lt : g < w.heap.size
  cell : ∀ k (hk : k < X.length), w.cell? ⟨g, k, none⟩ = some (.string X[k])
  off : v.ownBlock ≠ some g
theorem SX.below {X : List ByteArray} {g : Nat} {v : Value} {w w' : World} (h : SX X g v w) (hb : Below w.heap.size w w') : SX X g v w' :=
  ⟨Nat.lt_of_lt_of_le h.lt hb.size, fun k hk => (hb.cell (p := ⟨g, k, none⟩) h.lt).trans (h.cell k hk), h.off⟩
theorem SX.grew {X : List ByteArray} {g : Nat} {v v' : Value} {w w' : World} (h : SX X g v w) (hG : Grew w w' v v') : SX X g v' w' :=
  ⟨Nat.lt_of_lt_of_le h.lt hG.grown.size, fun k hk => (World.cell?_of_block (hG.grown.block g h.lt fun e => h.off e.symm)).trans (h.cell k hk), hG.off h.lt h.off⟩
theorem contains_any {D : List ByteArray} {g : Nat} {v : Value} (c : Nat) (x : ByteArray) (w : World) (h : SX D g v w) (hl : D.length ≤ 9000000) :
    Calls Tryd.prog 65 #[.slice (some ⟨g, 0, none⟩) D.length c, .string x] w fun e w' => e = .returned (.bool (Lib.containsS D x)) ∧ w = w' :=
  (Tryd.slices_Contains_string g 0 D.length c D x w (Nat.le_refl _) (by omega) fun j hj => by
    rw [Nat.zero_add, h.cell j hj, List.getD_eq_getElem?_getD, List.getElem?_eq_getElem hj]; rfl).mono fun e w' ⟨h1, h2⟩ => ⟨by rw [h1, List.take_length], h2.symm⟩
/-- the same where the list may be empty -/
def SXO (X : List ByteArray) (A : Option Addr) (v : Value) (w : World) : Prop := 0 < X.length → ∃ g, A = some ⟨g, 0, none⟩ ∧ SX X g v w
theorem SXO.below {X : List ByteArray} {A : Option Addr} {v : Value} {w w' : World} (h : SXO X A v w) (hb : Below w.heap.size w w') : SXO X A v w' := fun h0 => by
  obtain ⟨g, e, h1⟩ := h h0
  exact ⟨g, e, h1.below hb⟩
theorem SXO.grew {X : List ByteArray} {A : Option Addr} {v v' : Value} {w w' : World} (h : SXO X A v w) (hG : Grew w w' v v') : SXO X A v' w' := fun h0 => by
  obtain ⟨g, e, h1⟩ := h h0
  exact ⟨g, e, h1.grew hG⟩
/-- the boxes: the head, the result -/
structure Sz (w : World) (m t : ByteArray) (A : Option Addr) (cap : Nat) (fs : List Fd) (wr : World) : Prop where
  hd : Blk wr w.heap.size 24 #[.string m, .string t, .slice A fs.length cap]
  res : Blk wr (w.heap.size + 1) 24 #[.string ⟨#[]⟩, .string ⟨#[]⟩, .slice none 0 0]
  fds : FdR wr w.heap.size A cap fs
  be : Below w.heap.size w wr
section
variable {w wr wr' : World} {m t : ByteArray} {A : Option Addr} {cap : Nat} {fs : List Fd}
theorem Sz.start (h : FdR w w.heap.size A cap fs) : Sz w m t A cap fs ((w.alloc (.cells #[.string m, .string t, .slice A fs.length cap] 24)).alloc (.cells #[.string ⟨#[]⟩, .string ⟨#[]⟩, .slice none 0 0] 24)) :=
  ⟨(Blk.new _ _ _).alloc _, by simpa using Blk.new (w.alloc (.cells #[.string m, .string t, .slice A fs.length cap] 24)) 24 #[.string ⟨#[]⟩, .string ⟨#[]⟩, .slice none 0 0], (h.alloc (Nat.le_refl _) _).alloc (by simp) _, ((Below.refl _ _).alloc (Nat.le_refl _) _).alloc (by simp) _⟩
theorem Sz.lt (h : Sz w m t A cap fs wr) : w.heap.size + 1 < wr.heap.size := h.res.lt
theorem Sz.grow (h : Sz w m t A cap fs wr) (hb : Below (w.heap.size + 2) wr wr') : Sz w m t A cap fs wr' := ⟨h.hd.below hb (by omega), h.res.below hb (by omega), h.fds.below (hb.mono (by omega)), h.be.trans (hb.mono (by omega))⟩
theorem Sz.step (h : Sz w m t A cap fs wr) (hb : Below wr.heap.size wr wr') : Sz w m t A cap fs wr' := h.grow (hb.mono (by have := h.lt; omega))
theorem Sz.facts (h : Sz w m t A cap fs wr) : wr.cell? ⟨w.heap.size, 0, none⟩ = some (.string m) ∧ wr.cell? ⟨w.heap.size, 1, none⟩ = some (.string t) ∧ wr.cell? ⟨w.heap.size, 2, none⟩ = some (.slice A fs.length cap) :=
  ⟨h.hd.cell 0, h.hd.cell 1, h.hd.cell 2⟩
theorem Sz.rfacts (h : Sz w m t A cap fs wr) : (wr.cell? ⟨w.heap.size + 1, 0, none⟩ = some (.string ⟨#[]⟩) ∧ wr.cell? ⟨w.heap.size + 1, 1, none⟩ = some (.string ⟨#[]⟩) ∧ wr.cell? ⟨w.heap.size + 1, 2, none⟩ = some (.slice none 0 0)) ∧ wr.frozen? ⟨w.heap.size + 1, 0, none⟩ = false ∧ wr.frozen? ⟨w.heap.size + 1, 1, none⟩ = false ∧ wr.frozen? ⟨w.heap.size + 1, 2, none⟩ = false :=
  ⟨⟨h.res.cell 0, h.res.cell 1, h.res.cell 2⟩, h.res.frozen 0, h.res.frozen 1, h.res.frozen 2⟩
theorem Sz.put (h : Sz w m t A cap fs wr) (a b c : Value) :
    ∃ wz, wz = ((wr.setCell ⟨w.heap.size + 1, 0, none⟩ a).setCell ⟨w.heap.size + 1, 1, none⟩ b).setCell ⟨w.heap.size + 1, 2, none⟩ c ∧ Below w.heap.size w wz ∧ (wz.cell? ⟨w.heap.size + 1, 0, none⟩ = some a ∧ wz.cell? ⟨w.heap.size + 1, 1, none⟩ = some b ∧ wz.cell? ⟨w.heap.size + 1, 2, none⟩ = some c) ∧ ∀ {B : Nat} {v : Value} {l : List Fd}, w.heap.size + 1 < B → OP 108 wr B v l → OP 108 wz B v l := by
  have h1 := ((h.res.set_ 0 a).set_ 1 b).set_ 2 c
  exact ⟨_, rfl, ((h.be.setCell (p := ⟨w.heap.size + 1, 0, none⟩) (Nat.le_succ _) _).setCell (p := ⟨w.heap.size + 1, 1, none⟩) (Nat.le_succ _) _).setCell (p := ⟨w.heap.size + 1, 2, none⟩) (Nat.le_succ _) _, ⟨h1.cell 0, h1.cell 1, h1.cell 2⟩, fun hB ho => ((ho.store (p := ⟨w.heap.size + 1, 0, none⟩) hB _).store (p := ⟨w.heap.size + 1, 1, none⟩) hB _).store (p := ⟨w.heap.size + 1, 2, none⟩) hB _⟩
end
theorem SX.store {X : List ByteArray} {g : Nat} {v : Value} {w : World} (h : SX X g v w) {p : Addr} (hp : p.block ≠ g) (u : Value) : SX X g v (w.setCell p u) :=
  ⟨by rw [show (w.setCell p u).heap.size = w.heap.size by simp]; exact h.lt, fun k hk => (World.cell?_setCell_other w p ⟨g, k, none⟩ u (fun e => hp (by rw [e]))).trans (h.cell k hk), h.off⟩
end Go.Proofs.YtkcncgdgicffhaaDoor

/- strings.Split in the words of wickref.Pieces. -/
namespace Go.Proofs.YtkcncgdgicffhaaDoor
open Go.RowKit
set_option linter.unusedVariables false
set_option linter.unusedSimpArgs false

theorem sp_any (s t : ByteArray) (m : Int) (w : World) (hs : s.size ≤ 1048576) (hm : w.cell? ⟨1, 0, none⟩ = some (.int .i64 m)) (h1 : 1 ≤ t.size) :
    Calls Tryd.prog 63 #[.string s, .string t] w fun e w' => e = .returned (.slice (some ⟨w.heap.size, 0, none⟩) (pcs s t).length (pcs s t).length) ∧ OS w' w.heap.size (.slice (some ⟨w.heap.size, 0, none⟩) (pcs s t).length (pcs s t).length) (pcs s t) ∧ Below w.heap.size w w' := by
  have hl := pcs_len (s := s) h1
  have hle := pcs_le (s := s) h1
  refine (Tryd.strings_Split s t m w (by omega) hm h1).mono fun e w' ⟨h2, h3⟩ => ?_
  refine ⟨by rw [h2, hl], ?_, by rw [h3]; exact (Below.refl _ _).alloc (Nat.le_refl _) _⟩
  rw [h3]
  have := World.ownsRow_lit (base := w.heap.size) (e := 9) (size := 1) w ((pcs s t).map Value.string).toArray (pcs s t).length (Nat.le_refl _) (by unfold maxLen; omega) (by simp)
  exact this
end Go.Proofs.YtkcncgdgicffhaaDoor
