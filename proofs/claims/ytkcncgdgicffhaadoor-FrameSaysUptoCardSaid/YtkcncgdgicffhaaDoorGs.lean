/- Walk: wickref.Split. -/
import Derived.Test.YtkcncgdgicffhaaDoorGr
import Derived.Test.YtkcncgdgicffhaaDoorShelf
import Derived.Lib.SplitLaws
import Derived.Lib.Join
import Derived.Test.YtkcncgdgicffhaaDoorGp
import Derived.Test.YtkcncgdgicffhaaDoorGq
namespace Go.Proofs.YtkcncgdgicffhaaDoor
open Go.RowKit
set_option linter.unusedVariables false
set_option linter.unusedSimpArgs false

theorem fnd0 (l t : List UInt8) : fndL l t 0 = Lib.index l t := by
  have := Lib.index_ge l t
  unfold fndL
  rw [if_neg (by omega), List.drop_zero]
  split <;> omega
theorem split_miss (s t : ByteArray) (w : World) (hs : s.size ≤ 140737488355328) (ht : t.size ≤ 140737488355328) (h : Lib.indexB s t = -1) :
    Calls Tryd.prog 85 #[.string s, .string t] w fun e w' => e = .returned (.tuple #[.string s, .string ⟨#[]⟩, .bool false]) ∧ ∃ q, w' = w.drewN q := by
  have hi : fndL s.data.toList t.data.toList (0 : Int).toNat = -1 := (fnd0 _ _).trans h
  have HI := Lib.hid hi
  clear hi h
  go_enter Tryd.func85, Tryd.ntmps85
  go_wp2_with fail
  refine (Find_any s t 0 _ hs ht (by omega) (by omega)).mono ?_
  rintro e w1 ⟨rfl, rfl⟩
  rw [HI.out]
  go_wp2_with fail
  go_ret3
  exact ⟨rfl, 0, rfl⟩
theorem split_hit (s t : ByteArray) (w : World) (hs : s.size ≤ 140737488355328) (ht : t.size ≤ 140737488355328) (i : Nat) (h : Lib.indexB s t = i) (hr : i + t.size ≤ s.size) :
    Calls Tryd.prog 85 #[.string s, .string t] w fun e w' => e = .returned (.tuple #[.string (s.extract 0 i), .string (s.extract (i + t.size) s.size), .bool true]) ∧ ∃ q, w' = w.drewN q := by
  have hi : fndL s.data.toList t.data.toList (0 : Int).toNat = (i : Int) := (fnd0 _ _).trans h
  have HI := Lib.hid hi
  clear hi h
  have i0 : (0 : Int) ≤ (i : Int) := by omega
  have i1 : (i : Int) ≤ (s.size : Int) := by omega
  have i2 : (0 : Int) ≤ (i : Int) + (t.size : Int) := by omega
  have i3 : (i : Int) + (t.size : Int) ≤ (s.size : Int) := by omega
  have i4 : ((i : Int) + (t.size : Int)).toNat = i + t.size := by omega
  have j1 : IntKind.i64.wrap ((i : Int) + (t.size : Int)) = (i : Int) + (t.size : Int) := IntWalk.i64_in _ (by omega)
  go_enter Tryd.func85, Tryd.ntmps85
  go_wp2_with fail
  refine (Find_any s t 0 _ hs ht (by omega) (by omega)).mono ?_
  rintro e w1 ⟨rfl, rfl⟩
  rw [HI.out]
  go_wp2_with fail
  go_quiet (fail)
  go_wp2_with fail
  go_ret3
  exact ⟨rfl, nq, rfl⟩

end Go.Proofs.YtkcncgdgicffhaaDoor

/- How long a body is (P26), plainly; the result's cells. -/
namespace Go.Proofs.YtkcncgdgicffhaaDoor
open Go.RowKit
set_option linter.unusedVariables false
set_option linter.unusedSimpArgs false

def clB : ByteArray := ⟨#[99, 111, 110, 116, 101, 110, 116, 45, 108, 101, 110, 103, 116, 104]⟩
def teB : ByteArray := ⟨#[116, 114, 97, 110, 115, 102, 101, 114, 45, 101, 110, 99, 111, 100, 105, 110, 103]⟩
def chB : ByteArray := ⟨#[99, 104, 117, 110, 107, 101, 100]⟩
theorem cl_up (fs : List Fd) : getL fs ⟨#[67, 111, 110, 116, 101, 110, 116, 45, 76, 101, 110, 103, 116, 104]⟩ = getL fs clB := by
  unfold getL sameN
  rw [show (⟨#[67, 111, 110, 116, 101, 110, 116, 45, 76, 101, 110, 103, 116, 104]⟩ : ByteArray).data.toList.map lowB = clB.data.toList.map lowB by decide +kernel]
theorem te_up (fs : List Fd) : getL fs ⟨#[84, 114, 97, 110, 115, 102, 101, 114, 45, 69, 110, 99, 111, 100, 105, 110, 103]⟩ = getL fs teB := by
  unfold getL sameN
  rw [show (⟨#[84, 114, 97, 110, 115, 102, 101, 114, 45, 69, 110, 99, 111, 100, 105, 110, 103]⟩ : ByteArray).data.toList.map lowB = teB.data.toList.map lowB by decide +kernel]
def chunkB (x : ByteArray) : Bool := x.data.toList.map lowB == chB.data.toList
def allS (a : List ByteArray) (a0 : ByteArray) : Bool := a.all fun x => x.data.toList == a0.data.toList
/-- kind, size, error -/
def frR : List ByteArray → List ByteArray → Int × Int × Int
  | [], [] => (1, 0, 0)
  | [], [x] => if chunkB x = true then (3, 0, 0) else (0, 0, 4)
  | [], _ :: _ :: _ => (0, 0, 4)
  | _ :: _, _ :: _ => (0, 0, 4)
  | a0 :: a, [] => if numE 10 9 a0 = 0 ∧ allS (a0 :: a) a0 = true then (2, numN 10 9 a0, 0) else (0, 0, 4)
/-- the boxes: the head, the result -/
structure Fz (w : World) (m t : ByteArray) (A : Option Addr) (cap : Nat) (fs : List Fd) (wr : World) : Prop where
  hd : Blk wr w.heap.size 24 #[.string m, .string t, .slice A fs.length cap]
  res : Blk wr (w.heap.size + 1) 27 #[.int .i64 0, .int .i64 0]
  fds : FdR wr w.heap.size A cap fs
  be : Below w.heap.size w wr
section
variable {w wr wr' : World} {m t : ByteArray} {A : Option Addr} {cap : Nat} {fs : List Fd}
theorem Fz.start (h : FdR w w.heap.size A cap fs) : Fz w m t A cap fs ((w.alloc (.cells #[.string m, .string t, .slice A fs.length cap] 24)).alloc (.cells #[.int .i64 0, .int .i64 0] 27)) :=
  ⟨(Blk.new _ _ _).alloc _, by simpa using Blk.new (w.alloc (.cells #[.string m, .string t, .slice A fs.length cap] 24)) 27 #[.int .i64 0, .int .i64 0], (h.alloc (Nat.le_refl _) _).alloc (by simp) _, ((Below.refl _ _).alloc (Nat.le_refl _) _).alloc (by simp) _⟩
theorem Fz.lt (h : Fz w m t A cap fs wr) : w.heap.size + 1 < wr.heap.size := h.res.lt
theorem Fz.step (h : Fz w m t A cap fs wr) (hb : Below wr.heap.size wr wr') : Fz w m t A cap fs wr' := ⟨h.hd.below hb h.hd.lt, h.res.below hb h.res.lt, h.fds.below (hb.mono h.be.size), h.be.trans (hb.mono h.be.size)⟩
theorem Fz.drew (h : Fz w m t A cap fs wr) : Fz w m t A cap fs wr.drew := h.step (below_drewN (Below.refl _ _) 1)
theorem Fz.facts (h : Fz w m t A cap fs wr) : wr.cell? ⟨w.heap.size, 0, none⟩ = some (.string m) ∧ wr.cell? ⟨w.heap.size, 1, none⟩ = some (.string t) ∧ wr.cell? ⟨w.heap.size, 2, none⟩ = some (.slice A fs.length cap) :=
  ⟨h.hd.cell 0, h.hd.cell 1, h.hd.cell 2⟩
theorem Fz.rfacts (h : Fz w m t A cap fs wr) : wr.cell? ⟨w.heap.size + 1, 0, none⟩ = some (.int .i64 0) ∧ wr.cell? ⟨w.heap.size + 1, 1, none⟩ = some (.int .i64 0) ∧ wr.frozen? ⟨w.heap.size + 1, 0, none⟩ = false ∧ wr.frozen? ⟨w.heap.size + 1, 1, none⟩ = false :=
  ⟨h.res.cell 0, h.res.cell 1, h.res.frozen 0, h.res.frozen 1⟩
theorem Fz.put (h : Fz w m t A cap fs wr) (a b : Value) :
    ∃ wz, wz = (wr.setCell ⟨w.heap.size + 1, 0, none⟩ a).setCell ⟨w.heap.size + 1, 1, none⟩ b ∧ Below w.heap.size w wz ∧ wz.cell? ⟨w.heap.size + 1, 0, none⟩ = some a ∧ wz.cell? ⟨w.heap.size + 1, 1, none⟩ = some b := by
  have h1 := (h.res.set_ 0 a).set_ 1 b
  exact ⟨_, rfl, (h.be.setCell (p := ⟨w.heap.size + 1, 0, none⟩) (Nat.le_succ _) _).setCell (p := ⟨w.heap.size + 1, 1, none⟩) (Nat.le_succ _) _, h1.cell 0, h1.cell 1⟩
end
def FrRes (R : Int × Int × Int) (w : World) (e : Ending) (w' : World) : Prop := e = .returned (.tuple #[.agg #[.int .i64 R.1, .int .i64 R.2.1], .int .i64 R.2.2]) ∧ Below w.heap.size w w'
end Go.Proofs.YtkcncgdgicffhaaDoor
