/- The box of a request that came in. -/
import Derived.Test.YtkcncgdgicffhaaDoorGg
import Derived.Test.YtkcncgdgicffhaaDoorGaa
import Derived.Test.YtkcncgdgicffhaaDoorGac
import Derived.Test.YtkcncgdgicffhaaDoorGt
import Derived.Test.YtkcncgdgicffhaaDoorShelf
import Derived.Lib.ItoaLen
import Derived.Lib.AppendIntMem
import Derived.Shelf.Unicode.PredsPay
namespace Go.Proofs.YtkcncgdgicffhaaDoor
open Go.RowKit
set_option linter.unusedVariables false
set_option linter.unusedSimpArgs false

/-- the request's box -/
structure Rq (w : World) (m t : ByteArray) (A : Option Addr) (cap : Nat) (fs : List Fd) (body : ByteArray) (wr : World) : Prop where
  blk : Blk wr w.heap.size 36 #[.string m, .string t, .slice A fs.length cap, .string body]
  fds : FdR wr w.heap.size A cap fs
  be : Below w.heap.size w wr
section
variable {w wr wr' : World} {m t : ByteArray} {A : Option Addr} {cap : Nat} {fs : List Fd} {body : ByteArray}
theorem Rq.start (h : FdR w w.heap.size A cap fs) : Rq w m t A cap fs body (w.alloc (.cells #[.string m, .string t, .slice A fs.length cap, .string body] 36)) :=
  ⟨Blk.new _ _ _, h.alloc (Nat.le_refl _) _, (Below.refl _ _).alloc (Nat.le_refl _) _⟩
theorem Rq.step (h : Rq w m t A cap fs body wr) (hb : Below wr.heap.size wr wr') : Rq w m t A cap fs body wr' := ⟨h.blk.below hb h.blk.lt, h.fds.below (hb.mono h.be.size), h.be.trans (hb.mono h.be.size)⟩
theorem Rq.grow (h : Rq w m t A cap fs body wr) (hb : Below (w.heap.size + 1) wr wr') : Rq w m t A cap fs body wr' := ⟨h.blk.below hb (Nat.lt_succ_self _), h.fds.below (hb.mono (Nat.le_succ _)), h.be.trans (hb.mono (Nat.le_succ _))⟩
theorem Rq.facts (h : Rq w m t A cap fs body wr) : wr.cell? ⟨w.heap.size, 0, none⟩ = some (.string m) ∧ wr.cell? ⟨w.heap.size, 1, none⟩ = some (.string t) ∧ wr.cell? ⟨w.heap.size, 2, none⟩ = some (.slice A fs.length cap) ∧ wr.cell? ⟨w.heap.size, 3, none⟩ = some (.string body) :=
  ⟨h.blk.cell 0, h.blk.cell 1, h.blk.cell 2, h.blk.cell 3⟩
end
end Go.Proofs.YtkcncgdgicffhaaDoor

/- What is forwarded (P32), plainly; the out head's box; strconv.Itoa. -/
namespace Go.Proofs.YtkcncgdgicffhaaDoor
open Go.RowKit
set_option linter.unusedVariables false
set_option linter.unusedSimpArgs false

def clnB : ByteArray := ⟨#[67, 111, 110, 116, 101, 110, 116, 45, 76, 101, 110, 103, 116, 104]⟩
def itoS (body : ByteArray) : ByteArray := ⟨(Lib.itoa (body.size : Int)).toArray⟩
/-- the fields that are handed on -/
def fwdF (fs : List Fd) (kind : Int) (body : ByteArray) : List Fd := if kind = 1 then stripL fs else stripL fs ++ [⟨clnB, itoS body⟩]
/-- text and error -/
def fwdR (m t : ByteArray) (fs : List Fd) (body : ByteArray) : ByteArray × Int :=
  if hdE ⟨m, t, fs⟩ ≠ 0 then (ByteArray.empty, hdE ⟨m, t, fs⟩)
  else if (frR (getL fs clB) (getL fs teB)).2.2 ≠ 0 then (ByteArray.empty, (frR (getL fs clB) (getL fs teB)).2.2)
  else if (frR (getL fs clB) (getL fs teB)).1 = 1 ∧ body.size ≠ 0 then (ByteArray.empty, 4)
  else if 4096 < body.size then (ByteArray.empty, 6)
  else if hdE ⟨m, t, fwdF fs (frR (getL fs clB) (getL fs teB)).1 body⟩ ≠ 0 then (ByteArray.empty, hdE ⟨m, t, fwdF fs (frR (getL fs clB) (getL fs teB)).1 body⟩)
  else (str (hdText ⟨m, t, fwdF fs (frR (getL fs clB) (getL fs teB)).1 body⟩) ++ body, 0)
section
variable {m t : ByteArray} {fs : List Fd} {body : ByteArray} {k s e : Int}
theorem fwd_bad (h : hdE ⟨m, t, fs⟩ ≠ 0) : fwdR m t fs body = (ByteArray.empty, hdE ⟨m, t, fs⟩) := by unfold fwdR; rw [if_pos h]
theorem fwd_frame (h : ¬ hdE ⟨m, t, fs⟩ ≠ 0) (hk : frR (getL fs clB) (getL fs teB) = (k, s, e)) (h2 : e ≠ 0) : fwdR m t fs body = (ByteArray.empty, e) := by unfold fwdR; rw [if_neg h, hk, if_pos h2]
theorem fwd_form (h : ¬ hdE ⟨m, t, fs⟩ ≠ 0) (hk : frR (getL fs clB) (getL fs teB) = (k, s, e)) (h2 : ¬ e ≠ 0) (h3 : k = 1 ∧ body.size ≠ 0) : fwdR m t fs body = (ByteArray.empty, 4) := by unfold fwdR; rw [if_neg h, hk, if_neg h2, if_pos h3]
theorem fwd_long (h : ¬ hdE ⟨m, t, fs⟩ ≠ 0) (hk : frR (getL fs clB) (getL fs teB) = (k, s, e)) (h2 : ¬ e ≠ 0) (h3 : ¬ (k = 1 ∧ body.size ≠ 0)) (h4 : 4096 < body.size) : fwdR m t fs body = (ByteArray.empty, 6) := by unfold fwdR; rw [if_neg h, hk, if_neg h2, if_neg h3, if_pos h4]
theorem fwd_no (h : ¬ hdE ⟨m, t, fs⟩ ≠ 0) (hk : frR (getL fs clB) (getL fs teB) = (k, s, e)) (h2 : ¬ e ≠ 0) (h3 : ¬ (k = 1 ∧ body.size ≠ 0)) (h4 : ¬ 4096 < body.size) (h5 : hdE ⟨m, t, fwdF fs k body⟩ ≠ 0) : fwdR m t fs body = (ByteArray.empty, hdE ⟨m, t, fwdF fs k body⟩) := by unfold fwdR; rw [if_neg h, hk, if_neg h2, if_neg h3, if_neg h4, if_pos h5]
theorem fwd_yes (h : ¬ hdE ⟨m, t, fs⟩ ≠ 0) (hk : frR (getL fs clB) (getL fs teB) = (k, s, e)) (h2 : ¬ e ≠ 0) (h3 : ¬ (k = 1 ∧ body.size ≠ 0)) (h4 : ¬ 4096 < body.size) (h5 : ¬ hdE ⟨m, t, fwdF fs k body⟩ ≠ 0) : fwdR m t fs body = (str (hdText ⟨m, t, fwdF fs k body⟩) ++ body, 0) := by unfold fwdR; rw [if_neg h, hk, if_neg h2, if_neg h3, if_neg h4, if_neg h5]
end
theorem frR_kind (a b : List ByteArray) : (frR a b).1 = 0 ∨ (frR a b).1 = 1 ∨ (frR a b).1 = 2 ∨ (frR a b).1 = 3 := by
  unfold frR; split <;> (try split) <;> simp
theorem itoS_size (body : ByteArray) (h : body.size ≤ 1048576) : (itoS body).size ≤ 21 := by
  have := Lib.itoa_length_le (body.size : Int) (by omega) (by omega)
  show (Lib.itoa (body.size : Int)).toArray.size ≤ 21
  rw [List.size_toArray]; exact this
def ToW (w : World) : Prop := Lib.TabIs Tryd.prog w "internal/strconv.uint64pow10" .u64 Lib.pow10Tab
theorem ToW.below {w w' : World} (h : ToW w) (hb : Below w.heap.size w w') : ToW w' := TabIs_below (g := 0) (by kernel_rfl) h hb
theorem itoa_any (body : ByteArray) (w : World) (h : body.size ≤ 1048576) (hT : ToW w) :
    Calls Tryd.prog 58 #[.int .i64 body.size] w fun e w' => e = .returned (.string (itoS body)) ∧ Below w.heap.size w w' :=
  (Tryd.strconv_Itoa (body.size : Int) (by omega) (by omega) w hT).mono fun e w' ⟨h1, k, os, h2⟩ => ⟨h1, by rw [h2]; exact Lib.below_grow _ _ (Nat.le_refl _) k os⟩
/-- the state while the out head (block g) is made: u: the fields' cell, v: the fields -/
structure Fws (w : World) (m t : ByteArray) (A : Option Addr) (cap : Nat) (fs : List Fd) (body : ByteArray) (g : Nat) (u v : Value) (L : List Fd) (wr : World) : Prop where
  rq : Rq w m t A cap fs body wr
  hb : Blk wr g 24 #[.string m, .string t, u]
  ho : OP 108 wr (w.heap.size + 1) v L
  off : v.ownBlock ≠ some g
  lo : w.heap.size + 1 ≤ g
section
variable {w wr wr' : World} {m t : ByteArray} {A : Option Addr} {cap : Nat} {fs : List Fd} {body : ByteArray} {g : Nat} {u v : Value} {L : List Fd}
theorem Fws.kept (h : Fws w m t A cap fs body g u v L wr) (hb : Below wr.heap.size wr wr') : Fws w m t A cap fs body g u v L wr' := ⟨h.rq.step hb, h.hb.below hb h.hb.lt, h.ho.kept hb, h.off, h.lo⟩
theorem Fws.drew (h : Fws w m t A cap fs body g u v L wr) : Fws w m t A cap fs body g u v L wr.drew := h.kept (below_drewN (Below.refl _ _) 1)
theorem OP.storeOff {ty : TypeId} {w : World} {B : Nat} {v : Value} {l : List Fd} (h : OP ty w B v l) {p : Addr} (hp : v.ownBlock ≠ some p.block) (u : Value) : OP ty (w.setCell p u) B v l := by
  refine ⟨h.1, ?_⟩
  rcases h.2 with h2 | ⟨g, cap, cur, e1, e2, e3, e4⟩
  · exact .inl h2
  · refine .inr ⟨g, cap, cur, e1, e2, ?_, e4⟩
    have hg : g ≠ p.block := fun e => hp (by rw [e1, ← e]; rfl)
    rw [Below.heap_setCell w p u g hg]; exact e3
theorem Fws.set (h : Fws w m t A cap fs body g u v L wr) (x : Value) : Fws w m t A cap fs body g x v L (wr.setCell ⟨g, 2, none⟩ x) :=
  ⟨h.rq.grow ((Below.refl _ _).setCell (p := ⟨g, 2, none⟩) h.lo x), h.hb.set_ 2 x, h.ho.storeOff (p := ⟨g, 2, none⟩) h.off x, h.off, h.lo⟩
theorem Fws.facts (h : Fws w m t A cap fs body g u v L wr) : wr.cell? ⟨g, 0, none⟩ = some (.string m) ∧ wr.cell? ⟨g, 1, none⟩ = some (.string t) ∧ wr.cell? ⟨g, 2, none⟩ = some u ∧ wr.frozen? ⟨g, 2, none⟩ = false :=
  ⟨h.hb.cell 0, h.hb.cell 1, h.hb.cell 2, h.hb.frozen 2⟩
/-- append of a field in a drawn region -/
theorem step_fws {ops : Array Oper} {o : Oper} {a : Act} {K : Act → World → Prop} {Q : Exit → Act → World → Prop} {E : Prop} (hgd : o.guard = none) (p q : Operand)
    (hop : o.op = .call { callee := .builtin .append, args := #[p, q], argTypes := #[22, 22] })
    (hH : Fws w m t A cap fs body g u v L wr) (hs : a.eval p = v) (n x : ByteArray)
    (hx : a.eval q = .slice (some ⟨wr.heap.size, 0, none⟩) 1 1) (hlen : L.length ≤ 1000000000)
    (hK : ∀ A' c' w', Fws w m t A cap fs body g u (.slice A' (L.length + 1) c') (L ++ [⟨n, x⟩]) w' → K (a.put o.dst (.slice A' (L.length + 1) c')) w') :
    if Region.wanted o (yielded ops a.tmps) = true then Oper.wp Tryd.prog o a (wr.alloc (.cells #[.string n, .string x] 108)) K Q else E := by
  obtain ⟨i0, hi0, hz0, hz1, hz2⟩ := info_parts infoField
  have hB : w.heap.size + 1 ≤ wr.heap.size := hH.rq.blk.lt
  have hgl := hH.hb.lt
  refine step_appG (P := Tryd.prog) (Q := Q) (ops := ops) hgd p q hop Tryd.underlying22 hi0 hz0 hz1 hz2 rfl (by decide) hH.ho hs [.string n, .string x] 1 1 hx rfl (by
    intro u hu
    simp only [List.mem_cons, List.not_mem_nil, or_false] at hu
    rcases hu with rfl | rfl <;> rfl) (by unfold maxLen; omega) (by omega) hB fun v' w' h2 h3 => ?_
  have h4 : OP 108 w' (w.heap.size + 1) v' (L ++ [⟨n, x⟩]) := by
    unfold OP; rw [List.length_append, fdFlat_app, fdFlat_one]; exact h2
  have hbl : Below (w.heap.size + 1) wr w' := h3.below hB (own_from hH.ho)
  have hhb := h3.blk hH.hb hH.off
  have hoff := h3.off hgl hH.off
  obtain ⟨A', c', rfl⟩ := h4.form
  rw [List.length_append, List.length_singleton] at h4 hoff ⊢
  have h5 : OP 108 w' (w.heap.size + 1) (.slice A' (L.length + 1) c') (L ++ [⟨n, x⟩]) := h4
  exact hK A' c' w' ⟨hH.rq.grow hbl, hhb, h5, hoff, hH.lo⟩
end
def FwdRes (R : ByteArray × Int) (w : World) (e : Ending) (w' : World) : Prop := e = .returned (.tuple #[.string R.1, .int .i64 R.2]) ∧ Below w.heap.size w w'
end Go.Proofs.YtkcncgdgicffhaaDoor
