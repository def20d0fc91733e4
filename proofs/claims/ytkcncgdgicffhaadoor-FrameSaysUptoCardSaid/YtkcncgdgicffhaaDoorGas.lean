/- The box of a request that came in. -/
import Derived.Test.YtkcncgdgicffhaaDoorGi
namespace Go.Proofs.YtkcncgdgicffhaaDoor
open Go.RowKit
set_option linter.unusedVariables false
set_option linter.unusedSimpArgs false

/-- the request's box -/
structure Rq (w : World) (m t : ByteArray) (A : Option Addr) (cap : Nat) (fs : List Fd) (body : ByteArray) (wr : World) : Prop where
  blk : Blk wr w.heap.size 36 #[.string m, .string t, .slice A fs.length cap, .string body]
  fds : FdR wr w.heap.size A cap fs
  be : Below w.heap.size w wr
section
variable {w wr wr' : World} {m t : ByteArray} {A : Option Addr} {cap : Nat} {fs : List Fd} {body : ByteArray}
theorem Rq.start (h : FdR w w.heap.size A cap fs) : Rq w m t A cap fs body (w.alloc (.cells #[.string m, .string t, .slice A fs.length cap, .string body] 36)) :=
  ⟨Blk.new _ _ _, h.alloc (Nat.le_refl _) _, (Below.refl _ _).alloc (Nat.le_refl _) _⟩
theorem Rq.step (h : Rq w m t A cap fs body wr) (hb : Below wr.heap.size wr wr') : Rq w m t A cap fs body wr' := ⟨h.blk.below hb h.blk.lt, h.fds.below (hb.mono h.be.size), h.be.trans (hb.mono h.be.size)⟩
theorem Rq.grow (h : Rq w m t A cap fs body wr) (hb : Below (w.heap.size + 1) wr wr') : Rq w m t A cap fs body wr' := ⟨h.blk.below hb (Nat.lt_succ_self _), h.fds.below (hb.mono (Nat.le_succ _)), h.be.trans (hb.mono (Nat.le_succ _))⟩
theorem Rq.facts (h : Rq w m t A cap fs body wr) : wr.cell? ⟨w.heap.size, 0, none⟩ = some (.string m) ∧ wr.cell? ⟨w.heap.size, 1, none⟩ = some (.string t) ∧ wr.cell? ⟨w.heap.size, 2, none⟩ = some (.slice A fs.length cap) ∧ wr.cell? ⟨w.heap.size, 3, none⟩ = some (.string body) :=
  ⟨h.blk.cell 0, h.blk.cell 1, h.blk.cell 2, h.blk.cell 3⟩
end
end Go.Proofs.YtkcncgdgicffhaaDoor
