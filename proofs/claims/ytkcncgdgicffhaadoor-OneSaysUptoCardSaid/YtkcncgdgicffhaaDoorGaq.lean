/- A head that a call makes: the result's cells, the head's cells, its fields (walks of head.Parse, wickref.ReadHead and their like). -/
import Derived.Test.YtkcncgdgicffhaaDoorGap
import Derived.Deep.RegionLaw
import Derived.Deep.DeepHandedRow
namespace Go.Proofs.YtkcncgdgicffhaaDoor
open Go.RowKit
set_option linter.unusedVariables false
set_option linter.unusedSimpArgs false

/-- the result's cells are still empty -/
structure Hz (w wr : World) : Prop where
  res : Blk wr w.heap.size 24 #[.string { data := #[] }, .string { data := #[] }, .slice none 0 0]
  be : Below w.heap.size w wr
theorem Hz.start (w : World) : Hz w (w.alloc (.cells #[.string { data := #[] }, .string { data := #[] }, .slice none 0 0] 24)) := ⟨Blk.new _ _ _, (Below.refl _ _).alloc (Nat.le_refl _) _⟩
theorem Hz.lt {w wr : World} (h : Hz w wr) : w.heap.size < wr.heap.size := Blk.lt h.res
theorem Hz.kept {w wr wr' : World} (h : Hz w wr) (hb : Below wr.heap.size wr wr') : Hz w wr' := ⟨h.res.below hb h.lt, h.be.trans (hb.mono (Nat.le_of_lt h.lt))⟩
theorem Hz.drewN {w wr : World} (h : Hz w wr) (n : Nat) : Hz w (wr.drewN n) := ⟨h.res, below_drewN h.be n⟩
structure HzF (w wr : World) : Prop where
  r0 : wr.cell? ⟨w.heap.size, 0, none⟩ = some (.string { data := #[] })
  r1 : wr.cell? ⟨w.heap.size, 1, none⟩ = some (.string { data := #[] })
  r2 : wr.cell? ⟨w.heap.size, 2, none⟩ = some (.slice none 0 0)
  f0 : wr.frozen? ⟨w.heap.size, 0, none⟩ = false
  f1 : wr.frozen? ⟨w.heap.size, 1, none⟩ = false
  f2 : wr.frozen? ⟨w.heap.size, 2, none⟩ = false
theorem Hz.facts {w wr : World} (h : Hz w wr) : HzF w wr := ⟨h.res.cell 0, h.res.cell 1, h.res.cell 2, h.res.frozen 0, h.res.frozen 1, h.res.frozen 2⟩
/-- the result is put -/
theorem Hz.put {w wr : World} (h : Hz w wr) (a b c : Value) :
    ∃ wz, wz = ((wr.setCell ⟨w.heap.size, 0, none⟩ a).setCell ⟨w.heap.size, 1, none⟩ b).setCell ⟨w.heap.size, 2, none⟩ c ∧ Below w.heap.size w wz ∧
      wz.cell? ⟨w.heap.size, 0, none⟩ = some a ∧ wz.cell? ⟨w.heap.size, 1, none⟩ = some b ∧ wz.cell? ⟨w.heap.size, 2, none⟩ = some c ∧ (∀ t B v l, w.heap.size < B → OP t wr B v l → OP t wz B v l) := by
  have h1 := ((h.res.set_ 0 a).set_ 1 b).set_ 2 c
  refine ⟨_, rfl, ((h.be.setCell (p := ⟨w.heap.size, 0, none⟩) (Nat.le_refl _) _).setCell (p := ⟨w.heap.size, 1, none⟩) (Nat.le_refl _) _).setCell (p := ⟨w.heap.size, 2, none⟩) (Nat.le_refl _) _, h1.cell 0, h1.cell 1, h1.cell 2, fun t B v l hB ho => ?_⟩
  exact ((ho.store (p := ⟨w.heap.size, 0, none⟩) hB a).store (p := ⟨w.heap.size, 1, none⟩) hB b).store (p := ⟨w.heap.size, 2, none⟩) hB c

/-- a head in the making: block g; u: the fields' cell, v: the fields as they are by now -/
structure Hst (w1 wr : World) (g : Nat) (m t : ByteArray) (u v : Value) (l : List Fd) : Prop where
  hb : Blk wr g 24 #[.string m, .string t, u]
  hg : w1.heap.size ≤ g
  ho : OP 108 wr (g + 1) v l
  be : Below w1.heap.size w1 wr
section
variable {w1 wr wr' : World} {g : Nat} {m t : ByteArray} {u v : Value} {l : List Fd}
theorem Hst.lt (h : Hst w1 wr g m t u v l) : g < wr.heap.size := Blk.lt h.hb
theorem Hst.kept (h : Hst w1 wr g m t u v l) (hb : Below wr.heap.size wr wr') : Hst w1 wr' g m t u v l :=
  ⟨h.hb.below hb h.lt, h.hg, h.ho.kept hb, h.be.trans (hb.mono (Nat.le_trans h.hg (Nat.le_of_lt h.lt)))⟩
theorem Hst.drewN (h : Hst w1 wr g m t u v l) (n : Nat) : Hst w1 (wr.drewN n) g m t u v l := ⟨h.hb, h.hg, h.ho, below_drewN h.be n⟩
theorem Hst.drew (h : Hst w1 wr g m t u v l) : Hst w1 wr.drew g m t u v l := h.drewN 1
theorem Hst.set (h : Hst w1 wr g m t u v l) (x : Value) : Hst w1 (wr.setCell ⟨g, 2, none⟩ x) g m t x v l :=
  ⟨h.hb.set_ 2 x, h.hg, h.ho.store (p := ⟨g, 2, none⟩) (Nat.lt_succ_self _) x, h.be.setCell (p := ⟨g, 2, none⟩) h.hg x⟩
theorem Hst.facts (h : Hst w1 wr g m t u v l) : wr.cell? ⟨g, 0, none⟩ = some (.string m) ∧ wr.cell? ⟨g, 1, none⟩ = some (.string t) ∧ wr.cell? ⟨g, 2, none⟩ = some u ∧ wr.frozen? ⟨g, 2, none⟩ = false :=
  ⟨h.hb.cell 0, h.hb.cell 1, h.hb.cell 2, h.hb.frozen 2⟩
/-- append of a field in a drawn region -/
theorem step_hst {ops : Array Oper} {o : Oper} {a : Act} {K : Act → World → Prop} {Q : Exit → Act → World → Prop} {E : Prop} (hgd : o.guard = none) (p q : Operand)
    (hop : o.op = .call { callee := .builtin .append, args := #[p, q], argTypes := #[22, 22] })
    (hH : Hst w1 wr g m t u v l) (hs : a.eval p = v) (n x : ByteArray)
    (hx : a.eval q = .slice (some ⟨wr.heap.size, 0, none⟩) 1 1) (hlen : l.length ≤ 1000000000)
    (hK : ∀ A' c' w', Hst w1 w' g m t u (.slice A' (l.length + 1) c') (l ++ [⟨n, x⟩]) → K (a.put o.dst (.slice A' (l.length + 1) c')) w') :
    if Region.wanted o (yielded ops a.tmps) = true then Oper.wp Tryd.prog o a (wr.alloc (.cells #[.string n, .string x] 108)) K Q else E := by
  obtain ⟨i0, hi0, hz0, hz1, hz2⟩ := info_parts infoField
  have hB : g + 1 ≤ wr.heap.size := hH.lt
  refine step_appG (P := Tryd.prog) (Q := Q) (ops := ops) hgd p q hop Tryd.underlying22 hi0 hz0 hz1 hz2 rfl (by decide) hH.ho hs [.string n, .string x] 1 1 hx rfl (by
    intro u hu
    simp only [List.mem_cons, List.not_mem_nil, or_false] at hu
    rcases hu with rfl | rfl <;> rfl) (by unfold maxLen; omega) (by omega) hB fun v' w' h2 h3 => ?_
  have h4 : OP 108 w' (g + 1) v' (l ++ [⟨n, x⟩]) := by
    unfold OP; rw [List.length_append, fdFlat_app, fdFlat_one]; exact h2
  have hbl : Below (g + 1) wr w' := h3.below hB (own_from hH.ho)
  obtain ⟨A', c', rfl⟩ := h4.form
  rw [List.length_append, List.length_singleton] at h4 ⊢
  have h5 : OP 108 w' (g + 1) (.slice A' (l.length + 1) c') (l ++ [⟨n, x⟩]) := h4
  exact hK A' c' w' ⟨hH.hb.below hbl (Nat.lt_succ_self _), hH.hg, h5, hH.be.trans (hbl.mono (Nat.le_trans hH.hg (Nat.le_succ _)))⟩
end
end Go.Proofs.YtkcncgdgicffhaaDoor
