/- Walk: rex.copyOf. (printed by gen_prsn.py) -/
import Derived.Test.YtkdcgkdbieeijaaPrsL
import Derived.Test.YtkdcgkdbieeijaaApp
namespace Go.Proofs.Ytkdcgkdbieeijaa
open Go.RowKit
set_option linter.unusedVariables false
set_option linter.unusedSimpArgs false

theorem infoRex : (Try.prog.info? 27).map (fun i => (i.zero, i.size, i.bytes)) = some (some (.agg #[.int .i64 0, .int .u64 0, .int .u64 0, .int .u64 0, .int .u64 0, .slice none 0 0]), 6, 64) := by kernel_rfl
/-- the kids copied so far: their cells one behind the other, their parts in blocks of which P holds -/
def CpL (w : World) (P : Nat → Prop) (d : Nat) (ks : List Rx) (L : List Value) : Prop := L.length = ks.length * 6 ∧ ∀ i x, ks[i]? = some x → ∃ cs', cs'.length = 6 ∧ (∀ j u, cs'[j]? = some u → L[i * 6 + j]? = some u) ∧ RxT w P d x cs'
theorem CpL.nil (w : World) (P : Nat → Prop) (d : Nat) : CpL w P d [] [] := ⟨rfl, fun i x h => by simp at h⟩
theorem CpL.keep {w w' : World} {P Q : Nat → Prop} {d : Nat} {ks : List Rx} {L : List Value} (h : CpL w P d ks L) (hh : ∀ b, P b → Q b) (hk : ∀ p : Addr, P p.block → w'.cell? p = w.cell? p) : CpL w' Q d ks L := ⟨h.1, fun i x hi => by
  obtain ⟨cs', h1, h2, h3⟩ := h.2 i x hi
  exact ⟨cs', h1, h2, h3.keep hh hk⟩⟩
theorem CpL.snoc {w : World} {P : Nat → Prop} {d : Nat} {ks : List Rx} {L : List Value} (h : CpL w P d ks L) {x : Rx} {cs : List Value} (hl : cs.length = 6) (hx : RxT w P d x cs) : CpL w P d (ks ++ [x]) (L ++ cs) := by
  refine ⟨by rw [List.length_append, List.length_append, h.1, hl, List.length_singleton]; omega, fun i y hi => ?_⟩
  by_cases hlt : i < ks.length
  · rw [List.getElem?_append_left hlt] at hi
    obtain ⟨cs', h1, h2, h3⟩ := h.2 i y hi
    refine ⟨cs', h1, fun j u hu => ?_, h3⟩
    have hj := (List.getElem?_eq_some_iff.1 hu).1
    rw [List.getElem?_append_left (by rw [h.1]; omega)]
    exact h2 j u hu
  · rw [List.getElem?_append_right (by omega)] at hi
    have hi0 : i = ks.length := by
      have := (List.getElem?_eq_some_iff.1 hi).1
      rw [List.length_singleton] at this; omega
    subst hi0
    rw [Nat.sub_self] at hi
    cases hi
    refine ⟨cs, hl, fun j u hu => ?_, hx⟩
    rw [List.getElem?_append_right (by rw [h.1]; omega), h.1, Nat.add_sub_cancel_left]; exact hu
/-- the boxes of copyOf: the result's, the copy's, the row of its kids -/
structure Cp (w : World) (k : Int) (s : Q4) (d : Nat) (v0 v : Value) (ks : List Rx) (wr : World) : Prop where
  re : Blk wr (w.heap.size + 1) 27 #[.int .i64 0, .int .u64 0, .int .u64 0, .int .u64 0, .int .u64 0, .slice none 0 0]
  ou : Blk wr (w.heap.size + 2) 27 #[.int .i64 k, .int .u64 (s.a : Int), .int .u64 (s.b : Int), .int .u64 (s.c : Int), .int .u64 (s.d : Int), v0]
  ow : ∃ L, wr.ownsRow (w.heap.size + 3) 27 6 v ks.length L ∧ (∀ u ∈ L, u.oneCell' = true) ∧ CpL wr (fun b => w.heap.size ≤ b ∧ b < wr.heap.size ∧ v.ownBlock ≠ some b ∧ b ≠ w.heap.size + 1 ∧ b ≠ w.heap.size + 2) d ks L
  be : Below w.heap.size w wr
section
variable {w wr wr' : World} {k : Int} {s : Q4} {d : Nat} {v0 v : Value} {ks : List Rx}
theorem Cp.step (h : Cp w k s d v0 v ks wr) (hb : Below wr.heap.size wr wr') : Cp w k s d v0 v ks wr' := by
  obtain ⟨L, h1, h2, h3⟩ := h.ow
  refine ⟨Blk.below h.re hb (Blk.lt h.re), Blk.below h.ou hb (Blk.lt h.ou), ⟨L, ?_, h2, ?_⟩, h.be.trans (hb.mono h.be.size)⟩
  · refine World.ownsRow.kept (row := none) h1 ⟨hb.os, hb.tape, hb.output, hb.size, fun k hk _ => hb.block k hk⟩ ?_
    cases v.ownBlock <;> simp
  · exact h3.keep (fun b hb2 => ⟨hb2.1, Nat.lt_of_lt_of_le hb2.2.1 hb.size, hb2.2.2⟩) fun p hp => hb.cell hp.2.1
theorem Cp.form (h : Cp w k s d v0 v ks wr) : ∃ A c, v = .slice A ks.length c := by
  obtain ⟨L, h1, _⟩ := h.ow
  rcases h1.2 with ⟨rfl, h2⟩ | ⟨g, c, cur, rfl, _⟩
  · exact ⟨none, 0, by rw [h2]⟩
  · exact ⟨_, _, rfl⟩
end
theorem Grew.cell {w w' : World} {v v' : Value} (h : Grew w w' v v') {p : Addr} (hp : p.block < w.heap.size) (hne : v.ownBlock ≠ some p.block) : w'.cell? p = w.cell? p := by
  have hb := h.grown.block p.block hp (fun e => hne e.symm)
  unfold World.cell?
  rw [hb]
section
variable {w wr wr' : World} {k : Int} {s : Q4} {d : Nat} {v0 v : Value} {ks : List Rx}
theorem cp_in {w3 : World} (h : Cp w k s d v0 v ks wr) {b : Nat} (hb : wr.heap.size ≤ b ∧ b < w3.heap.size) : w.heap.size ≤ b ∧ b < w3.heap.size ∧ v.ownBlock ≠ some b ∧ b ≠ w.heap.size + 1 ∧ b ≠ w.heap.size + 2 := by
  obtain ⟨L, h1, _⟩ := h.ow
  have hlt := World.ownsRow.lt h1
  have hgl : w.heap.size + 2 < wr.heap.size := Blk.lt h.ou
  exact ⟨by omega, hb.2, fun e => by have := (hlt b e).2; omega, by omega, by omega⟩
theorem Cp.app (h : Cp w k s d v0 v ks wr) {L : List Value} (h1 : wr.ownsRow (w.heap.size + 3) 27 6 v ks.length L) (h2 : ∀ u ∈ L, u.oneCell' = true) (h3 : CpL wr (fun b => w.heap.size ≤ b ∧ b < wr.heap.size ∧ v.ownBlock ≠ some b ∧ b ≠ w.heap.size + 1 ∧ b ≠ w.heap.size + 2) d ks L) {v' : Value} {x : Rx} {cs : List Value} (hl : cs.length = 6) (h1c : ∀ u ∈ cs, u.oneCell' = true) (hx : RxT wr (fun b => w.heap.size ≤ b ∧ b < wr.heap.size ∧ v.ownBlock ≠ some b ∧ b ≠ w.heap.size + 1 ∧ b ≠ w.heap.size + 2) d x cs)
    (ho : wr'.ownsRow (w.heap.size + 3) 27 6 v' (ks.length + 1) (L ++ cs)) (hg : Grew wr wr' v v') : Cp w k s d v0 v' (ks ++ [x]) wr' := by
  have hz : wr.heap.size ≤ wr'.heap.size := hg.grown.size
  have hlt := World.ownsRow.lt h1
  have hlo : ∀ b, v.ownBlock = some b → w.heap.size + 3 ≤ b := fun b hb => (hlt b hb).1
  have hre := Blk.lt h.ou
  refine ⟨hg.blk h.re (fun e => by have := hlo _ e; omega), hg.blk h.ou (fun e => by have := hlo _ e; omega), ⟨L ++ cs, ?_, ?_, ?_⟩, h.be.trans (hg.below (B := w.heap.size) h.be.size fun b hb => by have := hlo b hb; omega)⟩
  · rw [List.length_append, List.length_singleton]; exact ho
  · intro u hu
    rcases List.mem_append.1 hu with hu | hu
    · exact h2 u hu
    · exact h1c u hu
  · have hP : ∀ b, (w.heap.size ≤ b ∧ b < wr.heap.size ∧ v.ownBlock ≠ some b ∧ b ≠ w.heap.size + 1 ∧ b ≠ w.heap.size + 2) → (w.heap.size ≤ b ∧ b < wr'.heap.size ∧ v'.ownBlock ≠ some b ∧ b ≠ w.heap.size + 1 ∧ b ≠ w.heap.size + 2) := fun b hb => ⟨hb.1, Nat.lt_of_lt_of_le hb.2.1 hz, hg.off hb.2.1 hb.2.2.1, hb.2.2.2⟩
    exact (h3.keep hP fun p hp => hg.cell hp.2.1 hp.2.2.1).snoc hl (hx.keep hP fun p hp => hg.cell hp.2.1 hp.2.2.1)
theorem step_cp {ops : Array Oper} {o : Oper} {a : Act} {K : Act → World → Prop} {Q : Exit → Act → World → Prop} {E : Prop} (hgd : o.guard = none) (p q : Operand)
    (hop : o.op = .call { callee := .builtin .append, args := #[p, q], argTypes := #[25, 25] })
    (hH : Cp w k s d v0 v ks wr) (hs : a.eval p = v) (x : Rx) (x0 x1 x2 x3 x4 : Int) (xA : Option Addr) (xl xc : Nat) (hx : RxT wr (fun b => w.heap.size ≤ b ∧ b < wr.heap.size ∧ v.ownBlock ≠ some b ∧ b ≠ w.heap.size + 1 ∧ b ≠ w.heap.size + 2) d x (six x0 x1 x2 x3 x4 xA xl xc))
    (hq : a.eval q = .slice (some ⟨wr.heap.size, 0, none⟩) 1 1) (hlen : ks.length ≤ 1000000)
    (hK : ∀ A' c' w', Cp w k s d v0 (.slice A' (ks.length + 1) c') (ks ++ [x]) w' → K (a.put o.dst (.slice A' (ks.length + 1) c')) w') :
    if Region.wanted o (yielded ops a.tmps) = true then Oper.wp Try.prog o a (wr.alloc (.cells #[.int .i64 x0, .int .u64 x1, .int .u64 x2, .int .u64 x3, .int .u64 x4, .slice xA xl xc] 27)) K Q else E := by
  obtain ⟨i0, hi0, hz0, hz1, hz2⟩ := info_parts infoRex
  have hB : w.heap.size + 3 ≤ wr.heap.size := Blk.lt hH.ou
  have h1c : ∀ u ∈ six x0 x1 x2 x3 x4 xA xl xc, u.oneCell' = true := by
    intro u hu
    simp only [six, List.mem_cons, List.not_mem_nil, or_false] at hu
    rcases hu with rfl | rfl | rfl | rfl | rfl | rfl <;> rfl
  obtain ⟨L, h1, h2, h3⟩ := hH.ow
  refine step_appG (P := Try.prog) (Q := Q) (ops := ops) hgd p q hop Try.underlying25 hi0 hz0 hz1 hz2 rfl (by decide) h1 hs [.int .i64 x0, .int .u64 x1, .int .u64 x2, .int .u64 x3, .int .u64 x4, .slice xA xl xc] 1 1 hq rfl h1c (by unfold maxLen; omega) (by omega) hB fun v' w' h4 h5 => ?_
  have hc := hH.app h1 h2 h3 rfl h1c hx h4 h5
  obtain ⟨A', c', rfl⟩ := hc.form
  rw [List.length_append, List.length_singleton] at hc ⊢
  exact hK A' c' w' hc
end
section
variable {w wr wr' : World} {k : Int} {s : Q4} {d : Nat} {v0 v : Value} {ks : List Rx}
theorem Cp.set (h : Cp w k s d v0 v ks wr) : Cp w k s d v v ks (wr.setCell ⟨w.heap.size + 2, 5, none⟩ v) := by
  obtain ⟨L, h1, h2, h3⟩ := h.ow
  have hlt := World.ownsRow.lt h1
  have hne : v.ownBlock ≠ some (w.heap.size + 2) := fun e => by have := (hlt _ e).1; omega
  refine ⟨Blk.far h.re (by dsimp only; omega) _, h.ou.set_ 5 v, ⟨L, ?_, h2, ?_⟩, h.be.setCell (by dsimp only; omega) _⟩
  · refine World.ownsRow.kept (row := some (w.heap.size + 2)) h1 ⟨rfl, rfl, rfl, by simp [World.setCell], fun k hk hk2 => Below.heap_setCell wr ⟨w.heap.size + 2, 5, none⟩ v k (fun e => hk2 (by rw [e]))⟩ (.inr hne)
  · exact h3.keep (fun b hb => ⟨hb.1, by simpa [World.setCell] using hb.2.1, hb.2.2⟩) fun p hp => World.cell?_setCell_far wr _ p v (fun e => hp.2.2.2.2 e.symm)
theorem Cp.tree (h : Cp w k s d v v ks wr) {A : Option Addr} {n c : Nat} (hv : v = .slice A n c) (hs : s.ok) (hl : ks.length ≤ 2) (hk : -9223372036854775808 ≤ k ∧ k ≤ 9223372036854775807) : RxT wr (fun b => w.heap.size ≤ b ∧ b < wr.heap.size ∧ b ≠ w.heap.size + 1) (d + 1) (.mk k s ks) (six k s.a s.b s.c s.d A n c) := by
  obtain ⟨L, h1, h2, h3⟩ := h.ow
  have hlt := World.ownsRow.lt h1
  have hP : ∀ b, v.ownBlock = some b → w.heap.size ≤ b ∧ b < wr.heap.size ∧ b ≠ w.heap.size + 1 := fun b hb => by have := hlt b hb; exact ⟨by omega, this.2, by omega⟩
  have hel : ∀ i x, ks[i]? = some x → ∃ g cs', v.ownBlock = some g ∧ (∀ j u, cs'[j]? = some u → wr.cell? ((⟨g, 0, none⟩ : Addr).add (i * 6 + j)) = some u) ∧ RxT wr (fun b => w.heap.size ≤ b ∧ b < wr.heap.size ∧ b ≠ w.heap.size + 1) d x cs' := fun i x hi => by
    obtain ⟨cs', q1, q2, q3⟩ := h3.2 i x hi
    have hil := (List.getElem?_eq_some_iff.1 hi).1
    rcases h1.2 with ⟨_, h0⟩ | ⟨g, cap, cur, e, _⟩
    · omega
    · have hg : v.ownBlock = some g := by rw [e]; rfl
      exact ⟨g, cs', hg, fun j u hu => World.ownsRow.cells h1 hg _ _ (q2 j u hu), q3.weak fun b hb => ⟨hb.1, hb.2.1, hb.2.2.2.1⟩⟩
  refine ⟨hs, hl, hk, A, c, ?_, ?_, ?_, ?_, ?_⟩
  · rcases h1.2 with ⟨e, h0⟩ | ⟨g, cap, cur, e, _⟩
    · rw [hv] at e; injection e with e1 e2 e3; subst e1 e2 e3; simp only [Rx.k, Rx.s, Rx.ks, h0]; rfl
    · rw [hv] at e; injection e with e1 e2 e3; subst e1 e2 e3; rfl
  · rcases h1.2 with ⟨e, h0⟩ | ⟨g, cap, cur, e, _, _, q1, _⟩
    · simp only [Rx.ks, h0]; omega
    · rw [hv] at e; injection e with e1 e2 e3; subst e3; exact q1
  · rcases h1.2 with ⟨e, h0⟩ | ⟨g, cap, cur, e, _, _, q1, q2, _⟩
    · rw [hv] at e; injection e with e1 e2 e3; subst e3; omega
    · rw [hv] at e; injection e with e1 e2 e3; subst e3; unfold maxLen at q2; omega
  · intro hpos
    simp only [Rx.ks] at hpos
    rcases h1.2 with ⟨_, h0⟩ | ⟨g, cap, cur, e, _⟩
    · omega
    · have hg : v.ownBlock = some g := by rw [e]; rfl
      rw [hv] at e; injection e with e1 e2 e3
      exact ⟨_, e1, hP g hg⟩
  · intro i x hi
    simp only [Rx.ks] at hi
    obtain ⟨g, cs', hg, q1, q2⟩ := hel i x hi
    have hil := (List.getElem?_eq_some_iff.1 hi).1
    rcases h1.2 with ⟨_, h0⟩ | ⟨g', cap, cur, e, _⟩
    · omega
    · have hg' : v.ownBlock = some g' := by rw [e]; rfl
      rw [hg'] at hg; injection hg with hg; subst hg
      rw [hv] at e; injection e with e1 e2 e3
      exact ⟨_, cs', e1, q1, q2⟩
end
set_option maxRecDepth 100000 in
set_option maxHeartbeats 4000000 in
theorem copy_step (d : Nat) (ih : CpOk 66 d) : CpOk 66 (d + 1) := by
  rintro ⟨k, s, ks⟩ cs B w ⟨hs, hle, hk, A, cap, e, hlc, hcap, hblk, hel⟩ hB
  have HI := Lib.hid ih
  clear ih
  subst e
  simp only [Rx.k, Rx.s, Rx.ks] at hs hle hk hlc hcap hblk hel ⊢
  have ecs : (rexCs k s A ks.length cap).toArray = #[.int .i64 k, .int .u64 (s.a : Int), .int .u64 (s.b : Int), .int .u64 (s.c : Int), .int .u64 (s.d : Int), .slice A ks.length cap] := rfl
  rw [ecs]
  clear ecs
  have HS := Lib.hid (show s.ok ∧ (-9223372036854775808 ≤ k ∧ k ≤ 9223372036854775807) from ⟨hs, hk⟩)
  have HEL := Lib.hid hel
  have HBK := Lib.hid hblk
  have h0 : Hid (Cp w k s d (.slice none 0 0) (.slice none 0 0) [] (((w.alloc (.cells #[.int .i64 k, .int .u64 (s.a : Int), .int .u64 (s.b : Int), .int .u64 (s.c : Int), .int .u64 (s.d : Int), .slice A ks.length cap] 27)).alloc (.cells #[.int .i64 0, .int .u64 0, .int .u64 0, .int .u64 0, .int .u64 0, .slice none 0 0] 27)).alloc (.cells #[.int .i64 k, .int .u64 (s.a : Int), .int .u64 (s.b : Int), .int .u64 (s.c : Int), .int .u64 (s.d : Int), .slice none 0 0] 27))) := Lib.hid (by
    have hb : Below w.heap.size w (((w.alloc (.cells #[.int .i64 k, .int .u64 (s.a : Int), .int .u64 (s.b : Int), .int .u64 (s.c : Int), .int .u64 (s.d : Int), .slice A ks.length cap] 27)).alloc (.cells #[.int .i64 0, .int .u64 0, .int .u64 0, .int .u64 0, .int .u64 0, .slice none 0 0] 27)).alloc (.cells #[.int .i64 k, .int .u64 (s.a : Int), .int .u64 (s.b : Int), .int .u64 (s.c : Int), .int .u64 (s.d : Int), .slice none 0 0] 27)) := (((Below.refl _ _).alloc (Nat.le_refl _) _).alloc (by simp) _).alloc (by simp; omega) _
    refine ⟨?_, ?_, ⟨[], ⟨rfl, .inl ⟨rfl, rfl⟩⟩, fun u hu => absurd hu (List.not_mem_nil), CpL.nil _ _ _⟩, hb⟩
    · refine Blk.alloc ?_ _
      have := Blk.new (w.alloc (.cells #[.int .i64 k, .int .u64 (s.a : Int), .int .u64 (s.b : Int), .int .u64 (s.c : Int), .int .u64 (s.d : Int), .slice A ks.length cap] 27)) 27 #[.int .i64 0, .int .u64 0, .int .u64 0, .int .u64 0, .int .u64 0, .slice none 0 0]
      simpa using this
    · have := Blk.new ((w.alloc (.cells #[.int .i64 k, .int .u64 (s.a : Int), .int .u64 (s.b : Int), .int .u64 (s.c : Int), .int .u64 (s.d : Int), .slice A ks.length cap] 27)).alloc (.cells #[.int .i64 0, .int .u64 0, .int .u64 0, .int .u64 0, .int .u64 0, .slice none 0 0] 27)) 27 #[.int .i64 k, .int .u64 (s.a : Int), .int .u64 (s.b : Int), .int .u64 (s.c : Int), .int .u64 (s.d : Int), .slice none 0 0]
      simpa using this)
  clear hel hblk hs hk
  go_enter Try.func66, Try.ntmps66
  go_wp2_with fail
  obtain ⟨W, hW⟩ : ∃ W, ((w.alloc (.cells #[.int .i64 k, .int .u64 (s.a : Int), .int .u64 (s.b : Int), .int .u64 (s.c : Int), .int .u64 (s.d : Int), .slice A ks.length cap] 27)).alloc (.cells #[.int .i64 0, .int .u64 0, .int .u64 0, .int .u64 0, .int .u64 0, .slice none 0 0] 27)).alloc (.cells #[.int .i64 k, .int .u64 (s.a : Int), .int .u64 (s.b : Int), .int .u64 (s.c : Int), .int .u64 (s.d : Int), .slice none 0 0] 27) = W := ⟨_, rfl⟩
  rw [hW] at h0 ⊢
  clear hW
  go_loopw [14] (fun i wr => ∃ (j : Nat) (v : Value), i = .int .i64 (j : Int) ∧ j ≤ ks.length ∧ Hid (Cp w k s d v v (ks.take j) wr)) (fun i _ => ks.length - (intOf i).toNat)
  case atStart => exact ⟨0, _, rfl, Nat.zero_le _, by rw [List.take_zero]; exact h0⟩
  case round =>
    clear h0
    obtain ⟨j, v, rfl, hj, HC⟩ := hrel
    by_cases hlt : j < ks.length
    · obtain ⟨ad, cs', rfl, hc, hr⟩ := HEL.out j ks[j] (List.getElem?_eq_getElem hlt)
      obtain ⟨_, e', hb⟩ := HBK.out (by omega)
      injection e' with e'; subst e'
      have hT : Hid (ks.take (j + 1) = ks.take j ++ [ks[j]]) := Lib.hid (by rw [List.take_add_one, List.getElem?_eq_getElem hlt]; rfl)
      have hlK : (ks.take j).length ≤ 2 := by rw [List.length_take]; omega
      obtain ⟨c0, c1, c2, c3, c4, A6, l6, c6, rfl⟩ := (hr.rxC (B := B) fun b hb => hb).six
      have hwB : Below B w wr := HC.out.be.mono hB
      obtain ⟨d0, d1, d2, d3, d4, d5⟩ := six_cells (w' := wr) hc hb hwB
      have CI : ∀ wx : World, Below B w wx → Calls Try.prog 66 #[.agg #[.int .i64 c0, .int .u64 c1, .int .u64 c2, .int .u64 c3, .int .u64 c4, .slice A6 l6 c6]] wx fun e w' => ∃ (x0 x1 x2 x3 x4 : Int) (xA : Option Addr) (xl xc : Nat), e = .returned (.agg #[.int .i64 x0, .int .u64 x1, .int .u64 x2, .int .u64 x3, .int .u64 x4, .slice xA xl xc]) ∧ RxT w' (fun b => wx.heap.size ≤ b ∧ b < w'.heap.size) d ks[j] (six x0 x1 x2 x3 x4 xA xl xc) ∧ Below wx.heap.size wx w' := fun wx hx => HI.out ks[j] _ B wx (hr.keep (fun _ hb => hb) fun p hp => hx.cell hp) (Nat.le_trans hB hx.size)
      have CI := Lib.hid CI
      obtain ⟨K, hK⟩ : ∃ K, K = ks.take j := ⟨_, rfl⟩
      rw [← hK] at HC hT hlK
      obtain ⟨x, hx⟩ : ∃ x, x = ks[j] := ⟨_, rfl⟩
      rw [← hx] at CI hT
      obtain ⟨A5, c5, rfl⟩ := HC.out.form
      have HB := Lib.hid hwB
      have hgl : w.heap.size + 2 < wr.heap.size := Blk.lt HC.out.ou
      clear hc hr hK hx hwB
      go_upto_region 5 with fail
      have hC2 := HC.out.step ((Below.refl _ _).alloc (Nat.le_refl _) (.cells #[.int .i64 c0, .int .u64 c1, .int .u64 c2, .int .u64 c3, .int .u64 c4, .slice A6 l6 c6] 27))
      have hG2 := Blk.new wr 27 #[.int .i64 c0, .int .u64 c1, .int .u64 c2, .int .u64 c3, .int .u64 c4, .slice A6 l6 c6]
      obtain ⟨V, hV⟩ : ∃ V, wr.alloc (.cells #[.int .i64 c0, .int .u64 c1, .int .u64 c2, .int .u64 c3, .int .u64 c4, .slice A6 l6 c6] 27) = V := ⟨_, rfl⟩
      rw [hV] at hC2 hG2 ⊢
      have hgV : wr.heap.size < V.heap.size := Blk.lt hG2
      obtain ⟨g, hg⟩ : ∃ g, wr.heap.size = g := ⟨_, rfl⟩
      rw [hg] at hG2 hgl hgV ⊢
      clear hV hg d0 d1 d2 d3 d4 d5 HC
      have hCd := hC2.step (below_drewN (Below.refl _ _) 1 : Below V.heap.size V V.drew)
      have hGd := hG2.drew
      have y0 : V.drew.cell? ⟨g, 0, none⟩ = some (.int .i64 c0) := hGd.cell 0
      have y1 : V.drew.cell? ⟨g, 1, none⟩ = some (.int .u64 c1) := hGd.cell 1
      have y2 : V.drew.cell? ⟨g, 2, none⟩ = some (.int .u64 c2) := hGd.cell 2
      have y3 : V.drew.cell? ⟨g, 3, none⟩ = some (.int .u64 c3) := hGd.cell 3
      have y4 : V.drew.cell? ⟨g, 4, none⟩ = some (.int .u64 c4) := hGd.cell 4
      have y5 : V.drew.cell? ⟨g, 5, none⟩ = some (.slice A6 l6 c6) := hGd.cell 5
      have o5 : V.drew.cell? ⟨w.heap.size + 2, 5, none⟩ = some (.slice A5 K.length c5) := hCd.ou.cell 5
      have HCI := Lib.hid (CI.out V.drew (hCd.be.mono hB))
      go_wp2_with fail
      go_region_law (first
        | (go_simp; go_at_call 66; (refine HCI.out.mono ?_); rintro e w3 ⟨x0, x1, x2, x3, x4, xA, xl, xc, rfl, hx3, hb3⟩; have hC3 := hCd.step hb3; have o5' : w3.cell? ⟨w.heap.size + 2, 5, none⟩ = some (.slice A5 K.length c5) := hC3.ou.cell 5; have hg3 : w.heap.size + 2 < w3.heap.size := Blk.lt hC3.ou)
        | (refine step_cp rfl (.tmp 19) (.tmp 22) rfl hC3 (by rfl) x x0 x1 x2 x3 x4 xA xl xc (hx3.weak fun b hb => cp_in hCd hb) (by rfl) (by omega) ?_; intro A7 c7 w4 hC4; have o6 : w4.cell? ⟨w.heap.size + 2, 5, none⟩ = some (.slice A5 K.length c5) := hC4.ou.cell 5; have o7 : w4.frozen? ⟨w.heap.size + 2, 5, none⟩ = false := hC4.ou.frozen 5))
      all_goals
        have HC5 := Lib.hid hC4.set
        rw [← hT.out] at HC5
        clear hC4
        go_wp2_with fail
        go_roundw
        case rel => exact ⟨j + 1, _, by go_num, by omega, HC5⟩
        case measure => simp [intOf]; omega
    · obtain rfl : j = ks.length := by omega
      rw [List.take_length] at HC
      obtain ⟨A5, c5, rfl⟩ := HC.out.form
      have s0 : wr.cell? ⟨w.heap.size + 2, 0, none⟩ = some (.int .i64 k) := HC.out.ou.cell 0
      have s1 : wr.cell? ⟨w.heap.size + 2, 1, none⟩ = some (.int .u64 (s.a : Int)) := HC.out.ou.cell 1
      have s2 : wr.cell? ⟨w.heap.size + 2, 2, none⟩ = some (.int .u64 (s.b : Int)) := HC.out.ou.cell 2
      have s3 : wr.cell? ⟨w.heap.size + 2, 3, none⟩ = some (.int .u64 (s.c : Int)) := HC.out.ou.cell 3
      have s4 : wr.cell? ⟨w.heap.size + 2, 4, none⟩ = some (.int .u64 (s.d : Int)) := HC.out.ou.cell 4
      have s5 : wr.cell? ⟨w.heap.size + 2, 5, none⟩ = some (.slice A5 ks.length c5) := HC.out.ou.cell 5
      have r0 : wr.cell? ⟨w.heap.size + 1, 0, none⟩ = some (.int .i64 0) := HC.out.re.cell 0
      have fr0 : wr.frozen? ⟨w.heap.size + 1, 0, none⟩ = false := HC.out.re.frozen 0
      have r1 : wr.cell? ⟨w.heap.size + 1, 1, none⟩ = some (.int .u64 0) := HC.out.re.cell 1
      have fr1 : wr.frozen? ⟨w.heap.size + 1, 1, none⟩ = false := HC.out.re.frozen 1
      have r2 : wr.cell? ⟨w.heap.size + 1, 2, none⟩ = some (.int .u64 0) := HC.out.re.cell 2
      have fr2 : wr.frozen? ⟨w.heap.size + 1, 2, none⟩ = false := HC.out.re.frozen 2
      have r3 : wr.cell? ⟨w.heap.size + 1, 3, none⟩ = some (.int .u64 0) := HC.out.re.cell 3
      have fr3 : wr.frozen? ⟨w.heap.size + 1, 3, none⟩ = false := HC.out.re.frozen 3
      have r4 : wr.cell? ⟨w.heap.size + 1, 4, none⟩ = some (.int .u64 0) := HC.out.re.cell 4
      have fr4 : wr.frozen? ⟨w.heap.size + 1, 4, none⟩ = false := HC.out.re.frozen 4
      have r5 : wr.cell? ⟨w.heap.size + 1, 5, none⟩ = some (.slice none 0 0) := HC.out.re.cell 5
      have fr5 : wr.frozen? ⟨w.heap.size + 1, 5, none⟩ = false := HC.out.re.frozen 5
      have HT := Lib.hid (HC.out.tree rfl HS.out.1 hle HS.out.2)
      have HZ := Lib.hid (six_put (cs := [.int .i64 0, .int .u64 0, .int .u64 0, .int .u64 0, .int .u64 0, .slice none 0 0]) HC.out.re rfl k s.a s.b s.c s.d A5 ks.length c5)
      have HZT := Lib.hid (HT.out.put6 (g := w.heap.size + 1) (fun hh => hh.2.2 rfl) k s.a s.b s.c s.d A5 ks.length c5)
      have HZS := Lib.hid (size_put6 wr (w.heap.size + 1) k s.a s.b s.c s.d A5 ks.length c5)
      have HZB : Hid (Below w.heap.size w ((((((wr.setCell ⟨w.heap.size + 1, 0, none⟩ (.int .i64 k)).setCell ⟨w.heap.size + 1, 1, none⟩ (.int .u64 (s.a : Int))).setCell ⟨w.heap.size + 1, 2, none⟩ (.int .u64 (s.b : Int))).setCell ⟨w.heap.size + 1, 3, none⟩ (.int .u64 (s.c : Int))).setCell ⟨w.heap.size + 1, 4, none⟩ (.int .u64 (s.d : Int))).setCell ⟨w.heap.size + 1, 5, none⟩ (.slice A5 ks.length c5))) := Lib.hid ((((((HC.out.be.setCell (p := ⟨w.heap.size + 1, 0, none⟩) (by dsimp only; omega) _).setCell (p := ⟨w.heap.size + 1, 1, none⟩) (by dsimp only; omega) _).setCell (p := ⟨w.heap.size + 1, 2, none⟩) (by dsimp only; omega) _).setCell (p := ⟨w.heap.size + 1, 3, none⟩) (by dsimp only; omega) _).setCell (p := ⟨w.heap.size + 1, 4, none⟩) (by dsimp only; omega) _).setCell (p := ⟨w.heap.size + 1, 5, none⟩) (by dsimp only; omega) _)
      clear HC HT
      go_wp2_with fail
      obtain ⟨wz, hwz⟩ : ∃ wz, wz = ((((((wr.setCell ⟨w.heap.size + 1, 0, none⟩ (.int .i64 k)).setCell ⟨w.heap.size + 1, 1, none⟩ (.int .u64 (s.a : Int))).setCell ⟨w.heap.size + 1, 2, none⟩ (.int .u64 (s.b : Int))).setCell ⟨w.heap.size + 1, 3, none⟩ (.int .u64 (s.c : Int))).setCell ⟨w.heap.size + 1, 4, none⟩ (.int .u64 (s.d : Int))).setCell ⟨w.heap.size + 1, 5, none⟩ (.slice A5 ks.length c5)) := ⟨_, rfl⟩
      have hz := HZ.out
      have hzb := HZB.out
      have hzs := HZS.out
      have hzt := HZT.out
      rw [← hwz] at hz hzb hzs hzt ⊢
      have z0 : wz.cell? ⟨w.heap.size + 1, 0, none⟩ = some (.int .i64 k) := hz.cell 0
      have z1 : wz.cell? ⟨w.heap.size + 1, 1, none⟩ = some (.int .u64 (s.a : Int)) := hz.cell 1
      have z2 : wz.cell? ⟨w.heap.size + 1, 2, none⟩ = some (.int .u64 (s.b : Int)) := hz.cell 2
      have z3 : wz.cell? ⟨w.heap.size + 1, 3, none⟩ = some (.int .u64 (s.c : Int)) := hz.cell 3
      have z4 : wz.cell? ⟨w.heap.size + 1, 4, none⟩ = some (.int .u64 (s.d : Int)) := hz.cell 4
      have z5 : wz.cell? ⟨w.heap.size + 1, 5, none⟩ = some (.slice A5 ks.length c5) := hz.cell 5
      refine bodyPost_ret (v := .agg #[.int .i64 k, .int .u64 (s.a : Int), .int .u64 (s.b : Int), .int .u64 (s.c : Int), .int .u64 (s.d : Int), .slice A5 ks.length c5]) (by simp [results, Try.results66, go_sem, z0, z1, z2, z3, z4, z5]) rfl ⟨k, s.a, s.b, s.c, s.d, A5, ks.length, c5, rfl, hzt.weak fun b hb => ⟨hb.1, by rw [hzs]; exact hb.2.1⟩, hzb⟩
theorem copy_any : ∀ d, CpOk 66 d
  | 0 => fun r cs B w h => h.elim
  | d + 1 => copy_step d (copy_any d)
end Go.Proofs.Ytkdcgkdbieeijaa
