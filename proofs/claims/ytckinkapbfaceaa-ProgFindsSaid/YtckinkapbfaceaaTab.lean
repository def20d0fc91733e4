/- Tables of bools: rows in blocks one behind the other. Walk: wickref.blank. -/
import Derived.Test.YtckinkapbfaceaaBoR
import Derived.LoopTactic
import Derived.Lib.Hide
namespace Go.Proofs.Ytckinkapbfaceaa
open Go.RowKit
set_option linter.unusedVariables false
set_option linter.unusedSimpArgs false

theorem infoRow : (Try.prog.info? 100).map (fun i => (i.zero, i.size, i.bytes)) = some (some (.slice none 0 0), 1, 24) := by kernel_rfl
/-- the slice in block g of N rows (the blocks behind it) holds the table T -/
structure Tab (w : World) (g N : Nat) (T : Nat → Nat → Bool) : Prop where
  top : ∀ i, i < N → w.cell? ⟨g, i, none⟩ = some (.slice (some ⟨g + 1 + i, 0, none⟩) N N)
  row : ∀ i, i < N → BoR w (g + 1 + i) N (T i)
/-- what may have changed: the blocks from lo to hi -/
structure KeptR (w w' : World) (lo hi : Nat) : Prop where
  os : w'.os = w.os
  tape : w'.tape = w.tape
  output : w'.output = w.output
  size : w.heap.size ≤ w'.heap.size
  block : ∀ k, k < w.heap.size → (k < lo ∨ hi < k) → w'.heap[k]? = w.heap[k]?
def upd (T : Nat → Nat → Bool) (i j : Nat) (v : Bool) : Nat → Nat → Bool := fun a b => if a = i then (if b = j then v else T a b) else T a b
theorem upd_same (T : Nat → Nat → Bool) (i j : Nat) (v : Bool) : upd T i j v i j = v := by unfold upd; rw [if_pos rfl, if_pos rfl]
theorem upd_other {T : Nat → Nat → Bool} {i j a b : Nat} (v : Bool) (h : ¬ (a = i ∧ b = j)) : upd T i j v a b = T a b := by
  unfold upd
  by_cases e : a = i
  · rw [if_pos e, if_neg (fun k => h ⟨e, k⟩)]
  · rw [if_neg e]
section
variable {w w' w2 : World} {g N lo hi : Nat} {T T' : Nat → Nat → Bool}
theorem KeptR.refl : KeptR w w lo hi := ⟨rfl, rfl, rfl, Nat.le_refl _, fun _ _ _ => rfl⟩
theorem KeptR.set_ (h : KeptR w w' lo hi) {p : Addr} (hl : lo ≤ p.block) (hh : p.block ≤ hi) (u : Value) : KeptR w (w'.setCell p u) lo hi :=
  ⟨h.os, h.tape, h.output, by simpa [World.setCell] using h.size, fun k hk hne => (Below.heap_setCell _ _ _ _ (by omega)).trans (h.block k hk hne)⟩
theorem KeptR.drew (h : KeptR w w' lo hi) : KeptR w w'.drew lo hi := ⟨h.os, h.tape, h.output, h.size, h.block⟩
theorem KeptR.drewN (h : KeptR w w' lo hi) (n : Nat) : KeptR w (w'.drewN n) lo hi := ⟨h.os, h.tape, h.output, h.size, h.block⟩
theorem KeptR.call (h : KeptR w w' lo hi) (hb : Below w'.heap.size w' w2) : KeptR w w2 lo hi :=
  ⟨hb.os.trans h.os, hb.tape.trans h.tape, hb.output.trans h.output, Nat.le_trans h.size hb.size, fun k hk hne => (hb.block k (Nat.lt_of_lt_of_le hk h.size)).trans (h.block k hk hne)⟩
theorem KeptR.below (h : KeptR w w' lo hi) {B : Nat} (hB : B ≤ lo) (hw : B ≤ w.heap.size) : Below B w w' := ⟨h.os, h.tape, h.output, h.size, fun k hk => h.block k (by omega) (.inl (by omega))⟩
theorem KeptR.cell (h : KeptR w w' lo hi) {p : Addr} (hp : p.block < lo ∨ hi < p.block) (hw : p.block < w.heap.size) : w'.cell? p = w.cell? p := World.cell?_of_block (h.block _ hw hp)
theorem BoR.keptR {b : Nat} {f : Nat → Bool} (h : BoR w b N f) (hk : KeptR w w' lo hi) (hne : b < lo ∨ hi < b) : BoR w' b N f := by
  have e := hk.block b h.lt hne
  exact ⟨Nat.lt_of_lt_of_le h.lt hk.size, fun i hi => (World.cell?_of_block (a := ⟨b, i, none⟩) e).trans (h.cell i hi), fun i hi => (World.frozen?_of_block (a := ⟨b, i, none⟩) e).trans (h.frozen i hi)⟩
theorem Tab.lt (h : Tab w g N T) (hN : 0 < N) : g + N < w.heap.size := by have := (h.row (N - 1) (by omega)).lt; omega
theorem Tab.congr (h : Tab w g N T) (e : ∀ i j, i < N → j < N → T i j = T' i j) : Tab w g N T' := ⟨h.top, fun i hi => (h.row i hi).congr fun j hj => e i j hi hj⟩
theorem Tab.kept (h : Tab w g N T) (hN : 0 < N) (hb : Below w.heap.size w w') : Tab w' g N T :=
  ⟨fun i hi => (hb.cell (p := ⟨g, i, none⟩) (by have := h.lt hN; show g < _; omega)).trans (h.top i hi), fun i hi => (h.row i hi).kept hb⟩
theorem Tab.drew (h : Tab w g N T) : Tab w.drew g N T := ⟨h.top, fun i hi => (h.row i hi).drew⟩
theorem Tab.drewN (h : Tab w g N T) (n : Nat) : Tab (w.drewN n) g N T := ⟨h.top, fun i hi => (h.row i hi).drewN n⟩
theorem Tab.keptR (h : Tab w g N T) (hN : 0 < N) (hk : KeptR w w' lo hi) (hne : hi < g) : Tab w' g N T :=
  ⟨fun i hi => (hk.cell (p := ⟨g, i, none⟩) (.inr hne) (by have := h.lt hN; show g < _; omega)).trans (h.top i hi), fun i hi => (h.row i hi).keptR hk (.inr (by omega))⟩
theorem Tab.set_ (h : Tab w g N T) {i j : Nat} (hi : i < N) (hj : j < N) (v : Bool) : Tab (w.setCell ⟨g + 1 + i, j, none⟩ (.bool v)) g N (upd T i j v) := by
  refine ⟨fun a ha => ?_, fun a ha => ?_⟩
  · rw [World.cell?_setCell_other _ _ _ _ (by intro h; injection h; omega)]; exact h.top a ha
  · by_cases e : a = i
    · subst e
      exact ((h.row a ha).set_ hj v).congr fun b _ => by unfold upd; rw [if_pos rfl]
    · exact ((h.row a ha).far (p := ⟨g + 1 + i, j, none⟩) (by show g + 1 + i ≠ g + 1 + a; omega) _).congr fun b _ => by unfold upd; rw [if_neg e]
/-- its cell's facts -/
theorem Tab.facts (h : Tab w g N T) {i j : Nat} (hi : i < N) (hj : j < N) : w.cell? ⟨g, i, none⟩ = some (.slice (some ⟨g + 1 + i, 0, none⟩) N N) ∧ w.cell? ⟨g + 1 + i, j, none⟩ = some (.bool (T i j)) ∧ w.frozen? ⟨g + 1 + i, j, none⟩ = false :=
  ⟨h.top i hi, (h.row i hi).cell j hj, (h.row i hi).frozen j hj⟩
end
theorem make_rows (n : Nat) (hN : n + 1 ≤ 1000000) (w : World) : (Instr.makeSlice 101 (.int .i64 ((n : Int) + 1)) (.int .i64 ((n : Int) + 1))).run Try.prog w = .ok (.slice (some ⟨w.heap.size, 0, none⟩) (n + 1) (n + 1)) (w.alloc (.cells (madeCells #[.slice none 0 0] (n + 1)) 100)) := by
  have := run_make_row' (P := Try.prog) 101 100 (.slice none 0 0) 24 Try.underlying101 infoRow rfl .i64 .i64 (n + 1) (by omega) (by omega) w
  rwa [show (((n + 1 : Nat) : Int)) = (n : Int) + 1 by omega] at this

/-- blank under way: k rows are made -/
structure Blank (w wr : World) (N k : Nat) : Prop where
  size : wr.heap.size = w.heap.size + 1 + k
  below : Below w.heap.size w wr
  top : ∀ i, i < k → wr.cell? ⟨w.heap.size, i, none⟩ = some (.slice (some ⟨w.heap.size + 1 + i, 0, none⟩) N N)
  rest : ∀ i, k ≤ i → i < N → wr.cell? ⟨w.heap.size, i, none⟩ = some (.slice none 0 0)
  frozen : ∀ i, i < N → wr.frozen? ⟨w.heap.size, i, none⟩ = false
  row : ∀ i, i < k → BoR wr (w.heap.size + 1 + i) N (fun _ => false)
theorem Blank.start (w : World) (N : Nat) : Blank w (w.alloc (.cells (madeCells #[.slice none 0 0] N) 100)) N 0 := by
  have h := World.rowIs_made w (.slice none 0 0) N 100
  exact ⟨by simp, (Below.refl _ _).alloc (Nat.le_refl _) _, fun i hi => absurd hi (by omega), fun i _ hi => h.cell hi, fun i _ => h.frozen i, fun i hi => absurd hi (by omega)⟩
theorem Blank.step {w wr : World} {N k : Nat} (h : Blank w wr N k) (hk : k < N) :
    Blank w ((wr.alloc (.cells (madeCells #[.bool false] N) 4)).setCell ⟨w.heap.size, k, none⟩ (.slice (some ⟨wr.heap.size, 0, none⟩) N N)) N (k + 1) := by
  have hsz := h.size
  have hlt : w.heap.size < wr.heap.size := by omega
  have hc : ∀ i, (wr.alloc (.cells (madeCells #[.bool false] N) 4)).cell? ⟨w.heap.size, i, none⟩ = wr.cell? ⟨w.heap.size, i, none⟩ := fun i => World.cell?_alloc_lt wr _ ⟨w.heap.size, i, none⟩ hlt
  refine ⟨by simp [World.setCell]; omega, (h.below.alloc (by omega) _).setCell (p := ⟨w.heap.size, k, none⟩) (Nat.le_refl _) _, fun i hi => ?_, fun i hi1 hi2 => ?_, fun i hi => ?_, fun i hi => ?_⟩
  · by_cases e : i = k
    · subst e
      rw [← hsz]
      exact World.cell?_setCell_same _ _ _ (by rw [hc]; exact h.rest i (Nat.le_refl _) hk)
    · rw [World.cell?_setCell_other _ _ _ _ (by intro h; injection h; omega), hc]; exact h.top i (by omega)
  · rw [World.cell?_setCell_other _ _ _ _ (by intro h; injection h; omega), hc]; exact h.rest i (by omega) hi2
  · rw [World.frozen?_setCell]
    have hb : Below wr.heap.size wr (wr.alloc (.cells (madeCells #[.bool false] N) 4)) := (Below.refl _ _).alloc (Nat.le_refl _) _
    rw [hb.frozen (p := ⟨w.heap.size, i, none⟩) hlt]; exact h.frozen i hi
  · refine BoR.far ?_ (by show w.heap.size ≠ _; omega) _
    by_cases e : i = k
    · subst e; rw [← hsz]; exact BoR.made _ _
    · exact (h.row i (by omega)).alloc _

set_option maxHeartbeats 1000000 in
theorem blank_any (n : Nat) (hn : n ≤ 1000) (w : World) :
    Calls Try.prog 52 #[.int .i64 (n : Int)] w fun e w' => e = .returned (.slice (some ⟨w.heap.size, 0, none⟩) (n + 1) (n + 1)) ∧ Tab w' w.heap.size (n + 1) (fun _ _ => false) ∧ Below w.heap.size w w' ∧ w'.heap.size = w.heap.size + 1 + (n + 1) := by
  have hmk := make_rows n (by omega)
  have hmk2 := make_bools' n (by omega)
  have HS := Lib.hid (Blank.start w (n + 1))
  go_enter Try.func52, Try.ntmps52
  go_wp2
  go_loopw [4] (fun i wr => ∃ k : Nat, k ≤ n + 1 ∧ i = .int .i64 k ∧ Blank w wr (n + 1) k) (fun i _ => n + 1 - (intOf i).toNat)
  case atStart => exact ⟨0, by omega, rfl, HS.out⟩
  case round =>
    obtain ⟨k, hk, rfl, hB⟩ := hrel
    have HB := Lib.hid hB
    by_cases hlt : k < n + 1
    · have y0 := hB.rest k (Nat.le_refl _) hlt
      have y1 := hB.frozen k hlt
      have i1 : (k : Int) ≤ (n : Int) := by omega
      have i2 : (k : Int) < (n : Int) + 1 := by omega
      have hwl : w.heap.size < wr.heap.size := by rw [hB.size]; omega
      have hN := hB.step hlt
      rw [World.setCell_alloc_past _ _ _ _ hwl] at hN
      have HN := Lib.hid hN
      clear hN
      clear hB
      go_wp2
      go_roundw
      case rel => exact ⟨k + 1, by omega, by go_num, HN.out⟩
      case measure => simp [intOf]; omega
    · obtain rfl : k = n + 1 := by omega
      clear hB
      go_wp2
      go_ret
      exact ⟨rfl, ⟨HB.out.top, HB.out.row⟩, HB.out.below, HB.out.size⟩
end Go.Proofs.Ytckinkapbfaceaa
