/- Walks: wickref.spans, the plain kinds. -/
import Derived.Test.YtckinkapbfaceaaTab
import Derived.Test.YtckinkapbfaceaaSp
import Derived.Test.YtckinkapbfaceaaCodB
import Derived.Deep.RegionLaw
namespace Go.Proofs.Ytckinkapbfaceaa
open Go.RowKit
set_option linter.unusedVariables false
set_option linter.unusedSimpArgs false

/-- the table holds the spans -/
def SpT (s : List UInt8) (q : Re) (T : Nat → Nat → Bool) : Prop := ∀ i j, i ≤ s.length → j ≤ s.length → (T i j = true ↔ Sp s q i j)
def SpansRes (s : ByteArray) (q : Re) (w : World) (e : Ending) (w' : World) : Prop :=
  ∃ g T, e = .returned (.slice (some ⟨g, 0, none⟩) (s.size + 1) (s.size + 1)) ∧ Tab w' g (s.size + 1) T ∧ w.heap.size ≤ g ∧ Below w.heap.size w w' ∧ SpT s.data.toList q T
def SpansOk (s : ByteArray) (q : Re) : Prop := ∀ (cs : List Value) (D : Nat) (w : World), ReC w D q cs → D ≤ w.heap.size → Calls Try.prog 57 #[.agg cs.toArray, .string s] w (SpansRes s q w)
/-- under way: the table, the box of the argument -/
structure SpI (w : World) (box : Array Value) (g N : Nat) (w1 : World) (T : Nat → Nat → Bool) : Prop where
  tab : Tab w1 g N T
  below : Below w.heap.size w w1
  blk : Blk w1 w.heap.size 27 box
  gt : w.heap.size < g
  big : g + N < w1.heap.size
section
variable {w w1 w2 : World} {box : Array Value} {g N : Nat} {T : Nat → Nat → Bool}
theorem SpI.set_ (h : SpI w box g N w1 T) {i j : Nat} (hi : i < N) (hj : j < N) (v : Bool) : SpI w box g N (w1.setCell ⟨g + 1 + i, j, none⟩ (.bool v)) (upd T i j v) :=
  ⟨h.tab.set_ hi hj v, h.below.setCell (p := ⟨g + 1 + i, j, none⟩) (by have := h.gt; show w.heap.size ≤ g + 1 + i; omega) _, h.blk.far (by have := h.gt; show w.heap.size ≠ g + 1 + i; omega) _, h.gt, by simpa [World.setCell] using h.big⟩
theorem SpI.congr {T' : Nat → Nat → Bool} (h : SpI w box g N w1 T) (e : ∀ i j, i < N → j < N → T i j = T' i j) : SpI w box g N w1 T' := ⟨h.tab.congr e, h.below, h.blk, h.gt, h.big⟩
theorem SpI.call (h : SpI w box g N w1 T) (hN : 0 < N) (hb : Below w1.heap.size w1 w2) : SpI w box g N w2 T :=
  ⟨h.tab.kept hN hb, h.below.trans (hb.mono h.below.size), h.blk.below hb h.blk.lt, h.gt, Nat.lt_of_lt_of_le h.big hb.size⟩
theorem SpI.drew (h : SpI w box g N w1 T) : SpI w box g N w1.drew T := ⟨h.tab.drew, h.below.drew, h.blk.drew, h.gt, h.big⟩
theorem Tab.far (h : Tab w g N T) {p : Addr} (hp : p.block < g) (v : Value) : Tab (w.setCell p v) g N T :=
  ⟨fun i hi => by rw [World.cell?_setCell_other _ _ _ _ (by intro h; subst h; exact absurd hp (by show ¬ g < g; omega))]; exact h.top i hi, fun i hi => (h.row i hi).far (by omega) v⟩
end
/-- the beginning: the box, the empty table -/
theorem spans_pre (w : World) (box : Array Value) (s : ByteArray) (hs : s.size ≤ 60) :
    ∃ g, w.heap.size < g ∧ Calls Try.prog 52 #[.int .i64 (s.size : Int)] (w.alloc (.cells box 27)) fun e w1 => e = .returned (.slice (some ⟨g, 0, none⟩) (s.size + 1) (s.size + 1)) ∧ SpI w box g (s.size + 1) w1 (fun _ _ => false) := by
  refine ⟨(w.alloc (.cells box 27)).heap.size, by simp, (blank_any s.size (by omega) _).mono fun e w1 ⟨h1, h2, h3, h4⟩ => ⟨h1, h2, ?_, ?_, by simp, by omega⟩⟩
  · exact ((Below.refl _ _).alloc (Nat.le_refl _) _).trans (h3.mono (by simp))
  · exact (Blk.new _ _ _).below h3 (by simp)
theorem upd_if {T : Nat → Nat → Bool} {i j a b : Nat} {v : Bool} : upd T i j v a b = if a = i ∧ b = j then v else T a b := by
  unfold upd
  by_cases h : a = i
  · by_cases k : b = j
    · rw [if_pos h, if_pos k, if_pos ⟨h, k⟩]
    · rw [if_pos h, if_neg k, if_neg (fun x => k x.2)]
  · rw [if_neg h, if_neg (fun x => h x.1)]

section
variable (s : ByteArray) (w : World) (A : Option Addr) (c : Nat)
set_option maxRecDepth 100000 in
set_option maxHeartbeats 2000000 in
theorem spans_none (hs : s.size ≤ 60) :
    Calls Try.prog 57 #[.agg #[.int .i64 1, .int .u64 0, .int .u64 0, .int .u64 0, .int .u64 0, .slice A 0 c], .string s] w (SpansRes s .none w) := by
  obtain ⟨g, hg, CB⟩ := spans_pre w #[.int .i64 1, .int .u64 0, .int .u64 0, .int .u64 0, .int .u64 0, .slice A 0 c] s hs
  have CB := Lib.hid CB
  go_enter Try.func57, Try.ntmps57
  go_wp2_with fail
  refine CB.out.mono ?_
  rintro e w1 ⟨rfl, hI⟩
  have HI := Lib.hid hI
  have k0 : w1.cell? ⟨w.heap.size, 0, none⟩ = some (.int .i64 1) := hI.blk.cell 0
  clear hI CB
  go_wp2_with fail
  go_ret
  exact ⟨g, _, rfl, HI.out.tab, by omega, HI.out.below, fun i j _ _ => ⟨fun h => (by cases h), fun h => h.elim⟩⟩
set_option maxRecDepth 100000 in
set_option maxHeartbeats 2000000 in
theorem spans_beg (hs : s.size ≤ 60) :
    Calls Try.prog 57 #[.agg #[.int .i64 7, .int .u64 0, .int .u64 0, .int .u64 0, .int .u64 0, .slice A 0 c], .string s] w (SpansRes s .beg w) := by
  obtain ⟨g, hg, CB⟩ := spans_pre w #[.int .i64 7, .int .u64 0, .int .u64 0, .int .u64 0, .int .u64 0, .slice A 0 c] s hs
  have CB := Lib.hid CB
  go_enter Try.func57, Try.ntmps57
  go_wp2_with fail
  refine CB.out.mono ?_
  rintro e w1 ⟨rfl, hI⟩
  have HI := Lib.hid hI
  have k0 : w1.cell? ⟨w.heap.size, 0, none⟩ = some (.int .i64 7) := hI.blk.cell 0
  obtain ⟨x0, x1, x2⟩ := hI.tab.facts (i := 0) (j := 0) (by omega) (by omega)
  have HN := Lib.hid (hI.set_ (i := 0) (j := 0) (by omega) (by omega) true)
  clear hI CB
  go_wp2_with fail
  go_ret
  exact ⟨g, _, rfl, HN.out.tab, by omega, HN.out.below, fun i j _ _ => by
    rw [upd_if]
    by_cases h : i = 0 ∧ j = 0
    · rw [if_pos h]; exact ⟨fun _ => h, fun _ => rfl⟩
    · rw [if_neg h]; exact ⟨fun h => (by cases h), fun k => absurd k h⟩⟩
set_option maxRecDepth 100000 in
set_option maxHeartbeats 2000000 in
theorem spans_fin (hs : s.size ≤ 60) :
    Calls Try.prog 57 #[.agg #[.int .i64 8, .int .u64 0, .int .u64 0, .int .u64 0, .int .u64 0, .slice A 0 c], .string s] w (SpansRes s .fin w) := by
  obtain ⟨g, hg, CB⟩ := spans_pre w #[.int .i64 8, .int .u64 0, .int .u64 0, .int .u64 0, .int .u64 0, .slice A 0 c] s hs
  have CB := Lib.hid CB
  go_enter Try.func57, Try.ntmps57
  go_wp2_with fail
  refine CB.out.mono ?_
  rintro e w1 ⟨rfl, hI⟩
  have HI := Lib.hid hI
  have k0 : w1.cell? ⟨w.heap.size, 0, none⟩ = some (.int .i64 8) := hI.blk.cell 0
  obtain ⟨x0, x1, x2⟩ := hI.tab.facts (i := s.size) (j := s.size) (by omega) (by omega)
  have HN := Lib.hid (hI.set_ (i := s.size) (j := s.size) (by omega) (by omega) true)
  clear hI CB
  go_wp2_with fail
  go_ret
  exact ⟨g, _, rfl, HN.out.tab, by omega, HN.out.below, fun i j _ _ => by
    rw [upd_if]
    by_cases h : i = s.size ∧ j = s.size
    · rw [if_pos h]; exact ⟨fun _ => by rw [← lst_len] at h; exact h, fun _ => rfl⟩
    · rw [if_neg h]; exact ⟨fun h => (by cases h), fun k => absurd k (by rw [← lst_len] at h; exact h)⟩⟩
set_option maxRecDepth 100000 in
set_option maxHeartbeats 2000000 in
theorem spans_empty (hs : s.size ≤ 60) :
    Calls Try.prog 57 #[.agg #[.int .i64 2, .int .u64 0, .int .u64 0, .int .u64 0, .int .u64 0, .slice A 0 c], .string s] w (SpansRes s .empty w) := by
  obtain ⟨g, hg, CB⟩ := spans_pre w #[.int .i64 2, .int .u64 0, .int .u64 0, .int .u64 0, .int .u64 0, .slice A 0 c] s hs
  have CB := Lib.hid CB
  go_enter Try.func57, Try.ntmps57
  go_wp2_with fail
  refine CB.out.mono ?_
  rintro e w1 ⟨rfl, hI⟩
  have HI := Lib.hid (hI.congr (T' := fun i j => decide (i = j ∧ i < 0)) fun i j _ _ => by simp)
  have k0 : w1.cell? ⟨w.heap.size, 0, none⟩ = some (.int .i64 2) := hI.blk.cell 0
  clear hI CB
  go_wp2_with fail
  go_loopw [7] (fun i wr => ∃ k : Nat, k ≤ s.size + 1 ∧ i = .int .i64 k ∧ SpI w #[.int .i64 2, .int .u64 0, .int .u64 0, .int .u64 0, .int .u64 0, .slice A 0 c] g (s.size + 1) wr (fun i j => decide (i = j ∧ i < k))) (fun i _ => s.size + 1 - (intOf i).toNat)
  case atStart => exact ⟨0, by omega, rfl, HI.out⟩
  case round =>
    obtain ⟨k, hk, rfl, hI⟩ := hrel
    have HI2 := Lib.hid hI
    by_cases hlt : k < s.size + 1
    · have i1 : (k : Int) ≤ (s.size : Int) := by omega
      have i2 : (k : Int) < (s.size : Int) + 1 := by omega
      obtain ⟨x0, x1, x2⟩ := hI.tab.facts (i := k) (j := k) hlt hlt
      have HN := Lib.hid ((hI.set_ hlt hlt true).congr (T' := fun i j => decide (i = j ∧ i < k + 1)) fun i j _ _ => by
        rw [upd_if]
        by_cases h : i = k ∧ j = k
        · rw [if_pos h, decide_eq_true (by omega)]
        · rw [if_neg h]; rw [Bool.eq_iff_iff, decide_eq_true_eq, decide_eq_true_eq]; omega)
      clear hI
      go_wp2_with fail
      go_roundw
      case rel => exact ⟨k + 1, by omega, by go_num, HN.out⟩
      case measure => simp [intOf]; omega
    · obtain rfl : k = s.size + 1 := by omega
      clear hI
      go_wp2_with fail
      go_ret
      exact ⟨g, _, rfl, HI2.out.tab, by omega, HI2.out.below, fun i j hi _ => by
        rw [decide_eq_true_eq]
        rw [lst_len] at hi
        exact ⟨fun ⟨h, _⟩ => ⟨h, by rw [lst_len]; omega⟩, fun ⟨h, _⟩ => ⟨h, by omega⟩⟩⟩
end
end Go.Proofs.Ytckinkapbfaceaa
