/- Running instructions (P20), plainly: what the reference keeps; its table and rows in memory. -/
import Derived.Test.YtckinkapbfaceaaPrgB
import Derived.Test.YtckinkapbfaceaaPrgE
import Derived.Test.YtckinkapbfaceaaSpnE
namespace Go.Proofs.Ytckinkapbfaceaa
open Go.RowKit
set_option linter.unusedVariables false
set_option linter.unusedSimpArgs false

/-- where the place a begins: at the start, or behind a byte -/
def Ent (l : List In) (s : List UInt8) (i a p : Nat) : Prop := (a = i ∧ p = 0) ∨ ∃ b p', a = b + 1 ∧ Rch l s i b p' ∧ Byt l s b p' p
structure HrSt (l : List In) (s : List UInt8) (i a : Nat) (H : Nat → Bool) : Prop where
  sound : ∀ p, p < l.length → H p = true → Rch l s i a p
  ent : ∀ p, p < l.length → Ent l s i a p → H p = true
def CloB (l : List In) (m a : Nat) (H : Nat → Bool) : Prop := ∀ p q, p < l.length → H p = true → Eps l m a p q → H q = true
def upB (H : Nat → Bool) (q : Nat) : Nat → Bool := fun j => if j = q then true else H j
theorem upB_same (H : Nat → Bool) (q : Nat) : upB H q q = true := if_pos rfl
theorem upB_mono {H : Nat → Bool} {q p : Nat} (h : H p = true) : upB H q p = true := by unfold upB; split <;> simp_all
theorem upB_id {H : Nat → Bool} {q : Nat} (h : H q = true) (p : Nat) : upB H q p = H p := by
  unfold upB
  by_cases e : p = q
  · subst e; rw [if_pos rfl, h]
  · rw [if_neg e]
section
variable {l : List In} {s : List UInt8} {i a k : Nat} {H H0 X : Nat → Bool} {M : Bool}
theorem HrSt.all (hr : RightP l) (h0 : 0 < l.length) (h : HrSt l s i a H) (hc : CloB l s.length a H) (p : Nat) (hp : p < l.length) : H p = true ↔ Rch l s i a p := by
  refine ⟨h.sound p hp, fun hR => ?_⟩
  have key : ∀ b p, Rch l s i b p → b = a → H p = true := by
    intro b p hR
    induction hR with
    | start => intro hb; exact h.ent 0 h0 (.inl ⟨hb.symm, rfl⟩)
    | @eps b' p' q' hR' e' ih => intro hb; subst hb; exact hc p' q' (hR'.lt hr h0) (ih rfl) e'
    | byt hR e _ => intro hb; exact h.ent _ (byt_lt hr e) (.inr ⟨_, _, hb.symm, hR, e⟩)
  exact key a p hR rfl
theorem HrSt.start (l : List In) (s : List UInt8) (i : Nat) (h0 : 0 < l.length) : HrSt l s i i (upB (fun _ => false) 0) := by
  refine ⟨fun p _ h => ?_, fun p _ h => ?_⟩
  · have e : p = 0 := by
      unfold upB at h
      by_cases e : p = 0
      · exact e
      · rw [if_neg e] at h; cases h
    subst e; exact .start
  · rcases h with ⟨_, rfl⟩ | ⟨b, p', e, hR, hb⟩
    · exact upB_same _ _
    · have := hR.le; omega
/-- a pass: k instructions are seen to; M: something was new -/
structure PaSt (l : List In) (s : List UInt8) (i a : Nat) (H0 H : Nat → Bool) (k : Nat) (M : Bool) : Prop where
  st : HrSt l s i a H
  no : M = false → (∀ p, p < l.length → H p = H0 p) ∧ ∀ p q, p < k → H p = true → Eps l s.length a p q → H q = true
  yes : M = true → cntF H l.length < cntF H0 l.length
theorem PaSt.start (h : HrSt l s i a H) : PaSt l s i a H H 0 false := ⟨h, fun _ => ⟨fun _ _ => rfl, fun p q h => absurd h (by omega)⟩, fun h => (by cases h)⟩
theorem PaSt.le (h : PaSt l s i a H0 H k M) : cntF H l.length ≤ cntF H0 l.length := by
  cases M with
  | true => exact Nat.le_of_lt (h.yes rfl)
  | false => exact cntF_le fun j hj h2 => by rw [(h.no rfl).1 j hj]; exact h2
theorem PaSt.go {p q : Nat} (hr : RightP l) (h : PaSt l s i a H0 H k M) (hp : p < l.length) (hH : H p = true) (e : Eps l s.length a p q) : PaSt l s i a H0 (upB H q) k (M || !H q) := by
  have hq := eps_lt hr e
  refine ⟨⟨fun t ht h2 => ?_, fun t ht h2 => upB_mono (h.st.ent t ht h2)⟩, fun h2 => ?_, fun h2 => ?_⟩
  · by_cases et : t = q
    · subst et; exact (h.st.sound p hp hH).eps e
    · unfold upB at h2; rw [if_neg et] at h2; exact h.st.sound t ht h2
  · rw [Bool.or_eq_false_iff] at h2
    have hq1 : H q = true := by
      cases hh : H q with
      | true => rfl
      | false => rw [hh] at h2; cases h2.2
    obtain ⟨h3, h4⟩ := h.no h2.1
    refine ⟨fun t ht => by rw [upB_id hq1]; exact h3 t ht, fun t u ht h5 h6 => ?_⟩
    rw [upB_id hq1] at h5 ⊢
    exact h4 t u ht h5 h6
  · cases hh : H q with
    | true =>
      rw [hh] at h2
      have hM : M = true := by cases M <;> simp_all
      refine Nat.lt_of_le_of_lt (cntF_le fun j hj h3 => upB_mono h3) (h.yes hM)
    | false => exact Nat.lt_of_lt_of_le (cntF_lt q (fun j _ h3 => upB_mono h3) hq hh (upB_same _ _)) h.le
theorem PaSt.next (h : PaSt l s i a H0 H k M) (hk : ∀ q, H k = true → Eps l s.length a k q → H q = true) : PaSt l s i a H0 H (k + 1) M := by
  refine ⟨h.st, fun h2 => ⟨(h.no h2).1, fun p q hp h3 h4 => ?_⟩, h.yes⟩
  by_cases e : p = k
  · subst e; exact hk q h3 h4
  · exact (h.no h2).2 p q (by omega) h3 h4
theorem PaSt.done (h : PaSt l s i a H0 H l.length false) : CloB l s.length a H := fun p q hp => (h.no rfl).2 p q hp
/-- the next place: k instructions are seen to; b: one has matched -/
structure NeSt (l : List In) (s : List UInt8) (i a : Nat) (H X : Nat → Bool) (k : Nat) (b : Bool) : Prop where
  nx : ∀ q, q < l.length → (X q = true ↔ ∃ p, p < k ∧ H p = true ∧ Byt l s a p q)
  hit : b = true ↔ ∃ p, p < k ∧ H p = true ∧ Mat l p
variable {b : Bool}
theorem NeSt.start : NeSt l s i a H (fun _ => false) 0 false :=
  ⟨fun q _ => ⟨fun h => (by cases h), fun ⟨p, h, _⟩ => absurd h (by omega)⟩, fun h => (by cases h), fun ⟨p, h, _⟩ => absurd h (by omega)⟩
theorem ex_next {P : Nat → Prop} {k : Nat} (h : ¬ P k) : (∃ p, p < k + 1 ∧ P p) ↔ ∃ p, p < k ∧ P p :=
  ⟨fun ⟨p, h1, h2⟩ => ⟨p, by rcases Nat.lt_succ_iff_lt_or_eq.1 h1 with h3 | h3; exact h3; subst h3; exact absurd h2 h, h2⟩, fun ⟨p, h1, h2⟩ => ⟨p, by omega, h2⟩⟩
theorem NeSt.next (h : NeSt l s i a H X k b) (h1 : H k = true → ¬ Mat l k) (h2 : H k = true → ∀ q, ¬ Byt l s a k q) : NeSt l s i a H X (k + 1) b := by
  refine ⟨fun q hq => ?_, ?_⟩
  · rw [ex_next fun ⟨h3, h4⟩ => h2 h3 q h4]; exact h.nx q hq
  · rw [ex_next fun ⟨h3, h4⟩ => h1 h3 h4]; exact h.hit
theorem NeSt.match_ (h : NeSt l s i a H X k b) (hH : H k = true) (h1 : Mat l k) (h2 : ∀ q, ¬ Byt l s a k q) : NeSt l s i a H X (k + 1) true := by
  refine ⟨fun q hq => ?_, fun _ => ⟨k, by omega, hH, h1⟩, fun _ => rfl⟩
  rw [ex_next fun ⟨_, h4⟩ => h2 q h4]; exact h.nx q hq
theorem NeSt.byte (h : NeSt l s i a H X k b) (hH : H k = true) (h1 : ¬ Mat l k) (h2 : Byt l s a k (k + 1)) : NeSt l s i a H (upB X (k + 1)) (k + 1) b := by
  refine ⟨fun q hq => ?_, ?_⟩
  · by_cases e : q = k + 1
    · subst e; rw [upB_same]; exact ⟨fun _ => ⟨k, by omega, hH, h2⟩, fun _ => rfl⟩
    · have e2 : upB X (k + 1) q = X q := by unfold upB; rw [if_neg e]
      rw [e2, ex_next fun ⟨_, h4⟩ => e (by obtain ⟨_, _, _, _, h5⟩ := h4; exact h5)]; exact h.nx q hq
  · rw [ex_next fun ⟨_, h4⟩ => h1 h4]; exact h.hit
theorem NeSt.turn (hr : RightP l) (h0 : 0 < l.length) (hi : i ≤ a) (hA : ∀ p, p < l.length → (H p = true ↔ Rch l s i a p)) (h : NeSt l s i a H X l.length b) : HrSt l s i (a + 1) X := by
  refine ⟨fun q hq hx => ?_, fun q hq he => ?_⟩
  · obtain ⟨p, h1, h2, h3⟩ := (h.nx q hq).1 hx
    exact ((hA p h1).1 h2).byt h3
  · rcases he with ⟨e, _⟩ | ⟨c, p, e, hR, hb⟩
    · omega
    · obtain rfl : a = c := Nat.succ.inj e
      have hp := hR.lt hr h0
      exact (h.nx q hq).2 ⟨p, hp, (hA p hp).2 hR, hb⟩
theorem NeSt.span (hr : RightP l) (h0 : 0 < l.length) (ha : a ≤ s.length) (hA : ∀ p, p < l.length → (H p = true ↔ Rch l s i a p)) (h : NeSt l s i a H X l.length b) : b = true ↔ SpanP l s i a := by
  rw [h.hit]
  unfold SpanP
  constructor
  · rintro ⟨p, h1, h2, h3⟩; exact ⟨ha, p, h3, (hA p h1).1 h2⟩
  · rintro ⟨_, p, h3, hR⟩
    have hp := hR.lt hr h0
    exact ⟨p, hp, (hA p hp).2 hR, h3⟩
end
/-- the table: rows ahead of i are done, row i up to a -/
structure RowsOk (l : List In) (s : List UInt8) (T : Nat → Nat → Bool) (i a : Nat) : Prop where
  old : ∀ i' j, i' < i → j ≤ s.length → (T i' j = true ↔ SpanP l s i' j)
  cur : ∀ j, j < a → j ≤ s.length → (T i j = true ↔ SpanP l s i j)
  non : ∀ i' j, i < i' → T i' j = false
  now : ∀ j, a ≤ j → T i j = false
section
variable {l : List In} {s : List UInt8} {T : Nat → Nat → Bool} {i a : Nat}
theorem RowsOk.start (l : List In) (s : List UInt8) : RowsOk l s (fun _ _ => false) 0 0 := ⟨fun _ _ h => absurd h (by omega), fun _ h => absurd h (by omega), fun _ _ _ => rfl, fun _ _ => rfl⟩
theorem RowsOk.enter (h : RowsOk l s T i 0) : RowsOk l s T i i :=
  ⟨h.old, fun j hj hs => ⟨fun h2 => (by rw [h.now j (by omega)] at h2; cases h2), fun h2 => absurd h2.le (by omega)⟩, h.non, fun j _ => h.now j (by omega)⟩
theorem RowsOk.hit (h : RowsOk l s T i a) {b : Bool} (hb : b = true ↔ SpanP l s i a) : RowsOk l s (upd T i a b) i (a + 1) := by
  refine ⟨fun i' j hi hj => ?_, fun j hj hs => ?_, fun i' j hi => ?_, fun j hj => ?_⟩
  · rw [upd_other b (by omega)]; exact h.old i' j hi hj
  · by_cases e : j = a
    · subst e; rw [upd_same]; exact hb
    · rw [upd_other b (by omega)]; exact h.cur j (by omega) hs
  · rw [upd_other b (by omega)]; exact h.non i' j hi
  · rw [upd_other b (by omega)]; exact h.now j (by omega)
theorem RowsOk.done (h : RowsOk l s T i a) (ha : s.length < a) : RowsOk l s T (i + 1) 0 := by
  refine ⟨fun i' j hi hj => ?_, fun j hj => absurd hj (by omega), fun i' j hi => h.non i' j (by omega), fun j _ => h.non _ j (by omega)⟩
  by_cases e : i' = i
  · subst e; exact h.cur j (by omega) hj
  · exact h.old i' j (by omega) hj
theorem FirstT.firstR {i j : Nat} {b : Bool} (h : FirstT T s.length i j b) (hT : ∀ i j, i ≤ s.length → j ≤ s.length → (T i j = true ↔ SpanP l s i j)) : FirstR (SpanP l s) i j b := by
  have hno : ∀ i' j', (i' ≤ j' → j' ≤ s.length → T i' j' = false) → ¬ SpanP l s i' j' := fun i' j' h hsp => by
    have hl := hsp.le
    have hl2 := hsp.1
    have := (hT i' j' (by omega) hl2).2 hsp
    rw [h hl hl2] at this; cases this
  rcases h with ⟨rfl, h1, h2, h3, h4, h5⟩ | ⟨rfl, rfl, rfl, h1⟩
  · refine .inl ⟨rfl, (hT i j (by omega) h2).1 h3, fun i' j' hi => hno i' j' (h4 i' j' hi), fun j' hsp => ?_⟩
    rcases Nat.lt_or_ge j j' with h | h
    · exact absurd hsp (hno i j' fun _ h6 => h5 j' h h6)
    · exact h
  · exact .inr ⟨rfl, rfl, rfl, fun i' j' => hno i' j' (h1 i' j')⟩
end
/-- what Runs keeps: the table in g, the box of here in gh, its row in hb -/
structure RnW (w wr : World) (g n gh hb N : Nat) (T : Nat → Nat → Bool) (H : Nat → Bool) : Prop where
  tab : Tab wr g (n + 1) T
  here : Blk wr gh 100 #[.slice (some ⟨hb, 0, none⟩) N N]
  row : BoR wr hb N H
  be : Below w.heap.size w wr
  o1 : w.heap.size ≤ g
  o2 : g + (n + 1) < gh
  o3 : g + (n + 1) < hb
  o4 : hb ≠ gh
section
variable {w wr w' : World} {g n gh hb N : Nat} {T : Nat → Nat → Bool} {H : Nat → Bool}
theorem Tab.farR {w : World} {g N : Nat} {T : Nat → Nat → Bool} (h : Tab w g N T) {p : Addr} (hp : g + N < p.block) (v : Value) : Tab (w.setCell p v) g N T :=
  ⟨fun i hi => by rw [World.cell?_setCell_other _ _ _ _ (by intro e; subst e; dsimp only at hp; omega)]; exact h.top i hi, fun i hi => (h.row i hi).far (by omega) v⟩
theorem RnW.kept (h : RnW w wr g n gh hb N T H) (hb' : Below wr.heap.size wr w') : RnW w w' g n gh hb N T H :=
  ⟨h.tab.kept (by omega) hb', h.here.below hb' h.here.lt, h.row.kept hb', h.be.trans (hb'.mono h.be.size), h.o1, h.o2, h.o3, h.o4⟩
theorem RnW.drewN (h : RnW w wr g n gh hb N T H) (q : Nat) : RnW w (wr.drewN q) g n gh hb N T H :=
  ⟨h.tab.drewN q, h.here.drewN q, h.row.drewN q, below_drewN h.be q, h.o1, h.o2, h.o3, h.o4⟩
theorem RnW.drew (h : RnW w wr g n gh hb N T H) : RnW w wr.drew g n gh hb N T H :=
  ⟨h.tab.drew, h.here.drew, h.row.drew, h.be.drew, h.o1, h.o2, h.o3, h.o4⟩
theorem RnW.far (h : RnW w wr g n gh hb N T H) {p : Addr} (h1 : g + (n + 1) < p.block) (h2 : p.block ≠ gh) (h3 : p.block ≠ hb) (v : Value) : RnW w (wr.setCell p v) g n gh hb N T H :=
  ⟨h.tab.farR h1 v, h.here.far (Ne.symm h2) v, h.row.far h3 v, h.be.setCell (by have := h.o1; omega) v, h.o1, h.o2, h.o3, h.o4⟩
theorem RnW.mark (h : RnW w wr g n gh hb N T H) {q : Nat} (hq : q < N) : RnW w (wr.setCell ⟨hb, q, none⟩ (.bool true)) g n gh hb N T (upB H q) :=
  ⟨h.tab.farR (p := ⟨hb, q, none⟩) h.o3 _, h.here.far (by have := h.o4; dsimp only; omega) _, (h.row.set_ hq true).congr fun j _ => rfl, h.be.setCell (p := ⟨hb, q, none⟩) (by have := h.o1; have := h.o3; dsimp only; omega) _, h.o1, h.o2, h.o3, h.o4⟩
theorem RnW.out_ (h : RnW w wr g n gh hb N T H) {i j : Nat} (hi : i < n + 1) (hj : j < n + 1) (v : Bool) : RnW w (wr.setCell ⟨g + 1 + i, j, none⟩ (.bool v)) g n gh hb N (upd T i j v) H :=
  ⟨h.tab.set_ hi hj v, h.here.far (by have := h.o2; dsimp only; omega) _, h.row.far (p := ⟨g + 1 + i, j, none⟩) (by have := h.o3; dsimp only; omega) _, h.be.setCell (p := ⟨g + 1 + i, j, none⟩) (by have := h.o1; dsimp only; omega) _, h.o1, h.o2, h.o3, h.o4⟩
theorem RnW.turn (h : RnW w wr g n gh hb N T H) {nb : Nat} {X : Nat → Bool} (hx : BoR wr nb N X) (h1 : g + (n + 1) < nb) (h2 : nb ≠ gh) : RnW w (wr.setCell ⟨gh, 0, none⟩ (.slice (some ⟨nb, 0, none⟩) N N)) g n gh nb N T X := by
  refine ⟨h.tab.farR (p := ⟨gh, 0, none⟩) h.o2 _, ?_, hx.far (p := ⟨gh, 0, none⟩) (by dsimp only; omega) _, h.be.setCell (p := ⟨gh, 0, none⟩) (by have := h.o1; have := h.o2; dsimp only; omega) _, h.o1, h.o2, h1, h2⟩
  have := h.here.set_ 0 (.slice (some ⟨nb, 0, none⟩) N N)
  exact this
theorem RnW.lt (h : RnW w wr g n gh hb N T H) : gh < wr.heap.size ∧ hb < wr.heap.size := ⟨h.here.lt, h.row.lt⟩
theorem RnW.congr {T' : Nat → Nat → Bool} (h : RnW w wr g n gh hb N T H) (e : ∀ i j, T i j = T' i j) : RnW w wr g n gh hb N T' H :=
  ⟨h.tab.congr fun i j _ _ => e i j, h.here, h.row, h.be, h.o1, h.o2, h.o3, h.o4⟩
end
end Go.Proofs.Ytckinkapbfaceaa
