/- Trees that the reading makes: what they read as in memory. Walks: rex.two, rex.one. -/
import Derived.Test.YtkdcgkdbieeijaaPrsF
import Derived.Test.YtkdcgkdbieeijaaRexV
import Derived.Deep.RegionHeld
namespace Go.Proofs.Ytkdcgkdbieeijaa
open Go.RowKit
set_option linter.unusedVariables false
set_option linter.unusedSimpArgs false

/-- cells that read as an expression, whose parts lie in blocks of which P holds -/
def RxT (w : World) (P : Nat → Prop) : Nat → Rx → List Value → Prop
  | 0, _, _ => False
  | n + 1, r, cs => r.s.ok ∧ r.ks.length ≤ 2 ∧ (-9223372036854775808 ≤ r.k ∧ r.k ≤ 9223372036854775807) ∧ ∃ (A : Option Addr) (cap : Nat), cs = rexCs r.k r.s A r.ks.length cap ∧ r.ks.length ≤ cap ∧ cap ≤ 9223372036854775807 ∧
      (0 < r.ks.length → ∃ ad, A = some ad ∧ P ad.block) ∧
      ∀ i x, r.ks[i]? = some x → ∃ ad cs', A = some ad ∧ (∀ j u, cs'[j]? = some u → w.cell? (ad.add (i * 6 + j)) = some u) ∧ RxT w P n x cs'
theorem RxT.rxC {w : World} {P : Nat → Prop} {B : Nat} (hP : ∀ b, P b → b < B) : ∀ {n : Nat} {r : Rx} {cs : List Value}, RxT w P n r cs → RxC w B n r cs
  | 0, _, _, h => h
  | n + 1, r, cs, ⟨h1, _, h2, A, cap, h3, h4, h5, h6, h7⟩ => ⟨h1, h2, A, cap, h3, h4, h5, fun h => by
      obtain ⟨ad, e, hb⟩ := h6 h
      exact ⟨ad, e, hP _ hb⟩, fun i x hi => by
      obtain ⟨ad, cs', e, hc, hr⟩ := h7 i x hi
      exact ⟨ad, cs', e, hc, RxT.rxC hP hr⟩⟩
theorem RxT.keep {w w' : World} {P Q : Nat → Prop} (hh : ∀ b, P b → Q b) (hk : ∀ p : Addr, P p.block → w'.cell? p = w.cell? p) : ∀ {n : Nat} {r : Rx} {cs : List Value}, RxT w P n r cs → RxT w' Q n r cs
  | 0, _, _, h => h
  | n + 1, r, cs, ⟨h1, h0, h2, A, cap, h3, h4, h5, h6, h7⟩ => ⟨h1, h0, h2, A, cap, h3, h4, h5, fun h => by
      obtain ⟨ad, e, hb⟩ := h6 h
      exact ⟨ad, e, hh _ hb⟩, fun i x hi => by
      obtain ⟨ad, cs', e, hc, hr⟩ := h7 i x hi
      obtain ⟨ad', e', hb⟩ := h6 (by
        rcases Nat.eq_zero_or_pos r.ks.length with h | h
        · rw [List.getElem?_eq_none (by omega)] at hi; cases hi
        · exact h)
      rw [e] at e'; injection e' with e'; subst e'
      exact ⟨ad, cs', e, fun j u hu => (hk _ (by rw [block_of_add]; exact hb)).trans (hc j u hu), RxT.keep hh hk hr⟩⟩
theorem RxT.weak {w : World} {P Q : Nat → Prop} (hh : ∀ b, P b → Q b) {n : Nat} {r : Rx} {cs : List Value} (h : RxT w P n r cs) : RxT w Q n r cs := h.keep hh fun _ _ => rfl
theorem KeptOff.cell {w w' : World} {g : Nat} (h : KeptOff w w' g) {p : Addr} (hp : p.block < w.heap.size) (hne : p.block ≠ g) : w'.cell? p = w.cell? p := by
  have hb := h.block p.block hp (by intro e; injection e with e; exact hne e)
  unfold World.cell?
  rw [hb]
theorem RxT.off {w w' : World} {P : Nat → Prop} {g n : Nat} {r : Rx} {cs : List Value} (h : RxT w P n r cs) (hk : KeptOff w w' g) (hP : ∀ b, P b → b < w.heap.size ∧ b ≠ g) : RxT w' P n r cs :=
  h.keep (fun _ hb => hb) fun p hp => hk.cell (hP _ hp).1 (hP _ hp).2
theorem RxT.below {w w' : World} {P : Nat → Prop} {n : Nat} {r : Rx} {cs : List Value} (h : RxT w P n r cs) (hb : Below w.heap.size w w') (hP : ∀ b, P b → b < w.heap.size) : RxT w' P n r cs :=
  h.keep (fun _ hb => hb) fun p hp => hb.cell (hP _ hp)
theorem RxT.store {w : World} {P : Nat → Prop} {n : Nat} {r : Rx} {cs : List Value} (h : RxT w P n r cs) {p : Addr} (hp : ¬ P p.block) (u : Value) : RxT (w.setCell p u) P n r cs :=
  h.keep (fun _ hb => hb) fun q hq => World.cell?_setCell_far w p q u (fun e => hp (by rw [e]; exact hq))
theorem RxT.up {w : World} {P : Nat → Prop} : ∀ {n : Nat} {r : Rx} {cs : List Value} {m : Nat}, n ≤ m → RxT w P n r cs → RxT w P m r cs
  | 0, _, _, _, _, h => h.elim
  | n + 1, r, cs, 0, hm, _ => absurd hm (by omega)
  | n + 1, r, cs, m + 1, hm, ⟨h1, h0, h2, A, cap, h3, h4, h5, h6, h7⟩ => ⟨h1, h0, h2, A, cap, h3, h4, h5, h6, fun i x hi => by
      obtain ⟨ad, cs', e, hc, hr⟩ := h7 i x hi
      exact ⟨ad, cs', e, hc, RxT.up (by omega) hr⟩⟩
theorem zq_ok : zq.ok := ⟨by decide, by decide, by decide, by decide⟩
/-- the six cells of any tree -/
def six (x0 x1 x2 x3 x4 : Int) (A : Option Addr) (l c : Nat) : List Value := [.int .i64 x0, .int .u64 x1, .int .u64 x2, .int .u64 x3, .int .u64 x4, .slice A l c]
theorem RxT.leaf (w : World) (P : Nat → Prop) (k : Int) (q : Q4) (hq : q.ok) (h0 : -9223372036854775808 ≤ k) (h1 : k ≤ 9223372036854775807) : RxT w P 1 (.mk k q []) (six k q.a q.b q.c q.d none 0 0) :=
  ⟨hq, Nat.zero_le _, ⟨h0, h1⟩, none, 0, rfl, Nat.le_refl _, by omega, fun h => absurd h (by simp [Rx.ks]), fun i x hi => by simp [Rx.ks] at hi⟩
theorem add0 (N j : Nat) : (⟨N, 0, none⟩ : Addr).add j = ⟨N, j, none⟩ := by
  by_cases h : j = 0
  · subst h; rfl
  · simp [Addr.add, h]
theorem RxT.two {w : World} {P : Nat → Prop} {n N : Nat} {a b : Rx} {ca cb : List Value} (ha : RxT w P n a ca) (hb : RxT w P n b cb) (hca : ca.length = 6) (hN : P N)
    (hc : ∀ j u, (ca ++ cb)[j]? = some u → w.cell? ⟨N, j, none⟩ = some u) (k : Int) (h0 : -9223372036854775808 ≤ k) (h1 : k ≤ 9223372036854775807) : RxT w P (n + 1) (tTwo k a b) (six k 0 0 0 0 (some ⟨N, 0, none⟩) 2 2) := by
  refine ⟨zq_ok, Nat.le_refl _, ⟨h0, h1⟩, some ⟨N, 0, none⟩, 2, rfl, Nat.le_refl _, by omega, fun _ => ⟨_, rfl, hN⟩, fun i x hi => ?_⟩
  simp only [tTwo, Rx.ks] at hi
  match i, hi with
  | 0, hi =>
    cases hi
    refine ⟨_, ca, rfl, fun j u hu => ?_, ha⟩
    have hj := (List.getElem?_eq_some_iff.1 hu).1
    have := hc j u (by rw [List.getElem?_append_left hj]; exact hu)
    rw [Nat.zero_mul, Nat.zero_add, add0]; exact this
  | 1, hi =>
    cases hi
    refine ⟨_, cb, rfl, fun j u hu => ?_, hb⟩
    have := hc (6 + j) u (by rw [List.getElem?_append_right (by omega), hca, Nat.add_sub_cancel_left]; exact hu)
    rw [add0, Nat.one_mul]; exact this
theorem RxT.star {w : World} {P : Nat → Prop} {n N : Nat} {a : Rx} {ca : List Value} (ha : RxT w P n a ca) (hN : P N)
    (hc : ∀ j u, ca[j]? = some u → w.cell? ⟨N, j, none⟩ = some u) : RxT w P (n + 1) (tStar a) (six 6 0 0 0 0 (some ⟨N, 0, none⟩) 1 1) := by
  refine ⟨zq_ok, (show 1 ≤ 2 by omega), ⟨by show -9223372036854775808 ≤ (6 : Int); decide, by show (6 : Int) ≤ 9223372036854775807; decide⟩, some ⟨N, 0, none⟩, 1, rfl, Nat.le_refl _, by omega, fun _ => ⟨_, rfl, hN⟩, fun i x hi => ?_⟩
  simp only [tStar, Rx.ks] at hi
  match i, hi with
  | 0, hi =>
    cases hi
    refine ⟨_, ca, rfl, fun j u hu => ?_, ha⟩
    rw [Nat.zero_mul, Nat.zero_add, add0]; exact hc j u hu
theorem RxT.len {w : World} {P : Nat → Prop} {n : Nat} {r : Rx} {cs : List Value} (h : RxT w P n r cs) : cs.length = 6 := by
  cases n with
  | zero => exact h.elim
  | succ n => obtain ⟨_, _, _, A, cap, e, _⟩ := h; rw [e]; rfl
/-- cells of a new block -/
theorem new_cells (w : World) (cs : List Value) (t : TypeId) (j : Nat) (u : Value) (h : cs[j]? = some u) : (w.alloc (.cells cs.toArray t)).cell? ⟨w.heap.size, j, none⟩ = some u := by
  have := (Blk.new w t cs.toArray).cell j
  rw [this]; simpa using h
section
variable (k x0 x1 x2 x3 x4 y0 y1 y2 y3 y4 : Int) (A B : Option Addr) (l c m d : Nat) (w : World)
/-- what two answers: a block N with both trees' cells -/
def TwoRes (k : Int) (ca cb : List Value) (w : World) (e : Ending) (w' : World) : Prop := ∃ N, e = .returned (.agg #[.int .i64 k, .int .u64 0, .int .u64 0, .int .u64 0, .int .u64 0, .slice (some ⟨N, 0, none⟩) 2 2]) ∧ (∀ j u, (ca ++ cb)[j]? = some u → w'.cell? ⟨N, j, none⟩ = some u) ∧ w.heap.size ≤ N ∧ N < w'.heap.size ∧ Below w.heap.size w w'
theorem two_tree : Calls Try.prog 30 #[.int .i64 k, .agg #[.int .i64 x0, .int .u64 x1, .int .u64 x2, .int .u64 x3, .int .u64 x4, .slice A l c], .agg #[.int .i64 y0, .int .u64 y1, .int .u64 y2, .int .u64 y3, .int .u64 y4, .slice B m d]] w (TwoRes k (six x0 x1 x2 x3 x4 A l c) (six y0 y1 y2 y3 y4 B m d) w) := by
  go_enter Try.func30, Try.ntmps30
  go_wp2_with fail
  obtain ⟨W1, h1⟩ : ∃ W1, w.alloc (.cells #[.int .i64 x0, .int .u64 x1, .int .u64 x2, .int .u64 x3, .int .u64 x4, .slice A l c] 27) = W1 := ⟨_, rfl⟩
  rw [h1]
  obtain ⟨W2, h2⟩ : ∃ W2, W1.alloc (.cells #[.int .i64 y0, .int .u64 y1, .int .u64 y2, .int .u64 y3, .int .u64 y4, .slice B m d] 27) = W2 := ⟨_, rfl⟩
  rw [h2]
  obtain ⟨W3, h3⟩ : ∃ W3, W2.alloc (.cells #[.int .i64 k, .int .u64 0, .int .u64 0, .int .u64 0, .int .u64 0, .slice (some ⟨w.heap.size + 1 + 1 + 1, 0, none⟩) 2 2] 27) = W3 := ⟨_, rfl⟩
  rw [h3]
  obtain ⟨W4, h4⟩ : ∃ W4, W3.alloc (.cells #[.int .i64 x0, .int .u64 x1, .int .u64 x2, .int .u64 x3, .int .u64 x4, .slice A l c, .int .i64 y0, .int .u64 y1, .int .u64 y2, .int .u64 y3, .int .u64 y4, .slice B m d] 27) = W4 := ⟨_, rfl⟩
  rw [h4]
  have s1 : W1.heap.size = w.heap.size + 1 := by rw [← h1]; simp
  have s2 : W2.heap.size = w.heap.size + 1 + 1 := by rw [← h2]; simp [s1]
  have s3 : W3.heap.size = w.heap.size + 1 + 1 + 1 := by rw [← h3]; simp [s2]
  have s4 : W4.heap.size = w.heap.size + 1 + 1 + 1 + 1 := by rw [← h4]; simp [s3]
  have hres : Blk W4 (w.heap.size + 1 + 1) 27 #[.int .i64 k, .int .u64 0, .int .u64 0, .int .u64 0, .int .u64 0, .slice (some ⟨w.heap.size + 1 + 1 + 1, 0, none⟩) 2 2] := by
    rw [← h4]
    refine Blk.alloc ?_ _
    have := Blk.new W2 27 #[.int .i64 k, .int .u64 0, .int .u64 0, .int .u64 0, .int .u64 0, .slice (some ⟨w.heap.size + 1 + 1 + 1, 0, none⟩) 2 2]
    rw [h3, s2] at this; exact this
  have hL : ∀ j u, (six x0 x1 x2 x3 x4 A l c ++ six y0 y1 y2 y3 y4 B m d)[j]? = some u → W4.cell? ⟨w.heap.size + 1 + 1 + 1, j, none⟩ = some u := fun j u h => by
    have := new_cells W3 [.int .i64 x0, .int .u64 x1, .int .u64 x2, .int .u64 x3, .int .u64 x4, .slice A l c, .int .i64 y0, .int .u64 y1, .int .u64 y2, .int .u64 y3, .int .u64 y4, .slice B m d] 27 j u h
    rw [s3] at this
    rw [← h4]; exact this
  have hb : Below w.heap.size w W4 := by
    rw [← h4, ← h3, ← h2, ← h1]
    exact ((((Below.refl _ _).alloc (Nat.le_refl _) _).alloc (by simp) _).alloc (by simp; omega) _).alloc (by simp; omega) _
  have z0 : W4.cell? ⟨w.heap.size + 1 + 1, 0, none⟩ = some (.int .i64 k) := hres.cell 0
  have z1 : W4.cell? ⟨w.heap.size + 1 + 1, 1, none⟩ = some (.int .u64 0) := hres.cell 1
  have z2 : W4.cell? ⟨w.heap.size + 1 + 1, 2, none⟩ = some (.int .u64 0) := hres.cell 2
  have z3 : W4.cell? ⟨w.heap.size + 1 + 1, 3, none⟩ = some (.int .u64 0) := hres.cell 3
  have z4 : W4.cell? ⟨w.heap.size + 1 + 1, 4, none⟩ = some (.int .u64 0) := hres.cell 4
  have z5 : W4.cell? ⟨w.heap.size + 1 + 1, 5, none⟩ = some (.slice (some ⟨w.heap.size + 1 + 1 + 1, 0, none⟩) 2 2) := hres.cell 5
  clear h1 h2 h3 h4 hres
  refine bodyPost_ret (v := .agg #[.int .i64 k, .int .u64 0, .int .u64 0, .int .u64 0, .int .u64 0, .slice (some ⟨w.heap.size + 1 + 1 + 1, 0, none⟩) 2 2]) (by simp [results, Try.results30, go_sem, z0, z1, z2, z3, z4, z5]) rfl ⟨w.heap.size + 1 + 1 + 1, rfl, hL, by omega, by omega, hb⟩
theorem one_tree : Calls Try.prog 85 #[.int .i64 k] w fun e w' => e = .returned (.agg #[.int .i64 k, .int .u64 0, .int .u64 0, .int .u64 0, .int .u64 0, .slice none 0 0]) ∧ Below w.heap.size w w' := by
  go_enter Try.func85, Try.ntmps85
  go_wp2_with fail
  obtain ⟨W1, h1⟩ : ∃ W1, w.alloc (.cells #[.int .i64 k, .int .u64 0, .int .u64 0, .int .u64 0, .int .u64 0, .slice none 0 0] 27) = W1 := ⟨_, rfl⟩
  rw [h1]
  have hres : Blk W1 w.heap.size 27 #[.int .i64 k, .int .u64 0, .int .u64 0, .int .u64 0, .int .u64 0, .slice none 0 0] := by rw [← h1]; exact Blk.new _ _ _
  have hb : Below w.heap.size w W1 := by rw [← h1]; exact (Below.refl _ _).alloc (Nat.le_refl _) _
  have z0 : W1.cell? ⟨w.heap.size, 0, none⟩ = some (.int .i64 k) := hres.cell 0
  have z1 : W1.cell? ⟨w.heap.size, 1, none⟩ = some (.int .u64 0) := hres.cell 1
  have z2 : W1.cell? ⟨w.heap.size, 2, none⟩ = some (.int .u64 0) := hres.cell 2
  have z3 : W1.cell? ⟨w.heap.size, 3, none⟩ = some (.int .u64 0) := hres.cell 3
  have z4 : W1.cell? ⟨w.heap.size, 4, none⟩ = some (.int .u64 0) := hres.cell 4
  have z5 : W1.cell? ⟨w.heap.size, 5, none⟩ = some (.slice none 0 0) := hres.cell 5
  clear h1 hres
  refine bodyPost_ret (v := .agg #[.int .i64 k, .int .u64 0, .int .u64 0, .int .u64 0, .int .u64 0, .slice none 0 0]) (by simp [results, Try.results85, go_sem, z0, z1, z2, z3, z4, z5]) rfl ⟨rfl, hb⟩
end
end Go.Proofs.Ytkdcgkdbieeijaa
