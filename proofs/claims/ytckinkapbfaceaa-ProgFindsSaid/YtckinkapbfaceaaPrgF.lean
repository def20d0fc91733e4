/- What prog.run keeps: the best span, the threads now and next. -/
import Derived.Test.YtckinkapbfaceaaPrgB
import Derived.Test.YtckinkapbfaceaaPrgE
namespace Go.Proofs.Ytckinkapbfaceaa
open Go.RowKit
set_option linter.unusedVariables false
set_option linter.unusedSimpArgs false

theorem ownsRow_block {w w' : World} {B : Nat} {e : TypeId} {size n : Nat} {v : Value} {xs : List Value} (h : w.ownsRow B e size v n xs) (hk : ∀ g, v.ownBlock = some g → w'.heap[g]? = w.heap[g]?) : w'.ownsRow B e size v n xs := by
  obtain ⟨h1, h2 | ⟨g, cap, cur, rfl, hg, hh, hr⟩⟩ := h
  · exact ⟨h1, .inl h2⟩
  · exact ⟨h1, .inr ⟨g, cap, cur, rfl, hg, (hk g rfl).trans hh, hr⟩⟩
theorem make_ints (N : Nat) (hN : N ≤ 1000000) (w : World) : (Instr.makeSlice 84 (.int .i64 (N : Int)) (.int .i64 (N : Int))).run Try.prog w = .ok (.slice (some ⟨w.heap.size, 0, none⟩) N N) (w.alloc (.cells (madeCells #[.int .i64 0] N) 3)) :=
  run_make_row' (P := Try.prog) 84 3 (.int .i64 0) 8 Try.underlying84 infoInt rfl .i64 .i64 N (by omega) (by omega) w
section
variable {w wr w' : World} {fb N : Nat} {A : Option Addr} {c : Nat} {s : ByteArray} {F : Nat → Nat} {lv : Value} {L : List Nat}
theorem Thr.far (h : Thr w fb N A c s F lv L) {p : Addr} (hp : p.block < fb) (u : Value) : Thr (w.setCell p u) fb N A c s F lv L :=
  ⟨h.st.far (by omega) _, h.row.ofBlock (by simp [World.setCell]) (Below.heap_setCell _ _ _ _ (by omega)), h.lo.far (fun e => by have := (h.lo.lt_ _ e).1; omega) _⟩
theorem Thr.lower (h : Thr w fb N A c s F lv L) {B : Nat} (hb : Below B w w') (h1 : fb + 1 < B) (h2 : ∀ g, lv.ownBlock = some g → g < B) : Thr w' fb N A c s F lv L :=
  ⟨h.st.below hb h1, h.row.below hb (by omega), ownsRow_block h.lo fun g hg => hb.block g (h2 g hg)⟩
theorem Thr.fresh (w : World) (N : Nat) (A : Option Addr) (c : Nat) (s : ByteArray) : Thr ((w.alloc (.cells (madeCells #[.int .i64 0] N) 3)).alloc (.cells #[.slice A N c, .string s, .slice (some ⟨w.heap.size, 0, none⟩) N N, .slice none 0 0] 138)) w.heap.size N A c s (fun _ => 0) (.slice none 0 0) [] := by
  refine ⟨?_, (IRow.made w N).kept ((Below.refl _ _).alloc (Nat.le_refl _) _), OI.nil _ _⟩
  have := Blk.new (w.alloc (.cells (madeCells #[.int .i64 0] N) 3)) 138 #[.slice A N c, .string s, .slice (some ⟨w.heap.size, 0, none⟩) N N, .slice none 0 0]
  simpa using this
/-- the best span's cells, and the result's -/
structure RuB (w wr : World) (fd : Bool) (f e : Nat) : Prop where
  b : Blk wr (w.heap.size + 1) 98 #[.int .i64 (f : Int), .int .i64 (e : Int), .bool fd]
  res : Blk wr w.heap.size 98 #[.int .i64 0, .int .i64 0, .bool false]
  be : Below w.heap.size w wr
theorem RuB.start (w : World) : RuB w ((w.alloc (.cells #[.int .i64 0, .int .i64 0, .bool false] 98)).alloc (.cells #[.int .i64 0, .int .i64 0, .bool false] 98)) false 0 0 := by
  refine ⟨?_, (Blk.new _ _ _).alloc _, ((Below.refl _ _).alloc (Nat.le_refl _) _).alloc (by simp) _⟩
  have := Blk.new (w.alloc (.cells #[.int .i64 0, .int .i64 0, .bool false] 98)) 98 #[.int .i64 0, .int .i64 0, .bool false]
  simpa using this
variable {fd : Bool} {f e : Nat}
theorem RuB.lt (h : RuB w wr fd f e) : w.heap.size + 1 < wr.heap.size := h.b.lt
theorem RuB.below {B : Nat} (h : RuB w wr fd f e) (hb : Below B wr w') (hB : w.heap.size + 1 < B) : RuB w w' fd f e :=
  ⟨h.b.below hb hB, h.res.below hb (by omega), h.be.trans (hb.mono (by omega))⟩
theorem RuB.kept (h : RuB w wr fd f e) (hb : Below wr.heap.size wr w') : RuB w w' fd f e := h.below hb h.lt
theorem RuB.put_ (h : RuB w wr fd f e) (x y : Nat) : RuB w (((wr.setCell ⟨w.heap.size + 1, 0, none⟩ (.int .i64 (x : Int))).setCell ⟨w.heap.size + 1, 1, none⟩ (.int .i64 (y : Int))).setCell ⟨w.heap.size + 1, 2, none⟩ (.bool true)) true x y := by
  refine ⟨((h.b.set_ 0 _).set_ 1 _).set_ 2 _, ((h.res.far ?_ _).far ?_ _).far ?_ _, ((h.be.setCell (p := ⟨w.heap.size + 1, 0, none⟩) ?_ _).setCell (p := ⟨w.heap.size + 1, 1, none⟩) ?_ _).setCell (p := ⟨w.heap.size + 1, 2, none⟩) ?_ _⟩
  all_goals (dsimp only; omega)
end
theorem Thr.drew {w : World} {fb N : Nat} {A : Option Addr} {c : Nat} {s : ByteArray} {F : Nat → Nat} {lv : Value} {L : List Nat} (h : Thr w fb N A c s F lv L) : Thr w.drew fb N A c s F lv L := ⟨h.st.drew, ⟨h.row.lt, h.row.cell, h.row.frozen⟩, h.lo.drew⟩
theorem RuB.drew {w wr : World} {fd : Bool} {f e : Nat} (h : RuB w wr fd f e) : RuB w wr.drew fd f e := ⟨h.b.drew, h.res.drew, h.be.drew⟩
/-- what run answers -/
def RunRes (l : List In) (s : ByteArray) (early : Bool) (w : World) (y : Ending) (w' : World) : Prop :=
  ∃ (f e : Nat) (b : Bool), y = .returned (.agg #[.int .i64 (f : Int), .int .i64 (e : Int), .bool b]) ∧ (early = false → FirstR (SpanP l s.data.toList) f e b) ∧ (b = true → ∃ i j, SpanP l s.data.toList i j) ∧ (b = false → ∀ i j, ¬ SpanP l s.data.toList i j) ∧ Below w.heap.size w w'
theorem RunRes.of_first {l : List In} {s : ByteArray} {early : Bool} {w w' : World} {f e : Nat} {b : Bool} (h : FirstR (SpanP l s.data.toList) f e b) (hb : Below w.heap.size w w') : RunRes l s early w (.returned (.agg #[.int .i64 (f : Int), .int .i64 (e : Int), .bool b])) w' := by
  refine ⟨f, e, b, rfl, fun _ => h, fun k => ?_, fun k => ?_, hb⟩
  · rcases h with ⟨_, h1, _⟩ | ⟨h1, _⟩
    · exact ⟨f, e, h1⟩
    · rw [k] at h1; cases h1
  · rcases h with ⟨h1, _⟩ | ⟨_, _, _, h1⟩
    · rw [k] at h1; cases h1
    · exact h1
/-- the result's cells -/
theorem best_put {w wr : World} {fd : Bool} {f e : Nat} (h : RuB w wr fd f e) (x y : Int) (b : Bool) :
    ∃ wz, wz = ((wr.setCell ⟨w.heap.size, 0, none⟩ (.int .i64 x)).setCell ⟨w.heap.size, 1, none⟩ (.int .i64 y)).setCell ⟨w.heap.size, 2, none⟩ (.bool b) ∧ Below w.heap.size w wz ∧ wz.cell? ⟨w.heap.size, 0, none⟩ = some (.int .i64 x) ∧ wz.cell? ⟨w.heap.size, 1, none⟩ = some (.int .i64 y) ∧ wz.cell? ⟨w.heap.size, 2, none⟩ = some (.bool b) := by
  have h2 := ((h.res.set_ 0 (.int .i64 x)).set_ 1 (.int .i64 y)).set_ 2 (.bool b)
  exact ⟨_, rfl, ((h.be.setCell (p := ⟨w.heap.size, 0, none⟩) (Nat.le_refl _) _).setCell (p := ⟨w.heap.size, 1, none⟩) (Nat.le_refl _) _).setCell (p := ⟨w.heap.size, 2, none⟩) (Nat.le_refl _) _, h2.cell 0, h2.cell 1, h2.cell 2⟩
end Go.Proofs.Ytckinkapbfaceaa
