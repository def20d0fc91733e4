/- Instructions: a list of them in a slice of the call's own; the code of an expression, plainly. -/
import Derived.Test.YtckinkapbfaceaaRexA
import Derived.Test.YtckinkapbfaceaaApp
import Derived.StillTailTactics
import Derived.Deep.RegionHeld3
namespace Go.Proofs.Ytckinkapbfaceaa
open Go.RowKit
set_option linter.unusedVariables false
set_option linter.unusedSimpArgs false

structure In where
  (k a b : Int) (s : Q4)
abbrev inCs (k a b : Int) (s : Q4) : List Value := [.int .i64 k, .int .i64 a, .int .i64 b, .int .u64 (s.a : Int), .int .u64 (s.b : Int), .int .u64 (s.c : Int), .int .u64 (s.d : Int)]
def In.cs (i : In) : List Value := inCs i.k i.a i.b i.s
theorem In.cs_len (i : In) : i.cs.length = 7 := rfl
def inFlat (l : List In) : List Value := l.flatMap In.cs
theorem inFlat_len (l : List In) : (inFlat l).length = l.length * 7 := by
  unfold inFlat
  induction l with
  | nil => rfl
  | cons x l ih => rw [List.flatMap_cons, List.length_append, ih, In.cs_len, List.length_cons]; omega
theorem inFlat_app (l m : List In) : inFlat (l ++ m) = inFlat l ++ inFlat m := List.flatMap_append
theorem inFlat_one (i : In) : inFlat [i] = i.cs := by simp [inFlat]
theorem inFlat_get {l : List In} {k j : Nat} {i : In} (h : l[k]? = some i) (hj : j < 7) : (inFlat l)[k * 7 + j]? = i.cs[j]? := by
  obtain ⟨hk, rfl⟩ := List.getElem?_eq_some_iff.1 h
  have e : l = l.take k ++ l[k] :: l.drop (k + 1) := by rw [← List.drop_eq_getElem_cons hk, List.take_append_drop]
  conv => lhs; rw [e]
  have hc : inFlat (l[k] :: l.drop (k + 1)) = l[k].cs ++ inFlat (l.drop (k + 1)) := List.flatMap_cons
  rw [inFlat_app, hc, List.getElem?_append_right (by rw [inFlat_len, List.length_take]; omega), inFlat_len, List.length_take, Nat.min_eq_left (by omega), Nat.add_sub_cancel_left, List.getElem?_append_left (by rw [In.cs_len]; exact hj)]
/-- a store into the instruction behind l -/
theorem inFlat_set (l : List In) (i i' : In) (m : List In) (j : Nat) (u : Value) (hj : j < 7) (hc : i.cs.set j u = i'.cs) : (inFlat (l ++ i :: m)).set (l.length * 7 + j) u = inFlat (l ++ i' :: m) := by
  have h1 : ∀ x : In, inFlat (l ++ x :: m) = inFlat l ++ (x.cs ++ inFlat m) := fun x => by rw [inFlat_app]; simp [inFlat]
  rw [h1, h1, ← inFlat_len, List.set_append_right _ _ (by omega), Nat.add_sub_cancel_left, List.set_append_left _ _ (by rw [In.cs_len]; exact hj), hc]

/-- the code of an expression that begins at a number -/
def codeF : Re → Nat → List In
  | .none, _ => [⟨1, 0, 0, ⟨0, 0, 0, 0⟩⟩]
  | .empty, _ => []
  | .byte s, _ => [⟨1, 0, 0, s⟩]
  | .beg, _ => [⟨4, 0, 0, ⟨0, 0, 0, 0⟩⟩]
  | .fin, _ => [⟨5, 0, 0, ⟨0, 0, 0, 0⟩⟩]
  | .cat a b, n => codeF a n ++ codeF b (n + (codeF a n).length)
  | .alt a b, n => ⟨2, (n : Int) + 1, (n : Int) + 2 + ((codeF a (n + 1)).length : Int), ⟨0, 0, 0, 0⟩⟩ :: (codeF a (n + 1) ++ ⟨3, (n : Int) + 2 + ((codeF a (n + 1)).length : Int) + ((codeF b (n + 2 + (codeF a (n + 1)).length)).length : Int), 0, ⟨0, 0, 0, 0⟩⟩ :: codeF b (n + 2 + (codeF a (n + 1)).length))
  | .star a, n => ⟨2, (n : Int) + 1, (n : Int) + 2 + ((codeF a (n + 1)).length : Int), ⟨0, 0, 0, 0⟩⟩ :: (codeF a (n + 1) ++ [⟨3, (n : Int), 0, ⟨0, 0, 0, 0⟩⟩])
theorem codeF_len : ∀ (q : Re) (n : Nat), (codeF q n).length ≤ 2 * q.size
  | .none, _ => by simp [codeF, Re.size]
  | .empty, _ => by simp [codeF, Re.size]
  | .byte s, _ => by simp [codeF, Re.size]
  | .beg, _ => by simp [codeF, Re.size]
  | .fin, _ => by simp [codeF, Re.size]
  | .cat a b, n => by
    have h1 := codeF_len a n
    have h2 := codeF_len b (n + (codeF a n).length)
    simp only [codeF, Re.size, List.length_append]; omega
  | .alt a b, n => by
    have h1 := codeF_len a (n + 1)
    have h2 := codeF_len b (n + 2 + (codeF a (n + 1)).length)
    simp only [codeF, Re.size, List.length_append, List.length_cons]; omega
  | .star a, n => by
    have h1 := codeF_len a (n + 1)
    simp only [codeF, Re.size, List.length_append, List.length_cons, List.length_nil]; omega

theorem infoInst : (Try.prog.info? 35).map (fun i => (i.zero, i.size, i.bytes)) = some (some (.agg #[.int .i64 0, .int .i64 0, .int .i64 0, .int .u64 0, .int .u64 0, .int .u64 0, .int .u64 0]), 7, 56) := by kernel_rfl

/-- a slice of instructions, of the call's own -/
def OIn (w : World) (B : Nat) (v : Value) (l : List In) : Prop := w.ownsRow B 35 7 v l.length (inFlat l)
section
variable {w w' : World} {B : Nat} {v v' : Value} {l : List In}
theorem OIn.nil (w : World) (B : Nat) : OIn w B (.slice none 0 0) [] := World.ownsRow_nil _ _ _ _
theorem OIn.form (h : OIn w B v l) : ∃ A c, v = .slice A l.length c := by
  rcases h.2 with ⟨rfl, h2⟩ | ⟨g, c, cur, rfl, _⟩
  · exact ⟨none, 0, by rw [h2]⟩
  · exact ⟨_, _, rfl⟩
theorem OIn.formAt (h : OIn w B v l) (hl : 0 < l.length) : ∃ g c, v = .slice (some ⟨g, 0, none⟩) l.length c ∧ l.length ≤ c ∧ c ≤ 9223372036854775807 ∧ B ≤ g ∧ g < w.heap.size := by
  rcases h.2 with ⟨rfl, h2⟩ | ⟨g, c, cur, rfl, hb, hh, h3, h4, _⟩
  · omega
  · exact ⟨g, c, rfl, h3, by unfold maxLen at h4; omega, hb, Blk.lt (t := 35) (cs := cur) hh⟩
theorem OIn.alloc (h : OIn w B v l) (o : Obj) : OIn (w.alloc o) B v l := World.ownsRow.alloc h o
theorem OIn.drew (h : OIn w B v l) : OIn w.drew B v l := h
theorem OIn.drewN (h : OIn w B v l) (n : Nat) : OIn (w.drewN n) B v l := h
theorem OIn.below (h : OIn w B v l) (hb : Below w.heap.size w w') : OIn w' B v l := by
  refine ⟨h.1, ?_⟩
  rcases h.2 with h2 | ⟨g, cap, cur, e1, e2, e3, e4⟩
  · exact .inl h2
  · refine .inr ⟨g, cap, cur, e1, e2, ?_, e4⟩
    rw [hb.block g (Blk.lt (t := 35) (cs := cur) e3)]; exact e3
theorem OIn.lt (h : OIn w B v l) : ∀ g, v.ownBlock = some g → B ≤ g := fun g hg => (World.ownsRow.lt h g hg).1

/-- append of one instruction -/
theorem wpL_appIn {ops : Array Oper} {rest : List Oper} {o : Oper} {a : Act} {Q : Exit → Act → World → Prop} (hgd : o.guard = none) (s x : Operand)
    (ho : o.op = .call { callee := .builtin .append, args := #[s, x], argTypes := #[28, 28] })
    (h : OIn w B v l) (hs : a.eval s = v) (i : In) {N : Nat} (hx : a.eval x = .slice (some ⟨N, 0, none⟩) 1 1) (hN : N = w.heap.size) (hlen : l.length ≤ 1000000) (hB : B ≤ w.heap.size)
    (hK : ∀ v' w', OIn w' B v' (l ++ [i]) → Grew w w' v v' → wpList Try.prog ops Q rest (a.put o.dst v') w') :
    wpList Try.prog ops Q (o :: rest) a (w.alloc (.cells #[.int .i64 i.k, .int .i64 i.a, .int .i64 i.b, .int .u64 (i.s.a : Int), .int .u64 (i.s.b : Int), .int .u64 (i.s.c : Int), .int .u64 (i.s.d : Int)] 35)) := by
  subst hN
  obtain ⟨i0, hi0, hz0, hz1, hz2⟩ := info_parts infoInst
  exact wpL_appG (P := Try.prog) (Q := Q) (rest := rest) (ops := ops) hgd s x ho Try.underlying28 hi0 hz0 hz1 hz2 rfl (by decide) h hs i.cs 1 1 hx rfl (by
    intro u hu
    simp only [In.cs, inCs, List.mem_cons, List.not_mem_nil, or_false] at hu
    rcases hu with rfl | rfl | rfl | rfl | rfl | rfl | rfl <;> rfl) (by unfold maxLen; omega) (by omega) hB fun v' w' h2 h3 => hK v' w' (by unfold OIn; rw [List.length_append, inFlat_app, inFlat_one]; exact h2) h3
theorem step_appIn {ops : Array Oper} {o : Oper} {a : Act} {K : Act → World → Prop} {Q : Exit → Act → World → Prop} {F : Prop} (hgd : o.guard = none) (s x : Operand)
    (ho : o.op = .call { callee := .builtin .append, args := #[s, x], argTypes := #[28, 28] })
    (h : OIn w B v l) (hs : a.eval s = v) (i : In) {N : Nat} (hx : a.eval x = .slice (some ⟨N, 0, none⟩) 1 1) (hN : N = w.heap.size) (hlen : l.length ≤ 1000000) (hB : B ≤ w.heap.size)
    (hK : ∀ v' w', OIn w' B v' (l ++ [i]) → Grew w w' v v' → K (a.put o.dst v') w') :
    if Region.wanted o (yielded ops a.tmps) = true then Oper.wp Try.prog o a (w.alloc (.cells #[.int .i64 i.k, .int .i64 i.a, .int .i64 i.b, .int .u64 (i.s.a : Int), .int .u64 (i.s.b : Int), .int .u64 (i.s.c : Int), .int .u64 (i.s.d : Int)] 35)) K Q else F := by
  subst hN
  obtain ⟨i0, hi0, hz0, hz1, hz2⟩ := info_parts infoInst
  exact step_appG (P := Try.prog) (Q := Q) (ops := ops) hgd s x ho Try.underlying28 hi0 hz0 hz1 hz2 rfl (by decide) h hs i.cs 1 1 hx rfl (by
    intro u hu
    simp only [In.cs, inCs, List.mem_cons, List.not_mem_nil, or_false] at hu
    rcases hu with rfl | rfl | rfl | rfl | rfl | rfl | rfl <;> rfl) (by unfold maxLen; omega) (by omega) hB fun v' w' h2 h3 => hK v' w' (by unfold OIn; rw [List.length_append, inFlat_app, inFlat_one]; exact h2) h3
end
/-- a store into an instruction of the call's own -/
theorem OIn.store {w : World} {B g cap n : Nat} {l m : List In} {i i' : In} (h : OIn w B (.slice (some ⟨g, 0, none⟩) n cap) (l ++ i :: m)) (hn : n = (l ++ i :: m).length) (j : Nat) (u : Value) (hj : j < 7) (hc : i.cs.set j u = i'.cs) :
    OIn (w.setCell ⟨g, l.length * 7 + j, none⟩ u) B (.slice (some ⟨g, 0, none⟩) n cap) (l ++ i' :: m) ∧ Grew w (w.setCell ⟨g, l.length * 7 + j, none⟩ u) (.slice (some ⟨g, 0, none⟩) n cap) (.slice (some ⟨g, 0, none⟩) n cap) := by
  subst hn
  obtain ⟨h1, h2⟩ := World.ownsRow.stored h (l.length * 7 + j) u
  rw [inFlat_set l i i' m j u hj hc] at h1
  refine ⟨?_, ⟨h2, .inl rfl⟩⟩
  unfold OIn
  simpa using h1
theorem OIn.at_ {w : World} {B g cap n : Nat} {l : List In} (h : OIn w B (.slice (some ⟨g, 0, none⟩) n cap) l) (hn : n = l.length) {k j : Nat} {i : In} (hk : l[k]? = some i) (hj : j < 7) : w.cell? ⟨g, k * 7 + j, none⟩ = i.cs[j]? ∧ w.frozen? ⟨g, k * 7 + j, none⟩ = false := by
  subst hn
  obtain ⟨hk', _⟩ := List.getElem?_eq_some_iff.1 hk
  exact ⟨(World.ownsRow.cellAt h _ (by omega)).trans (inFlat_get hk hj), World.ownsRow.frozenAt h _⟩
end Go.Proofs.Ytckinkapbfaceaa
