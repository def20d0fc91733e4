/- Hits of phrases: a slice of the call's own; plain: what a right tree gives. -/
import Derived.Test.YtckinkapbfaceaaPhrC
namespace Go.Proofs.Ytckinkapbfaceaa
open Go.RowKit
set_option linter.unusedVariables false
set_option linter.unusedSimpArgs false

def hitFlat (l : List (Int × Int)) : List Value := l.flatMap fun h => [.int .i64 h.1, .int .i64 h.2]
theorem hitFlat_len (l : List (Int × Int)) : (hitFlat l).length = l.length * 2 := by
  unfold hitFlat
  induction l with
  | nil => rfl
  | cons x l ih => rw [List.flatMap_cons, List.length_append, ih, List.length_cons]; simp; omega
theorem hitFlat_app (l m : List (Int × Int)) : hitFlat (l ++ m) = hitFlat l ++ hitFlat m := List.flatMap_append
theorem infoHit : (Try.prog.info? 47).map (fun i => (i.zero, i.size, i.bytes)) = some (some (.agg #[.int .i64 0, .int .i64 0]), 2, 16) := by kernel_rfl
def OH (w : World) (B : Nat) (v : Value) (l : List (Int × Int)) : Prop := w.ownsRow B 47 2 v l.length (hitFlat l)
section
variable {w w' : World} {B : Nat} {v v' : Value} {l : List (Int × Int)}
theorem OH.nil (w : World) (B : Nat) : OH w B (.slice none 0 0) [] := World.ownsRow_nil _ _ _ _
theorem OH.form (h : OH w B v l) : ∃ A c, v = .slice A l.length c := by
  rcases h.2 with ⟨rfl, h2⟩ | ⟨g, c, cur, rfl, _⟩
  · exact ⟨none, 0, by rw [h2]⟩
  · exact ⟨_, _, rfl⟩
theorem OH.alloc (h : OH w B v l) (o : Obj) : OH (w.alloc o) B v l := World.ownsRow.alloc h o
theorem OH.drew (h : OH w B v l) : OH w.drew B v l := h
theorem OH.below (h : OH w B v l) (hb : Below w.heap.size w w') : OH w' B v l := by
  refine ⟨h.1, ?_⟩
  rcases h.2 with h2 | ⟨g, cap, cur, e1, e2, e3, e4⟩
  · exact .inl h2
  · refine .inr ⟨g, cap, cur, e1, e2, ?_, e4⟩
    rw [hb.block g (Blk.lt (t := 47) (cs := cur) e3)]; exact e3
theorem OH.lt (h : OH w B v l) : ∀ g, v.ownBlock = some g → B ≤ g := fun g hg => (World.ownsRow.lt h g hg).1
theorem OH.mono {B' : Nat} (h : OH w B v l) (hB : B' ≤ B) : OH w B' v l := by
  refine ⟨h.1, ?_⟩
  rcases h.2 with h2 | ⟨g, cap, cur, e1, e2, e3⟩
  · exact .inl h2
  · exact .inr ⟨g, cap, cur, e1, Nat.le_trans hB e2, e3⟩
theorem OH.reads {A0 : Option Addr} {n0 c0 : Nat} (h : OH w B (.slice A0 n0 c0) l) : Reads w w.heap.size 2 A0 l.length (hitFlat l) := Reads.of_own (c := c0) (by
  have := h.form
  obtain ⟨A, c, e⟩ := this
  injection e with e1 e2 e3; subst e1 e2 e3; exact h)
/-- append of one hit -/
theorem wpL_appH {ops : Array Oper} {rest : List Oper} {o : Oper} {a : Act} {Q : Exit → Act → World → Prop} (hgd : o.guard = none) (s x : Operand)
    (ho : o.op = .call { callee := .builtin .append, args := #[s, x], argTypes := #[40, 40] })
    (h : OH w B v l) (hs : a.eval s = v) (p q : Int) {N : Nat} (hx : a.eval x = .slice (some ⟨N, 0, none⟩) 1 1) (hN : N = w.heap.size) (hlen : l.length ≤ 8589934592) (hB : B ≤ w.heap.size)
    (hK : ∀ v' w', OH w' B v' (l ++ [(p, q)]) → Grew w w' v v' → wpList Try.prog ops Q rest (a.put o.dst v') w') :
    wpList Try.prog ops Q (o :: rest) a (w.alloc (.cells #[.int .i64 p, .int .i64 q] 47)) := by
  subst hN
  obtain ⟨i0, hi0, hz0, hz1, hz2⟩ := info_parts infoHit
  exact wpL_appG (P := Try.prog) (Q := Q) (rest := rest) (ops := ops) hgd s x ho Try.underlying40 hi0 hz0 hz1 hz2 rfl (by decide) h hs [.int .i64 p, .int .i64 q] 1 1 hx rfl (by
    intro u hu
    simp only [List.mem_cons, List.not_mem_nil, or_false] at hu
    rcases hu with rfl | rfl <;> rfl) (by unfold maxLen; omega) (by omega) hB fun v' w' h2 h3 => hK v' w' (by unfold OH; rw [List.length_append, hitFlat_app]; exact h2) h3
end

/-! a right tree -/
structure TreeR (l : List Nd) : Prop where
  pos : 0 < l.length
  few : l.length ≤ 400
  fail : ∀ (a : Nat) (x : Nd), l[a]? = some x → 0 < a → 0 ≤ x.fail ∧ x.fail < (a : Int)
  one : ∀ (i k : Nat) (x y : Nd), 0 < k → k < i → l[i]? = some x → l[k]? = some y → ¬ (y.up = x.up ∧ y.b = x.b)
theorem tree_of {l : List Nd} {words : Int} (h : errT l words = 0) : TreeR l := by
  obtain ⟨h1, h2, ⟨x0, h3, _⟩, h4⟩ := errT_ok h
  refine ⟨(List.getElem?_eq_some_iff.1 h3).1 |> Nat.lt_of_le_of_lt (Nat.zero_le _), h1, fun a x hx ha => ?_, fun i k x y hk hi hx hy hh => ?_⟩
  · have := h4 a x (List.getElem?_eq_some_iff.1 hx).1 hx
    unfold BadN at this
    by_cases c1 : x.fail < 0
    · exact absurd (.inr ⟨ha, .inr (.inr (.inl c1))⟩) this
    · by_cases c2 : (a : Int) ≤ x.fail
      · exact absurd (.inr ⟨ha, .inr (.inr (.inr (.inl c2)))⟩) this
      · omega
  · exact h4 i x (List.getElem?_eq_some_iff.1 hx).1 hx (.inr ⟨by omega, .inr (.inr (.inr (.inr (chN_yes hy hk hi hh))))⟩)
theorem TreeR.failN {l : List Nd} (h : TreeR l) {a : Nat} {x : Nd} (hx : l[a]? = some x) (ha : 0 < a) : x.fail = ((failN l a : Nat) : Int) ∧ failN l a < a := by
  have := h.fail a x hx ha
  unfold Proofs.Ytckinkapbfaceaa.failN
  rw [hx]
  simp only; omega
theorem endsN_at {l : List Nd} {a : Nat} {x : Nd} (hx : l[a]? = some x) : endsN l a = x.ends := by unfold endsN; rw [hx]
theorem goT_lt {C : Nat → Option Nat} {fl : Nat → Nat} {n : Nat} (hC : ∀ u k, C u = some k → k < n) (a : Nat) (ha : a < n) : (goT C fl a).1 < n := by
  induction a using Nat.strongRecOn with
  | ind a ih =>
    rw [goT]
    cases hc : C a with
    | some k => exact hC _ _ hc
    | none =>
      simp only
      split
      · rename_i h; exact ih _ h.2 (by omega)
      · exact ha
theorem stepN_lt {l : List Nd} {b : Int} {a : Nat} (ha : a < l.length) : (stepN l b a).1 < l.length := goT_lt (fun u k h => (chN_some h).2.1) a ha
theorem hitK_lt {l : List Nd} (s : List UInt8) (h : 0 < l.length) : ∀ i, (hitK l s i).1 < l.length
  | 0 => h
  | i + 1 => by
    have := stepN_lt (l := l) (b := (((s[i]?.map UInt8.toNat).getD 0 : Nat) : Int)) (hitK_lt s h i)
    unfold hitK
    split
    · rename_i e; rw [e] at this; exact this
    · rename_i e; rw [e] at this; exact this
/-- a round with a child -/
theorem hitK_yes {l : List Nd} {s : List UInt8} {i a k : Nat} {L : List (Int × Int)} {b : UInt8} (h : hitK l s i = (a, L)) (hb : s[i]? = some b) (hs : stepN l (b.toNat : Int) a = (k, true)) : hitK l s (i + 1) = (k, L ++ (endsN l k).map fun e => (e, (i : Int) + 1)) := by
  unfold hitK
  rw [h, hb]
  simp only [Option.map_some, Option.getD_some, hs]
theorem hitK_no {l : List Nd} {s : List UInt8} {i a k : Nat} {L : List (Int × Int)} {b : UInt8} (h : hitK l s i = (a, L)) (hb : s[i]? = some b) (hs : stepN l (b.toNat : Int) a = (k, false)) : hitK l s (i + 1) = (k, L) := by
  unfold hitK
  rw [h, hb]
  simp only [Option.map_some, Option.getD_some, hs]
theorem hitK_pre (l : List Nd) (s : List UInt8) (i : Nat) : ∀ n, ∃ R, (hitK l s (i + n)).2 = (hitK l s i).2 ++ R
  | 0 => ⟨[], by simp⟩
  | n + 1 => by
    obtain ⟨R, h⟩ := hitK_pre l s i n
    rw [← Nat.add_assoc]
    conv => enter [1, R]; lhs; unfold hitK
    split
    · exact ⟨R ++ _, by simp only; rw [h, List.append_assoc]⟩
    · exact ⟨R, h⟩
theorem hitsT_more {l : List Nd} {s : List UInt8} {i : Nat} (hi : i ≤ s.length) (h : (hitK l s i).2 ≠ []) : hitsT l s ≠ [] := by
  obtain ⟨R, e⟩ := hitK_pre l s i (s.length - i)
  unfold hitsT
  rw [show s.length = i + (s.length - i) by omega, e]
  intro k
  exact h (List.append_eq_nil_iff.1 k).1
theorem endsN_le {l : List Nd} (hl : ∀ x ∈ l, x.ends.length ≤ 1048576) (a : Nat) : (endsN l a).length ≤ 1048576 := by
  unfold endsN
  split
  · rename_i x hx; exact hl x (List.mem_of_getElem? hx)
  · simp
theorem hitK_len {l : List Nd} (hl : ∀ x ∈ l, x.ends.length ≤ 1048576) (s : List UInt8) : ∀ i, (hitK l s i).2.length ≤ i * 1048576
  | 0 => by simp [hitK]
  | i + 1 => by
    have := hitK_len hl s i
    unfold hitK
    split
    · rename_i a _
      have := endsN_le hl a
      simp only [List.length_append, List.length_map]
      rw [Nat.succ_mul]; omega
    · exact Nat.le_trans this (Nat.mul_le_mul_right _ (Nat.le_succ i))
end Go.Proofs.Ytckinkapbfaceaa
