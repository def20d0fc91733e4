/- Nodes of a tree of phrases: cells; plain: what is wrong with a tree, the child by a byte, where a byte leads, the hits. -/
import Derived.Test.YtckinkapbfaceaaApp
namespace Go.Proofs.Ytckinkapbfaceaa
open Go.RowKit
set_option linter.unusedVariables false
set_option linter.unusedSimpArgs false

structure Nd where
  (b up fail : Int) (ends : List Int) (E : Option Addr) (ce : Nat)
def Nd.cs (x : Nd) : List Value := [.int .u8 x.b, .int .i64 x.up, .int .i64 x.fail, .slice x.E x.ends.length x.ce]
theorem Nd.cs_len (x : Nd) : x.cs.length = 4 := rfl
def ndFlat (l : List Nd) : List Value := l.flatMap Nd.cs
theorem ndFlat_len (l : List Nd) : (ndFlat l).length = l.length * 4 := by
  unfold ndFlat
  induction l with
  | nil => rfl
  | cons x l ih => rw [List.flatMap_cons, List.length_append, ih, Nd.cs_len, List.length_cons]; omega
theorem ndFlat_app (l m : List Nd) : ndFlat (l ++ m) = ndFlat l ++ ndFlat m := List.flatMap_append
theorem ndFlat_get {l : List Nd} {k j : Nat} {i : Nd} (h : l[k]? = some i) (hj : j < 4) : (ndFlat l)[k * 4 + j]? = i.cs[j]? := by
  obtain ⟨hk, rfl⟩ := List.getElem?_eq_some_iff.1 h
  have e : l = l.take k ++ l[k] :: l.drop (k + 1) := by rw [← List.drop_eq_getElem_cons hk, List.take_append_drop]
  conv => lhs; rw [e]
  have hc : ndFlat (l[k] :: l.drop (k + 1)) = l[k].cs ++ ndFlat (l.drop (k + 1)) := List.flatMap_cons
  rw [ndFlat_app, hc, List.getElem?_append_right (by rw [ndFlat_len, List.length_take]; omega), ndFlat_len, List.length_take, Nat.min_eq_left (by omega), Nat.add_sub_cancel_left, List.getElem?_append_left (by rw [Nd.cs_len]; exact hj)]
/-- a node's numbers are numbers of Go, its list is there -/
structure Nd.ok (w : World) (B : Nat) (x : Nd) : Prop where
  b : (Lit.int .u8 x.b).wf = true
  up : (Lit.int .i64 x.up).wf = true
  fail : (Lit.int .i64 x.fail).wf = true
  ends : ∀ e ∈ x.ends, (Lit.int .i64 e).wf = true
  rd : Reads w B 1 x.E x.ends.length (x.ends.map (Value.int .i64))
  ce : x.ends.length ≤ x.ce ∧ x.ce ≤ maxLen
/-- nodes to be read at A -/
structure NdR (w : World) (B : Nat) (A : Option Addr) (cap : Nat) (l : List Nd) : Prop where
  rd : Reads w B 4 A l.length (ndFlat l)
  hB : B ≤ w.heap.size
  hc : l.length ≤ cap ∧ cap ≤ maxLen
  ok : ∀ x, x ∈ l → x.ok w B
section
variable {w w' : World} {B : Nat} {A : Option Addr} {cap : Nat} {l : List Nd}
theorem NdR.below (h : NdR w B A cap l) (hb : Below B w w') : NdR w' B A cap l := ⟨h.rd.below hb, Nat.le_trans h.hB hb.size, h.hc, fun x hx => ⟨(h.ok x hx).b, (h.ok x hx).up, (h.ok x hx).fail, (h.ok x hx).ends, (h.ok x hx).rd.below hb, (h.ok x hx).ce⟩⟩
theorem NdR.kept (h : NdR w B A cap l) (hb : Below w.heap.size w w') : NdR w' B A cap l := h.below (hb.mono h.hB)
theorem NdR.drew (h : NdR w B A cap l) : NdR w.drew B A cap l := h.below (Below.refl _ _).drew
theorem NdR.at_ (h : NdR w B A cap l) {k : Nat} {x : Nd} (hx : l[k]? = some x) : ∃ ad, A = some ad ∧ ad.block < B ∧ w.cell? (ad.add (k * 4)) = some (.int .u8 x.b) ∧ w.cell? ⟨(ad.add (k * 4)).block, (ad.add (k * 4)).off + 1, none⟩ = some (.int .i64 x.up) ∧ w.cell? ⟨(ad.add (k * 4)).block, (ad.add (k * 4)).off + 2, none⟩ = some (.int .i64 x.fail) ∧
    w.cell? ⟨(ad.add (k * 4)).block, (ad.add (k * 4)).off + 3, none⟩ = some (.slice x.E x.ends.length x.ce) := by
  obtain ⟨hk, _⟩ := List.getElem?_eq_some_iff.1 hx
  obtain ⟨ad, e, hb, hc⟩ := h.rd.2 (by omega)
  have key : ∀ j, j < 4 → w.cell? ((ad.add (k * 4)).add j) = x.cs[j]? := fun j hj => by
    rw [add_of_add]
    have h1 := ndFlat_get hx hj
    rw [List.getElem?_eq_getElem (show j < x.cs.length by rw [Nd.cs_len]; exact hj)] at h1 ⊢
    exact hc _ _ h1
  have sp : ∀ j, 0 < j → (ad.add (k * 4)).add j = ⟨(ad.add (k * 4)).block, (ad.add (k * 4)).off + j, none⟩ := fun j hj => by
    generalize ad.add (k * 4) = p
    unfold Addr.add; rw [if_neg (by omega)]
  refine ⟨ad, e, hb, ?_, ?_, ?_, ?_⟩
  · have := key 0 (by omega)
    rw [add_of_add] at this; exact this
  all_goals rw [← sp _ (by omega)]; exact key _ (by omega)
/-- an end of a node -/
theorem NdR.end_ (h : NdR w B A cap l) {k j : Nat} {x : Nd} (hx : l[k]? = some x) (hj : j < x.ends.length) : ∃ ad, x.E = some ad ∧ ad.block < B ∧ w.cell? (ad.add j) = some (.int .i64 x.ends[j]) := by
  obtain ⟨ad, u, e, hb, hu, hc⟩ := (h.ok x (List.mem_of_getElem? hx)).rd.at_ hj
  refine ⟨ad, e, hb, ?_⟩
  rw [hc, ← hu, List.getElem?_map, List.getElem?_eq_getElem hj]; rfl
end

/-! plain -/
/-- the node by which byte b leads on from node u: the last of the first n -/
def chN (l : List Nd) : Nat → Int → Int → Option Nat
  | 0, _, _ => none
  | n + 1, u, b => if 0 < n ∧ (∃ x, l[n]? = some x ∧ x.up = u ∧ x.b = b) then some n else chN l n u b
theorem chN_some {l : List Nd} : ∀ {n : Nat} {u b : Int} {k : Nat}, chN l n u b = some k → 0 < k ∧ k < n ∧ ∃ x, l[k]? = some x ∧ x.up = u ∧ x.b = b
  | 0, _, _, _, h => by cases h
  | n + 1, u, b, k, h => by
    classical
    unfold chN at h
    split at h
    · rename_i hc
      cases h
      exact ⟨hc.1, by omega, hc.2⟩
    · obtain ⟨h1, h2, h3⟩ := chN_some h
      exact ⟨h1, by omega, h3⟩
theorem chN_none {l : List Nd} : ∀ {n : Nat} {u b : Int}, chN l n u b = none → ∀ k x, 0 < k → k < n → l[k]? = some x → ¬ (x.up = u ∧ x.b = b)
  | 0, _, _, _, k, x, _, hk, _ => absurd hk (by omega)
  | n + 1, u, b, h, k, x, h0, hk, hx => fun hxx => by
    unfold chN at h
    split at h
    · cases h
    · rename_i hc
      by_cases e : k = n
      · subst e; exact hc ⟨h0, x, hx, hxx⟩
      · exact chN_none h k x h0 (by omega) hx hxx
/-- what is wrong with node i -/
def BadN (l : List Nd) (words : Int) (i : Nat) (x : Nd) : Prop :=
  (∃ e ∈ x.ends, e < 0 ∨ words ≤ e) ∨ (0 < i ∧ (x.up < 0 ∨ (i : Int) ≤ x.up ∨ x.fail < 0 ∨ (i : Int) ≤ x.fail ∨ chN l i x.up x.b ≠ none))
/-- nothing is wrong with the first n nodes -/
def GoodTo (l : List Nd) (words : Int) (n : Nat) : Prop := ∀ i x, i < n → l[i]? = some x → ¬ BadN l words i x
def Root0 (l : List Nd) : Prop := ∃ x, l[0]? = some x ∧ x.up = 0 ∧ x.fail = 0
open Classical in
noncomputable def errT (l : List Nd) (words : Int) : Int := if 400 < l.length ∨ 30 < words then 2 else if Root0 l ∧ GoodTo l words l.length then 0 else 1
theorem errT_large {l : List Nd} {words : Int} (h : 400 < l.length ∨ 30 < words) : errT l words = 2 := by unfold errT; rw [if_pos h]
theorem errT_root {l : List Nd} {words : Int} (h : ¬ (400 < l.length ∨ 30 < words)) (hr : ¬ Root0 l) : errT l words = 1 := by unfold errT; rw [if_neg h, if_neg (fun k => hr k.1)]
theorem errT_bad {l : List Nd} {words : Int} (h : ¬ (400 < l.length ∨ 30 < words)) {i : Nat} {x : Nd} (hx : l[i]? = some x) (hb : BadN l words i x) : errT l words = 1 := by
  unfold errT
  rw [if_neg h, if_neg fun k => k.2 i x (List.getElem?_eq_some_iff.1 hx).1 hx hb]
theorem errT_good {l : List Nd} {words : Int} (h : ¬ (400 < l.length ∨ 30 < words)) (hr : Root0 l) (hg : GoodTo l words l.length) : errT l words = 0 := by unfold errT; rw [if_neg h, if_pos ⟨hr, hg⟩]
theorem errT_ok {l : List Nd} {words : Int} (h : errT l words = 0) : l.length ≤ 400 ∧ words ≤ 30 ∧ Root0 l ∧ GoodTo l words l.length := by
  unfold errT at h
  split at h
  · cases h
  · split at h
    · rename_i h1 h2; exact ⟨by omega, by omega, h2⟩
    · cases h
theorem GoodTo.next {l : List Nd} {words : Int} {n : Nat} {x : Nd} (h : GoodTo l words n) (hx : l[n]? = some x) (hb : ¬ BadN l words n x) : GoodTo l words (n + 1) := fun i y hi hy => by
  by_cases e : i = n
  · subst e; rw [hx] at hy; cases hy; exact hb
  · exact h i y (by omega) hy
/-- where byte b leads from node at: by the failures, till there is a child -/
def goT (C : Nat → Option Nat) (fl : Nat → Nat) (at_ : Nat) : Nat × Bool :=
  match C at_ with
  | some k => (k, true)
  | none => if h : 0 < at_ ∧ fl at_ < at_ then goT C fl (fl at_) else (at_, false)
termination_by at_
decreasing_by exact h.2
theorem goT_some {C : Nat → Option Nat} {fl : Nat → Nat} {a k : Nat} (h : C a = some k) : goT C fl a = (k, true) := by rw [goT, h]
theorem goT_zero {C : Nat → Option Nat} {fl : Nat → Nat} (h : C 0 = none) : goT C fl 0 = (0, false) := by rw [goT, h]; simp
theorem goT_fail {C : Nat → Option Nat} {fl : Nat → Nat} {a : Nat} (h : C a = none) (h0 : 0 < a) (hf : fl a < a) : goT C fl a = goT C fl (fl a) := by rw [goT, h]; simp [h0, hf]
def failN (l : List Nd) (a : Nat) : Nat := match l[a]? with | some x => x.fail.toNat | none => 0
def endsN (l : List Nd) (a : Nat) : List Int := match l[a]? with | some x => x.ends | none => []
def stepN (l : List Nd) (b : Int) (a : Nat) : Nat × Bool := goT (fun u => chN l l.length (u : Int) b) (failN l) a
/-- node and hits behind the first i bytes -/
def hitK (l : List Nd) (s : List UInt8) : Nat → Nat × List (Int × Int)
  | 0 => (0, [])
  | i + 1 => match stepN l (((s[i]?.map UInt8.toNat).getD 0 : Nat) : Int) (hitK l s i).1 with
    | (a, true) => (a, (hitK l s i).2 ++ (endsN l a).map fun e => (e, (i : Int) + 1))
    | (a, false) => (a, (hitK l s i).2)
def hitsT (l : List Nd) (s : List UInt8) : List (Int × Int) := (hitK l s s.length).2
end Go.Proofs.Ytckinkapbfaceaa
