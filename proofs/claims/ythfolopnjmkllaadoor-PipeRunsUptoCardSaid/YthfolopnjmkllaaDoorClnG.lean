/- Plain: what Path comes to. -/
import Derived.Test.YthfolopnjmkllaaDoorClnF
namespace Go.Proofs.YthfolopnjmkllaaDoor
open Go.RowKit
set_option linter.unusedVariables false
set_option linter.unusedSimpArgs false

def sl47 : ByteArray := ⟨#[47]⟩
def dotty (l : List UInt8) : Bool := decide (l = [] ∨ l = [46])
def stepP (rt : Bool) (D : List ByteArray) (p : ByteArray) : List ByteArray :=
  if dotty p.data.toList = true then D
  else if p.data.toList = [46, 46] then
    (if 0 < D.length ∧ (D.getD (D.length - 1) sl47).data.toList ≠ [46, 46] then D.take (D.length - 1) else if rt then D else D ++ [⟨#[46, 46]⟩])
  else D ++ [p]
def leftK (rt : Bool) (ps : List ByteArray) : Nat → List ByteArray
  | 0 => []
  | k + 1 => stepP rt (leftK rt ps k) (ps.getD k sl47)
theorem stepP_len (rt : Bool) (D : List ByteArray) (p : ByteArray) : (stepP rt D p).length ≤ D.length + 1 := by
  unfold stepP
  split
  · omega
  · split
    · split
      · rw [List.length_take]; omega
      · split
        · omega
        · simp
    · simp
theorem leftK_len (rt : Bool) (ps : List ByteArray) : ∀ k, (leftK rt ps k).length ≤ k
  | 0 => Nat.le_refl _
  | k + 1 => by have := stepP_len rt (leftK rt ps k) (ps.getD k sl47); have := leftK_len rt ps k; rw [leftK]; omega
theorem stepP_mem {N : Nat} (hN : 2 ≤ N) (rt : Bool) (D : List ByteArray) (p : ByteArray) (hD : ∀ x ∈ D, x.size ≤ N) (hp : p.size ≤ N) : ∀ x ∈ stepP rt D p, x.size ≤ N := by
  intro x hx
  unfold stepP at hx
  split at hx
  · exact hD x hx
  · split at hx
    · split at hx
      · exact hD x (List.mem_of_mem_take hx)
      · split at hx
        · exact hD x hx
        · rcases List.mem_append.1 hx with h | h
          · exact hD x h
          · rw [List.mem_singleton] at h; rw [h]; exact hN
    · rcases List.mem_append.1 hx with h | h
      · exact hD x h
      · rw [List.mem_singleton] at h; rw [h]; exact hp
theorem leftK_mem {N : Nat} (hN : 2 ≤ N) (rt : Bool) (ps : List ByteArray) (hp : ∀ x ∈ ps, x.size ≤ N) : ∀ k, ∀ x ∈ leftK rt ps k, x.size ≤ N
  | 0, x, hx => by simp [leftK] at hx
  | k + 1, x, hx => by
    refine stepP_mem hN rt _ _ (leftK_mem hN rt ps hp k) ?_ x hx
    rw [List.getD]
    cases h : ps[k]? with
    | none => show 1 ≤ N; omega
    | some y => exact hp y (List.mem_of_getElem? h)
theorem lens_le (N : Nat) : ∀ xs : List ByteArray, (∀ x ∈ xs, x.size ≤ N) → Lib.lens (dl xs) ≤ xs.length * N
  | [], _ => by simp [Lib.lens]
  | x :: r, h => by
    have := lens_le N r (fun y hy => h y (List.mem_cons_of_mem _ hy))
    have h0 := h x List.mem_cons_self
    rw [← lst_len] at h0
    simp only [dl, Lib.lens, List.map_cons, List.sum_cons, List.length_cons] at this ⊢
    rw [Nat.succ_mul]; omega
theorem join_le {xs : List ByteArray} (hl : xs.length ≤ 1048577) (h : ∀ x ∈ xs, x.size ≤ 1048578) (t : List UInt8) (ht : t.length = 1) : (Lib.join (dl xs) t).length ≤ 140737488355000 := by
  cases xs with
  | nil => simp [Lib.join_nil]
  | cons x r =>
    have h1 := lens_le 1048578 (x :: r) h
    have h2 : (x :: r).length * 1048578 ≤ 1048577 * 1048578 := Nat.mul_le_mul_right _ hl
    show (Lib.join (x.data.toList :: dl r) t).length ≤ _
    rw [Lib.join_length, ht]
    have h3 : (dl r).length ≤ 1048577 := by rw [List.length_map]; simp at hl; omega
    have h4 : Lib.lens (x.data.toList :: dl r) = Lib.lens (dl (x :: r)) := rfl
    omega

def lastOf (ps : List ByteArray) : ByteArray := ps.getD (ps.length - 1) sl47
def addSl (D ps : List ByteArray) : Bool := decide (0 < D.length) && (decide (1 < ps.length) && (dotty (lastOf ps).data.toList || decide ((lastOf ps).data.toList = [46, 46])))
def pathF (s : ByteArray) : List UInt8 :=
  let ps := pcs s sl47
  let rt := Lib.hasPrefix s.data.toList [47]
  let D := leftK rt ps ps.length
  (if rt then [47] else []) ++ (Lib.join (dl D) [47] ++ if addSl D ps then [47] else [])

/-- a string against the constants "", ".", ".." as the walk spells it -/
theorem z_nil {s : ByteArray} : s.toList.isEmpty = decide (s.data.toList = []) := by
  rw [Lib.toList_data, Bool.eq_iff_iff, List.isEmpty_iff, decide_eq_true_eq]
theorem z_one {s : ByteArray} (l : List UInt8) : (s.toList == l) = decide (s.data.toList = l) := by
  rw [Lib.toList_data, Bool.eq_iff_iff, beq_iff_eq, decide_eq_true_eq]
end Go.Proofs.YthfolopnjmkllaaDoor
