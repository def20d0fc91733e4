/- Pairs of strings: slices of them that a call makes ([]api.Field, []api.Arg); slices.Equal of two of them. -/
import Derived.Test.YthfolopnjmkllaaDoorFd
import Derived.Test.YthfolopnjmkllaaDoorApp
namespace Go.Proofs.YthfolopnjmkllaaDoor
open Go.RowKit
set_option linter.unusedVariables false
set_option linter.unusedSimpArgs false

theorem fdFlat_app (l m : List Fd) : fdFlat (l ++ m) = fdFlat l ++ fdFlat m := List.flatMap_append
theorem fdFlat_one (i : Fd) : fdFlat [i] = [.string i.n, .string i.v] := by simp [fdFlat]
/-- a slice of pairs, of the call's own -/
def OP (t : TypeId) (w : World) (B : Nat) (v : Value) (l : List Fd) : Prop := w.ownsRow B t 2 v l.length (fdFlat l)
section
variable {t : TypeId} {w w' : World} {B : Nat} {v v' : Value} {l : List Fd}
theorem OP.nil (t : TypeId) (w : World) (B : Nat) : OP t w B (.slice none 0 0) [] := World.ownsRow_nil _ _ _ _
theorem OP.form (h : OP t w B v l) : ∃ A c, v = .slice A l.length c := by
  rcases h.2 with ⟨rfl, h2⟩ | ⟨g, c, cur, rfl, _⟩
  · exact ⟨none, 0, by rw [h2]⟩
  · exact ⟨_, _, rfl⟩
theorem OP.formC (h : OP t w B v l) : ∃ A c, v = .slice A l.length c ∧ l.length ≤ c ∧ c ≤ 9223372036854775807 := by
  rcases h.2 with ⟨rfl, h2⟩ | ⟨g, c, cur, rfl, _, _, h3, h4, _⟩
  · exact ⟨none, 0, by rw [h2], by omega, by omega⟩
  · unfold maxLen at h4; exact ⟨_, _, rfl, h3, by omega⟩
theorem OP.drewN (h : OP t w B v l) (n : Nat) : OP t (w.drewN n) B v l := h
theorem OP.alloc (h : OP t w B v l) (o : Obj) : OP t (w.alloc o) B v l := World.ownsRow.alloc h o
theorem OP.mono {B' : Nat} (h : OP t w B v l) (hB : B' ≤ B) : OP t w B' v l := by
  refine ⟨h.1, ?_⟩
  rcases h.2 with h2 | ⟨g, cap, cur, e1, e2, e3⟩
  · exact .inl h2
  · exact .inr ⟨g, cap, cur, e1, Nat.le_trans hB e2, e3⟩
theorem OP.kept (h : OP t w B v l) (hb : Below w.heap.size w w') : OP t w' B v l := by
  refine World.ownsRow.kept (row := none) h ⟨hb.os, hb.tape, hb.output, hb.size, fun k hk _ => hb.block k hk⟩ ?_
  cases v.ownBlock <;> simp
/-- a store elsewhere, below -/
theorem OP.store (h : OP t w B v l) {p : Addr} (hp : p.block < B) (u : Value) : OP t (w.setCell p u) B v l := by
  refine ⟨h.1, ?_⟩
  rcases h.2 with h2 | ⟨g, cap, cur, e1, e2, e3, e4⟩
  · exact .inl h2
  · refine .inr ⟨g, cap, cur, e1, e2, ?_, e4⟩
    rw [Below.heap_setCell w p u g (by omega)]; exact e3
theorem OP.reads {A : Option Addr} {c : Nat} (h : OP t w B (.slice A l.length c) l) : Reads w w.heap.size 2 A l.length (fdFlat l) := Reads.of_own h
theorem OP.fdR {A : Option Addr} {c : Nat} (h : OP t w B (.slice A l.length c) l) (hz : ∀ f ∈ l, f.n.size ≤ 1048576 ∧ f.v.size ≤ 1048576) : FdR w w.heap.size A c l := by
  obtain ⟨A', c', e, h1, h2⟩ := h.formC
  injection e with e1 e2 e3
  subst e3
  exact ⟨h.reads, h1, h2, hz⟩
theorem OP.at_ {A : Option Addr} {c : Nat} (h : OP t w B (.slice A l.length c) l) {k : Nat} {i : Fd} (hk : l[k]? = some i) : ∃ g, A = some ⟨g, 0, none⟩ ∧ B ≤ g ∧ g < w.heap.size ∧ w.cell? ⟨g, k * 2, none⟩ = some (.string i.n) ∧ w.cell? ⟨g, k * 2 + 1, none⟩ = some (.string i.v) := by
  have hkl := (List.getElem?_eq_some_iff.1 hk).1
  rcases h.2 with ⟨_, h2⟩ | ⟨g, c', cur, e, hb, hh, h3, h4, h5⟩
  · omega
  · injection e with e1 e2 e3
    subst e1
    obtain ⟨ad, ea, hlt, hc⟩ := (OP.reads h).2 (by omega)
    cases ea
    refine ⟨g, rfl, hb, hlt, ?_, ?_⟩
    · have := hc (k * 2 + 0) _ (by rw [fdFlat_get hk (by omega)]; rfl)
      by_cases e0 : k * 2 = 0
      · simpa [Addr.add, e0] using this
      · simpa [Addr.add, e0] using this
    · have := hc (k * 2 + 1) _ (by rw [fdFlat_get hk (by omega)]; rfl)
      simpa [Addr.add] using this
/-- append of one pair -/
theorem wpL_appP {P : Program} {T : TypeId} {ops : Array Oper} {rest : List Oper} {o : Oper} {a : Act} {Q : Exit → Act → World → Prop} (hI : (P.info? t).map (fun i => (i.zero, i.size, i.bytes)) = some (some (.agg #[.string ByteArray.empty, .string ByteArray.empty]), 2, 32)) (hT : P.underlying T = some (.slice t)) (hgd : o.guard = none) (s x : Operand)
    (ho : o.op = .call { callee := .builtin .append, args := #[s, x], argTypes := #[T, T] })
    (h : OP t w B v l) (hs : a.eval s = v) (i : Fd) {N : Nat} (hx : a.eval x = .slice (some ⟨N, 0, none⟩) 1 1) (hN : N = w.heap.size) (hlen : l.length ≤ 4000000000000) (hB : B ≤ w.heap.size)
    (hK : ∀ v' w', OP t w' B v' (l ++ [i]) → Grew w w' v v' → Below B w w' → wpList P ops Q rest (a.put o.dst v') w') :
    wpList P ops Q (o :: rest) a (w.alloc (.cells #[.string i.n, .string i.v] t)) := by
  subst hN
  obtain ⟨i0, hi0, hz0, hz1, hz2⟩ := info_parts hI
  exact wpL_appG (P := P) (Q := Q) (rest := rest) (ops := ops) hgd s x ho hT hi0 hz0 hz1 hz2 rfl (by decide) h hs [.string i.n, .string i.v] 1 1 hx rfl (by
    intro u hu
    simp only [List.mem_cons, List.not_mem_nil, or_false] at hu
    rcases hu with rfl | rfl <;> rfl) (by unfold maxLen; omega) (by omega) hB fun v' w' h2 h3 => hK v' w' (by unfold OP; rw [List.length_append, fdFlat_app, fdFlat_one]; exact h2) h3 (h3.below hB (own_from h))
end
end Go.Proofs.YthfolopnjmkllaaDoor
