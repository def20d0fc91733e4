/- Append of one list of pairs to another. -/
import Derived.Test.YthfolopnjmkllaaDoorPr
namespace Go.Proofs.YthfolopnjmkllaaDoor
open Go.RowKit
set_option linter.unusedVariables false
set_option linter.unusedSimpArgs false

theorem wpL_appPP {P : Program} {T t : TypeId} {w : World} {B B2 : Nat} {v u : Value} {l k : List Fd} {ops : Array Oper} {rest : List Oper} {o : Oper} {a : Act} {Q : Exit → Act → World → Prop} (hI : (P.info? t).map (fun i => (i.zero, i.size, i.bytes)) = some (some (.agg #[.string ByteArray.empty, .string ByteArray.empty]), 2, 32)) (hT : P.underlying T = some (.slice t)) (hgd : o.guard = none) (s x : Operand)
    (ho : o.op = .call { callee := .builtin .append, args := #[s, x], argTypes := #[T, T] })
    (h : OP t w B v l) (hs : a.eval s = v) (h2 : OP t w B2 u k) (hx : a.eval x = u) (hlen : l.length + k.length ≤ 4000000000000) (hB : B ≤ w.heap.size)
    (hK : ∀ v' w', OP t w' B v' (l ++ k) → w.grownBy w' v.ownBlock → Below B w w' → wpList P ops Q rest (a.put o.dst v') w') :
    wpList P ops Q (o :: rest) a w := by
  obtain ⟨i0, hi0, hz0, hz1, hz2⟩ := info_parts hI
  have key : ∃ v' w', (Builtin.append_ #[T, T] o.type #[v, u]).run P w = .ok v' w' ∧ OP t w' B v' (l ++ k) ∧ w.grownBy w' v.ownBlock ∧ Below B w w' := by
    by_cases h0 : k.length = 0
    · obtain rfl : k = [] := List.eq_nil_of_length_eq_zero h0
      rcases h2.2 with ⟨rfl, _⟩ | ⟨g, cap, cur, rfl, _, _, hnc, _⟩
      · exact ⟨v, w, run_append_owned_none w B T o.type t i0 2 hT hi0 v _ _ h, by rw [List.append_nil]; exact h, World.grownBy.refl _ _, Below.refl _ _⟩
      · obtain ⟨v', w', hr, ho', hg, _⟩ := run_append_own_at (P := P) w B T o.type t i0 _ 2 32 hT hi0 hz0 hz1 hz2 rfl (by decide) v _ _ h ⟨g, 0, none⟩ 0 cap [] rfl (by simp) (by simp) (by unfold maxLen; omega) (by omega) hB
        refine ⟨v', w', by simpa using hr, ?_, hg, (Below.refl _ _).grown hg hB (own_from h)⟩
        rw [List.append_nil]
        rw [List.append_nil, Nat.add_zero] at ho'
        exact ho'
    · obtain ⟨A, c, rfl⟩ := h2.form
      obtain ⟨ad, rfl, _, hc⟩ := (OP.reads h2).2 (by omega)
      obtain ⟨v', w', hr, ho', hg, _⟩ := run_append_own_at (P := P) w B T o.type t i0 _ 2 32 hT hi0 hz0 hz1 hz2 rfl (by decide) v _ _ h ad k.length c (fdFlat k) (fdFlat_len k) hc (by
        intro x hx
        unfold fdFlat at hx
        obtain ⟨f, _, hf⟩ := List.mem_flatMap.1 hx
        simp only [fdCs, List.mem_cons, List.not_mem_nil, or_false] at hf
        rcases hf with rfl | rfl <;> rfl) (by unfold maxLen; omega) (by omega) hB
      refine ⟨v', w', hr, ?_, hg, (Below.refl _ _).grown hg hB (own_from h)⟩
      unfold OP
      rw [List.length_append, fdFlat_app]; exact ho'
  obtain ⟨v', w', hrun, h3, hg, h4⟩ := key
  refine wpList_plain hgd fun _ hK' => ?_
  unfold Oper.wp execOp
  simp only [ho, resolve, invoke, builtin, Sem.run_bind, Sem.run_pure, Result.andThen_ok, List.map_toArray, List.map_cons, List.map_nil, hs, hx, hrun]
  exact hK' _ _ (hK v' w' h3 hg h4)
theorem OP.apart {t : TypeId} {w w' : World} {B : Nat} {u v : Value} {k : List Fd} (h : OP t w B u k) (hl : ∀ g, v.ownBlock = some g → g < B) (hg : w.grownBy w' v.ownBlock) : OP t w' B u k := by
  refine World.ownsRow.kept h hg ?_
  cases hu : u.ownBlock with
  | none => exact .inl rfl
  | some g =>
    right
    intro e
    have h1 := own_from h g hu
    have h2 := hl g e.symm
    omega
end Go.Proofs.YthfolopnjmkllaaDoor
