/- Records: a list of them in a slice of the call's own; slices.Equal, wickref.SameRecord on equal contents. -/
import Derived.Test.YtahcgajipnkojaaArdC
import Derived.Test.YtahcgajipnkojaaShelf
namespace Go.Proofs.Ytahcgajipnkojaa
open Go.RowKit
set_option linter.unusedVariables false
set_option linter.unusedSimpArgs false

theorem infoRec : (Try.prog.info? 32).map (fun i => (i.zero, i.size, i.bytes)) = some (some (.agg zrec), 6, 72) := by kernel_rfl

def rcCells (r : Rc) (p : Option Addr × Nat) : List Value := [.int .i64 r.c, .int .i64 r.o, .int .i64 r.b, .int .i64 r.s, .slice p.1 r.ms.length p.2, .string (str r.t)]
def rcFlat : List Rc → List (Option Addr × Nat) → List Value
  | r :: rs, p :: ps => rcCells r p ++ rcFlat rs ps
  | _, _ => []
theorem rcFlat_len : ∀ (rs : List Rc) (ps : List (Option Addr × Nat)), ps.length = rs.length → (rcFlat rs ps).length = rs.length * 6
  | [], [], _ => rfl
  | r :: rs, p :: ps, h => by
    have := rcFlat_len rs ps (by simpa using h)
    simp only [rcFlat, List.length_append, this, List.length_cons, rcCells, List.length_nil]; omega
  | [], _ :: _, h => by simp at h
  | _ :: _, [], h => by simp at h
theorem rcFlat_snoc (r : Rc) (p : Option Addr × Nat) : ∀ (rs : List Rc) (ps : List (Option Addr × Nat)), ps.length = rs.length → rcFlat (rs ++ [r]) (ps ++ [p]) = rcFlat rs ps ++ rcCells r p
  | [], [], _ => by simp [rcFlat]
  | r' :: rs, p' :: ps, h => by
    have := rcFlat_snoc r p rs ps (by simpa using h)
    simp only [List.cons_append, rcFlat, this, List.append_assoc]
  | [], _ :: _, h => by simp at h
  | _ :: _, [], h => by simp at h
theorem rcFlat_get : ∀ (rs : List Rc) (ps : List (Option Addr × Nat)) (k : Nat) (r : Rc) (p : Option Addr × Nat) (j : Nat), rs[k]? = some r → ps[k]? = some p → j < 6 → (rcFlat rs ps)[k * 6 + j]? = (rcCells r p)[j]?
  | [], _, k, r, p, j, h, _, _ => by simp at h
  | _ :: _, [], k, r, p, j, _, h, _ => by simp at h
  | r0 :: rs, p0 :: ps, 0, r, p, j, h, h', hj => by
    simp at h h'; subst h h'
    rw [rcFlat, List.getElem?_append_left (by simp [rcCells]; omega)]; simp
  | r0 :: rs, p0 :: ps, k + 1, r, p, j, h, h', hj => by
    have := rcFlat_get rs ps k r p j (by simpa using h) (by simpa using h') hj
    rw [rcFlat, List.getElem?_append_right (by simp [rcCells]; omega), ← this]
    congr 1; simp [rcCells]; omega

/-- a slice of records -/
structure RL (w : World) (B : Nat) (v : Value) (rs : List Rc) (ps : List (Option Addr × Nat)) : Prop where
  len : ps.length = rs.length
  own : w.ownsRow B 32 6 v rs.length (rcFlat rs ps)
  inn : ∀ (i : Nat) (r : Rc) (p : Option Addr × Nat), rs[i]? = some r → ps[i]? = some p → OI w B (.slice p.1 r.ms.length p.2) r.ms
theorem RL.nil (w : World) (B : Nat) : RL w B (.slice none 0 0) [] [] := ⟨rfl, World.ownsRow_nil _ _ _ _, fun i r p h => by simp at h⟩
theorem ownsRow_blk {w w' : World} {B : Nat} {E : TypeId} {size n : Nat} {v : Value} {xs : List Value} (h : w.ownsRow B E size v n xs) (hq : ∀ k, B ≤ k → k < w.heap.size → w'.heap[k]? = w.heap[k]?) : w'.ownsRow B E size v n xs := by
  refine ⟨h.1, ?_⟩
  rcases h.2 with h2 | ⟨g, cap, cur, e1, e2, e3, e4⟩
  · exact .inl h2
  · refine .inr ⟨g, cap, cur, e1, e2, ?_, e4⟩
    rw [hq g e2 (Blk.lt (t := E) (cs := cur) e3)]; exact e3
section
variable {w w' : World} {B : Nat} {v v' : Value} {rs : List Rc} {ps : List (Option Addr × Nat)}
theorem RL.below (h : RL w B v rs ps) (hb : Below w.heap.size w w') : RL w' B v rs ps :=
  ⟨h.len, ownsRow_blk h.own fun k _ hk => hb.block k hk, fun i r p e e' => OI.kept (h.inn i r p e e') hb⟩
theorem RL.alloc (h : RL w B v rs ps) (o : Obj) : RL (w.alloc o) B v rs ps := ⟨h.len, World.ownsRow.alloc h.own _, fun i r p e e' => OI.alloc (h.inn i r p e e') o⟩
theorem RL.drewN (h : RL w B v rs ps) (n : Nat) : RL (w.drewN n) B v rs ps := ⟨h.len, h.own, h.inn⟩
theorem own_own {b1 b2 : Nat} {e1 e2 : TypeId} {s1 s2 n1 n2 : Nat} {v1 v2 : Value} {x1 x2 : List Value} (h1 : w.ownsRow b1 e1 s1 v1 n1 x1) (h2 : w.ownsRow b2 e2 s2 v2 n2 x2) (hne : e1 ≠ e2) : v1.ownBlock = none ∨ v1.ownBlock ≠ v2.ownBlock := by
  rcases h2.2 with ⟨rfl, _⟩ | ⟨g, cap, cur, rfl, _, hh, _⟩
  · cases hv : v1.ownBlock with
    | none => exact .inl rfl
    | some x => exact .inr (by simp [Value.ownBlock])
  · exact .inr (own_blk_ne h1 (cs := cur) hh hne)
theorem RL.snoc (h : RL w B v rs ps) (r : Rc) (p : Option Addr × Nat) (hi : OI w B (.slice p.1 r.ms.length p.2) r.ms) (ho : w'.ownsRow B 32 6 v' (rs.length + 1) (rcFlat rs ps ++ rcCells r p)) (hg : Grew w w' v v') : RL w' B v' (rs ++ [r]) (ps ++ [p]) := by
  have hk : ∀ q : Option Addr × Nat, ∀ ms : List Int, OI w B (.slice q.1 ms.length q.2) ms → OI w' B (.slice q.1 ms.length q.2) ms := fun q ms hq =>
    World.ownsRow.kept hq hg.grown (own_own hq h.own (by decide))
  refine ⟨by simp [h.len], by rw [rcFlat_snoc _ _ _ _ h.len, List.length_append]; exact ho, fun i r' p' e e' => ?_⟩
  by_cases hlt : i < rs.length
  · rw [List.getElem?_append_left hlt] at e
    rw [List.getElem?_append_left (by rw [h.len]; exact hlt)] at e'
    exact hk _ _ (h.inn i r' p' e e')
  · rw [List.getElem?_append_right (by omega)] at e
    rw [List.getElem?_append_right (by rw [h.len]; omega), h.len] at e'
    have h0 : i - rs.length = 0 := by
      rcases Nat.eq_zero_or_pos (i - rs.length) with h0 | h0
      · exact h0
      · rw [List.getElem?_eq_none (by simp; omega)] at e; cases e
    rw [h0] at e e'
    simp at e e'; subst e e'
    exact hk _ _ hi

theorem wpL_appR {ops : Array Oper} {rest : List Oper} {o : Oper} {a : Act} {Q : Exit → Act → World → Prop} (hgd : o.guard = none) (s x : Operand)
    (ho : o.op = .call { callee := .builtin .append, args := #[s, x], argTypes := #[40, 40] })
    (h : RL w B v rs ps) (hs : a.eval s = v) (r : Rc) (p : Option Addr × Nat) (hi : OI w B (.slice p.1 r.ms.length p.2) r.ms)
    (hx : a.eval x = .slice (some ⟨w.heap.size, 0, none⟩) 1 1) (hlen : rs.length ≤ 1048577) (hB : B ≤ w.heap.size) {A : Option Addr} {L cap : Nat} {c1 c2 c3 c4 : Int} {t : ByteArray}
    (hvals : [Value.int .i64 c1, .int .i64 c2, .int .i64 c3, .int .i64 c4, .slice A L cap, .string t] = rcCells r p)
    (hK : ∀ v' w', RL w' B v' (rs ++ [r]) (ps ++ [p]) → Below B w w' → wpList Try.prog ops Q rest (a.put o.dst v') w') :
    wpList Try.prog ops Q (o :: rest) a (w.alloc (.cells #[.int .i64 c1, .int .i64 c2, .int .i64 c3, .int .i64 c4, .slice A L cap, .string t] 32)) := by
  obtain ⟨i0, hi0, hz0, hz1, hz2⟩ := info_parts infoRec
  have := wpL_appG (P := Try.prog) (Q := Q) (rest := rest) (ops := ops) hgd s x ho Try.underlying40 hi0 hz0 hz1 hz2 rfl (by decide) h.own hs (rcCells r p) 1 1 hx rfl (by
    intro u hu
    simp only [rcCells, List.mem_cons, List.not_mem_nil, or_false] at hu
    rcases hu with rfl | rfl | rfl | rfl | rfl | rfl <;> rfl) (by unfold maxLen; omega) (by omega) hB fun v' w' h2 h3 => hK v' w' (h.snoc r p hi h2 h3) (h3.below hB (own_from h.own))
  rw [← hvals] at this
  exact this
end

theorem eqI_any (A A' : Option Addr) (cap cap' : Nat) (ms : List Int) (w : World) (B B' : Nat) (h : OI w B (.slice A ms.length cap) ms) (h' : OI w B' (.slice A' ms.length cap') ms) :
    Calls Try.prog 62 #[.slice A ms.length cap, .slice A' ms.length cap'] w fun e w' => e = .returned (.bool true) ∧ ∃ q, w' = w.drewN q := by
  by_cases hn : ms.length = 0
  · have := Try.slices_Equal_int_empty A A' cap 0 cap' w (by omega)
    rw [hn]
    exact this.mono fun e w' ⟨h1, h2⟩ => ⟨by rw [h1]; rfl, 0, h2⟩
  · rcases h.2 with ⟨_, h2⟩ | ⟨g, c, cur, e1, _, _, hnc, hcm, _⟩
    · omega
    rcases h'.2 with ⟨_, h2⟩ | ⟨g', c', cur', e1', _⟩
    · omega
    injection e1 with e1 e2 e3
    injection e1' with e1' e2' e3'
    subst e1 e3 e1' e3'
    unfold maxLen at hcm
    have := Try.slices_Equal_int g 0 ms.length cap g' 0 ms.length cap' ms ms w (Nat.le_refl _) (Nat.le_refl _) (by omega) (by omega)
      (fun j hj => by
        rw [Nat.zero_add, World.ownsRow.cellAt h j (by omega), List.getElem?_map, List.getElem?_eq_getElem hj, List.getD, List.getElem?_eq_getElem hj]; rfl)
      (fun j hj => by
        rw [Nat.zero_add, World.ownsRow.cellAt h' j (by omega), List.getElem?_map, List.getElem?_eq_getElem hj, List.getD, List.getElem?_eq_getElem hj]; rfl)
    exact this.mono fun e w' ⟨h1, h2⟩ => ⟨by rw [h1]; simp, h2⟩

set_option maxHeartbeats 1000000 in
theorem same_yes (c o b s : Int) (A A' : Option Addr) (cap cap' : Nat) (ms : List Int) (t : ByteArray) (w : World) (B B' : Nat) (h : OI w B (.slice A ms.length cap) ms) (h' : OI w B' (.slice A' ms.length cap') ms) :
    Calls Try.prog 22 #[recV c o b s A ms.length cap t, recV c o b s A' ms.length cap' t] w fun e w' => e = .returned (.bool true) ∧ Below w.heap.size w w' := by
  have C := fun W (k : OI W B (.slice A ms.length cap) ms) (k' : OI W B' (.slice A' ms.length cap') ms) => eqI_any A A' cap cap' ms W B B' k k'
  have HC := Lib.hid C
  have H := Lib.hid h
  have H' := Lib.hid h'
  clear C h h'
  go_enter Try.func22, Try.ntmps22
  go_wp2_with fail
  refine (HC.out _ ((H.out.alloc _).alloc _) ((H'.out.alloc _).alloc _)).mono ?_
  rintro e w1 ⟨rfl, q, rfl⟩
  go_wp2_with fail
  go_ret
  exact ⟨rfl, below_drewN (((Below.refl _ _).alloc (Nat.le_refl _) _).alloc (by simp) _) q⟩
end Go.Proofs.Ytahcgajipnkojaa
