/- Lists of requests that a call makes; all requests at the front of a text (P30), plainly. -/
import Derived.Test.YtkcncgdgicffhaaDoorGas
import Derived.Test.YtkcncgdgicffhaaDoorGo
namespace Go.Proofs.YtkcncgdgicffhaaDoor
open Go.RowKit
set_option linter.unusedVariables false
set_option linter.unusedSimpArgs false

theorem infoReq : (Tryd.prog.info? 36).map (fun i => (i.zero, i.size, i.bytes)) = some (some (.agg #[.string ⟨#[]⟩, .string ⟨#[]⟩, .slice none 0 0, .string ⟨#[]⟩]), 4, 72) := by kernel_rfl
/-- a request as it lies in cells -/
structure RC where
  A : Option Addr
  c : Nat
  h : Hd
  x : ByteArray
abbrev RC.cells (r : RC) : List Value := [.string r.h.m, .string r.h.t, .slice r.A r.h.fs.length r.c, .string r.x]
abbrev RC.plain (r : RC) : Hd × ByteArray := (r.h, r.x)
def rcFlat (L : List RC) : List Value := L.flatMap RC.cells
theorem rcFlat_app (L M : List RC) : rcFlat (L ++ M) = rcFlat L ++ rcFlat M := List.flatMap_append
theorem rcFlat_one (r : RC) : rcFlat [r] = r.cells := by simp [rcFlat]
/-- a list of requests, of the call's own -/
structure RL (w : World) (B : Nat) (v : Value) (L : List RC) : Prop where
  row : w.ownsRow B 36 4 v L.length (rcFlat L)
  fds : ∀ r ∈ L, OP 108 w B (.slice r.A r.h.fs.length r.c) r.h.fs
section
variable {w w' : World} {B : Nat} {v v' : Value} {L : List RC}
theorem RL.nil (w : World) (B : Nat) : RL w B (.slice none 0 0) [] := ⟨World.ownsRow_nil _ _ _ _, fun r h => absurd h (by simp)⟩
theorem RL.form (h : RL w B v L) : ∃ A c, v = .slice A L.length c := by
  rcases h.row.2 with ⟨rfl, h2⟩ | ⟨g, c, cur, rfl, _⟩
  · exact ⟨none, 0, by rw [h2]⟩
  · exact ⟨_, _, rfl⟩
theorem RL.kept (h : RL w B v L) (hb : Below w.heap.size w w') : RL w' B v L := by
  refine ⟨World.ownsRow.kept (row := none) h.row ⟨hb.os, hb.tape, hb.output, hb.size, fun k hk _ => hb.block k hk⟩ ?_, fun r hr => (h.fds r hr).kept hb⟩
  cases v.ownBlock <;> simp
theorem RL.alloc (h : RL w B v L) (o : Obj) : RL (w.alloc o) B v L := h.kept ((Below.refl _ _).alloc (Nat.le_refl _) o)
theorem RL.drewN (h : RL w B v L) (n : Nat) : RL (w.drewN n) B v L := h.kept (below_drewN (Below.refl _ _) n)
theorem RL.mono {B' : Nat} (h : RL w B v L) (hB : B' ≤ B) : RL w B' v L := by
  refine ⟨⟨h.row.1, ?_⟩, fun r hr => (h.fds r hr).mono hB⟩
  rcases h.row.2 with h2 | ⟨g, cap, cur, e1, e2, e3⟩
  · exact .inl h2
  · exact .inr ⟨g, cap, cur, e1, Nat.le_trans hB e2, e3⟩
theorem RL.store (h : RL w B v L) {p : Addr} (hp : p.block < B) (u : Value) : RL (w.setCell p u) B v L :=
  ⟨ownsRow_setCell_below h.row hp u, fun r hr => (h.fds r hr).store hp u⟩
theorem own_types {t t' : TypeId} {B' n n' s s' : Nat} {xs xs' : List Value} (h : w.ownsRow B t s v n xs) (h' : w.ownsRow B' t' s' v' n' xs') (hne : t ≠ t') : v'.ownBlock = none ∨ v'.ownBlock ≠ v.ownBlock := by
  rcases h'.2 with ⟨rfl, _⟩ | ⟨g', c', cur', rfl, _, hg', _⟩
  · exact .inl rfl
  · refine .inr ?_
    rcases h.2 with ⟨rfl, _⟩ | ⟨g, c, cur, rfl, _, hg, _⟩
    · simp [Value.ownBlock]
    · intro e
      simp only [Value.ownBlock, Option.some.injEq] at e
      subst e
      rw [hg] at hg'
      simp only [Option.some.injEq, Obj.cells.injEq] at hg'
      exact hne hg'.2.1
/-- what a list's append does to fields that lie elsewhere -/
theorem OP.grownR {u : Value} {fs : List Fd} (ho : OP 108 w B u fs) (h : RL w B v L) (hg : w.grownBy w' v.ownBlock) : OP 108 w' B u fs :=
  World.ownsRow.kept (row := v.ownBlock) ho hg (own_types h.row ho (by decide))
/-- append of a request that lies in a block just made -/
theorem wpL_req {ops : Array Oper} {rest : List Oper} {o : Oper} {a : Act} {Q : Exit → Act → World → Prop} (hgd : o.guard = none) (s x : Operand)
    (ho : o.op = .call { callee := .builtin .append, args := #[s, x], argTypes := #[51, 51] })
    (h : RL w B v L) (hs : a.eval s = v) (r : RC) (hf : OP 108 w B (.slice r.A r.h.fs.length r.c) r.h.fs)
    (hx : a.eval x = .slice (some ⟨w.heap.size, 0, none⟩) 1 1) (hlen : L.length ≤ 1048576) (hB : B ≤ w.heap.size)
    (hK : ∀ A' c' w', RL w' B (.slice A' (L.length + 1) c') (L ++ [r]) → Below B w w' → wpList Tryd.prog ops Q rest (a.put o.dst (.slice A' (L.length + 1) c')) w') :
    wpList Tryd.prog ops Q (o :: rest) a (w.alloc (.cells r.cells.toArray 36)) := by
  obtain ⟨i0, hi, hz0, hz1, hz2⟩ := info_parts infoReq
  refine wpL_appG hgd s x ho Tryd.underlying51 hi hz0 hz1 hz2 rfl (by decide) h.row hs r.cells 1 1 hx rfl (by
    intro u hu
    simp only [RC.cells, List.mem_cons, List.not_mem_nil, or_false] at hu
    rcases hu with rfl | rfl | rfl | rfl <;> rfl) (by unfold maxLen; omega) (by omega) hB fun v' w' h2 h3 => ?_
  have h4 : RL w' B v' (L ++ [r]) := by
    refine ⟨by rw [List.length_append, rcFlat_app, rcFlat_one]; exact h2, fun y hy => ?_⟩
    rcases List.mem_append.1 hy with hy | hy
    · exact (h.fds y hy).grownR h h3.grown
    · rw [List.mem_singleton.1 hy]; exact hf.grownR h h3.grown
  have hbl : Below B w w' := h3.below hB (own_from h.row)
  obtain ⟨A', c', rfl⟩ := h4.form
  rw [List.length_append, List.length_singleton] at h4 ⊢
  exact hK A' c' w' h4 hbl
end

/-- all at the front of a text: the requests, what is left, what went wrong -/
noncomputable def reqsF (H B : Int) : Nat → ByteArray → List (Hd × ByteArray) → List (Hd × ByteArray) × ByteArray × Int
  | 0, s, out => (out, s, 0)
  | f + 1, s, out =>
    if (reqR s H B).1 = 7 then (out, s, 0)
    else if (reqR s H B).1 ≠ 0 then (out, ⟨#[]⟩, (reqR s H B).1)
    else reqsF H B f (s.extract (reqR s H B).2.2.2 s.size) (out ++ [((reqR s H B).2.1, (reqR s H B).2.2.1)])
noncomputable def reqsR (s : ByteArray) (H B : Int) : List (Hd × ByteArray) × ByteArray × Int := reqsF H B (s.size + 1) s []
section
variable {H B : Int} {f n : Nat} {s x : ByteArray} {h : Hd} {E : Int} {out : List (Hd × ByteArray)}
theorem reqsF_more (hr : reqR s H B = (7, h, x, n)) : reqsF H B (f + 1) s out = (out, s, 0) := by unfold reqsF; rw [hr, if_pos rfl]
theorem reqsF_bad (hr : reqR s H B = (E, h, x, n)) (h7 : ¬ E = 7) (h0 : ¬ E = 0) : reqsF H B (f + 1) s out = (out, ⟨#[]⟩, E) := by unfold reqsF; rw [hr, if_neg h7, if_pos h0]
theorem reqsF_go (hr : reqR s H B = (0, h, x, n)) : reqsF H B (f + 1) s out = reqsF H B f (s.extract n s.size) (out ++ [(h, x)]) := by
  rw [reqsF, hr, if_neg (by simp), if_neg (by simp)]
theorem reqR_n (hr : reqR s H B = (0, h, x, n)) : 4 ≤ n ∧ n ≤ s.size := by
  unfold reqR at hr
  split at hr
  · split at hr <;> simp at hr
  · next hn =>
    split at hr
    · next h1 => simp only [Prod.mk.injEq] at hr; exact absurd hr.1 h1
    · dsimp only at hr
      split at hr
      · next h1 => simp only [Prod.mk.injEq] at hr; exact absurd hr.1 h1
      · simp only [Prod.mk.injEq] at hr
        have hroom := sep_room (s := s) (by omega)
        have hb := (bodR_bd (getL (rhR (s.extract 0 ((sepI s).toNat + 4))).fs clB) (getL (rhR (s.extract 0 ((sepI s).toNat + 4))).fs teB) (s.extract ((sepI s).toNat + 4) s.size) B).2
        rw [ByteArray.size_extract] at hb
        omega
end
end Go.Proofs.YtkcncgdgicffhaaDoor
