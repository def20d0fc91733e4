/- Ints that a call gathers: append of new ints onto a []int of its own (XBytes, turned to ints). -/
import Derived.Test.YthfolopnjmkllaaDoorPlain
import Derived.Test.YthfolopnjmkllaaDoorBytes
import Derived.Test.YthfolopnjmkllaaDoorRows
import Derived.WalkKit
import Derived.Laws.BytesArg
import Derived.Laws.AppendOwn
namespace Go.Proofs.YthfolopnjmkllaaDoor
open Go.RowKit
set_option linter.unusedVariables false
set_option linter.unusedSimpArgs false

theorem infoInt : (Tryd.prog.info? 3).map (fun i => (i.zero, i.size, i.bytes)) = some (some (.int .i64 0), 1, 8) := by kernel_rfl

def iv (n : Int) : Value := .int .i64 n
/-- the slice value v owns the ints l (in a block from B on) -/
def OI (w : World) (B : Nat) (v : Value) (l : List Int) : Prop := w.ownsRow B 3 1 v l.length (l.map iv)
theorem OI.nil (w : World) (B : Nat) : OI w B (.slice none 0 0) [] := World.ownsRow_nil _ _ _ _
theorem OI.drew {w : World} {B : Nat} {v : Value} {l : List Int} (h : OI w B v l) : OI w.drew B v l := h
theorem OI.drewN {w : World} {B : Nat} {v : Value} {l : List Int} (h : OI w B v l) (n : Nat) : OI (w.drewN n) B v l := h
theorem OI.alloc {w : World} {B : Nat} {v : Value} {l : List Int} (h : OI w B v l) (o : Obj) : OI (w.alloc o) B v l := World.ownsRow.alloc h o
theorem OI.kept {w w' : World} {B : Nat} {v : Value} {l : List Int} (h : OI w B v l) (hb : Below w.heap.size w w') : OI w' B v l := by
  refine World.ownsRow.kept (row := none) h ⟨hb.os, hb.tape, hb.output, hb.size, fun k hk _ => hb.block k hk⟩ ?_
  cases v.ownBlock <;> simp
theorem OI.form {w : World} {B : Nat} {v : Value} {l : List Int} (h : OI w B v l) : ∃ A c, v = .slice A l.length c := by
  rcases h.2 with ⟨rfl, hn⟩ | ⟨g, cap, cur, rfl, _⟩
  · exact ⟨none, 0, by rw [hn]⟩
  · exact ⟨_, _, rfl⟩

section
variable {w : World} {B : Nat} {v : Value} {l : List Int}
theorem run_appI (h : OI w B v l) (vals : List Value) (ns : List Int) (hv : vals = ns.map iv) (hlen : l.length + ns.length ≤ 17592186044000) (hB : B ≤ w.heap.size) (ty : TypeId) :
    ∃ v' w', (Builtin.append_ #[38, 38] ty #[v, .slice (some ⟨w.heap.size, 0, none⟩) vals.length vals.length]).run Tryd.prog (w.alloc (.cells vals.toArray 3)) = .ok v' w' ∧
      OI w' B v' (l ++ ns) ∧ Below B w w' := by
  obtain ⟨i0, hi, hz0, hz1, hz2⟩ := info_parts infoInt
  have hvl : vals.length = ns.length := by rw [hv]; simp
  obtain ⟨v', w', h0, h1, h2, _⟩ := run_append_own (P := Tryd.prog) (w.alloc (.cells vals.toArray 3)) B 38 ty 3 i0 (.int .i64 0) 1 8 Tryd.underlying38 hi hz0 hz1 hz2 rfl (by decide) v l.length (l.map iv) (h.alloc _)
    ⟨w.heap.size, 0, none⟩ vals.length vals.length vals (by simp) (by
      intro j u hu
      have hadd : (⟨w.heap.size, 0, none⟩ : Addr).add j = ⟨w.heap.size, j, none⟩ := by unfold Addr.add; split <;> simp_all
      rw [hadd, (Blk.new w 3 vals.toArray).cell j]
      simpa using hu) (by
      intro u hu
      rw [hv] at hu
      obtain ⟨b, _, rfl⟩ := List.mem_map.1 hu
      rfl) (by unfold maxLen; omega) (by omega) (by simp; omega)
  refine ⟨v', w', h0, ?_, ?_⟩
  · unfold OI
    rw [List.length_append, List.map_append, ← hv, ← hvl]
    exact h1
  · have hb : Below B w (w.alloc (.cells vals.toArray 3)) := (Below.refl _ _).alloc hB _
    exact hb.grown h2 (by simp; omega) (fun k hk => (World.ownsRow.lt h k hk).1)

theorem wp_appI {o : Oper} {a : Act} {K : Act → World → Prop} {Q : Exit → Act → World → Prop} (s x : Operand)
    (ho : o.op = .call { callee := .builtin .append, args := #[s, x], argTypes := #[38, 38] })
    (h : OI w B v l) (hs : a.eval s = v) (vals : List Value) (ns : List Int) (hv : vals = ns.map iv)
    (hx : a.eval x = .slice (some ⟨w.heap.size, 0, none⟩) vals.length vals.length) (hlen : l.length + ns.length ≤ 17592186044000) (hB : B ≤ w.heap.size)
    (hK : ∀ v' w', OI w' B v' (l ++ ns) → Below B w w' → K (a.put o.dst v') w') : o.wp Tryd.prog a (w.alloc (.cells vals.toArray 3)) K Q := by
  obtain ⟨v', w', hrun, h2, h3⟩ := run_appI h vals ns hv hlen hB o.type
  unfold Oper.wp execOp
  simp only [ho, resolve, invoke, builtin, Sem.run_bind, Sem.run_pure, Result.andThen_ok, List.map_toArray, List.map_cons, List.map_nil, hs, hx, hrun]
  exact hK v' w' h2 h3

/-- append of new bytes that lie in a block just made -/
theorem wpL_appI {ops : Array Oper} {rest : List Oper} {o : Oper} {a : Act} {Q : Exit → Act → World → Prop} (hgd : o.guard = none) (s x : Operand)
    (ho : o.op = .call { callee := .builtin .append, args := #[s, x], argTypes := #[38, 38] })
    (h : OI w B v l) (hs : a.eval s = v) (vals : List Value) (ns : List Int) (hv : vals = ns.map iv)
    (hx : a.eval x = .slice (some ⟨w.heap.size, 0, none⟩) vals.length vals.length) (hlen : l.length + ns.length ≤ 17592186044000) (hB : B ≤ w.heap.size)
    (hK : ∀ v' w', OI w' B v' (l ++ ns) → Below B w w' → wpList Tryd.prog ops Q rest (a.put o.dst v') w') :
    wpList Tryd.prog ops Q (o :: rest) a (w.alloc (.cells vals.toArray 3)) :=
  wpList_plain hgd fun _ hK' => wp_appI s x ho h hs vals ns hv hx hlen hB fun v' w' h2 h3 => hK' _ _ (hK v' w' h2 h3)

/-- the same as a step of a region that draws its order -/
theorem step_appI {ops : Array Oper} {o : Oper} {a : Act} {K : Act → World → Prop} {Q : Exit → Act → World → Prop} {E : Prop} (hgd : o.guard = none) (s x : Operand)
    (ho : o.op = .call { callee := .builtin .append, args := #[s, x], argTypes := #[38, 38] })
    (h : OI w B v l) (hs : a.eval s = v) (vals : List Value) (ns : List Int) (hv : vals = ns.map iv)
    (hx : a.eval x = .slice (some ⟨w.heap.size, 0, none⟩) vals.length vals.length) (hlen : l.length + ns.length ≤ 17592186044000) (hB : B ≤ w.heap.size)
    (hK : ∀ v' w', OI w' B v' (l ++ ns) → Below B w w' → K (a.put o.dst v') w') :
    if Region.wanted o (yielded ops a.tmps) = true then Oper.wp Tryd.prog o a (w.alloc (.cells vals.toArray 3)) K Q else E := by
  have hw : Region.wanted o (yielded ops a.tmps) = true := by simp [Region.wanted, hgd]
  rw [if_pos hw]
  exact wp_appI s x ho h hs vals ns hv hx hlen hB hK
end
end Go.Proofs.YthfolopnjmkllaaDoor
