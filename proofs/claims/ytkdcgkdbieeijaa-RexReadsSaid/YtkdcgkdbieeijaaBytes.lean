/- Bytes that a call gathers: append of new bytes onto a []byte of its own; the string that they are. -/
import Derived.Test.YtkdcgkdbieeijaaPlain
import Derived.Test.YtkdcgkdbieeijaaMem
import Derived.Test.YtkdcgkdbieeijaaRows
import Derived.WalkKit
import Derived.Laws.BytesArg
import Derived.Laws.AppendOwn
namespace Go.Proofs.Ytkdcgkdbieeijaa
open Go.RowKit
set_option linter.unusedVariables false
set_option linter.unusedSimpArgs false

theorem infoByte : (Try.prog.info? 5).map (fun i => (i.zero, i.size, i.bytes)) = some (some (.int .u8 0), 1, 1) := by kernel_rfl

def bv (b : UInt8) : Value := .int .u8 (b.toNat : Int)
/-- the slice value v owns the bytes l (in a block from B on) -/
def OB (w : World) (B : Nat) (v : Value) (l : List UInt8) : Prop := w.ownsRow B 5 1 v l.length (l.map bv)
theorem OB.nil (w : World) (B : Nat) : OB w B (.slice none 0 0) [] := World.ownsRow_nil _ _ _ _
theorem OB.drew {w : World} {B : Nat} {v : Value} {l : List UInt8} (h : OB w B v l) : OB w.drew B v l := h
theorem OB.drewN {w : World} {B : Nat} {v : Value} {l : List UInt8} (h : OB w B v l) (n : Nat) : OB (w.drewN n) B v l := h
theorem OB.alloc {w : World} {B : Nat} {v : Value} {l : List UInt8} (h : OB w B v l) (o : Obj) : OB (w.alloc o) B v l := World.ownsRow.alloc h o
theorem OB.kept {w w' : World} {B : Nat} {v : Value} {l : List UInt8} (h : OB w B v l) (hb : Below w.heap.size w w') : OB w' B v l := by
  refine World.ownsRow.kept (row := none) h ⟨hb.os, hb.tape, hb.output, hb.size, fun k hk _ => hb.block k hk⟩ ?_
  cases v.ownBlock <;> simp
theorem below_drewN {B : Nat} {a w : World} (h : Below B a w) (n : Nat) : Below B a (w.drewN n) := ⟨h.os, h.tape, h.output, h.size, h.block⟩
theorem OB.form {w : World} {B : Nat} {v : Value} {l : List UInt8} (h : OB w B v l) : ∃ A c, v = .slice A l.length c := by
  rcases h.2 with ⟨rfl, hn⟩ | ⟨g, cap, cur, rfl, _⟩
  · exact ⟨none, 0, by rw [hn]⟩
  · exact ⟨_, _, rfl⟩

section
variable {w : World} {B : Nat} {v : Value} {l : List UInt8}
theorem str_nums (l : List UInt8) : strOfNums (l.map fun b => (b.toNat : Int)) = str l := by
  simp [strOfNums, str, Function.comp_def]
theorem ob_str (h : OB w B v l) : (convert 61 9 v).run Try.prog w = .ok (.string (str l)) w := by
  rcases h.2 with ⟨rfl, hn⟩ | ⟨g, cap, cur, rfl, _, hg, hle, hm, hcs, htk⟩
  · rw [run_convert_bytes_nil (P := Try.prog) w 61 5 Try.underlying61 Try.underlying5 0 0 9 Try.underlying9]
    have : l = [] := List.eq_nil_of_length_eq_zero hn
    subst this; rfl
  · rw [run_convert_bytes_arg (P := Try.prog) w 61 5 Try.underlying61 Try.underlying5 g 0 l.length cap (l.map fun b => (b.toNat : Int)) (by simp) (fun i hi => by
      have hc := h.cells (g := g) rfl i (bv l[i]) (by simp [hi])
      have hadd : (⟨g, 0, none⟩ : Addr).add i = ⟨g, 0 + i, none⟩ := by unfold Addr.add; split <;> simp_all
      rw [hadd] at hc
      rw [hc]
      simp [List.getD, hi, bv]) 9 Try.underlying9, str_nums]

theorem run_app (h : OB w B v l) (vals : List Value) (ns : List UInt8) (hv : vals = ns.map bv) (hlen : l.length + ns.length ≤ 140737488355328) (hB : B ≤ w.heap.size) (ty : TypeId) :
    ∃ v' w', (Builtin.append_ #[61, 61] ty #[v, .slice (some ⟨w.heap.size, 0, none⟩) vals.length vals.length]).run Try.prog (w.alloc (.cells vals.toArray 5)) = .ok v' w' ∧
      OB w' B v' (l ++ ns) ∧ Below B w w' := by
  obtain ⟨i0, hi, hz0, hz1, hz2⟩ := info_parts infoByte
  have hvl : vals.length = ns.length := by rw [hv]; simp
  obtain ⟨v', w', h0, h1, h2, _⟩ := run_append_own (P := Try.prog) (w.alloc (.cells vals.toArray 5)) B 61 ty 5 i0 (.int .u8 0) 1 1 Try.underlying61 hi hz0 hz1 hz2 rfl (by decide) v l.length (l.map bv) (h.alloc _)
    ⟨w.heap.size, 0, none⟩ vals.length vals.length vals (by simp) (by
      intro j u hu
      have hadd : (⟨w.heap.size, 0, none⟩ : Addr).add j = ⟨w.heap.size, j, none⟩ := by unfold Addr.add; split <;> simp_all
      rw [hadd, (Blk.new w 5 vals.toArray).cell j]
      simpa using hu) (by
      intro u hu
      rw [hv] at hu
      obtain ⟨b, _, rfl⟩ := List.mem_map.1 hu
      rfl) (by unfold maxLen; omega) (by omega) (by simp; omega)
  refine ⟨v', w', h0, ?_, ?_⟩
  · unfold OB
    rw [List.length_append, List.map_append, ← hv, ← hvl]
    exact h1
  · have hb : Below B w (w.alloc (.cells vals.toArray 5)) := (Below.refl _ _).alloc hB _
    exact hb.grown h2 (by simp; omega) (fun k hk => (World.ownsRow.lt h k hk).1)

theorem wp_app {o : Oper} {a : Act} {K : Act → World → Prop} {Q : Exit → Act → World → Prop} (s x : Operand)
    (ho : o.op = .call { callee := .builtin .append, args := #[s, x], argTypes := #[61, 61] })
    (h : OB w B v l) (hs : a.eval s = v) (vals : List Value) (ns : List UInt8) (hv : vals = ns.map bv)
    (hx : a.eval x = .slice (some ⟨w.heap.size, 0, none⟩) vals.length vals.length) (hlen : l.length + ns.length ≤ 140737488355328) (hB : B ≤ w.heap.size)
    (hK : ∀ v' w', OB w' B v' (l ++ ns) → Below B w w' → K (a.put o.dst v') w') : o.wp Try.prog a (w.alloc (.cells vals.toArray 5)) K Q := by
  obtain ⟨v', w', hrun, h2, h3⟩ := run_app h vals ns hv hlen hB o.type
  unfold Oper.wp execOp
  simp only [ho, resolve, invoke, builtin, Sem.run_bind, Sem.run_pure, Result.andThen_ok, List.map_toArray, List.map_cons, List.map_nil, hs, hx, hrun]
  exact hK v' w' h2 h3

/-- append of new bytes that lie in a block just made -/
theorem wpL_app {ops : Array Oper} {rest : List Oper} {o : Oper} {a : Act} {Q : Exit → Act → World → Prop} (hgd : o.guard = none) (s x : Operand)
    (ho : o.op = .call { callee := .builtin .append, args := #[s, x], argTypes := #[61, 61] })
    (h : OB w B v l) (hs : a.eval s = v) (vals : List Value) (ns : List UInt8) (hv : vals = ns.map bv)
    (hx : a.eval x = .slice (some ⟨w.heap.size, 0, none⟩) vals.length vals.length) (hlen : l.length + ns.length ≤ 140737488355328) (hB : B ≤ w.heap.size)
    (hK : ∀ v' w', OB w' B v' (l ++ ns) → Below B w w' → wpList Try.prog ops Q rest (a.put o.dst v') w') :
    wpList Try.prog ops Q (o :: rest) a (w.alloc (.cells vals.toArray 5)) :=
  wpList_plain hgd fun _ hK' => wp_app s x ho h hs vals ns hv hx hlen hB fun v' w' h2 h3 => hK' _ _ (hK v' w' h2 h3)

/-- the same as a step of a region that draws its order -/
theorem step_app {ops : Array Oper} {o : Oper} {a : Act} {K : Act → World → Prop} {Q : Exit → Act → World → Prop} {E : Prop} (hgd : o.guard = none) (s x : Operand)
    (ho : o.op = .call { callee := .builtin .append, args := #[s, x], argTypes := #[61, 61] })
    (h : OB w B v l) (hs : a.eval s = v) (vals : List Value) (ns : List UInt8) (hv : vals = ns.map bv)
    (hx : a.eval x = .slice (some ⟨w.heap.size, 0, none⟩) vals.length vals.length) (hlen : l.length + ns.length ≤ 140737488355328) (hB : B ≤ w.heap.size)
    (hK : ∀ v' w', OB w' B v' (l ++ ns) → Below B w w' → K (a.put o.dst v') w') :
    if Region.wanted o (yielded ops a.tmps) = true then Oper.wp Try.prog o a (w.alloc (.cells vals.toArray 5)) K Q else E := by
  have hw : Region.wanted o (yielded ops a.tmps) = true := by simp [Region.wanted, hgd]
  rw [if_pos hw]
  exact wp_app s x ho h hs vals ns hv hx hlen hB hK
end
end Go.Proofs.Ytkdcgkdbieeijaa
