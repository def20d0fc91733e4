/- A head that came in as an argument, with its bulk. -/
import Derived.Test.YtkcncgdgicffhaaDoorRows
import Derived.Test.YtkcncgdgicffhaaDoorGav
import Derived.Test.YtkcncgdgicffhaaDoorGj
import Derived.Lib.SmallJoins
import Derived.WideShapes
import Derived.Test.YtkcncgdgicffhaaDoorGd
namespace Go.Proofs.YtkcncgdgicffhaaDoor
open Go.ChangeShapes Go.WideShapes Go.RowKit Go.Joins
set_option linter.unusedVariables false
set_option linter.unusedSimpArgs false

theorem pairField : ∃ f0 f1, PairT 22 108 9 f0 f1 := ⟨_, _, Tryd.underlying22, Tryd.underlying108, Tryd.underlying9, by kernel_rfl, by kernel_rfl, rfl, by kernel_rfl, rfl, rfl, rfl⟩
set_option maxRecDepth 100000 in
/-- a head that came in -/
theorem open_head {H : Type} {enc : TypeId × Value → H} {W : World} {v : Value} {d : DataW H} {p : List MemPlace} {base : Nat}
    (hv : Value.okWide Tryd.prog W .any base 24 v) (h : DataW.Trod enc Tryd.prog W 0 (fun _ => true) true 24 v d p) (hb : Rows.uptoBulk d ≤ 1048576) :
    ∃ (m t : ByteArray) (A : Option Addr) (cap : Nat) (fs : List Fd), v = .agg #[.string m, .string t, .slice A fs.length cap] ∧ m.size ≤ 1048576 ∧ t.size ≤ 1048576 ∧ FdR W W.heap.size A cap fs ∧ fs.length ≤ 1048576 := by
  obtain ⟨v0, v1, v2, y0, y1, y2, n, rfl, rfl, _, h0, h1, h2⟩ := open_agg3 Tryd.underlying24 (by kernel_rfl) (by kernel_rfl) hv h
  obtain ⟨s0, e0, z0, _⟩ := DataW.trod_string Tryd.underlying9 h0
  obtain ⟨s1, e1, z1, _⟩ := DataW.trod_string Tryd.underlying9 h1
  simp only [List.cons.injEq, and_true] at e0 e1
  subst e0; subst e1
  rw [z0, z1] at hb
  simp only [Rows.uptoBulk, Rows.uptoBulkAll, lst_len] at hb
  obtain ⟨_, _, hp⟩ := pairField
  obtain ⟨A, cap, fs, rfl, hf, hl⟩ := open_pairs hp h2 (by omega)
  exact ⟨s0, s1, A, cap, fs, rfl, by omega, by omega, hf, hl⟩
end Go.Proofs.YtkcncgdgicffhaaDoor

/- A []int that came in. -/
namespace Go.Proofs.YtkcncgdgicffhaaDoor
open Go.ChangeShapes Go.WideShapes Go.ChangeAt Go.RowKit
set_option linter.unusedVariables false
set_option linter.unusedSimpArgs false
/-- a []int that came in -/
theorem open_intsR {H : Type} {enc : TypeId × Value → H} {W : World} {fuel : Nat} {cs : List Value} {x : DataW H × List MemPlace}
    (h : DataW.trod enc Tryd.prog W 0 (fun _ => true) true fuel 25 cs = some x) :
    ∃ (A : Option Addr) (cap : Nat) (zs : List Int), cs = [.slice A zs.length cap] ∧ zs.length ≤ cap ∧ cap ≤ maxLen ∧ Reads W W.heap.size 1 A zs.length (zs.map (Value.int .i64)) ∧ ∀ n ∈ zs, (Lit.int .i64 n).wf = true := by
  rcases open_ints Tryd.underlying25 Tryd.underlying3 (by kernel_rfl) h with ⟨rfl, _⟩ | ⟨a, len, cap, zs, rfl, _, hl, hm, hz, _, hc, hw⟩
  · exact ⟨none, 0, [], rfl, Nat.le_refl _, by unfold maxLen; omega, Reads.none_, by simp⟩
  · have hzl : zs.length = cap := by simpa using hz
    have ht : (zs.take len).length = len := by rw [List.length_take]; omega
    refine ⟨some a, cap, zs.take len, by rw [ht], by omega, hm, ⟨by simp, fun hn => ⟨a, rfl, World.block_lt_of_cell? _ _ (hc 0 (by omega)), fun j u hu => ?_⟩⟩, fun n hn => hw n (List.mem_of_mem_take hn)⟩
    have hj : j < len := by
      rcases Nat.lt_or_ge j len with h1 | h1
      · exact h1
      · rw [List.getElem?_eq_none (by rw [List.length_map]; omega)] at hu; cases hu
    rw [hc j (by omega), ← hu, List.getElem?_map, List.getElem?_take, if_pos hj]
    rw [List.getElem?_eq_getElem (by omega), Option.map_some, List.getD, List.getElem?_eq_getElem (by omega)]; rfl
end Go.Proofs.YtkcncgdgicffhaaDoor
