/- Slices of pairs of strings that came in as an argument, with their bulk. -/
import Derived.Test.YthfolopnjmkllaaDoorRows
import Derived.Test.YthfolopnjmkllaaDoorBulk
import Derived.Test.YthfolopnjmkllaaDoorFd
import Derived.Test.YthfolopnjmkllaaDoorLst
import Derived.Carry
import Derived.OpenShut
import Derived.ChangeArms
import Derived.Laws.IdiomArrays
import Derived.Lib.SmallJoins
import Derived.WideShapes
namespace Go.Proofs.YthfolopnjmkllaaDoor
open Go.ChangeShapes Go.WideShapes Go.RowKit Go.Joins
set_option linter.unusedVariables false
set_option linter.unusedSimpArgs false

theorem len2 {α : Type} {l : List α} (h : l.length = 2) : ∃ a b, l = [a, b] := by
  match l, h with
  | [a, b], _ => exact ⟨a, b, rfl⟩
/-- a struct of two fields of a cell each -/
theorem open_struct11 {H : Type} {enc : TypeId × Value → H} {P : Program} {w : World} {base : Nat} {spare : Nat → Bool} {held : Bool} {t : TypeId} {f0 f1 : Field} {fuel : Nat} {cs : List Value} {x : DataW H × List MemPlace}
    (hs : P.underlying t = some (.struct #[f0, f1])) (hC : P.cellsOf t = 2) (k0 : P.cellsOf f0.type = 1) (o0 : f0.offset = 0) (k1 : P.cellsOf f1.type = 1) (o1 : f1.offset = 1)
    (h : DataW.trod enc P w base spare held fuel t cs = some x) :
    ∃ c0 c1 y0 y1 n, fuel = n + 1 ∧ cs = [c0, c1] ∧ x.1 = .agg [y0.1, y1.1] ∧ DataW.trod enc P w base spare held n f0.type [c0] = some y0 ∧ DataW.trod enc P w base spare held n f1.type [c1] = some y1 := by
  obtain ⟨xs, n, rfl, hx, hl, hxs, hg⟩ := DataW.trod_struct hs h
  obtain ⟨c0, c1, rfl⟩ := len2 (hl.trans hC)
  obtain ⟨y0, y1, rfl⟩ := len2 hxs
  exact ⟨c0, c1, y0, y1, n, rfl, rfl, by rw [hx]; rfl, by simpa [o0, k0] using hg 0 f0 rfl, by simpa [o1, k1] using hg 1 f1 rfl⟩
/-- a type of two strings, and its slices -/
structure PairT (T t S : TypeId) (f0 f1 : Field) : Prop where
  hT : Tryd.prog.underlying T = some (.slice t)
  ht : Tryd.prog.underlying t = some (.struct #[f0, f1])
  hS : Tryd.prog.underlying S = some .string
  hc : Tryd.prog.cellsOf t = 2
  k0 : Tryd.prog.cellsOf f0.type = 1
  o0 : f0.offset = 0
  k1 : Tryd.prog.cellsOf f1.type = 1
  o1 : f1.offset = 1
  s0 : f0.type = S
  s1 : f1.type = S
theorem open_pair {T t S : TypeId} {f0 f1 : Field} (hp : PairT T t S f0 f1) {H : Type} {enc : TypeId × Value → H} {W : World} {n : Nat} {cs : List Value} {x : DataW H × List MemPlace} (h : DataW.trod enc Tryd.prog W 0 (fun _ => true) true n t cs = some x) :
    ∃ f : Fd, cs = fdCs f ∧ f.n.size + f.v.size + 3 = Rows.uptoBulk x.1 := by
  obtain ⟨c0, c1, y0, y1, m, rfl, rfl, hx, g0, g1⟩ := open_struct11 hp.ht hp.hc hp.k0 hp.o0 hp.k1 hp.o1 h
  obtain ⟨s0, e0, z0, _⟩ := DataW.trod_string hp.hS (hp.s0 ▸ g0)
  obtain ⟨s1, e1, z1, _⟩ := DataW.trod_string hp.hS (hp.s1 ▸ g1)
  simp only [List.cons.injEq, and_true] at e0 e1
  subst e0; subst e1
  refine ⟨⟨s0, s1⟩, rfl, ?_⟩
  rw [hx, z0, z1]
  simp only [Rows.uptoBulk, Rows.uptoBulkAll, lst_len]; omega
theorem open_pairs {T t S : TypeId} {f0 f1 : Field} (hp : PairT T t S f0 f1) {H : Type} {enc : TypeId × Value → H} {W : World} {n : Nat} {c : Value} {x : DataW H × List MemPlace} (h : DataW.trod enc Tryd.prog W 0 (fun _ => true) true n T [c] = some x) (hb : Rows.uptoBulk x.1 ≤ 1048576) :
    ∃ (A : Option Addr) (cap : Nat) (fs : List Fd), c = .slice A fs.length cap ∧ FdR W W.heap.size A cap fs ∧ fs.length ≤ 1048576 := by
  rcases DataW.trod_slice hp.hT h with ⟨e5, _⟩ | ⟨a, len, cap, elems, rest, k', rfl, e5, hx, _, hl, hm, hlen, hel, hsp, hns⟩
  · simp only [List.cons.injEq, and_true] at e5
    subst e5
    exact ⟨none, 0, [], rfl, ⟨Reads.none_, Nat.le_refl _, by omega, by simp⟩, by simp⟩
  · simp only [List.cons.injEq, and_true] at e5
    subst e5
    have kk : Tryd.prog.cellsOf t = 2 := hp.hc
    rw [kk] at hel
    rw [hx] at hb
    simp only [Rows.uptoBulk] at hb
    have hone : ∀ i, i < len → ∃ cs' f, W.cells? 0 (a.add (i * 2)) 2 = some cs' ∧ cs' = fdCs f ∧ f.n.size + f.v.size ≤ 1048576 := by
      intro i hi
      have h1 : (W.cells? 0 (a.add (i * 2)) 2).bind (DataW.trod enc Tryd.prog W 0 (fun _ => true) true k' t) = elems[i]? := hel i hi
      rw [List.getElem?_eq_getElem (by omega)] at h1
      obtain ⟨cs', h2, h3⟩ := Option.bind_eq_some_iff.1 h1
      obtain ⟨f, hf, hz⟩ := open_pair hp h3
      refine ⟨cs', f, h2, hf, ?_⟩
      have := bulk_mem (l := elems.map (·.1)) (d := (elems[i]'(by omega)).1) (List.mem_map.2 ⟨_, List.getElem_mem _, rfl⟩)
      omega
    obtain ⟨fs, hfs, hall⟩ := list_of_lt hone
    have hbl := bulk_len (elems.map (·.1))
    rw [List.length_map] at hbl
    unfold maxLen at hm
    refine ⟨some a, cap, fs, by rw [hfs], ⟨⟨by rw [fdFlat_len], fun h0 => ?_⟩, by omega, by omega, fun f hf => ?_⟩, by omega⟩
    · obtain ⟨cs', _, h2, _⟩ := hone 0 (by omega)
      obtain ⟨_, h3, h4⟩ := World.cells?_some h2
      refine ⟨a, rfl, ?_, fun j u hu => ?_⟩
      · have h5 := h4 0 (by omega)
        rw [List.getElem?_eq_getElem (by omega)] at h5
        have := World.block_lt_of_cell? _ _ h5
        rwa [block_of_add, block_of_add] at this
      · obtain ⟨hj, _⟩ := List.getElem?_eq_some_iff.1 hu
        rw [fdFlat_len] at hj
        have hi : j / 2 < fs.length := by omega
        obtain ⟨cs', g2, g3, _⟩ := hall (j / 2) hi
        obtain ⟨_, g4, g5⟩ := World.cells?_some g2
        have hget := fdFlat_get (List.getElem?_eq_getElem hi) (j := j % 2) (by omega)
        rw [Nat.div_add_mod' j 2] at hget
        rw [hu, ← g3] at hget
        have := g5 (j % 2) (by omega)
        rw [add_of_add, Nat.div_add_mod' j 2] at this
        rw [this, ← hget]
    · obtain ⟨i, hi, rfl⟩ := List.mem_iff_getElem.1 hf
      obtain ⟨_, _, _, hz⟩ := hall i hi
      omega
end Go.Proofs.YthfolopnjmkllaaDoor
