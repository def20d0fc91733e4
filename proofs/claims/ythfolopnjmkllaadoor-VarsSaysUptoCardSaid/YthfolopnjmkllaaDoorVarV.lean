/- Variables that came in as an argument. -/
import Derived.Test.YthfolopnjmkllaaDoorReqV
import Derived.Test.YthfolopnjmkllaaDoorAllA
namespace Go.Proofs.YthfolopnjmkllaaDoor
open Go.ChangeShapes Go.WideShapes Go.RowKit Go.Joins
set_option linter.unusedVariables false
set_option linter.unusedSimpArgs false

theorem open_var {H : Type} {enc : TypeId × Value → H} {W : World} {n : Nat} {cs : List Value} {x : DataW H × List MemPlace} (h : DataW.trod enc Tryd.prog W 0 (fun _ => true) true n 31 cs = some x) :
    ∃ f : Vr, cs = vrCs f ∧ f.n.size < Rows.uptoBulk x.1 := by
  obtain ⟨c0, c1, c2, y0, y1, y2, m, rfl, rfl, hx, g0, g1, g2⟩ := open_struct111 Tryd.underlying31 (by kernel_rfl) (by kernel_rfl) rfl (by kernel_rfl) rfl (by kernel_rfl) rfl h
  obtain ⟨a, e0, _⟩ := DataW.trod_int Tryd.underlying3 g0
  obtain ⟨b, e1, _⟩ := DataW.trod_int Tryd.underlying3 g1
  obtain ⟨s, e2, z2, _⟩ := DataW.trod_string Tryd.underlying9 g2
  simp only [List.cons.injEq, and_true] at e0 e1 e2
  subst e0; subst e1; subst e2
  refine ⟨⟨a, b, s⟩, rfl, ?_⟩
  rw [hx, z2]
  simp only [Rows.uptoBulk, Rows.uptoBulkAll, lst_len]; omega
set_option maxRecDepth 100000 in
theorem open_vars {H : Type} {enc : TypeId × Value → H} {W : World} {n : Nat} {c : Value} {x : DataW H × List MemPlace} (h : DataW.trod enc Tryd.prog W 0 (fun _ => true) true n 22 [c] = some x) (hb : Rows.uptoBulk x.1 ≤ 1048576) :
    ∃ (A : Option Addr) (cap : Nat) (fs : List Vr), c = .slice A fs.length cap ∧ VrR W W.heap.size A cap fs ∧ fs.length ≤ 1048576 := by
  rcases DataW.trod_slice Tryd.underlying22 h with ⟨e5, _⟩ | ⟨a, len, cap, elems, rest, k', rfl, e5, hx, _, hl, hm, hlen, hel, hsp, hns⟩
  · simp only [List.cons.injEq, and_true] at e5
    subst e5
    exact ⟨none, 0, [], rfl, ⟨Reads.none_, Nat.le_refl _, by omega, by simp⟩, by simp⟩
  · simp only [List.cons.injEq, and_true] at e5
    subst e5
    have kk : Tryd.prog.cellsOf 31 = 3 := by kernel_rfl
    rw [kk] at hel
    rw [hx] at hb
    simp only [Rows.uptoBulk] at hb
    have hone : ∀ i, i < len → ∃ cs' f, W.cells? 0 (a.add (i * 3)) 3 = some cs' ∧ cs' = vrCs f ∧ f.n.size ≤ 1048576 := by
      intro i hi
      have h1 : (W.cells? 0 (a.add (i * 3)) 3).bind (DataW.trod enc Tryd.prog W 0 (fun _ => true) true k' 31) = elems[i]? := hel i hi
      rw [List.getElem?_eq_getElem (by omega)] at h1
      obtain ⟨cs', h2, h3⟩ := Option.bind_eq_some_iff.1 h1
      obtain ⟨f, hf, hz⟩ := open_var h3
      refine ⟨cs', f, h2, hf, ?_⟩
      have := bulk_mem (l := elems.map (·.1)) (d := (elems[i]'(by omega)).1) (List.mem_map.2 ⟨_, List.getElem_mem _, rfl⟩)
      omega
    obtain ⟨fs, hfs, hall⟩ := list_of_lt hone
    have hbl := bulk_len (elems.map (·.1))
    rw [List.length_map] at hbl
    unfold maxLen at hm
    refine ⟨some a, cap, fs, by rw [hfs], ⟨⟨by rw [vrFlat_len], fun h0 => ?_⟩, by omega, by omega, fun f hf => ?_⟩, by omega⟩
    · obtain ⟨cs', _, h2, _⟩ := hone 0 (by omega)
      obtain ⟨_, h3, h4⟩ := World.cells?_some h2
      refine ⟨a, rfl, ?_, fun j u hu => ?_⟩
      · have h5 := h4 0 (by omega)
        rw [List.getElem?_eq_getElem (by omega)] at h5
        have := World.block_lt_of_cell? _ _ h5
        rwa [block_of_add, block_of_add] at this
      · obtain ⟨hj, _⟩ := List.getElem?_eq_some_iff.1 hu
        rw [vrFlat_len] at hj
        have hi : j / 3 < fs.length := by omega
        obtain ⟨cs', g2, g3, _⟩ := hall (j / 3) hi
        obtain ⟨_, g4, g5⟩ := World.cells?_some g2
        have hget := vrFlat_get (List.getElem?_eq_getElem hi) (j := j % 3) (by omega)
        rw [Nat.div_add_mod' j 3] at hget
        rw [hu, ← g3] at hget
        have := g5 (j % 3) (by omega)
        rw [add_of_add, Nat.div_add_mod' j 3] at this
        rw [this, ← hget]
    · obtain ⟨i, hi, rfl⟩ := List.mem_iff_getElem.1 hf
      obtain ⟨_, _, _, hz⟩ := hall i hi
      omega
theorem pairArg : ∃ f0 f1, PairT 29 34 9 f0 f1 := ⟨_, _, Tryd.underlying29, Tryd.underlying34, Tryd.underlying9, by kernel_rfl, by kernel_rfl, rfl, by kernel_rfl, rfl, rfl, rfl⟩
end Go.Proofs.YthfolopnjmkllaaDoor
