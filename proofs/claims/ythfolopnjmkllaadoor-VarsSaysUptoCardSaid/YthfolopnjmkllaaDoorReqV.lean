/- A request that came in as an argument, with the bulk of its fields. -/
import Derived.Test.YthfolopnjmkllaaDoorPrV
namespace Go.Proofs.YthfolopnjmkllaaDoor
open Go.ChangeShapes Go.WideShapes Go.RowKit Go.Joins
set_option linter.unusedVariables false
set_option linter.unusedSimpArgs false

theorem bulk_sum {H α : Type} {g : α → Nat} : ∀ {l : List (DataW H)} {vs : List α}, l.length = vs.length → (∀ i (h : i < l.length) (h2 : i < vs.length), Rows.uptoBulk l[i] = g vs[i]) → Rows.uptoBulkAll l = (vs.map g).sum
  | [], [], _, _ => rfl
  | x :: l, v :: vs, hl, h => by
    have h0 : Rows.uptoBulk x = g v := h 0 (by simp) (by simp)
    have h1 := bulk_sum (g := g) (l := l) (vs := vs) (by simpa using hl) fun i a b => h (i + 1) (Nat.succ_lt_succ a) (Nat.succ_lt_succ b)
    rw [List.map_cons, List.sum_cons, ← h1, ← h0]
    simp only [Rows.uptoBulkAll]
theorem open_pairsS {T t S : TypeId} {f0 f1 : Field} (hp : PairT T t S f0 f1) {H : Type} {enc : TypeId × Value → H} {W : World} {n : Nat} {c : Value} {x : DataW H × List MemPlace} (h : DataW.trod enc Tryd.prog W 0 (fun _ => true) true n T [c] = some x) (hb : Rows.uptoBulk x.1 ≤ 1048576) :
    ∃ (A : Option Addr) (cap : Nat) (fs : List Fd), c = .slice A fs.length cap ∧ FdR W W.heap.size A cap fs ∧ fs.length ≤ 1048576 ∧ (fs.map fun f => f.n.size + f.v.size + 3).sum ≤ Rows.uptoBulk x.1 := by
  rcases DataW.trod_slice hp.hT h with ⟨e5, _⟩ | ⟨a, len, cap, elems, rest, k', rfl, e5, hx, _, hl, hm, hlen, hel, hsp, hns⟩
  · simp only [List.cons.injEq, and_true] at e5
    subst e5
    exact ⟨none, 0, [], rfl, ⟨Reads.none_, Nat.le_refl _, by omega, by simp⟩, by simp, by simp⟩
  · simp only [List.cons.injEq, and_true] at e5
    subst e5
    have kk : Tryd.prog.cellsOf t = 2 := hp.hc
    rw [kk] at hel
    rw [hx] at hb
    simp only [Rows.uptoBulk] at hb
    have hone : ∀ i, i < len → ∃ cs' f, W.cells? 0 (a.add (i * 2)) 2 = some cs' ∧ cs' = fdCs f ∧ f.n.size + f.v.size ≤ 1048576 ∧ ∃ h : i < elems.length, Rows.uptoBulk (elems[i]'h).1 = f.n.size + f.v.size + 3 := by
      intro i hi
      have h1 : (W.cells? 0 (a.add (i * 2)) 2).bind (DataW.trod enc Tryd.prog W 0 (fun _ => true) true k' t) = elems[i]? := hel i hi
      rw [List.getElem?_eq_getElem (by omega)] at h1
      obtain ⟨cs', h2, h3⟩ := Option.bind_eq_some_iff.1 h1
      obtain ⟨f, hf, hz⟩ := open_pair hp h3
      refine ⟨cs', f, h2, hf, ?_, by omega, hz.symm⟩
      have := bulk_mem (l := elems.map (·.1)) (d := (elems[i]'(by omega)).1) (List.mem_map.2 ⟨_, List.getElem_mem _, rfl⟩)
      omega
    obtain ⟨fs, hfs, hall⟩ := list_of_lt hone
    have hbl := bulk_len (elems.map (·.1))
    rw [List.length_map] at hbl
    have hsum : Rows.uptoBulkAll (elems.map (·.1)) = (fs.map fun f => f.n.size + f.v.size + 3).sum := bulk_sum (by rw [List.length_map]; omega) fun i h1 h2 => by
      obtain ⟨_, _, _, _, h3, h4⟩ := hall i h2
      rw [List.getElem_map]; exact h4
    unfold maxLen at hm
    refine ⟨some a, cap, fs, by rw [hfs], ⟨⟨by rw [fdFlat_len], fun h0 => ?_⟩, by omega, by omega, fun f hf => ?_⟩, by omega, by rw [hx]; simp only [Rows.uptoBulk]; omega⟩
    · obtain ⟨cs', _, h2, _⟩ := hone 0 (by omega)
      obtain ⟨_, h3, h4⟩ := World.cells?_some h2
      refine ⟨a, rfl, ?_, fun j u hu => ?_⟩
      · have h5 := h4 0 (by omega)
        rw [List.getElem?_eq_getElem (by omega)] at h5
        have := World.block_lt_of_cell? _ _ h5
        rwa [block_of_add, block_of_add] at this
      · obtain ⟨hj, _⟩ := List.getElem?_eq_some_iff.1 hu
        rw [fdFlat_len] at hj
        have hi : j / 2 < fs.length := by omega
        obtain ⟨cs', g2, g3, _, _⟩ := hall (j / 2) hi
        obtain ⟨_, g4, g5⟩ := World.cells?_some g2
        have hget := fdFlat_get (List.getElem?_eq_getElem hi) (j := j % 2) (by omega)
        rw [Nat.div_add_mod' j 2] at hget
        rw [hu, ← g3] at hget
        have := g5 (j % 2) (by omega)
        rw [add_of_add, Nat.div_add_mod' j 2] at this
        rw [this, ← hget]
    · obtain ⟨i, hi, rfl⟩ := List.mem_iff_getElem.1 hf
      obtain ⟨_, _, _, hz, _⟩ := hall i hi
      omega
theorem ln3 {α : Type} {l : List α} (h : l.length = 3) : ∃ a b c, l = [a, b, c] := by
  match l, h with
  | [a, b, c], _ => exact ⟨a, b, c, rfl⟩
theorem ln4 {α : Type} {l : List α} (h : l.length = 4) : ∃ a b c d, l = [a, b, c, d] := by
  match l, h with
  | [a, b, c, d], _ => exact ⟨a, b, c, d, rfl⟩
section
variable {H : Type} {enc : TypeId × Value → H} {P : Program} {w : World} {base : Nat} {spare : Nat → Bool} {held : Bool} {t : TypeId} {f0 f1 f2 : Field} {fuel : Nat} {cs : List Value} {x : DataW H × List MemPlace}
/-- a struct of two fields, of three cells and one -/
theorem open_struct31 (hs : P.underlying t = some (.struct #[f0, f1])) (hC : P.cellsOf t = 4) (k0 : P.cellsOf f0.type = 3) (o0 : f0.offset = 0) (k1 : P.cellsOf f1.type = 1) (o1 : f1.offset = 3)
    (h : DataW.trod enc P w base spare held fuel t cs = some x) :
    ∃ c0 c1 c2 c3 y0 y1 n, fuel = n + 1 ∧ cs = [c0, c1, c2, c3] ∧ x.1 = .agg [y0.1, y1.1] ∧ DataW.trod enc P w base spare held n f0.type [c0, c1, c2] = some y0 ∧ DataW.trod enc P w base spare held n f1.type [c3] = some y1 := by
  obtain ⟨xs, n, rfl, hx, hl, hxs, hg⟩ := DataW.trod_struct hs h
  obtain ⟨c0, c1, c2, c3, rfl⟩ := ln4 (hl.trans hC)
  obtain ⟨y0, y1, rfl⟩ := len2 hxs
  exact ⟨c0, c1, c2, c3, y0, y1, n, rfl, rfl, by rw [hx]; rfl, by simpa [o0, k0] using hg 0 f0 rfl, by simpa [o1, k1] using hg 1 f1 rfl⟩
/-- a struct of three fields of a cell each -/
theorem open_struct111 (hs : P.underlying t = some (.struct #[f0, f1, f2])) (hC : P.cellsOf t = 3) (k0 : P.cellsOf f0.type = 1) (o0 : f0.offset = 0) (k1 : P.cellsOf f1.type = 1) (o1 : f1.offset = 1) (k2 : P.cellsOf f2.type = 1) (o2 : f2.offset = 2)
    (h : DataW.trod enc P w base spare held fuel t cs = some x) :
    ∃ c0 c1 c2 y0 y1 y2 n, fuel = n + 1 ∧ cs = [c0, c1, c2] ∧ x.1 = .agg [y0.1, y1.1, y2.1] ∧ DataW.trod enc P w base spare held n f0.type [c0] = some y0 ∧ DataW.trod enc P w base spare held n f1.type [c1] = some y1 ∧ DataW.trod enc P w base spare held n f2.type [c2] = some y2 := by
  obtain ⟨xs, n, rfl, hx, hl, hxs, hg⟩ := DataW.trod_struct hs h
  obtain ⟨c0, c1, c2, rfl⟩ := ln3 (hl.trans hC)
  obtain ⟨y0, y1, y2, rfl⟩ := ln3 hxs
  exact ⟨c0, c1, c2, y0, y1, y2, n, rfl, rfl, by rw [hx]; rfl, by simpa [o0, k0] using hg 0 f0 rfl, by simpa [o1, k1] using hg 1 f1 rfl, by simpa [o2, k2] using hg 2 f2 rfl⟩
end
theorem pairFd : ∃ f0 f1, PairT 23 55 9 f0 f1 := ⟨_, _, Tryd.underlying23, Tryd.underlying55, Tryd.underlying9, by kernel_rfl, by kernel_rfl, rfl, by kernel_rfl, rfl, rfl, rfl⟩
set_option maxRecDepth 100000 in
theorem open_request {H : Type} {enc : TypeId × Value → H} {W : World} {v : Value} {d : DataW H} {p : List MemPlace} {base : Nat}
    (hv : Value.okWide Tryd.prog W .any base 27 v) (h : DataW.Trod enc Tryd.prog W 0 (fun _ => true) true 27 v d p) (hb : Rows.uptoBulk d ≤ 1048576) :
    ∃ (m t : ByteArray) (A : Option Addr) (cap : Nat) (fs : List Fd) (body : ByteArray), v = .agg #[.string m, .string t, .slice A fs.length cap, .string body] ∧ m.size ≤ 1048576 ∧ t.size ≤ 1048576 ∧ body.size ≤ 1048576 ∧ FdR W W.heap.size A cap fs ∧ fs.length ≤ 1048576 ∧ (fs.map fun f => f.n.size + f.v.size + 3).sum ≤ 1048576 := by
  obtain ⟨cs, rfl, hsz⟩ := okWide_struct Tryd.underlying27 hv
  obtain ⟨cs⟩ := cs
  obtain ⟨fuel, hf⟩ := h
  have hf2 : DataW.trod enc Tryd.prog W 0 (fun _ => true) true fuel 27 cs = some (d, p) := by simpa [Value.cells] using hf
  obtain ⟨c0, c1, c2, c3, y0, y1, n, rfl, rfl, hx, g0, g1⟩ := open_struct31 Tryd.underlying27 (by kernel_rfl) (by kernel_rfl) rfl (by kernel_rfl) rfl hf2
  obtain ⟨_, _, _, z0, z1, z2, n2, rfl, e, hx2, a0, a1, a2⟩ := open_struct111 Tryd.underlying25 (by kernel_rfl) (by kernel_rfl) rfl (by kernel_rfl) rfl (by kernel_rfl) rfl g0
  simp only [List.cons.injEq, and_true] at e
  obtain ⟨rfl, rfl, rfl⟩ := e
  obtain ⟨s0, e0, u0, _⟩ := DataW.trod_string Tryd.underlying9 a0
  obtain ⟨s1, e1, u1, _⟩ := DataW.trod_string Tryd.underlying9 a1
  obtain ⟨s3, e3, u3, _⟩ := DataW.trod_string Tryd.underlying9 g1
  simp only [List.cons.injEq, and_true] at e0 e1 e3
  subst e0; subst e1; subst e3
  have hd : d = .agg [y0.1, y1.1] := hx
  rw [hd, hx2, u0, u1, u3] at hb
  simp only [Rows.uptoBulk, Rows.uptoBulkAll, lst_len] at hb
  obtain ⟨_, _, hp⟩ := pairFd
  obtain ⟨A, cap, fs, rfl, hfd, hl, hsum⟩ := open_pairsS hp a2 (by omega)
  exact ⟨s0, s1, A, cap, fs, s3, rfl, by omega, by omega, by omega, hfd, hl, by omega⟩
end Go.Proofs.YthfolopnjmkllaaDoor
