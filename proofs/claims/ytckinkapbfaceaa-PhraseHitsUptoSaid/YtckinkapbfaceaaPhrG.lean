/- slices.Equal of two lists of hits; nodes that came in. -/
import Derived.Test.YtckinkapbfaceaaPhrF
import Derived.Test.YtckinkapbfaceaaBulk
import Derived.Test.YtckinkapbfaceaaRexV
import Derived.Test.YtckinkapbfaceaaFrmB
import Derived.Laws.StructEq
namespace Go.Proofs.Ytckinkapbfaceaa
open Go.ChangeShapes Go.WideShapes Go.ChangeAt Go.RowKit Go.Joins Go.Deep
set_option linter.unusedVariables false
set_option linter.unusedSimpArgs false

theorem hitFlat_get {l : List (Int × Int)} {k j : Nat} {i : Int × Int} (h : l[k]? = some i) (hj : j < 2) : (hitFlat l)[k * 2 + j]? = [Value.int .i64 i.1, Value.int .i64 i.2][j]? := by
  obtain ⟨hk, rfl⟩ := List.getElem?_eq_some_iff.1 h
  have e : l = l.take k ++ l[k] :: l.drop (k + 1) := by rw [← List.drop_eq_getElem_cons hk, List.take_append_drop]
  conv => lhs; rw [e]
  have hc : hitFlat (l[k] :: l.drop (k + 1)) = [Value.int .i64 l[k].1, Value.int .i64 l[k].2] ++ hitFlat (l.drop (k + 1)) := List.flatMap_cons
  rw [hitFlat_app, hc, List.getElem?_append_right (by rw [hitFlat_len, List.length_take]; omega), hitFlat_len, List.length_take, Nat.min_eq_left (by omega), Nat.add_sub_cancel_left, List.getElem?_append_left (by simp; exact hj)]
theorem OH.at_ {w : World} {B : Nat} {A : Option Addr} {c : Nat} {l : List (Int × Int)} (h : OH w B (.slice A l.length c) l) {k : Nat} {i : Int × Int} (hk : l[k]? = some i) : ∃ g, A = some ⟨g, 0, none⟩ ∧ w.cell? ⟨g, k * 2, none⟩ = some (.int .i64 i.1) ∧ w.cell? ⟨g, k * 2 + 1, none⟩ = some (.int .i64 i.2) := by
  have hkl := (List.getElem?_eq_some_iff.1 hk).1
  rcases h.2 with ⟨_, h2⟩ | ⟨g, c', cur, e, hb, hh, h3, h4, h5⟩
  · omega
  · injection e with e1 e2 e3
    subst e1
    obtain ⟨ad, ea, hlt, hc⟩ := (OH.reads h).2 (by omega)
    cases ea
    refine ⟨g, rfl, ?_, ?_⟩
    · have := hc (k * 2 + 0) _ (by rw [hitFlat_get hk (by omega)]; rfl)
      by_cases e0 : k * 2 = 0
      · simpa [Addr.add, e0] using this
      · simpa [Addr.add, e0] using this
    · have := hc (k * 2 + 1) _ (by rw [hitFlat_get hk (by omega)]; rfl)
      simpa [Addr.add] using this
set_option maxHeartbeats 1000000 in
theorem eqHit_any (A A' : Option Addr) (cap cap' : Nat) (l : List (Int × Int)) (w : World) (B B' : Nat) (hl : l.length ≤ 9000000000) (h : OH w B (.slice A l.length cap) l) (h' : OH w B' (.slice A' l.length cap') l) :
    Calls Try.prog 18 #[.slice A l.length cap, .slice A' l.length cap'] w fun e w' => e = .returned (.bool true) ∧ Below w.heap.size w w' := by
  have hb0 : ((l.length : Int) != (l.length : Int)) = false := by simp
  have H := Lib.hid h
  have H' := Lib.hid h'
  clear h h'
  go_enter Try.func18, Try.ntmps18
  go_wp2_with fail
  go_loopw [13] (fun i wr => ∃ k q : Nat, k ≤ l.length ∧ i = .int .i64 k ∧ wr = w.drewN q) (fun i _ => l.length - (intOf i).toNat)
  case atStart => exact ⟨0, 0, by omega, rfl, rfl⟩
  case round =>
    obtain ⟨k, q, hk, rfl, rfl⟩ := hrel
    by_cases hlt : k < l.length
    · obtain ⟨i, hi⟩ : ∃ i, l[k]? = some i := ⟨l[k], List.getElem?_eq_getElem hlt⟩
      obtain ⟨g, rfl, x0, x1⟩ := H.out.at_ hi
      obtain ⟨g', rfl, y0, y1⟩ := H'.out.at_ hi
      clear hi
      go_wp2_with fail
      go_quiet (fail)
      go_wp2_with fail
      go_roundw
      case rel => exact ⟨k + 1, _, by omega, by go_num, rfl⟩
      case measure => simp [intOf]; omega
    · obtain rfl : k = l.length := by omega
      go_wp2_with fail
      go_ret
      exact ⟨rfl, below_drewN (Below.refl _ _) q⟩

/-! nodes that came in -/
theorem node4 {α : Type} {l : List α} (h : l.length = 4) : ∃ a b c d, l = [a, b, c, d] := by
  match l, h with
  | [a, b, c, d], _ => exact ⟨a, b, c, d, rfl⟩
theorem open_struct1111 {H : Type} {enc : TypeId × Value → H} {P : Program} {w : World} {base : Nat} {spare : Nat → Bool} {held : Bool} {t : TypeId} {f0 f1 f2 f3 : Field} {fuel : Nat} {cs : List Value} {x : DataW H × List MemPlace}
    (hs : P.underlying t = some (.struct #[f0, f1, f2, f3])) (hC : P.cellsOf t = 4) (k0 : P.cellsOf f0.type = 1) (o0 : f0.offset = 0) (k1 : P.cellsOf f1.type = 1) (o1 : f1.offset = 1) (k2 : P.cellsOf f2.type = 1) (o2 : f2.offset = 2) (k3 : P.cellsOf f3.type = 1) (o3 : f3.offset = 3)
    (h : DataW.trod enc P w base spare held fuel t cs = some x) :
    ∃ c0 c1 c2 c3 y0 y1 y2 y3 n, fuel = n + 1 ∧ cs = [c0, c1, c2, c3] ∧ x.1 = .agg ([y0, y1, y2, y3].map (·.1)) ∧ DataW.trod enc P w base spare held n f0.type [c0] = some y0 ∧ DataW.trod enc P w base spare held n f1.type [c1] = some y1 ∧ DataW.trod enc P w base spare held n f2.type [c2] = some y2 ∧ DataW.trod enc P w base spare held n f3.type [c3] = some y3 := by
  obtain ⟨xs, n, rfl, hx, hl, hxs, hg⟩ := DataW.trod_struct hs h
  obtain ⟨c0, c1, c2, c3, rfl⟩ := node4 (hl.trans hC)
  obtain ⟨y0, y1, y2, y3, rfl⟩ := node4 hxs
  exact ⟨c0, c1, c2, c3, y0, y1, y2, y3, n, rfl, rfl, by rw [hx], by simpa [o0, k0] using hg 0 f0 rfl, by simpa [o1, k1] using hg 1 f1 rfl, by simpa [o2, k2] using hg 2 f2 rfl, by simpa [o3, k3] using hg 3 f3 rfl⟩
theorem open_endsB {H : Type} {enc : TypeId × Value → H} {W : World} {n : Nat} {c : Value} {x : DataW H × List MemPlace} (h : DataW.trod enc Try.prog W 0 (fun _ => true) true n 84 [c] = some x) :
    ∃ (A : Option Addr) (cap : Nat) (zs : List Int), c = .slice A zs.length cap ∧ zs.length ≤ cap ∧ cap ≤ maxLen ∧ Reads W W.heap.size 1 A zs.length (zs.map (Value.int .i64)) ∧ (∀ n ∈ zs, (Lit.int .i64 n).wf = true) ∧ zs.length ≤ Rows.uptoBulk x.1 := by
  obtain ⟨A, cap, zs, e, h1, h2, h3, h4⟩ := open_intsR h
  simp only [List.cons.injEq, and_true] at e
  refine ⟨A, cap, zs, e, h1, h2, h3, h4, ?_⟩
  rcases DataW.trod_slice Try.underlying84 h with ⟨e5, _⟩ | ⟨a, len, cap', elems, rest, k', rfl, e5, hx, _, hl, hm, hlen, hel, hsp, hns⟩
  · simp only [List.cons.injEq, and_true] at e5
    rw [e5] at e
    injection e with e1 e2 e3
    omega
  · simp only [List.cons.injEq, and_true] at e5
    rw [e5] at e
    injection e with e1 e2 e3
    rw [hx]
    have := bulk_len (elems.map (·.1))
    rw [List.length_map] at this
    simp only [Rows.uptoBulk]
    omega
theorem open_node {H : Type} {enc : TypeId × Value → H} {W : World} {n : Nat} {cs : List Value} {x : DataW H × List MemPlace} (h : DataW.trod enc Try.prog W 0 (fun _ => true) true n 86 cs = some x) :
    ∃ i : Nd, cs = i.cs ∧ i.ok W W.heap.size ∧ i.ends.length ≤ Rows.uptoBulk x.1 := by
  obtain ⟨c0, c1, c2, c3, y0, y1, y2, y3, m, rfl, rfl, hx, g0, g1, g2, g3⟩ := open_struct1111 Try.underlying86 (by kernel_rfl) (by kernel_rfl) rfl (by kernel_rfl) rfl (by kernel_rfl) rfl (by kernel_rfl) rfl h
  obtain ⟨b, e0, _, hb⟩ := DataW.trod_int Try.underlying5 g0
  obtain ⟨u, e1, _, hu⟩ := DataW.trod_int Try.underlying3 g1
  obtain ⟨f, e2, _, hf⟩ := DataW.trod_int Try.underlying3 g2
  obtain ⟨A, cap, zs, rfl, k1, k2, k3, k4, k5⟩ := open_endsB g3
  simp only [List.cons.injEq, and_true] at e0 e1 e2
  subst e0; subst e1; subst e2
  refine ⟨⟨b, u, f, zs, A, cap⟩, rfl, ⟨hb, hu, hf, k4, k3, k1, k2⟩, ?_⟩
  rw [hx]
  simp only [Rows.uptoBulk, Rows.uptoBulkAll, List.map_cons, List.map_nil]
  show zs.length ≤ _
  omega
/-- nodes that came in -/
theorem open_nodes {H : Type} {enc : TypeId × Value → H} {W : World} {n : Nat} {c : Value} {x : DataW H × List MemPlace} (h : DataW.trod enc Try.prog W 0 (fun _ => true) true n 38 [c] = some x) (hb : Rows.uptoBulk x.1 ≤ 1048576) :
    ∃ (A : Option Addr) (cap : Nat) (l : List Nd), c = .slice A l.length cap ∧ NdR W W.heap.size A cap l ∧ ∀ x ∈ l, x.ends.length ≤ 1048576 := by
  rcases DataW.trod_slice Try.underlying38 h with ⟨e5, _⟩ | ⟨a, len, cap, elems, rest, k', rfl, e5, hx, _, hl, hm, hlen, hel, hsp, hns⟩
  · simp only [List.cons.injEq, and_true] at e5
    subst e5
    exact ⟨none, 0, [], rfl, ⟨Reads.none_, Nat.le_refl _, ⟨Nat.zero_le _, by unfold maxLen; omega⟩, by simp⟩, by simp⟩
  · simp only [List.cons.injEq, and_true] at e5
    subst e5
    have kk : Try.prog.cellsOf 86 = 4 := by kernel_rfl
    rw [kk] at hel
    rw [hx] at hb
    simp only [Rows.uptoBulk] at hb
    have hone : ∀ i, i < len → ∃ (cs' : List Value) (f : Nd), W.cells? 0 (a.add (i * 4)) 4 = some cs' ∧ cs' = f.cs ∧ f.ok W W.heap.size ∧ f.ends.length ≤ 1048576 := by
      intro i hi
      have h1 : (W.cells? 0 (a.add (i * 4)) 4).bind (DataW.trod enc Try.prog W 0 (fun _ => true) true k' 86) = elems[i]? := hel i hi
      rw [List.getElem?_eq_getElem (by omega)] at h1
      obtain ⟨cs', h2, h3⟩ := Option.bind_eq_some_iff.1 h1
      obtain ⟨f, hf, hz, hz2⟩ := open_node h3
      refine ⟨cs', f, h2, hf, hz, ?_⟩
      have := bulk_mem (l := elems.map (·.1)) (d := (elems[i]'(by omega)).1) (List.mem_map.2 ⟨_, List.getElem_mem _, rfl⟩)
      omega
    obtain ⟨fs, hfs, hall⟩ := list_of_lt hone
    refine ⟨some a, cap, fs, by rw [hfs], ⟨⟨by rw [ndFlat_len], fun h0 => ?_⟩, Nat.le_refl _, ⟨by omega, hm⟩, fun f hf => ?_⟩, fun f hf => ?_⟩
    · obtain ⟨cs', _, h2, _⟩ := hone 0 (by omega)
      obtain ⟨_, h3, h4⟩ := World.cells?_some h2
      refine ⟨a, rfl, ?_, fun j u hu => ?_⟩
      · have h5 := h4 0 (by omega)
        rw [List.getElem?_eq_getElem (by omega)] at h5
        have := World.block_lt_of_cell? _ _ h5
        rwa [block_of_add, block_of_add] at this
      · obtain ⟨hj, _⟩ := List.getElem?_eq_some_iff.1 hu
        rw [ndFlat_len] at hj
        have hi : j / 4 < fs.length := by omega
        obtain ⟨cs', g2, g3, _⟩ := hall (j / 4) hi
        obtain ⟨_, g4, g5⟩ := World.cells?_some g2
        have hget := ndFlat_get (List.getElem?_eq_getElem hi) (j := j % 4) (by omega)
        rw [Nat.div_add_mod' j 4] at hget
        rw [hu, ← g3] at hget
        have := g5 (j % 4) (by omega)
        rw [add_of_add, Nat.div_add_mod' j 4] at this
        rw [this, ← hget]
    · obtain ⟨i, hi, rfl⟩ := List.mem_iff_getElem.1 hf
      obtain ⟨_, _, _, hz, _⟩ := hall i hi
      exact hz
    · obtain ⟨i, hi, rfl⟩ := List.mem_iff_getElem.1 hf
      obtain ⟨_, _, _, _, hz⟩ := hall i hi
      exact hz
set_option maxRecDepth 100000 in
theorem open_nodesV {H : Type} {enc : TypeId × Value → H} {W : World} {v : Value} {d : DataW H} {p : List MemPlace} {base : Nat}
    (hv : Value.okWide Try.prog W .any base 38 v) (h : DataW.Trod enc Try.prog W 0 (fun _ => true) true 38 v d p) (hb : Rows.uptoBulk d ≤ 1048576) :
    ∃ (A : Option Addr) (cap : Nat) (l : List Nd), v = .slice A l.length cap ∧ NdR W W.heap.size A cap l ∧ ∀ x ∈ l, x.ends.length ≤ 1048576 := by
  obtain ⟨a0, len, cap, rfl⟩ := okWide_slice Try.underlying38 hv
  obtain ⟨fuel, hf⟩ := h
  have hf2 : DataW.trod enc Try.prog W 0 (fun _ => true) true fuel 38 [.slice a0 len cap] = some (d, p) := by simpa [Value.cells] using hf
  exact open_nodes hf2 hb
end Go.Proofs.Ytckinkapbfaceaa
