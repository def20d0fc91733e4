/- Variables in memory; what All looks at, plainly. Walks: vars.All$1, slices.IndexFunc, slices.ContainsFunc with it. -/
import Derived.Test.YthfolopnjmkllaaDoorVarF
import Derived.Test.YthfolopnjmkllaaDoorAppP
namespace Go.Proofs.YthfolopnjmkllaaDoor
open Go.RowKit
set_option linter.unusedVariables false
set_option linter.unusedSimpArgs false

/-- a variable: its kind, mode and name -/
structure Vr where
  (k m : Int) (n : ByteArray)
abbrev vrCs (v : Vr) : List Value := [.int .i64 v.k, .int .i64 v.m, .string v.n]
def vrFlat (l : List Vr) : List Value := l.flatMap vrCs
theorem vrFlat_len (l : List Vr) : (vrFlat l).length = l.length * 3 := by
  unfold vrFlat
  induction l with
  | nil => rfl
  | cons x l ih => rw [List.flatMap_cons, List.length_append, ih, List.length_cons]; simp only [vrCs, List.length_cons, List.length_nil]; omega
theorem vrFlat_get {l : List Vr} {k j : Nat} {f : Vr} (h : l[k]? = some f) (hj : j < 3) : (vrFlat l)[k * 3 + j]? = (vrCs f)[j]? := by
  obtain ⟨hk, rfl⟩ := List.getElem?_eq_some_iff.1 h
  have e : l = l.take k ++ l[k] :: l.drop (k + 1) := by rw [← List.drop_eq_getElem_cons hk, List.take_append_drop]
  have hc : vrFlat l = vrFlat (l.take k) ++ (vrCs l[k] ++ vrFlat (l.drop (k + 1))) := by
    conv => lhs; rw [e]
    simp only [vrFlat, List.flatMap_append, List.flatMap_cons]
  have hl : (vrFlat (l.take k)).length = k * 3 := by rw [vrFlat_len, List.length_take, Nat.min_eq_left (by omega)]
  rw [hc, List.getElem?_append_right (by omega), hl, Nat.add_sub_cancel_left, List.getElem?_append_left (by simp; omega)]
/-- variables that lie in memory below B -/
def VrR (w : World) (B : Nat) (A : Option Addr) (cap : Nat) (l : List Vr) : Prop := Reads w B 3 A l.length (vrFlat l) ∧ l.length ≤ cap ∧ cap ≤ 9223372036854775807 ∧ ∀ v ∈ l, v.n.size ≤ 1048576
theorem VrR.below {w w' : World} {B : Nat} {A : Option Addr} {cap : Nat} {l : List Vr} (h : VrR w B A cap l) (hb : Below B w w') : VrR w' B A cap l := ⟨h.1.keep fun _ hp => hb.cell hp, h.2⟩
theorem VrR.cells {w : World} {B : Nat} {A : Option Addr} {cap : Nat} {l : List Vr} (h : VrR w B A cap l) {k : Nat} (hk : k < l.length) :
    ∃ ad, A = some ad ∧ ad.block < B ∧ w.cell? (ad.add (k * 3)) = some (.int .i64 l[k].k) ∧ w.cell? ⟨(ad.add (k * 3)).block, (ad.add (k * 3)).off + 1, none⟩ = some (.int .i64 l[k].m) ∧ w.cell? ⟨(ad.add (k * 3)).block, (ad.add (k * 3)).off + 2, none⟩ = some (.string l[k].n) ∧ l[k].n.size ≤ 1048576 := by
  obtain ⟨ad, e, hb, hc⟩ := h.1.2 (by omega)
  have h0 := vrFlat_get (List.getElem?_eq_getElem hk) (j := 0) (by omega)
  have h1 := vrFlat_get (List.getElem?_eq_getElem hk) (j := 1) (by omega)
  have h2 := vrFlat_get (List.getElem?_eq_getElem hk) (j := 2) (by omega)
  refine ⟨ad, e, hb, hc _ _ h0, ?_, ?_, h.2.2.2 _ (List.getElem_mem hk)⟩
  · show w.cell? ((ad.add (k * 3)).add 1) = _
    rw [add_of_add]; exact hc _ _ h1
  · show w.cell? ((ad.add (k * 3)).add 2) = _
    rw [add_of_add]; exact hc _ _ h2
/-- does a variable shut out a name of a kind? -/
def noB (kd : Int) (an : ByteArray) (x : Vr) : Bool := x.m == 2 && (x.k == kd && (x.n.toList.isEmpty || (x.n.toList == an.toList)))
def keepL (L : List Vr) (kd : Int) (V : List Fd) : List Fd := V.filter fun a => !(L.any (noB kd a.n))
def oneV (VV : Vr → List Fd) (L : List Vr) (v : Vr) : List Fd :=
  if v.m = 2 then [] else if v.m = 1 then oneL (scS (keepL L v.k (VV v)).length) else keepL L v.k (VV v)
def lookL (VV : Vr → List Fd) (L M : List Vr) : List Fd := M.flatMap (oneV VV L)
theorem lookL_take {VV : Vr → List Fd} {L M : List Vr} {k : Nat} (hk : k < M.length) : lookL VV L (M.take (k + 1)) = lookL VV L (M.take k) ++ oneV VV L M[k] := by
  unfold lookL; rw [List.take_succ_eq_append_getElem hk, List.flatMap_append]; simp
theorem keepL_yes {L : List Vr} {kd : Int} {V : List Fd} {k : Nat} (hk : k < V.length) (h : L.any (noB kd V[k].n) = false) : keepL L kd (V.take (k + 1)) = keepL L kd (V.take k) ++ [V[k]] := by
  unfold keepL; rw [List.take_succ_eq_append_getElem hk, List.filter_append]; simp [h]
theorem keepL_no {L : List Vr} {kd : Int} {V : List Fd} {k : Nat} (hk : k < V.length) (h : L.any (noB kd V[k].n) = true) : keepL L kd (V.take (k + 1)) = keepL L kd (V.take k) := by
  unfold keepL; rw [List.take_succ_eq_append_getElem hk, List.filter_append]; simp [h]
theorem keepL_le (L : List Vr) (kd : Int) (V : List Fd) : (keepL L kd V).length ≤ V.length := List.length_filter_le _ _
theorem oneV_le {VV : Vr → List Fd} {N : Nat} (h1 : 1 ≤ N) (h : ∀ v, (VV v).length ≤ N) (L : List Vr) (v : Vr) : (oneV VV L v).length ≤ N := by
  unfold oneV
  split
  · exact Nat.zero_le _
  · split
    · exact h1
    · exact Nat.le_trans (keepL_le _ _ _) (h v)
theorem lookL_le {VV : Vr → List Fd} {N : Nat} (h1 : 1 ≤ N) (h : ∀ v, (VV v).length ≤ N) (L : List Vr) : ∀ M : List Vr, (lookL VV L M).length ≤ M.length * N
  | [] => Nat.zero_le _
  | v :: M => by
    have h2 := oneV_le h1 h L v
    have h3 := lookL_le h1 h L M
    have e : lookL VV L (v :: M) = oneV VV L v ++ lookL VV L M := by unfold lookL; rw [List.flatMap_cons]
    rw [e, List.length_append, List.length_cons, Nat.succ_mul]; omega
theorem vkL_le {N : Nat} {kind : Int} {name mm t : ByteArray} {fs : List Fd} {body : ByteArray} {client : Nat} {score : Int} {l ck : List Fd} (h0 : 1 ≤ N) (h1 : fs.length ≤ N) (h2 : l.length ≤ N) (h3 : ck.length ≤ N) : (vkL kind name mm t fs body client score l ck).length ≤ N := by
  have h := allL_len (kind := kind) (mm := mm) (t := t) (body := body) (client := client) (score := score) h0 h1 h2 h3
  rw [vkL_as]
  refine ite_len (Nat.le_trans (onlyL_le _ _) h) (ite_len ?_ h)
  unfold bareL; rw [List.length_map]; exact h
section
variable (kd : Int) (an : ByteArray) (g1 g2 : Nat)
set_option maxHeartbeats 1000000 in
theorem allC_any (x : Vr) (w : World) (h1 : w.cell? ⟨g1, 0, none⟩ = some (.int .i64 kd)) (h2 : w.cell? ⟨g2, 0, none⟩ = some (.string an)) :
    Calls Tryd.prog 27 #[.agg #[.int .i64 x.k, .int .i64 x.m, .string x.n], .pointer (some ⟨g1, 0, none⟩), .pointer (some ⟨g2, 0, none⟩)] w fun e w' => e = .returned (.bool (noB kd an x)) ∧ Below w.heap.size w w' := by
  obtain ⟨k, m, n⟩ := x
  dsimp only
  obtain ⟨W, hW⟩ : ∃ W, w.alloc (.cells #[.int .i64 k, .int .i64 m, .string n] 31) = W := ⟨_, rfl⟩
  have hb : Below w.heap.size w W := by rw [← hW]; exact (Below.refl _ _).alloc (Nat.le_refl _) _
  have hk : Blk W w.heap.size 31 #[.int .i64 k, .int .i64 m, .string n] := by rw [← hW]; exact Blk.new _ _ _
  have x0 : W.cell? ⟨w.heap.size, 0, none⟩ = some (.int .i64 k) := hk.cell 0
  have x1 : W.cell? ⟨w.heap.size, 1, none⟩ = some (.int .i64 m) := hk.cell 1
  have x2 : W.cell? ⟨w.heap.size, 2, none⟩ = some (.string n) := hk.cell 2
  have x3 : W.cell? ⟨g1, 0, none⟩ = some (.int .i64 kd) := by rw [hb.cell (p := ⟨g1, 0, none⟩) (World.block_lt_of_cell? _ _ h1)]; exact h1
  have x4 : W.cell? ⟨g2, 0, none⟩ = some (.string an) := by rw [hb.cell (p := ⟨g2, 0, none⟩) (World.block_lt_of_cell? _ _ h2)]; exact h2
  have HB := Lib.hid hb
  clear hb hk h1 h2
  obtain ⟨R, hR⟩ : ∃ R, R = noB kd an ⟨k, m, n⟩ := ⟨_, rfl⟩
  rw [← hR]
  unfold noB at hR
  dsimp only at hR
  cases q1 : (m == 2) with
  | false =>
    have HR : Hid (R = false) := Lib.hid (by rw [hR, q1]; rfl)
    clear hR
    go_enter Tryd.func27, Tryd.ntmps27
    go_wp2_with fail
    go_ret
    exact ⟨ret_bool HR.out.symm, HB.out⟩
  | true =>
    cases q2 : (k == kd) with
    | false =>
      have HR : Hid (R = false) := Lib.hid (by rw [hR, q1, q2]; rfl)
      clear hR
      go_enter Tryd.func27, Tryd.ntmps27
      go_wp2_with fail
      go_ret
      exact ⟨ret_bool HR.out.symm, HB.out⟩
    | true =>
      cases q3 : n.toList.isEmpty with
      | true =>
        have HR : Hid (R = true) := Lib.hid (by rw [hR, q1, q2, q3]; rfl)
        clear hR
        go_enter Tryd.func27, Tryd.ntmps27
        go_wp2_with fail
        go_ret
        exact ⟨ret_bool HR.out.symm, HB.out⟩
      | false =>
        cases q4 : (n.toList == an.toList) with
        | true =>
          have HR : Hid (R = true) := Lib.hid (by rw [hR, q1, q2, q3, q4]; rfl)
          clear hR
          go_enter Tryd.func27, Tryd.ntmps27
          go_wp2_with fail
          go_ret
          exact ⟨ret_bool HR.out.symm, HB.out⟩
        | false =>
          have HR : Hid (R = false) := Lib.hid (by rw [hR, q1, q2, q3, q4]; rfl)
          clear hR
          go_enter Tryd.func27, Tryd.ntmps27
          go_wp2_with fail
          go_ret
          exact ⟨ret_bool HR.out.symm, HB.out⟩
variable (L : List Vr) (A : Option Addr) (cap B : Nat) (w : World)
def IdxRv (kd : Int) (an : ByteArray) (L : List Vr) (w : World) (e : Ending) (w' : World) : Prop := ∃ r : Int, e = .returned (.int .i64 r) ∧ ((r < 0 ∧ ∀ z ∈ L, noB kd an z = false) ∨ (0 ≤ r ∧ ∃ z ∈ L, noB kd an z = true)) ∧ Below w.heap.size w w'
set_option maxHeartbeats 1000000 in
theorem idxV_any (hr : VrR w B A cap L) (hB : B ≤ w.heap.size) (h1 : w.cell? ⟨g1, 0, none⟩ = some (.int .i64 kd)) (h2 : w.cell? ⟨g2, 0, none⟩ = some (.string an)) :
    Calls Tryd.prog 46 #[.slice A L.length cap, .func (.func 27) #[] #[.pointer (some ⟨g1, 0, none⟩), .pointer (some ⟨g2, 0, none⟩)]] w (IdxRv kd an L w) := by
  obtain ⟨hl, hl2⟩ : L.length ≤ cap ∧ cap ≤ 9223372036854775807 := ⟨hr.2.1, hr.2.2.1⟩
  have CE := Lib.hid fun x w' (hb : Below w.heap.size w w') => allC_any kd an g1 g2 x w' ((hb.cell (p := ⟨g1, 0, none⟩) (World.block_lt_of_cell? _ _ h1)).trans h1) ((hb.cell (p := ⟨g2, 0, none⟩) (World.block_lt_of_cell? _ _ h2)).trans h2)
  have HR := Lib.hid fun w' (hb : Below w.heap.size w w') => hr.below (hb.mono hB)
  clear hr h1 h2
  go_enter Tryd.func46, Tryd.ntmps46
  go_wp2_with fail
  go_loopw [8] (fun u wr => ∃ k : Nat, u = .int .i64 (k : Int) ∧ k ≤ L.length ∧ Below w.heap.size w wr ∧ Hid (∀ j (hj : j < L.length), j < k → noB kd an L[j] = false)) (fun u _ => L.length - (intOf u).toNat)
  case atStart => exact ⟨0, rfl, by omega, Below.refl _ _, fun j hj h => absurd h (by omega)⟩
  case round =>
    obtain ⟨k, rfl, hk, hB1, HN⟩ := hrel
    have HB := Lib.hid hB1
    by_cases hlt : k < L.length
    · have i1 : (k : Int) < (L.length : Int) := by omega
      obtain ⟨ad, rfl, hb, z0, z1, z2, z3⟩ := (HR.out wr hB1).cells hlt
      have C := CE.out L[k] wr hB1
      clear hB1
      cases hv : noB kd an L[k] with
      | true =>
        rw [hv] at C
        have C := Lib.hid C
        have HV : Hid (∃ z ∈ L, noB kd an z = true) := ⟨_, List.getElem_mem hlt, hv⟩
        clear hv
        go_wp2_with fail
        refine C.out.mono ?_
        rintro e w1 ⟨rfl, b1⟩
        have HB2 := Lib.hid (HB.out.trans (b1.mono HB.out.size))
        clear b1 C
        go_wp2_with fail
        go_ret
        exact ⟨(k : Int), rfl, .inr ⟨by omega, HV.out⟩, HB2.out⟩
      | false =>
        rw [hv] at C
        have C := Lib.hid C
        have HN2 : Hid (∀ j (hj : j < L.length), j < k + 1 → noB kd an L[j] = false) := fun j hj h => by
          by_cases e : j = k
          · subst e; exact hv
          · exact HN.out j hj (by omega)
        clear hv
        go_wp2_with fail
        refine C.out.mono ?_
        rintro e w1 ⟨rfl, b1⟩
        have HB2 := Lib.hid (HB.out.trans (b1.mono HB.out.size))
        clear b1 C
        go_wp2_with fail
        go_roundw
        case rel => exact ⟨k + 1, by go_num, by omega, HB2.out, HN2⟩
        case measure => simp [intOf]; omega
    · obtain rfl : k = L.length := by omega
      clear hlt hB1
      go_wp2_with fail
      go_ret
      exact ⟨-1, rfl, .inl ⟨by omega, fun z hz => by
        obtain ⟨i, hi, rfl⟩ := List.mem_iff_getElem.1 hz
        exact HN.out i hi hi⟩, HB.out⟩
theorem conV_any (hr : VrR w B A cap L) (hB : B ≤ w.heap.size) (h1 : w.cell? ⟨g1, 0, none⟩ = some (.int .i64 kd)) (h2 : w.cell? ⟨g2, 0, none⟩ = some (.string an)) :
    Calls Tryd.prog 26 #[.slice A L.length cap, .func (.func 27) #[] #[.pointer (some ⟨g1, 0, none⟩), .pointer (some ⟨g2, 0, none⟩)]] w fun e w' => e = .returned (.bool (L.any (noB kd an))) ∧ Below w.heap.size w w' := by
  have C := Lib.hid (idxV_any kd an g1 g2 L A cap B w hr hB h1 h2)
  clear hr h1 h2
  go_enter Tryd.func26, Tryd.ntmps26
  go_wp2_with fail
  refine C.out.mono ?_
  rintro e w1 ⟨r, rfl, hc, b1⟩
  have HB := Lib.hid b1
  clear b1 C
  rcases hc with ⟨h1, h2⟩ | ⟨h1, h2⟩
  · have HT : Hid (L.any (noB kd an) = false) := by
      show _ = _
      rw [List.any_eq_false]; intro z hz; rw [h2 z hz]; simp
    have e1 : ¬ (0 : Int) ≤ r := by omega
    clear h1 h2
    go_wp2_with fail
    go_ret
    exact ⟨ret_bool (by rw [HT.out]; exact decide_eq_false (by omega)), HB.out⟩
  · have HT : Hid (L.any (noB kd an) = true) := List.any_eq_true.2 h2
    clear h2
    go_wp2_with fail
    go_ret
    exact ⟨ret_bool (by rw [HT.out]), HB.out⟩
end
end Go.Proofs.YthfolopnjmkllaaDoor
