/- wicklaw.ArgsSays: for all strings, values, counts and arguments of bulk at most 1048576 the functions of package args return what the reference returns; the card. Condition: that bulk. -/
import Derived.Test.YtnpjmaoidkofeaaDoorCards
import Derived.Test.YtnpjmaoidkofeaaDoorTie
import Derived.Test.YtnpjmaoidkofeaaDoorFrame
import Derived.Test.YtnpjmaoidkofeaaDoorPost
import Derived.Test.YtnpjmaoidkofeaaDoorArgD
import Derived.Test.YtnpjmaoidkofeaaDoorPrV
import Derived.Deep.DeepHandedRow
import Derived.Lib.LaidTab
namespace Go.Proofs.YtnpjmaoidkofeaaDoor.lawArg
open Go.ChangeShapes Go.WideShapes Go.ChangeAt Go.RowKit Go.Joins
open Go.ChangeMaps (open_string shut_string)
set_option linter.unusedVariables false
set_option linter.unusedSimpArgs false

theorem pairArg : ∃ f0 f1, PairT 40 47 9 f0 f1 := ⟨_, _, Tryd.underlying40, Tryd.underlying47, Tryd.underlying9, by kernel_rfl, by kernel_rfl, rfl, by kernel_rfl, rfl, rfl, rfl⟩
set_option maxRecDepth 100000 in
theorem open_args {H : Type} {enc : TypeId × Value → H} {W : World} {v : Value} {d : DataW H} {p : List MemPlace} {base : Nat}
    (hv : Value.okWide Tryd.prog W .any base 40 v) (h : DataW.Trod enc Tryd.prog W 0 (fun _ => true) true 40 v d p) (hb : Rows.uptoBulk d ≤ 1048576) :
    ∃ (A : Option Addr) (cap : Nat) (fs : List Fd), v = .slice A fs.length cap ∧ FdR W W.heap.size A cap fs ∧ fs.length ≤ 1048576 := by
  obtain ⟨a0, len, cap, rfl⟩ := okWide_slice Tryd.underlying40 hv
  obtain ⟨fuel, hf⟩ := h
  have hf2 : DataW.trod enc Tryd.prog W 0 (fun _ => true) true fuel 40 [.slice a0 len cap] = some (d, p) := by simpa [Value.cells] using hf
  obtain ⟨_, _, hp⟩ := pairArg
  exact open_pairs hp hf2 hb
theorem bulk_strs {H : Type} : ∀ {l : List (DataW H)} {vs : List ByteArray}, l.length = vs.length → (∀ i (h : i < l.length) (h2 : i < vs.length), l[i] = .lit (.string vs[i].data.toList)) → Rows.uptoBulkAll l = sumS vs
  | [], [], _, _ => rfl
  | x :: l, v :: vs, hl, h => by
    have h0 : x = .lit (.string v.data.toList) := h 0 (by simp) (by simp)
    have h1 := bulk_strs (l := l) (vs := vs) (by simpa using hl) fun i a b => h (i + 1) (Nat.succ_lt_succ a) (Nat.succ_lt_succ b)
    unfold sumS at h1 ⊢
    rw [List.map_cons, List.sum_cons, ← h1, h0]
    simp only [Rows.uptoBulkAll, Rows.uptoBulk, lst_len]
set_option maxRecDepth 100000 in
theorem open_strs {H : Type} {enc : TypeId × Value → H} {W : World} {v : Value} {d : DataW H} {p : List MemPlace} {base : Nat}
    (hv : Value.okWide Tryd.prog W .any base 39 v) (h : DataW.Trod enc Tryd.prog W 0 (fun _ => true) true 39 v d p) (hb : Rows.uptoBulk d ≤ 1048576) :
    ∃ (A : Option Addr) (cap : Nat) (vs : List ByteArray), v = .slice A vs.length cap ∧ StR W W.heap.size A cap vs := by
  obtain ⟨a0, len, cap, rfl⟩ := okWide_slice Tryd.underlying39 hv
  obtain ⟨fuel, hf⟩ := h
  have hf2 : DataW.trod enc Tryd.prog W 0 (fun _ => true) true fuel 39 [.slice a0 len cap] = some (d, p) := by simpa [Value.cells] using hf
  rcases DataW.trod_slice Tryd.underlying39 hf2 with ⟨e5, _⟩ | ⟨a, len, cap, elems, rest, k', rfl, e5, hx, _, hl, hm, hlen, hel, hsp, hns⟩
  · simp only [List.cons.injEq, and_true] at e5
    rw [e5]
    exact ⟨none, 0, [], rfl, Reads.none_, Nat.le_refl _, by omega, by simp [sumS]⟩
  · simp only [List.cons.injEq, and_true] at e5
    rw [e5]
    have kk : Tryd.prog.cellsOf 9 = 1 := by kernel_rfl
    rw [kk] at hel
    have hx1 := congrArg Prod.fst hx
    simp only at hx1
    rw [hx1] at hb
    simp only [Rows.uptoBulk] at hb
    have hone : ∀ i, i < len → ∃ (x : List MemPlace) (s : ByteArray), W.cells? 0 (a.add (i * 1)) 1 = some [.string s] ∧ ∃ h : i < elems.length, (elems[i]'h).1 = .lit (.string s.data.toList) := by
      intro i hi
      have h1 : (W.cells? 0 (a.add (i * 1)) 1).bind (DataW.trod enc Tryd.prog W 0 (fun _ => true) true k' 9) = elems[i]? := hel i hi
      rw [List.getElem?_eq_getElem (by omega)] at h1
      obtain ⟨cs', h2, h3⟩ := Option.bind_eq_some_iff.1 h1
      obtain ⟨s, e0, z0, _⟩ := DataW.trod_string Tryd.underlying9 h3
      exact ⟨[], s, by rw [h2, e0], by omega, by rw [z0]⟩
    obtain ⟨vs, hvs, hall⟩ := list_of_lt hone
    have hsum : Rows.uptoBulkAll (elems.map (·.1)) = sumS vs := bulk_strs (by rw [List.length_map]; omega) fun i h1 h2 => by
      obtain ⟨_, _, h3, h4⟩ := hall i h2
      rw [List.getElem_map]; exact h4
    unfold maxLen at hm
    refine ⟨some a, cap, vs, by rw [hvs], ⟨by rw [List.length_map, Nat.mul_one], fun h0 => ?_⟩, by omega, by omega, by omega⟩
    obtain ⟨_, h2, _⟩ := hall 0 h0
    obtain ⟨_, h3, h4⟩ := World.cells?_some h2
    refine ⟨a, rfl, ?_, fun j u hu => ?_⟩
    · have h5 := h4 0 (by omega)
      rw [List.getElem?_eq_getElem (by simp)] at h5
      have := World.block_lt_of_cell? _ _ h5
      rwa [block_of_add, block_of_add] at this
    · obtain ⟨hj, _⟩ := List.getElem?_eq_some_iff.1 hu
      rw [List.length_map] at hj
      obtain ⟨_, g2, _⟩ := hall j hj
      obtain ⟨_, g4, g5⟩ := World.cells?_some g2
      have := g5 0 (by omega)
      rw [add_of_add, Nat.mul_one, Nat.add_zero] at this
      rw [this, ← hu, List.getElem?_map, List.getElem?_eq_getElem hj]; rfl
theorem path_any (s : ByteArray) (w : World) (hs : s.size ≤ 1048576) (m : Int) (hm : w.cell? ⟨0, 0, none⟩ = some (.int .i64 m)) :
    Calls Tryd.prog 19 #[.string s] w fun e w' => e = .returned (.string (cutS s ⟨#[63]⟩).1) ∧ Below w.heap.size w w' := by
  have C := Lib.hid (cut_any s ⟨#[63]⟩ m w hs hm)
  obtain ⟨r, hr⟩ : ∃ r, r = (cutS s ⟨#[63]⟩).1 := ⟨_, rfl⟩
  rw [← hr]
  have HR := Lib.hid hr
  clear hr hm
  go_enter Tryd.func19, Tryd.ntmps19
  go_wp2_with fail
  refine C.out.mono ?_
  rintro e w1 ⟨rfl, q, hw⟩
  have HB : Hid (Below w.heap.size w w1) := Lib.hid (by rw [hw]; exact below_drewN (Below.refl _ _) q)
  clear hw
  go_wp2_with fail
  go_ret
  exact ⟨by rw [HR.out]; rfl, HB.out⟩
theorem query_any (s : ByteArray) (w : World) (hs : s.size ≤ 1048576) (m : Int) (hm : w.cell? ⟨0, 0, none⟩ = some (.int .i64 m)) :
    Calls Tryd.prog 21 #[.string s] w fun e w' => e = .returned (.string (cutS s ⟨#[63]⟩).2.1) ∧ Below w.heap.size w w' := by
  have C := Lib.hid (cut_any s ⟨#[63]⟩ m w hs hm)
  obtain ⟨r, hr⟩ : ∃ r, r = (cutS s ⟨#[63]⟩).2.1 := ⟨_, rfl⟩
  rw [← hr]
  have HR := Lib.hid hr
  clear hr hm
  go_enter Tryd.func21, Tryd.ntmps21
  go_wp2_with fail
  refine C.out.mono ?_
  rintro e w1 ⟨rfl, q, hw⟩
  have HB : Hid (Below w.heap.size w w1) := Lib.hid (by rw [hw]; exact below_drewN (Below.refl _ _) q)
  clear hw
  go_wp2_with fail
  go_ret
  exact ⟨by rw [HR.out]; rfl, HB.out⟩
theorem rpath_any (s : ByteArray) (w : World) (hs : s.size ≤ 1048576) :
    Calls Tryd.prog 20 #[.string s] w fun e w' => e = .returned (.string (cutS s ⟨#[63]⟩).1) ∧ Below w.heap.size w w' := by
  have C := Lib.hid (rsplit_any s ⟨#[63]⟩ w (by omega) (by decide))
  obtain ⟨r, hr⟩ : ∃ r, r = (cutS s ⟨#[63]⟩).1 := ⟨_, rfl⟩
  rw [← hr]
  have HR := Lib.hid hr
  clear hr
  go_enter Tryd.func20, Tryd.ntmps20
  go_wp2_with fail
  refine C.out.mono ?_
  rintro e w1 ⟨rfl, q, hw⟩
  have HB : Hid (Below w.heap.size w w1) := Lib.hid (by rw [hw]; exact below_drewN (Below.refl _ _) q)
  clear hw
  go_wp2_with fail
  go_ret
  exact ⟨by rw [HR.out]; rfl, HB.out⟩
theorem rquery_any (s : ByteArray) (w : World) (hs : s.size ≤ 1048576) :
    Calls Tryd.prog 22 #[.string s] w fun e w' => e = .returned (.string (cutS s ⟨#[63]⟩).2.1) ∧ Below w.heap.size w w' := by
  have C := Lib.hid (rsplit_any s ⟨#[63]⟩ w (by omega) (by decide))
  obtain ⟨r, hr⟩ : ∃ r, r = (cutS s ⟨#[63]⟩).2.1 := ⟨_, rfl⟩
  rw [← hr]
  have HR := Lib.hid hr
  clear hr
  go_enter Tryd.func22, Tryd.ntmps22
  go_wp2_with fail
  refine C.out.mono ?_
  rintro e w1 ⟨rfl, q, hw⟩
  have HB : Hid (Below w.heap.size w w1) := Lib.hid (by rw [hw]; exact below_drewN (Below.refl _ _) q)
  clear hw
  go_wp2_with fail
  go_ret
  exact ⟨by rw [HR.out]; rfl, HB.out⟩
theorem limR_le (most : Int) (L : List Fd) : (limR most L).length ≤ L.length := by unfold limR; split <;> simp
set_option maxRecDepth 100000 in
set_option maxHeartbeats 8000000 in
theorem walk (s : ByteArray) (vs : List ByteArray) (Av : Option Addr) (capv : Nat) (most : Int) (fs : List Fd) (A : Option Addr) (cap : Nat) (w : World) (hs : s.size ≤ 1048576) (hvs : StR w w.heap.size Av capv vs) (hf : FdR w w.heap.size A cap fs) (hfl : fs.length ≤ 1048576) (hm : ∃ m, w.cell? ⟨0, 0, none⟩ = some (.int .i64 m)) :
    Calls Tryd.prog 5 #[.string s, .slice Av vs.length capv, .int .i64 most, .slice A fs.length cap] w fun e w' => e = .returned (.bool true) ∧ Below w.heap.size w w' := by
  obtain ⟨m, hm⟩ := hm
  have hmb := World.block_lt_of_cell? _ _ hm
  have HM := fun w' (hb : Below w.heap.size w w') => (hb.cell (p := ⟨0, 0, none⟩) hmb).trans hm
  have D1 := fun w' (hb : Below w.heap.size w w') => form_any s most m w' hs (HM w' hb)
  have D2 := fun w' => rform_any s most w' hs
  have D3 := fun w' (hb : Below w.heap.size w w') => cookies_any vs Av capv most m w' ⟨(hvs.below hb).1.more hb.size, hvs.2⟩ (HM w' hb)
  have D4 := fun w' (hb : Below w.heap.size w w') => rcookies_any vs Av capv most w' ⟨(hvs.below hb).1.more hb.size, hvs.2⟩
  have D5 := fun w' (hb : Below w.heap.size w w') => path_any s w' hs m (HM w' hb)
  have D6 := fun w' => rpath_any s w' hs
  have D7 := fun w' (hb : Below w.heap.size w w') => query_any s w' hs m (HM w' hb)
  have D8 := fun w' => rquery_any s w' hs
  have D9 := fun w' (hb : Below w.heap.size w w') => write_any' fs A cap w' ⟨(hf.below hb).1.more hb.size, hf.2⟩ hfl
  have DA := fun w' (hb : Below w.heap.size w w') => rwrite_any fs A cap w' ⟨(hf.below hb).1.more hb.size, hf.2⟩ hfl
  have l1 : (limR most ((pcs s ⟨#[38]⟩).flatMap keepF)).length ≤ 9000000 := by
    have h1 := limR_le most ((pcs s ⟨#[38]⟩).flatMap keepF)
    have h2 := fm_max keepF_le (pcs s ⟨#[38]⟩)
    have h3 := pcs_le (s := s) (t := ⟨#[38]⟩) (by decide)
    omega
  have l2 : (limR most (vs.flatMap cookV)).length ≤ 9000000 := by
    have h1 := limR_le most (vs.flatMap cookV)
    have h2 := cook_le vs
    have h3 := hvs.2.2.2
    omega
  unfold LimRes at D1 D2 D3 D4
  obtain ⟨L1, hL1⟩ : ∃ L, L = limR most ((pcs s ⟨#[38]⟩).flatMap keepF) := ⟨_, rfl⟩
  obtain ⟨E1, hE1⟩ : ∃ L, L = limE most ((pcs s ⟨#[38]⟩).flatMap keepF) := ⟨_, rfl⟩
  obtain ⟨L2, hL2⟩ : ∃ L, L = limR most (vs.flatMap cookV) := ⟨_, rfl⟩
  obtain ⟨E2, hE2⟩ : ∃ L, L = limE most (vs.flatMap cookV) := ⟨_, rfl⟩
  rw [← hL1] at l1
  rw [← hL2] at l2
  simp only [← hL1, ← hE1] at D1 D2
  simp only [← hL2, ← hE2] at D3 D4
  obtain ⟨S1, hS1⟩ : ∃ S, S = (cutS s ⟨#[63]⟩).1 := ⟨_, rfl⟩
  obtain ⟨S2, hS2⟩ : ∃ S, S = (cutS s ⟨#[63]⟩).2.1 := ⟨_, rfl⟩
  obtain ⟨S3, hS3⟩ : ∃ S, S = writeS fs := ⟨_, rfl⟩
  simp only [← hS1] at D5 D6
  simp only [← hS2] at D7 D8
  simp only [← hS3] at D9 DA
  have D1 := Lib.hid D1
  have D2 := Lib.hid D2
  have D3 := Lib.hid D3
  have D4 := Lib.hid D4
  have D5 := Lib.hid D5
  have D6 := Lib.hid D6
  have D7 := Lib.hid D7
  have D8 := Lib.hid D8
  have D9 := Lib.hid D9
  have DA := Lib.hid DA
  clear hL1 hE1 hL2 hE2 hS1 hS2 hS3 hvs hf hm hmb HM
  go_enter Tryd.func5, Tryd.ntmps5
  go_wp2_with fail
  refine (D1.out _ (Below.refl _ _)).mono ?_
  rintro e w1 ⟨v, rfl, ho1, b1⟩
  obtain ⟨A1, c1, rfl⟩ := ho1.form
  have HO1 := Lib.hid ho1
  have HB1 := Lib.hid b1
  clear ho1 b1
  go_wp2_with fail
  refine (D2.out _).mono ?_
  rintro e w2 ⟨v, rfl, ho2, b2⟩
  obtain ⟨A2, c2, rfl⟩ := ho2.form
  have HO1b := Lib.hid (HO1.out.kept b2)
  have HO2 := Lib.hid ho2
  have HB2 := Lib.hid (HB1.out.trans (b2.mono HB1.out.size))
  clear ho2 b2 HO1
  go_wp2_with fail
  refine (D3.out _ HB2.out).mono ?_
  rintro e w3 ⟨v, rfl, ho3, b3⟩
  obtain ⟨A3, c3, rfl⟩ := ho3.form
  have HO1c := Lib.hid (HO1b.out.kept b3)
  have HO2c := Lib.hid (HO2.out.kept b3)
  have HO3 := Lib.hid ho3
  have HB3 := Lib.hid (HB2.out.trans (b3.mono HB2.out.size))
  clear ho3 b3 HO1b HO2
  go_wp2_with fail
  refine (D4.out _ HB3.out).mono ?_
  rintro e w4 ⟨v, rfl, ho4, b4⟩
  obtain ⟨A4, c4, rfl⟩ := ho4.form
  have HO1d := Lib.hid (HO1c.out.kept b4)
  have HO2d := Lib.hid (HO2c.out.kept b4)
  have HO3d := Lib.hid (HO3.out.kept b4)
  have HO4d := Lib.hid ho4
  have HB4 := Lib.hid (HB3.out.trans (b4.mono HB3.out.size))
  clear ho4 b4 HO1c HO2c HO3
  have x1 : (S1.toList == S1.toList) = true := by simp
  have x2 : (S2.toList == S2.toList) = true := by simp
  have x3 : (S3.toList == S3.toList) = true := by simp
  have x4 : (E1 == E1) = true := by simp
  have x5 : (E2 == E2) = true := by simp
  go_wp2_with fail
  refine (D5.out _ HB4.out).mono ?_
  rintro e w5 ⟨rfl, b5⟩
  have HB5 := Lib.hid (HB4.out.trans (b5.mono HB4.out.size))
  have HO1d := Lib.hid (HO1d.out.kept b5)
  have HO2d := Lib.hid (HO2d.out.kept b5)
  have HO3d := Lib.hid (HO3d.out.kept b5)
  have HO4d := Lib.hid (HO4d.out.kept b5)
  clear b5
  go_wp2_with fail
  refine (D6.out _).mono ?_
  rintro e w6 ⟨rfl, b6⟩
  have HB6 := Lib.hid (HB5.out.trans (b6.mono HB5.out.size))
  have HO1d := Lib.hid (HO1d.out.kept b6)
  have HO2d := Lib.hid (HO2d.out.kept b6)
  have HO3d := Lib.hid (HO3d.out.kept b6)
  have HO4d := Lib.hid (HO4d.out.kept b6)
  clear b6
  go_wp2_with fail
  refine (D7.out _ HB6.out).mono ?_
  rintro e w7 ⟨rfl, b7⟩
  have HB7 := Lib.hid (HB6.out.trans (b7.mono HB6.out.size))
  have HO1d := Lib.hid (HO1d.out.kept b7)
  have HO2d := Lib.hid (HO2d.out.kept b7)
  have HO3d := Lib.hid (HO3d.out.kept b7)
  have HO4d := Lib.hid (HO4d.out.kept b7)
  clear b7
  go_wp2_with fail
  refine (D8.out _).mono ?_
  rintro e w8 ⟨rfl, b8⟩
  have HB8 := Lib.hid (HB7.out.trans (b8.mono HB7.out.size))
  have HO1d := Lib.hid (HO1d.out.kept b8)
  have HO2d := Lib.hid (HO2d.out.kept b8)
  have HO3d := Lib.hid (HO3d.out.kept b8)
  have HO4d := Lib.hid (HO4d.out.kept b8)
  clear b8
  go_wp2_with fail
  refine (eqAr_any A1 A2 c1 c2 L1 _ _ _ (by omega) HO1d.out HO2d.out).mono ?_
  rintro e w9 ⟨rfl, b9⟩
  have HB9 := Lib.hid (HB8.out.trans (b9.mono HB8.out.size))
  have HO3d := Lib.hid (HO3d.out.kept b9)
  have HO4d := Lib.hid (HO4d.out.kept b9)
  clear b9
  go_wp2_with fail
  refine (D9.out _ HB9.out).mono ?_
  rintro e w10 ⟨rfl, b10⟩
  have HB10 := Lib.hid (HB9.out.trans (b10.mono HB9.out.size))
  have HO3d := Lib.hid (HO3d.out.kept b10)
  have HO4d := Lib.hid (HO4d.out.kept b10)
  clear b10
  go_wp2_with fail
  refine (DA.out _ HB10.out).mono ?_
  rintro e w11 ⟨rfl, b11⟩
  have HB11 := Lib.hid (HB10.out.trans (b11.mono HB10.out.size))
  have HO3d := Lib.hid (HO3d.out.kept b11)
  have HO4d := Lib.hid (HO4d.out.kept b11)
  clear b11
  go_wp2_with fail
  refine (eqAr_any A3 A4 c3 c4 L2 _ _ _ (by omega) HO3d.out HO4d.out).mono ?_
  rintro e w12 ⟨rfl, b12⟩
  have HB12 := Lib.hid (HB11.out.trans (b12.mono HB11.out.size))
  clear b12
  go_wp2_with fail
  go_ret
  exact ⟨rfl, HB12.out⟩

theorem own : ownKnob Tryd.prog.godebug = none := by kernel_rfl
set_option maxRecDepth 100000 in
theorem contract (H : Type) (enc : TypeId × Value → H) (W : World) (base : Nat) (args : Array Value) (ds gs : List (DataW H)) (before : List MemPlace)
    (hval : ∀ (j : Nat) t v, Tryd.f5.params[j]? = some t → args[j]? = some v → Value.okWide Tryd.prog W .any base t v)
    (hW : DataW.Whole enc Tryd.prog Tryd.f5.params.toList Rows.argsSaysSpec.vars false W args.toList ds gs before) (hk : Rows.uptoSmall H (ds ++ gs) = true) (hm : ∃ m, W.cell? ⟨0, 0, none⟩ = some (.int .i64 m)) :
    Calls Tryd.prog 5 args W fun e W' => ∃ v, e = .returned v ∧ Rows.argsSaysSpec.post enc Tryd.prog Tryd.f5 false true false false W args v W' := by
  have hW' := hW
  obtain ⟨p, q, hA0, hV, rfl, hfz, hnd⟩ := hW
  have hA : DataW.TrodAll enc Tryd.prog W 0 (fun _ => true) true Tryd.f5.params.toList args.toList ds p := hA0
  rw [Tryd.params5] at hA hval
  obtain ⟨v0, vs0, d0, ds0, p0, q0, hargs, rfl, rfl, h0, r0⟩ := trodAll_cons hA
  obtain ⟨v1, vs1, d1, ds1, p1, q1, rfl, rfl, rfl, h1, r1⟩ := trodAll_cons r0
  obtain ⟨v2, vs2, d2, ds2, p2, q2, rfl, rfl, rfl, h2, r2⟩ := trodAll_cons r1
  obtain ⟨v3, vs3, d3, ds3, p3, q3, rfl, rfl, rfl, h3, r3⟩ := trodAll_cons r2
  obtain ⟨rfl, rfl, rfl⟩ := trodAll_nil r3
  obtain rfl : args = #[v0, v1, v2, v3] := by cases args; simp_all
  obtain ⟨rfl, rfl⟩ := trodVars_none hV
  obtain ⟨a0, rfl, rfl, rfl, w0⟩ := open_string Tryd.underlying9 (hval 0 9 v0 rfl rfl) h0
  obtain ⟨a2, rfl, rfl, rfl, w2⟩ := open_int Tryd.underlying3 (hval 2 3 v2 rfl rfl) h2
  clear hA0
  simp only [List.append_nil] at hk
  have hb : Rows.uptoBulkAll (H := H) [.lit (.string a0.data.toList), d1, .lit (.int .i64 a2), d3] ≤ 1048576 := of_decide_eq_true hk
  simp only [Rows.uptoBulkAll, Rows.uptoBulk, lst_len] at hb
  obtain ⟨Av, capv, vs, rfl, hvs⟩ := open_strs (hval 1 39 v1 rfl rfl) h1 (by omega)
  obtain ⟨A, cap, fs, rfl, hf, hfl⟩ := open_args (hval 3 40 v3 rfl rfl) h3 (by omega)
  refine (walk a0 vs Av capv a2 fs A cap W (by omega) hvs hf hfl hm).mono fun e W' ⟨he, hg⟩ => ?_
  subst he
  exact ⟨_, rfl, post_true 4 Tryd.underlying4 (by kernel_rfl) (by kernel_rfl) (by kernel_rfl) rfl rfl hW' hg⟩

/-- a table laid -/
def layObj (cs : Array Value) : Obj → Obj
  | .cells _ t frozen => .cells cs t frozen
  | o => o
def layIn (w : World) (b : Nat) (cs : Array Value) : World := { w with heap := w.heap.modify b (layObj cs) }
/-- a world for the witness: the two tables of unicode/utf8 as they are laid -/
noncomputable def laidWorld (os : Os) : World :=
  layIn (layIn (World.holding Tryd.prog os ⟨#[], #[], []⟩) 3 (([128, 191, 160, 191, 128, 159, 144, 191, 128, 143] ++ List.replicate 22 0).map fun n : Nat => Value.int .u8 (n : Int)).toArray)
    2 (Go.Pinned.utf8FirstZ.map fun n : Nat => Value.int .u8 (n : Int)).toArray
theorem laid_met (os : Os) : laidMet Tryd.prog Rows.argsSaysUptoRow.laid ((laidWorld os).forCall (fun _ _ => 0) ⟨#[], #[.string ByteArray.empty, .slice none 0 0, .int .i64 0, .slice none 0 0], []⟩).memory :=
  laidMet_of_run' 8 (by kernel_rfl) (by kernel_rfl)
theorem reads (os : Os) {H : Type} (enc : TypeId × Value → H) : ∃ places, DataW.whole enc Tryd.prog ((laidWorld os).forCall (fun _ _ => 0) ⟨#[], #[.string ByteArray.empty, .slice none 0 0, .int .i64 0, .slice none 0 0], []⟩).memory Tryd.f5.params.toList Rows.argsSaysSpec.vars false #[Value.string ByteArray.empty, Value.slice none 0 0, Value.int .i64 0, Value.slice none 0 0].toList 8 = some ([.lit (.string []), .nil, .lit (.int .i64 0), .nil], [], places) :=
  ⟨[], by kernel_rfl⟩

set_option maxRecDepth 100000 in
theorem lifted (os : Os) (started : os.Started) (H : Type) (enc : TypeId × Value → H) (F : Stop.Interp) :
    ReturnsInHanded {} Tryd.checked os 5 .any ((Rows.OpenSpec.upto Rows.argsSaysSpec).preRow enc Tryd.prog Tryd.f5 Rows.argsSaysUptoRow.domain false Rows.argsSaysUptoRow.laid) (((Rows.OpenSpec.upto Rows.argsSaysSpec).at F).post enc Tryd.prog Tryd.f5 false true false false) := by
  obtain ⟨places, hx⟩ := reads os enc
  refine returnsInHanded_of_row (C := Tryd.checked) (s := Rows.OpenSpec.upto Rows.argsSaysSpec) own started (by kernel_rfl) Tryd.func5
    (witness_row_at (enc := enc) (C := Tryd.checked) false (laidWorld os) #[.string ByteArray.empty, .slice none 0 0, .int .i64 0, .slice none 0 0] rfl (by kernel_rfl) (by kernel_rfl) (by kernel_rfl)
      (OpenSpec.preRow_of_cond 8 hx (by kernel_rfl) (fun k hk => by cases hk; kernel_rfl) (by kernel_rfl) (laid_met os))) ?_
  intro W base args ds gs before hval hW _ hcond _ _ hsh _
  exact contract H enc W base args ds gs before hval hW (hcond _ rfl) (cell_of_shapedOpen_int (zero := #[.int .i64 0]) (t := 3) hsh (of_decide_eq_true (by kernel_rfl)) (by kernel_rfl) rfl (by kernel_rfl) (by kernel_rfl) Tryd.underlying3)

theorem saidUpto : Rows.ArgsSaysUptoSaid :=
  OpenClaim.holds_of_cond 5 Tryd.f5 rfl rfl rfl rfl rfl rfl rfl ⟨rfl, rfl, rfl, rfl, rfl⟩ rfl rfl rfl rfl rfl (by kernel_rfl) Tryd.func5 (by kernel_rfl)
    (of_decide_eq_true (by kernel_rfl)) (by unfold Func.isWrapper; first | (rw [if_pos (by decide +kernel)]; kernel_rfl) | (rw [if_neg (by decide +kernel)]; exact ⟨rfl, rfl⟩))
    (fun os started H enc _ F => by rw [OpenClaim.pre_eq_preRow]; exact lifted os started H enc F)

/-- No parameter wants a stand-in; the program's own looks are off: what the card asks. -/
theorem plain (f : FuncId) (fn : Func) (hf : Tryd.pinned.checked.prog.funcNamed "gatewicket/wicklaw.ArgsSays" = some f) (hfn : Tryd.pinned.checked.prog.funcs[f]? = some fn) :
    false = Tryd.pinned.checked.prog.looks [] ∧ ∀ (j : Nat) t, fn.params[j]? = some t → Tryd.pinned.checked.prog.wantsStandIn t = false := by
  obtain rfl : f = 5 := Option.some.inj ((show Tryd.prog.funcNamed "gatewicket/wicklaw.ArgsSays" = some 5 by kernel_rfl).symm.trans hf) |>.symm
  obtain rfl : fn = Tryd.f5 := (Option.some.inj (Tryd.func5.symm.trans hfn)).symm
  refine ⟨by kernel_rfl, fun j t ht => ?_⟩
  rw [Tryd.params5] at ht
  have ht2 : t = 9 ∨ t = 39 ∨ t = 3 ∨ t = 40 := by simpa using Array.mem_of_getElem? ht
  rcases ht2 with rfl | rfl | rfl | rfl
  · exact (show Tryd.prog.wantsStandIn 9 = false by kernel_rfl)
  · exact (show Tryd.prog.wantsStandIn 39 = false by kernel_rfl)
  · exact (show Tryd.prog.wantsStandIn 3 = false by kernel_rfl)
  · exact (show Tryd.prog.wantsStandIn 40 = false by kernel_rfl)

theorem card : Rows.ArgsSaysUptoCardSaid :=
  Claim7.holds_tied_plain_at .later [] _ _ _ _ saidUpto (fun _ h => by cases h) (by kernel_rfl) (fun _ h => by cases h) argsSaysUpto_row_tie rfl ⟨rfl, rfl⟩ (by kernel_rfl) rfl plain (by kernel_rfl)
#print axioms card
end Go.Proofs.YtnpjmaoidkofeaaDoor.lawArg
