/- wicklaw.ProgMakes: for all expressions Make returns what the reference returns. Condition: none. -/
import Derived.Test.YtckinkapbfaceaaFrmB
import Derived.Test.YtckinkapbfaceaaCodD
import Derived.Test.YtckinkapbfaceaaInst
import Derived.Test.YtckinkapbfaceaaRexV
namespace Go.Proofs.Ytckinkapbfaceaa.lawMakes
open Go.ChangeShapes Go.WideShapes Go.ChangeAt Go.RowKit Go.Joins Go.Deep
set_option linter.unusedVariables false
set_option linter.unusedSimpArgs false

set_option maxHeartbeats 1000000 in
theorem walk_bad (n : Nat) (r : Rx) (cs : List Value) (w : World) (h : RxC w w.heap.size n r cs) (h0 : ¬ errR n r = 0) :
    Calls Try.prog 3 #[.agg cs.toArray] w fun e w' => e = .returned (.bool true) ∧ Below w.heap.size w w' := by
  obtain ⟨a0, a1, a2, a3, a4, A5, l5, cap5, rfl⟩ := h.six
  obtain ⟨W, hW⟩ : ∃ W, W = w.alloc (.cells #[.int .i64 a0, .int .u64 a1, .int .u64 a2, .int .u64 a3, .int .u64 a4, .slice A5 l5 cap5] 27) := ⟨_, rfl⟩
  have hWb : Below w.heap.size w W := by rw [hW]; exact (Below.refl _ _).alloc (Nat.le_refl _) _
  have hK : Blk W w.heap.size 27 #[.int .i64 a0, .int .u64 a1, .int .u64 a2, .int .u64 a3, .int .u64 a4, .slice A5 l5 cap5] := by rw [hW]; exact Blk.new _ _ _
  have C1 := Lib.hid (make_bad n r _ w.heap.size W (h.below hWb) hWb.size h0)
  have C2 := Lib.hid fun w1 (hb : Below W.heap.size W w1) => refRex_any n r _ w.heap.size w1 ((h.below hWb).below (hb.mono hWb.size)) (Nat.le_trans hWb.size hb.size)
  have HWB := Lib.hid hWb
  have HW := Lib.hid hW
  have HK := Lib.hid hK
  obtain ⟨E, hE⟩ : ∃ E, E = errR n r := ⟨_, rfl⟩
  rw [← hE] at h0 C1 C2
  have e0 : (E != 0) = true := bne_iff_ne.2 h0
  clear hW hWb h hE h0 hK
  go_enter Try.func3, Try.ntmps3
  go_wp2_with fail
  rw [← HW.out]
  refine C1.out.mono ?_
  rintro e w1 ⟨rfl, b1⟩
  have HB1 := Lib.hid (HWB.out.trans (b1.mono HWB.out.size))
  have C3 := Lib.hid (C2.out w1 b1)
  have hK1 := HK.out.below b1 HK.out.lt
  have k0 : w1.cell? ⟨w.heap.size, 0, none⟩ = some (.int .i64 a0) := hK1.cell 0
  have k1 : w1.cell? ⟨w.heap.size, 1, none⟩ = some (.int .u64 a1) := hK1.cell 1
  have k2 : w1.cell? ⟨w.heap.size, 2, none⟩ = some (.int .u64 a2) := hK1.cell 2
  have k3 : w1.cell? ⟨w.heap.size, 3, none⟩ = some (.int .u64 a3) := hK1.cell 3
  have k4 : w1.cell? ⟨w.heap.size, 4, none⟩ = some (.int .u64 a4) := hK1.cell 4
  have k5 : w1.cell? ⟨w.heap.size, 5, none⟩ = some (.slice A5 l5 cap5) := hK1.cell 5
  clear b1 hK1 C1 C2
  go_wp2_with fail
  refine C3.out.mono ?_
  rintro e w2 ⟨rfl, b2⟩
  have HB2 := Lib.hid (HB1.out.trans (b2.mono HB1.out.size))
  clear b2 k0 k1 k2 k3 k4 k5
  go_wp2_with fail
  go_ret
  exact ⟨rfl, HB2.out⟩

set_option maxHeartbeats 1000000 in
theorem walk_ok (n : Nat) (r : Rx) (q : Re) (cs : List Value) (w : World) (h : RxC w w.heap.size n r cs) (h0 : errR n r = 0) (hq : ReC w w.heap.size q cs) (hz : q.size ≤ 80) :
    Calls Try.prog 3 #[.agg cs.toArray] w fun e w' => e = .returned (.bool true) ∧ Below w.heap.size w w' := by
  obtain ⟨a0, a1, a2, a3, a4, A5, l5, cap5, rfl⟩ := h.six
  obtain ⟨W, hW⟩ : ∃ W, W = w.alloc (.cells #[.int .i64 a0, .int .u64 a1, .int .u64 a2, .int .u64 a3, .int .u64 a4, .slice A5 l5 cap5] 27) := ⟨_, rfl⟩
  have hWb : Below w.heap.size w W := by rw [hW]; exact (Below.refl _ _).alloc (Nat.le_refl _) _
  have hK : Blk W w.heap.size 27 #[.int .i64 a0, .int .u64 a1, .int .u64 a2, .int .u64 a3, .int .u64 a4, .slice A5 l5 cap5] := by rw [hW]; exact Blk.new _ _ _
  have C1 := Lib.hid (make_ok n r q _ w.heap.size W (h.below hWb) hWb.size h0 (hq.below hWb) hz)
  have C2 := Lib.hid fun w1 (hb : Below W.heap.size W w1) => refRex_any n r _ w.heap.size w1 ((h.below hWb).below (hb.mono hWb.size)) (Nat.le_trans hWb.size hb.size)
  have C3 := Lib.hid fun w1 (hb : Below W.heap.size W w1) => refCode_any q _ w.heap.size w1 ((hq.below hWb).below (hb.mono hWb.size)) (Nat.le_trans hWb.size hb.size) hz
  rw [h0] at C2
  have hlm : (codeM q).length ≤ 1000 := by have := codeF_len q 0; unfold codeM; rw [List.length_append, List.length_singleton]; omega
  obtain ⟨M, hM⟩ : ∃ M, M = codeM q := ⟨_, rfl⟩
  rw [← hM] at C1 hlm
  have HM := Lib.hid hM
  have HWB := Lib.hid hWb
  have HW := Lib.hid hW
  have HK := Lib.hid hK
  clear hW hWb h h0 hK hM hq
  go_enter Try.func3, Try.ntmps3
  go_wp2_with fail
  rw [← HW.out]
  refine C1.out.mono ?_
  rintro e w1 ⟨v1, rfl, o1, b1⟩
  have HB1 := Lib.hid (HWB.out.trans (b1.mono HWB.out.size))
  have B1 := Lib.hid b1
  have C4 := Lib.hid (C2.out w1 b1)
  have HO1 := Lib.hid o1
  have hK1 := HK.out.below b1 HK.out.lt
  have HK1 := Lib.hid hK1
  have k0 : w1.cell? ⟨w.heap.size, 0, none⟩ = some (.int .i64 a0) := hK1.cell 0
  have k1 : w1.cell? ⟨w.heap.size, 1, none⟩ = some (.int .u64 a1) := hK1.cell 1
  have k2 : w1.cell? ⟨w.heap.size, 2, none⟩ = some (.int .u64 a2) := hK1.cell 2
  have k3 : w1.cell? ⟨w.heap.size, 3, none⟩ = some (.int .u64 a3) := hK1.cell 3
  have k4 : w1.cell? ⟨w.heap.size, 4, none⟩ = some (.int .u64 a4) := hK1.cell 4
  have k5 : w1.cell? ⟨w.heap.size, 5, none⟩ = some (.slice A5 l5 cap5) := hK1.cell 5
  have hs1 : W.heap.size ≤ w1.heap.size := b1.size
  have hW0 : w.heap.size < W.heap.size := HK.out.lt
  clear b1 hK1 C1 C2 o1
  go_wp2_with fail
  refine C4.out.mono ?_
  rintro e w2 ⟨rfl, b2⟩
  have HB2 := Lib.hid (HB1.out.trans (b2.mono HB1.out.size))
  have hs2 : w1.heap.size ≤ w2.heap.size := b2.size
  have C5 := Lib.hid (C3.out w2 (B1.out.trans (b2.mono hs1)))
  have HO2 := Lib.hid (HO1.out.below b2)
  have hK2 := HK1.out.below b2 (by omega)
  clear b2 k0 k1 k2 k3 k4 k5 C4 C3
  have k0 : w2.cell? ⟨w.heap.size, 0, none⟩ = some (.int .i64 a0) := hK2.cell 0
  have k1 : w2.cell? ⟨w.heap.size, 1, none⟩ = some (.int .u64 a1) := hK2.cell 1
  have k2 : w2.cell? ⟨w.heap.size, 2, none⟩ = some (.int .u64 a2) := hK2.cell 2
  have k3 : w2.cell? ⟨w.heap.size, 3, none⟩ = some (.int .u64 a3) := hK2.cell 3
  have k4 : w2.cell? ⟨w.heap.size, 4, none⟩ = some (.int .u64 a4) := hK2.cell 4
  have k5 : w2.cell? ⟨w.heap.size, 5, none⟩ = some (.slice A5 l5 cap5) := hK2.cell 5
  clear hK2
  go_wp2_with fail
  refine C5.out.mono ?_
  rintro e w3 ⟨v3, rfl, o3, b3⟩
  rw [← HM.out] at o3
  have HB3 := Lib.hid (HB2.out.trans (b3.mono HB2.out.size))
  have HO3 := Lib.hid (HO2.out.below b3)
  have HP3 := Lib.hid o3
  clear b3 o3 k0 k1 k2 k3 k4 k5
  obtain ⟨A1, c1, rfl⟩ := HO3.out.form
  obtain ⟨A3, c3, rfl⟩ := HP3.out.form
  go_wp2_with fail
  refine (eqInst_any A1 A3 c1 c3 M w3 _ _ (by omega) HO3.out HP3.out).mono ?_
  rintro e w4 ⟨rfl, b4⟩
  have HB4 := Lib.hid (HB3.out.trans (b4.mono HB3.out.size))
  clear b4
  go_wp2_with fail
  go_ret
  exact ⟨rfl, HB4.out⟩

theorem walk (n : Nat) (r : Rx) (cs : List Value) (w : World) (h : RxC w w.heap.size n r cs) :
    Calls Try.prog 3 #[.agg cs.toArray] w fun e w' => e = .returned (.bool true) ∧ Below w.heap.size w w' := by
  by_cases h0 : errR n r = 0
  · obtain ⟨q, hq, hr, hz, h80, hd⟩ := right_of_chk n r cs 1 0 h h0 (by omega)
    exact walk_ok n r q cs w h h0 hq (by omega)
  · exact walk_bad n r cs w h h0

theorem own : ownKnob Try.prog.godebug = none := by kernel_rfl
set_option maxRecDepth 100000 in
theorem contract (H : Type) (enc : TypeId × Value → H) (W : World) (base : Nat) (args : Array Value) (ds gs : List (DataW H)) (before : List MemPlace)
    (hval : ∀ (j : Nat) t v, Try.f3.params[j]? = some t → args[j]? = some v → Value.okWide Try.prog W .any base t v)
    (hW : DataW.Whole enc Try.prog Try.f3.params.toList Rows.progMakesSpec.vars false W args.toList ds gs before) :
    Calls Try.prog 3 args W fun e W' => ∃ v, e = .returned v ∧ Rows.progMakesSpec.post enc Try.prog Try.f3 false true false false W args v W' := by
  have hW' := hW
  obtain ⟨p, q, hA0, hV, rfl, hfz, hnd⟩ := hW
  have hA : DataW.TrodAll enc Try.prog W 0 (fun _ => true) true Try.f3.params.toList args.toList ds p := hA0
  rw [Try.params3] at hA hval
  obtain ⟨v0, vs0, d0, ds0, p0, q0, hargs, rfl, rfl, h0, r0⟩ := trodAll_cons hA
  obtain ⟨rfl, rfl, rfl⟩ := trodAll_nil r0
  obtain rfl : args = #[v0] := by cases args; simp_all
  obtain ⟨rfl, rfl⟩ := trodVars_none hV
  obtain ⟨n, r, cs, rfl, hR⟩ := open_rexV (hval 0 27 v0 rfl rfl) h0
  clear hA0
  refine (walk n r cs W hR).mono fun e W' ⟨he, hg⟩ => ?_
  subst he
  exact ⟨_, rfl, post_true 4 Try.underlying4 (by kernel_rfl) (by kernel_rfl) (by kernel_rfl) rfl rfl hW' hg⟩

set_option maxRecDepth 100000 in
theorem lifted (os : Os) (started : os.Started) (H : Type) (enc : TypeId × Value → H) :
    ReturnsInHanded {} Try.checked os 3 .any (Rows.progMakesSpec.pre6 enc Try.prog Try.f3 Rows.progMakesRow.domain false) (Rows.progMakesSpec.post enc Try.prog Try.f3 false true false false) := by
  refine returnsInHanded_of_change (C := Try.checked) own started (by kernel_rfl) Try.func3
    (ChangeSpec.witness6 (enc := enc) (C := Try.checked) false ⟨#[], #[.agg #[.int .i64 0, .int .u64 0, .int .u64 0, .int .u64 0, .int .u64 0, .slice none 0 0]], []⟩ 8 (by kernel_rfl) (by kernel_rfl) (by kernel_rfl) (by kernel_rfl)) ?_
  intro W base args ds gs before hval hW _ _
  exact contract H enc W base args ds gs before hval hW

theorem proved : Rows.ProgMakesSaid :=
  OpenClaim.holds_of_wide 3 Try.f3 rfl rfl rfl rfl rfl rfl rfl ⟨rfl, rfl, rfl, rfl, rfl⟩ rfl rfl rfl rfl rfl (by kernel_rfl) Try.func3 (by kernel_rfl)
    (of_decide_eq_true (by kernel_rfl)) (by unfold Func.isWrapper; first | (rw [if_pos (by decide +kernel)]; kernel_rfl) | (rw [if_neg (by decide +kernel)]; exact ⟨rfl, rfl⟩))
    (fun os started H enc _ => lifted os started H enc)
#print axioms proved
end Go.Proofs.Ytckinkapbfaceaa.lawMakes
