/- wicklaw.RexSays: for all expressions Check and Print return what the reference returns. Condition: none. (Printed by gen_lawrsy.py.) -/
import Derived.Test.YtckinkapbfaceaaRsyH
import Derived.Test.YtckinkapbfaceaaRexC
import Derived.Test.YtckinkapbfaceaaRexV
import Derived.Test.YtckinkapbfaceaaFrmB
import Derived.Laws.StructEq
namespace Go.Proofs.Ytckinkapbfaceaa.lawRsy
open Go.ChangeShapes Go.WideShapes Go.ChangeAt Go.RowKit Go.Joins Go.Deep
set_option linter.unusedVariables false
set_option linter.unusedSimpArgs false

section
variable (n : Nat) (r : Rx) (q : Re) (cs : List Value) (w : World)
set_option maxRecDepth 100000 in
set_option maxHeartbeats 2000000 in
theorem print_bad (h : RxC w w.heap.size n r cs) (h0 : ¬ errR n r = 0) :
    Calls Try.prog 36 #[.agg cs.toArray] w fun e w' => e = .returned (.tuple #[.string ByteArray.empty, .int .i64 (errR n r)]) ∧ Below w.heap.size w w' := by
  obtain ⟨a0, a1, a2, a3, a4, A5, l5, cap5, rfl⟩ := h.six
  obtain ⟨W, hW⟩ : ∃ W, w.alloc (.cells #[.int .i64 a0, .int .u64 a1, .int .u64 a2, .int .u64 a3, .int .u64 a4, .slice A5 l5 cap5] 27) = W := ⟨_, rfl⟩
  have hbx : ShB w W #[.int .i64 a0, .int .u64 a1, .int .u64 a2, .int .u64 a3, .int .u64 a4, .slice A5 l5 cap5] := by rw [← hW]; exact ShB.new w _
  have CK := Lib.hid fun w' (hb : ShB w w' #[.int .i64 a0, .int .u64 a1, .int .u64 a2, .int .u64 a3, .int .u64 a4, .slice A5 l5 cap5]) => rexCheck_any n r _ w.heap.size w' (h.below hb.be) hb.be.size
  have HB := Lib.hid hbx
  obtain ⟨E, hE⟩ : ∃ E, E = errR n r := ⟨_, rfl⟩
  rw [← hE] at h0 CK ⊢
  have e0 : (E != 0) = true := bne_iff_ne.2 h0
  clear hE h0 h
  have k0 : W.cell? ⟨w.heap.size, 0, none⟩ = some (.int .i64 a0) := hbx.blk.cell 0
  have k1 : W.cell? ⟨w.heap.size, 1, none⟩ = some (.int .u64 a1) := hbx.blk.cell 1
  have k2 : W.cell? ⟨w.heap.size, 2, none⟩ = some (.int .u64 a2) := hbx.blk.cell 2
  have k3 : W.cell? ⟨w.heap.size, 3, none⟩ = some (.int .u64 a3) := hbx.blk.cell 3
  have k4 : W.cell? ⟨w.heap.size, 4, none⟩ = some (.int .u64 a4) := hbx.blk.cell 4
  have k5 : W.cell? ⟨w.heap.size, 5, none⟩ = some (.slice A5 l5 cap5) := hbx.blk.cell 5
  clear hbx
  go_enter Try.func36, Try.ntmps36
  go_wp2_with fail
  refine (CK.out _ HB.out).mono ?_
  rintro e w1 ⟨rfl, b⟩
  have hB1 := ShB.kept HB.out b
  have HB1 := Lib.hid hB1
  have hwl1 : w.heap.size < w1.heap.size := hB1.blk.lt
  clear b k0 k1 k2 k3 k4 k5
  have k0 : w1.cell? ⟨w.heap.size, 0, none⟩ = some (.int .i64 a0) := hB1.blk.cell 0
  have k1 : w1.cell? ⟨w.heap.size, 1, none⟩ = some (.int .u64 a1) := hB1.blk.cell 1
  have k2 : w1.cell? ⟨w.heap.size, 2, none⟩ = some (.int .u64 a2) := hB1.blk.cell 2
  have k3 : w1.cell? ⟨w.heap.size, 3, none⟩ = some (.int .u64 a3) := hB1.blk.cell 3
  have k4 : w1.cell? ⟨w.heap.size, 4, none⟩ = some (.int .u64 a4) := hB1.blk.cell 4
  have k5 : w1.cell? ⟨w.heap.size, 5, none⟩ = some (.slice A5 l5 cap5) := hB1.blk.cell 5
  clear hB1
  go_wp2_with fail
  refine bodyPost_ret (v := .tuple #[.string ByteArray.empty, .int .i64 E]) (by simp [results, Try.results36, go_sem]; rfl) rfl ⟨rfl, HB1.out.be⟩
set_option maxRecDepth 100000 in
set_option maxHeartbeats 2000000 in
theorem print_ok (h : RxC w w.heap.size n r cs) (h0 : errR n r = 0) (hq : ReC w w.heap.size q cs) (hz : q.size ≤ 80) :
    Calls Try.prog 36 #[.agg cs.toArray] w fun e w' => e = .returned (.tuple #[.string (str (textR q)), .int .i64 0]) ∧ Below w.heap.size w w' := by
  obtain ⟨a0, a1, a2, a3, a4, A5, l5, cap5, rfl⟩ := h.six
  obtain ⟨W, hW⟩ : ∃ W, w.alloc (.cells #[.int .i64 a0, .int .u64 a1, .int .u64 a2, .int .u64 a3, .int .u64 a4, .slice A5 l5 cap5] 27) = W := ⟨_, rfl⟩
  have hbx : ShB w W #[.int .i64 a0, .int .u64 a1, .int .u64 a2, .int .u64 a3, .int .u64 a4, .slice A5 l5 cap5] := by rw [← hW]; exact ShB.new w _
  have CK := Lib.hid fun w' (hb : ShB w w' #[.int .i64 a0, .int .u64 a1, .int .u64 a2, .int .u64 a3, .int .u64 a4, .slice A5 l5 cap5]) => rexCheck_any n r _ w.heap.size w' (h.below hb.be) hb.be.size
  rw [h0] at CK
  have CS0 : ∀ w', ShB w w' #[.int .i64 a0, .int .u64 a1, .int .u64 a2, .int .u64 a3, .int .u64 a4, .slice A5 l5 cap5] → Calls Try.prog 71 #[.agg #[.int .i64 a0, .int .u64 a1, .int .u64 a2, .int .u64 a3, .int .u64 a4, .slice A5 l5 cap5], .slice none 0 0] w' fun e w'' => e = .returned (.string (str (textR q))) ∧ Below w'.heap.size w' w'' := fun w' hb => by
    have := show_ok q _ w.heap.size w' [] none 0 (hq.below hb.be) hb.be.size (.inl rfl) (by simp) hz
    rw [brT_nil] at this
    exact this
  have CS := Lib.hid CS0
  have HB := Lib.hid hbx
  clear h hq CS0 h0
  have k0 : W.cell? ⟨w.heap.size, 0, none⟩ = some (.int .i64 a0) := hbx.blk.cell 0
  have k1 : W.cell? ⟨w.heap.size, 1, none⟩ = some (.int .u64 a1) := hbx.blk.cell 1
  have k2 : W.cell? ⟨w.heap.size, 2, none⟩ = some (.int .u64 a2) := hbx.blk.cell 2
  have k3 : W.cell? ⟨w.heap.size, 3, none⟩ = some (.int .u64 a3) := hbx.blk.cell 3
  have k4 : W.cell? ⟨w.heap.size, 4, none⟩ = some (.int .u64 a4) := hbx.blk.cell 4
  have k5 : W.cell? ⟨w.heap.size, 5, none⟩ = some (.slice A5 l5 cap5) := hbx.blk.cell 5
  clear hbx
  go_enter Try.func36, Try.ntmps36
  go_wp2_with fail
  refine (CK.out _ HB.out).mono ?_
  rintro e w1 ⟨rfl, b⟩
  have hB1 := ShB.kept HB.out b
  have HB1 := Lib.hid hB1
  have hwl1 : w.heap.size < w1.heap.size := hB1.blk.lt
  clear b k0 k1 k2 k3 k4 k5
  have k0 : w1.cell? ⟨w.heap.size, 0, none⟩ = some (.int .i64 a0) := hB1.blk.cell 0
  have k1 : w1.cell? ⟨w.heap.size, 1, none⟩ = some (.int .u64 a1) := hB1.blk.cell 1
  have k2 : w1.cell? ⟨w.heap.size, 2, none⟩ = some (.int .u64 a2) := hB1.blk.cell 2
  have k3 : w1.cell? ⟨w.heap.size, 3, none⟩ = some (.int .u64 a3) := hB1.blk.cell 3
  have k4 : w1.cell? ⟨w.heap.size, 4, none⟩ = some (.int .u64 a4) := hB1.blk.cell 4
  have k5 : w1.cell? ⟨w.heap.size, 5, none⟩ = some (.slice A5 l5 cap5) := hB1.blk.cell 5
  clear hB1
  go_wp2_with fail
  refine (CS.out _ HB1.out).mono ?_
  rintro e w2 ⟨rfl, b⟩
  have hB2 := ShB.kept HB1.out b
  have HB2 := Lib.hid hB2
  have hwl2 : w.heap.size < w2.heap.size := hB2.blk.lt
  clear b k0 k1 k2 k3 k4 k5
  have k0 : w2.cell? ⟨w.heap.size, 0, none⟩ = some (.int .i64 a0) := hB2.blk.cell 0
  have k1 : w2.cell? ⟨w.heap.size, 1, none⟩ = some (.int .u64 a1) := hB2.blk.cell 1
  have k2 : w2.cell? ⟨w.heap.size, 2, none⟩ = some (.int .u64 a2) := hB2.blk.cell 2
  have k3 : w2.cell? ⟨w.heap.size, 3, none⟩ = some (.int .u64 a3) := hB2.blk.cell 3
  have k4 : w2.cell? ⟨w.heap.size, 4, none⟩ = some (.int .u64 a4) := hB2.blk.cell 4
  have k5 : w2.cell? ⟨w.heap.size, 5, none⟩ = some (.slice A5 l5 cap5) := hB2.blk.cell 5
  clear hB2
  go_wp2_with fail
  refine bodyPost_ret (v := .tuple #[.string (str (textR q)), .int .i64 0]) (by simp [results, Try.results36, go_sem]) rfl ⟨rfl, HB2.out.be⟩
set_option maxRecDepth 100000 in
set_option maxHeartbeats 2000000 in
theorem walk_bad (h : RxC w w.heap.size n r cs) (h0 : ¬ errR n r = 0) :
    Calls Try.prog 8 #[.agg cs.toArray] w fun e w' => e = .returned (.bool true) ∧ Below w.heap.size w w' := by
  obtain ⟨a0, a1, a2, a3, a4, A5, l5, cap5, rfl⟩ := h.six
  obtain ⟨W, hW⟩ : ∃ W, w.alloc (.cells #[.int .i64 a0, .int .u64 a1, .int .u64 a2, .int .u64 a3, .int .u64 a4, .slice A5 l5 cap5] 27) = W := ⟨_, rfl⟩
  have hbx : ShB w W #[.int .i64 a0, .int .u64 a1, .int .u64 a2, .int .u64 a3, .int .u64 a4, .slice A5 l5 cap5] := by rw [← hW]; exact ShB.new w _
  have CK := Lib.hid fun w' (hb : ShB w w' #[.int .i64 a0, .int .u64 a1, .int .u64 a2, .int .u64 a3, .int .u64 a4, .slice A5 l5 cap5]) => rexCheck_any n r _ w.heap.size w' (h.below hb.be) hb.be.size
  have CR := Lib.hid fun w' (hb : ShB w w' #[.int .i64 a0, .int .u64 a1, .int .u64 a2, .int .u64 a3, .int .u64 a4, .slice A5 l5 cap5]) => refRex_any n r _ w.heap.size w' (h.below hb.be) hb.be.size
  have CP := Lib.hid fun w' (hb : ShB w w' #[.int .i64 a0, .int .u64 a1, .int .u64 a2, .int .u64 a3, .int .u64 a4, .slice A5 l5 cap5]) => print_bad n r _ w' ((h.below hb.be).grow hb.be.size) h0
  have HB := Lib.hid hbx
  obtain ⟨E, hE⟩ : ∃ E, E = errR n r := ⟨_, rfl⟩
  rw [← hE] at h0 CK CR CP
  have e0 : (E == 0) = false := by rw [beq_eq_false_iff_ne]; exact h0
  clear hE h0 h
  have k0 : W.cell? ⟨w.heap.size, 0, none⟩ = some (.int .i64 a0) := hbx.blk.cell 0
  have k1 : W.cell? ⟨w.heap.size, 1, none⟩ = some (.int .u64 a1) := hbx.blk.cell 1
  have k2 : W.cell? ⟨w.heap.size, 2, none⟩ = some (.int .u64 a2) := hbx.blk.cell 2
  have k3 : W.cell? ⟨w.heap.size, 3, none⟩ = some (.int .u64 a3) := hbx.blk.cell 3
  have k4 : W.cell? ⟨w.heap.size, 4, none⟩ = some (.int .u64 a4) := hbx.blk.cell 4
  have k5 : W.cell? ⟨w.heap.size, 5, none⟩ = some (.slice A5 l5 cap5) := hbx.blk.cell 5
  clear hbx
  go_enter Try.func8, Try.ntmps8
  go_wp2_with fail
  refine (CR.out _ HB.out).mono ?_
  rintro e w1 ⟨rfl, b⟩
  have hB1 := ShB.kept HB.out b
  have HB1 := Lib.hid hB1
  have hwl1 : w.heap.size < w1.heap.size := hB1.blk.lt
  clear b k0 k1 k2 k3 k4 k5
  have k0 : w1.cell? ⟨w.heap.size, 0, none⟩ = some (.int .i64 a0) := hB1.blk.cell 0
  have k1 : w1.cell? ⟨w.heap.size, 1, none⟩ = some (.int .u64 a1) := hB1.blk.cell 1
  have k2 : w1.cell? ⟨w.heap.size, 2, none⟩ = some (.int .u64 a2) := hB1.blk.cell 2
  have k3 : w1.cell? ⟨w.heap.size, 3, none⟩ = some (.int .u64 a3) := hB1.blk.cell 3
  have k4 : w1.cell? ⟨w.heap.size, 4, none⟩ = some (.int .u64 a4) := hB1.blk.cell 4
  have k5 : w1.cell? ⟨w.heap.size, 5, none⟩ = some (.slice A5 l5 cap5) := hB1.blk.cell 5
  clear hB1
  go_wp2_with fail
  refine (CP.out _ HB1.out).mono ?_
  rintro e w2 ⟨rfl, b⟩
  have hB2 := ShB.kept HB1.out b
  have HB2 := Lib.hid hB2
  have hwl2 : w.heap.size < w2.heap.size := hB2.blk.lt
  clear b k0 k1 k2 k3 k4 k5
  have k0 : w2.cell? ⟨w.heap.size, 0, none⟩ = some (.int .i64 a0) := hB2.blk.cell 0
  have k1 : w2.cell? ⟨w.heap.size, 1, none⟩ = some (.int .u64 a1) := hB2.blk.cell 1
  have k2 : w2.cell? ⟨w.heap.size, 2, none⟩ = some (.int .u64 a2) := hB2.blk.cell 2
  have k3 : w2.cell? ⟨w.heap.size, 3, none⟩ = some (.int .u64 a3) := hB2.blk.cell 3
  have k4 : w2.cell? ⟨w.heap.size, 4, none⟩ = some (.int .u64 a4) := hB2.blk.cell 4
  have k5 : w2.cell? ⟨w.heap.size, 5, none⟩ = some (.slice A5 l5 cap5) := hB2.blk.cell 5
  clear hB2
  go_wp2_with fail
  refine (CK.out _ HB2.out).mono ?_
  rintro e w3 ⟨rfl, b⟩
  have hB3 := ShB.kept HB2.out b
  have HB3 := Lib.hid hB3
  have hwl3 : w.heap.size < w3.heap.size := hB3.blk.lt
  clear b k0 k1 k2 k3 k4 k5
  have k0 : w3.cell? ⟨w.heap.size, 0, none⟩ = some (.int .i64 a0) := hB3.blk.cell 0
  have k1 : w3.cell? ⟨w.heap.size, 1, none⟩ = some (.int .u64 a1) := hB3.blk.cell 1
  have k2 : w3.cell? ⟨w.heap.size, 2, none⟩ = some (.int .u64 a2) := hB3.blk.cell 2
  have k3 : w3.cell? ⟨w.heap.size, 3, none⟩ = some (.int .u64 a3) := hB3.blk.cell 3
  have k4 : w3.cell? ⟨w.heap.size, 4, none⟩ = some (.int .u64 a4) := hB3.blk.cell 4
  have k5 : w3.cell? ⟨w.heap.size, 5, none⟩ = some (.slice A5 l5 cap5) := hB3.blk.cell 5
  clear hB3
  go_wp2_with fail
  go_ret
  exact ⟨rfl, HB3.out.be⟩
set_option maxRecDepth 100000 in
set_option maxHeartbeats 2000000 in
theorem walk_ok (h : RxC w w.heap.size n r cs) (h0 : errR n r = 0) (hq : ReC w w.heap.size q cs) (hz : q.size ≤ 80) :
    Calls Try.prog 8 #[.agg cs.toArray] w fun e w' => e = .returned (.bool true) ∧ Below w.heap.size w w' := by
  obtain ⟨a0, a1, a2, a3, a4, A5, l5, cap5, rfl⟩ := h.six
  obtain ⟨W, hW⟩ : ∃ W, w.alloc (.cells #[.int .i64 a0, .int .u64 a1, .int .u64 a2, .int .u64 a3, .int .u64 a4, .slice A5 l5 cap5] 27) = W := ⟨_, rfl⟩
  have hbx : ShB w W #[.int .i64 a0, .int .u64 a1, .int .u64 a2, .int .u64 a3, .int .u64 a4, .slice A5 l5 cap5] := by rw [← hW]; exact ShB.new w _
  have CK := Lib.hid fun w' (hb : ShB w w' #[.int .i64 a0, .int .u64 a1, .int .u64 a2, .int .u64 a3, .int .u64 a4, .slice A5 l5 cap5]) => rexCheck_any n r _ w.heap.size w' (h.below hb.be) hb.be.size
  have CR := Lib.hid fun w' (hb : ShB w w' #[.int .i64 a0, .int .u64 a1, .int .u64 a2, .int .u64 a3, .int .u64 a4, .slice A5 l5 cap5]) => refRex_any n r _ w.heap.size w' (h.below hb.be) hb.be.size
  rw [h0] at CK CR
  have CP := Lib.hid fun w' (hb : ShB w w' #[.int .i64 a0, .int .u64 a1, .int .u64 a2, .int .u64 a3, .int .u64 a4, .slice A5 l5 cap5]) => print_ok n r q _ w' ((h.below hb.be).grow hb.be.size) h0 ((hq.below hb.be).grow hb.be.size) hz
  have CT := Lib.hid fun w' (hb : ShB w w' #[.int .i64 a0, .int .u64 a1, .int .u64 a2, .int .u64 a3, .int .u64 a4, .slice A5 l5 cap5]) => text_ok q _ w.heap.size w' (hq.below hb.be) hb.be.size hz
  have HB := Lib.hid hbx
  obtain ⟨T, hT⟩ : ∃ T, T = textR q := ⟨_, rfl⟩
  rw [← hT] at CP CT
  clear h hq h0 hT
  have k0 : W.cell? ⟨w.heap.size, 0, none⟩ = some (.int .i64 a0) := hbx.blk.cell 0
  have k1 : W.cell? ⟨w.heap.size, 1, none⟩ = some (.int .u64 a1) := hbx.blk.cell 1
  have k2 : W.cell? ⟨w.heap.size, 2, none⟩ = some (.int .u64 a2) := hbx.blk.cell 2
  have k3 : W.cell? ⟨w.heap.size, 3, none⟩ = some (.int .u64 a3) := hbx.blk.cell 3
  have k4 : W.cell? ⟨w.heap.size, 4, none⟩ = some (.int .u64 a4) := hbx.blk.cell 4
  have k5 : W.cell? ⟨w.heap.size, 5, none⟩ = some (.slice A5 l5 cap5) := hbx.blk.cell 5
  clear hbx
  go_enter Try.func8, Try.ntmps8
  go_wp2_with fail
  refine (CR.out _ HB.out).mono ?_
  rintro e w1 ⟨rfl, b⟩
  have hB1 := ShB.kept HB.out b
  have HB1 := Lib.hid hB1
  have hwl1 : w.heap.size < w1.heap.size := hB1.blk.lt
  clear b k0 k1 k2 k3 k4 k5
  have k0 : w1.cell? ⟨w.heap.size, 0, none⟩ = some (.int .i64 a0) := hB1.blk.cell 0
  have k1 : w1.cell? ⟨w.heap.size, 1, none⟩ = some (.int .u64 a1) := hB1.blk.cell 1
  have k2 : w1.cell? ⟨w.heap.size, 2, none⟩ = some (.int .u64 a2) := hB1.blk.cell 2
  have k3 : w1.cell? ⟨w.heap.size, 3, none⟩ = some (.int .u64 a3) := hB1.blk.cell 3
  have k4 : w1.cell? ⟨w.heap.size, 4, none⟩ = some (.int .u64 a4) := hB1.blk.cell 4
  have k5 : w1.cell? ⟨w.heap.size, 5, none⟩ = some (.slice A5 l5 cap5) := hB1.blk.cell 5
  clear hB1
  go_wp2_with fail
  refine (CT.out _ HB1.out).mono ?_
  rintro e w2 ⟨rfl, b⟩
  have hB2 := ShB.kept HB1.out b
  have HB2 := Lib.hid hB2
  have hwl2 : w.heap.size < w2.heap.size := hB2.blk.lt
  clear b k0 k1 k2 k3 k4 k5
  have k0 : w2.cell? ⟨w.heap.size, 0, none⟩ = some (.int .i64 a0) := hB2.blk.cell 0
  have k1 : w2.cell? ⟨w.heap.size, 1, none⟩ = some (.int .u64 a1) := hB2.blk.cell 1
  have k2 : w2.cell? ⟨w.heap.size, 2, none⟩ = some (.int .u64 a2) := hB2.blk.cell 2
  have k3 : w2.cell? ⟨w.heap.size, 3, none⟩ = some (.int .u64 a3) := hB2.blk.cell 3
  have k4 : w2.cell? ⟨w.heap.size, 4, none⟩ = some (.int .u64 a4) := hB2.blk.cell 4
  have k5 : w2.cell? ⟨w.heap.size, 5, none⟩ = some (.slice A5 l5 cap5) := hB2.blk.cell 5
  clear hB2
  go_wp2_with fail
  refine (CP.out _ HB2.out).mono ?_
  rintro e w3 ⟨rfl, b⟩
  have hB3 := ShB.kept HB2.out b
  have HB3 := Lib.hid hB3
  have hwl3 : w.heap.size < w3.heap.size := hB3.blk.lt
  clear b k0 k1 k2 k3 k4 k5
  have k0 : w3.cell? ⟨w.heap.size, 0, none⟩ = some (.int .i64 a0) := hB3.blk.cell 0
  have k1 : w3.cell? ⟨w.heap.size, 1, none⟩ = some (.int .u64 a1) := hB3.blk.cell 1
  have k2 : w3.cell? ⟨w.heap.size, 2, none⟩ = some (.int .u64 a2) := hB3.blk.cell 2
  have k3 : w3.cell? ⟨w.heap.size, 3, none⟩ = some (.int .u64 a3) := hB3.blk.cell 3
  have k4 : w3.cell? ⟨w.heap.size, 4, none⟩ = some (.int .u64 a4) := hB3.blk.cell 4
  have k5 : w3.cell? ⟨w.heap.size, 5, none⟩ = some (.slice A5 l5 cap5) := hB3.blk.cell 5
  clear hB3
  go_wp2_with fail
  refine (CK.out _ HB3.out).mono ?_
  rintro e w4 ⟨rfl, b⟩
  have hB4 := ShB.kept HB3.out b
  have HB4 := Lib.hid hB4
  have hwl4 : w.heap.size < w4.heap.size := hB4.blk.lt
  clear b k0 k1 k2 k3 k4 k5
  have k0 : w4.cell? ⟨w.heap.size, 0, none⟩ = some (.int .i64 a0) := hB4.blk.cell 0
  have k1 : w4.cell? ⟨w.heap.size, 1, none⟩ = some (.int .u64 a1) := hB4.blk.cell 1
  have k2 : w4.cell? ⟨w.heap.size, 2, none⟩ = some (.int .u64 a2) := hB4.blk.cell 2
  have k3 : w4.cell? ⟨w.heap.size, 3, none⟩ = some (.int .u64 a3) := hB4.blk.cell 3
  have k4 : w4.cell? ⟨w.heap.size, 4, none⟩ = some (.int .u64 a4) := hB4.blk.cell 4
  have k5 : w4.cell? ⟨w.heap.size, 5, none⟩ = some (.slice A5 l5 cap5) := hB4.blk.cell 5
  clear hB4
  go_wp2_with fail
  go_ret
  exact ⟨rfl, HB4.out.be⟩
theorem walk (h : RxC w w.heap.size n r cs) :
    Calls Try.prog 8 #[.agg cs.toArray] w fun e w' => e = .returned (.bool true) ∧ Below w.heap.size w w' := by
  by_cases h0 : errR n r = 0
  · obtain ⟨q, hq, hr, hz, h80, hd⟩ := right_of_chk n r cs 1 0 h h0 (by omega)
    exact walk_ok n r q cs w h h0 hq (by omega)
  · exact walk_bad n r cs w h h0
end
theorem own : ownKnob Try.prog.godebug = none := by kernel_rfl
set_option maxRecDepth 100000 in
theorem contract (H : Type) (enc : TypeId × Value → H) (W : World) (base : Nat) (args : Array Value) (ds gs : List (DataW H)) (before : List MemPlace)
    (hval : ∀ (j : Nat) t v, Try.f8.params[j]? = some t → args[j]? = some v → Value.okWide Try.prog W .any base t v)
    (hW : DataW.Whole enc Try.prog Try.f8.params.toList Rows.rexSaysSpec.vars false W args.toList ds gs before) :
    Calls Try.prog 8 args W fun e W' => ∃ v, e = .returned v ∧ Rows.rexSaysSpec.post enc Try.prog Try.f8 false true false false W args v W' := by
  have hW' := hW
  obtain ⟨p, q, hA0, hV, rfl, hfz, hnd⟩ := hW
  have hA : DataW.TrodAll enc Try.prog W 0 (fun _ => true) true Try.f8.params.toList args.toList ds p := hA0
  rw [Try.params8] at hA hval
  obtain ⟨v0, vs0, d0, ds0, p0, q0, hargs, rfl, rfl, h0, r0⟩ := trodAll_cons hA
  obtain ⟨rfl, rfl, rfl⟩ := trodAll_nil r0
  obtain rfl : args = #[v0] := by cases args; simp_all
  obtain ⟨rfl, rfl⟩ := trodVars_none hV
  obtain ⟨n, r, cs, rfl, hR⟩ := open_rexV (hval 0 27 v0 rfl rfl) h0
  clear hA0
  refine (walk n r cs W hR).mono fun e W' ⟨he, hg⟩ => ?_
  subst he
  exact ⟨_, rfl, post_true 4 Try.underlying4 (by kernel_rfl) (by kernel_rfl) (by kernel_rfl) rfl rfl hW' hg⟩

set_option maxRecDepth 100000 in
theorem lifted (os : Os) (started : os.Started) (H : Type) (enc : TypeId × Value → H) :
    ReturnsInHanded {} Try.checked os 8 .any (Rows.rexSaysSpec.pre6 enc Try.prog Try.f8 Rows.rexSaysRow.domain false) (Rows.rexSaysSpec.post enc Try.prog Try.f8 false true false false) := by
  refine returnsInHanded_of_change (C := Try.checked) own started (by kernel_rfl) Try.func8
    (ChangeSpec.witness6 (enc := enc) (C := Try.checked) false ⟨#[], #[.agg #[.int .i64 0, .int .u64 0, .int .u64 0, .int .u64 0, .int .u64 0, .slice none 0 0]], []⟩ 8 (by kernel_rfl) (by kernel_rfl) (by kernel_rfl) (by kernel_rfl)) ?_
  intro W base args ds gs before hval hW _ _
  exact contract H enc W base args ds gs before hval hW

theorem proved : Rows.RexSaysSaid :=
  OpenClaim.holds_of_wide 8 Try.f8 rfl rfl rfl rfl rfl rfl rfl ⟨rfl, rfl, rfl, rfl, rfl⟩ rfl rfl rfl rfl rfl (by kernel_rfl) Try.func8 (by kernel_rfl)
    (of_decide_eq_true (by kernel_rfl)) (by unfold Func.isWrapper; first | (rw [if_pos (by decide +kernel)]; kernel_rfl) | (rw [if_neg (by decide +kernel)]; exact ⟨rfl, rfl⟩))
    (fun os started H enc _ => lifted os started H enc)
#print axioms proved
end Go.Proofs.Ytckinkapbfaceaa.lawRsy
