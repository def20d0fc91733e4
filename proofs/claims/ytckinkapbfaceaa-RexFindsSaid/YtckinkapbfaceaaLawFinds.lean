/- wicklaw.RexFinds: for all expressions and texts Find returns what the reference returns (texts of at most 60 bytes). Condition: none. -/
import Derived.Test.YtckinkapbfaceaaFrmB
import Derived.Test.YtckinkapbfaceaaSpnE
import Derived.Test.YtckinkapbfaceaaRexV
import Derived.Laws.StructEq
namespace Go.Proofs.Ytckinkapbfaceaa.lawFinds
open Go.ChangeShapes Go.WideShapes Go.ChangeAt Go.RowKit Go.Joins Go.Deep
open Go.ChangeMaps (open_string shut_string)
set_option linter.unusedVariables false
set_option linter.unusedSimpArgs false

section
variable (n : Nat) (r : Rx) (q : Re) (cs : List Value) (s : ByteArray) (w : World)
set_option maxRecDepth 100000 in
set_option maxHeartbeats 2000000 in
theorem walk_bad (h : RxC w w.heap.size n r cs) (h0 : ¬ errR n r = 0) :
    Calls Try.prog 6 #[.agg cs.toArray, .string s] w fun e w' => e = .returned (.bool true) ∧ Below w.heap.size w w' := by
  obtain ⟨a0, a1, a2, a3, a4, A5, l5, cap5, rfl⟩ := h.six
  obtain ⟨W, hW⟩ : ∃ W, W = w.alloc (.cells #[.int .i64 a0, .int .u64 a1, .int .u64 a2, .int .u64 a3, .int .u64 a4, .slice A5 l5 cap5] 27) := ⟨_, rfl⟩
  have hWb : Below w.heap.size w W := by rw [hW]; exact (Below.refl _ _).alloc (Nat.le_refl _) _
  have hK : Blk W w.heap.size 27 #[.int .i64 a0, .int .u64 a1, .int .u64 a2, .int .u64 a3, .int .u64 a4, .slice A5 l5 cap5] := by rw [hW]; exact Blk.new _ _ _
  have hWs := hWb.size
  have C1 := Lib.hid (find_bad n r _ s W ((h.below hWb).grow hWb.size) h0)
  have C2 := Lib.hid fun w1 (hb : Below W.heap.size W w1) => refRex_any n r _ w.heap.size w1 ((h.below hWb).below (hb.mono hWb.size)) (Nat.le_trans hWb.size hb.size)
  obtain ⟨E, hE⟩ : ∃ E, E = errR n r := ⟨_, rfl⟩
  rw [← hE] at h0 C1 C2
  have e0 : (E != 0) = true := bne_iff_ne.2 h0
  have e1 : (E == 0) = false := by rw [beq_eq_false_iff_ne]; exact h0
  clear hE h0
  have HWB := Lib.hid hWb
  have HW := Lib.hid hW
  have HK := Lib.hid hK
  clear hW hWb hK h
  go_enter Try.func6, Try.ntmps6
  go_wp2_with fail
  rw [← HW.out]
  refine C1.out.mono ?_
  rintro e w1 ⟨rfl, b1⟩
  have hWlt : w.heap.size < W.heap.size := HK.out.lt
  have hs1 : W.heap.size ≤ w1.heap.size := b1.size
  have hlt1 : w.heap.size < w1.heap.size := by omega
  have HB1 := Lib.hid (HWB.out.trans (b1.mono HWB.out.size))
  have hK1 := HK.out.below b1 hWlt
  have k0 : w1.cell? ⟨w.heap.size, 0, none⟩ = some (.int .i64 a0) := hK1.cell 0
  have k1 : w1.cell? ⟨w.heap.size, 1, none⟩ = some (.int .u64 a1) := hK1.cell 1
  have k2 : w1.cell? ⟨w.heap.size, 2, none⟩ = some (.int .u64 a2) := hK1.cell 2
  have k3 : w1.cell? ⟨w.heap.size, 3, none⟩ = some (.int .u64 a3) := hK1.cell 3
  have k4 : w1.cell? ⟨w.heap.size, 4, none⟩ = some (.int .u64 a4) := hK1.cell 4
  have k5 : w1.cell? ⟨w.heap.size, 5, none⟩ = some (.slice A5 l5 cap5) := hK1.cell 5
  have HK1 := Lib.hid hK1
  obtain ⟨V, hV⟩ : ∃ V, V = w1.alloc (.cells #[.int .i64 0, .int .i64 0] 52) := ⟨_, rfl⟩
  have hVb : Below w1.heap.size w1 V := by rw [hV]; exact (Below.refl _ _).alloc (Nat.le_refl _) _
  have hVk : Blk V w1.heap.size 52 #[.int .i64 0, .int .i64 0] := by rw [hV]; exact Blk.new _ _ _
  have HV := Lib.hid hV
  have HVK := Lib.hid hVk
  have HKV := Lib.hid (HK1.out.below hVb hlt1)
  have hVs := hVb.size
  have C3 := Lib.hid (C2.out V (b1.trans (hVb.mono hs1)))
  have HBV := Lib.hid (b1.trans (hVb.mono hs1))
  have HBW := Lib.hid (HB1.out.trans (hVb.mono (Nat.le_of_lt hlt1)))
  have hlv : w1.heap.size < V.heap.size := hVk.lt
  clear b1 hK1 hV hVb hVk C1 C2
  go_wp2_with fail
  rw [← HV.out]
  refine C3.out.mono ?_
  rintro e w2 ⟨rfl, b2⟩
  have HB2 := Lib.hid (HBW.out.trans (b2.mono HBW.out.size))
  have hVK2 := HVK.out.below b2 hlv
  have r0 : w2.cell? ⟨w1.heap.size, 0, none⟩ = some (.int .i64 0) := hVK2.cell 0
  have r1 : w2.cell? ⟨w1.heap.size, 1, none⟩ = some (.int .i64 0) := hVK2.cell 1
  clear b2 hVK2 k0 k1 k2 k3 k4 k5
  go_wp2_with fail
  go_ret
  exact ⟨rfl, HB2.out⟩
set_option maxRecDepth 100000 in
set_option maxHeartbeats 2000000 in
theorem walk_long (h : RxC w w.heap.size n r cs) (h0 : errR n r = 0) (hs : 300 < s.size) (hs2 : s.size ≤ 9223372036854775807) :
    Calls Try.prog 6 #[.agg cs.toArray, .string s] w fun e w' => e = .returned (.bool true) ∧ Below w.heap.size w w' := by
  obtain ⟨a0, a1, a2, a3, a4, A5, l5, cap5, rfl⟩ := h.six
  obtain ⟨W, hW⟩ : ∃ W, W = w.alloc (.cells #[.int .i64 a0, .int .u64 a1, .int .u64 a2, .int .u64 a3, .int .u64 a4, .slice A5 l5 cap5] 27) := ⟨_, rfl⟩
  have hWb : Below w.heap.size w W := by rw [hW]; exact (Below.refl _ _).alloc (Nat.le_refl _) _
  have hK : Blk W w.heap.size 27 #[.int .i64 a0, .int .u64 a1, .int .u64 a2, .int .u64 a3, .int .u64 a4, .slice A5 l5 cap5] := by rw [hW]; exact Blk.new _ _ _
  have hWs := hWb.size
  have C1 := Lib.hid (find_long n r _ s W ((h.below hWb).grow hWb.size) h0 hs hs2)
  have C2 := Lib.hid fun w1 (hb : Below W.heap.size W w1) => refRex_any n r _ w.heap.size w1 ((h.below hWb).below (hb.mono hWb.size)) (Nat.le_trans hWb.size hb.size)
  rw [h0] at C2
  have e3 : (300 : Int) < (s.size : Int) := by omega
  have HWB := Lib.hid hWb
  have HW := Lib.hid hW
  have HK := Lib.hid hK
  clear hW hWb hK h
  go_enter Try.func6, Try.ntmps6
  go_wp2_with fail
  rw [← HW.out]
  refine C1.out.mono ?_
  rintro e w1 ⟨rfl, b1⟩
  have hWlt : w.heap.size < W.heap.size := HK.out.lt
  have hs1 : W.heap.size ≤ w1.heap.size := b1.size
  have hlt1 : w.heap.size < w1.heap.size := by omega
  have HB1 := Lib.hid (HWB.out.trans (b1.mono HWB.out.size))
  have hK1 := HK.out.below b1 hWlt
  have k0 : w1.cell? ⟨w.heap.size, 0, none⟩ = some (.int .i64 a0) := hK1.cell 0
  have k1 : w1.cell? ⟨w.heap.size, 1, none⟩ = some (.int .u64 a1) := hK1.cell 1
  have k2 : w1.cell? ⟨w.heap.size, 2, none⟩ = some (.int .u64 a2) := hK1.cell 2
  have k3 : w1.cell? ⟨w.heap.size, 3, none⟩ = some (.int .u64 a3) := hK1.cell 3
  have k4 : w1.cell? ⟨w.heap.size, 4, none⟩ = some (.int .u64 a4) := hK1.cell 4
  have k5 : w1.cell? ⟨w.heap.size, 5, none⟩ = some (.slice A5 l5 cap5) := hK1.cell 5
  have HK1 := Lib.hid hK1
  obtain ⟨V, hV⟩ : ∃ V, V = w1.alloc (.cells #[.int .i64 0, .int .i64 0] 52) := ⟨_, rfl⟩
  have hVb : Below w1.heap.size w1 V := by rw [hV]; exact (Below.refl _ _).alloc (Nat.le_refl _) _
  have hVk : Blk V w1.heap.size 52 #[.int .i64 0, .int .i64 0] := by rw [hV]; exact Blk.new _ _ _
  have HV := Lib.hid hV
  have HVK := Lib.hid hVk
  have HKV := Lib.hid (HK1.out.below hVb hlt1)
  have hVs := hVb.size
  have C3 := Lib.hid (C2.out V (b1.trans (hVb.mono hs1)))
  have HBV := Lib.hid (b1.trans (hVb.mono hs1))
  have HBW := Lib.hid (HB1.out.trans (hVb.mono (Nat.le_of_lt hlt1)))
  have hlv : w1.heap.size < V.heap.size := hVk.lt
  clear b1 hK1 hV hVb hVk C1 C2
  go_wp2_with fail
  rw [← HV.out]
  refine C3.out.mono ?_
  rintro e w2 ⟨rfl, b2⟩
  have HB2 := Lib.hid (HBW.out.trans (b2.mono HBW.out.size))
  have hVK2 := HVK.out.below b2 hlv
  have r0 : w2.cell? ⟨w1.heap.size, 0, none⟩ = some (.int .i64 0) := hVK2.cell 0
  have r1 : w2.cell? ⟨w1.heap.size, 1, none⟩ = some (.int .i64 0) := hVK2.cell 1
  clear b2 hVK2 k0 k1 k2 k3 k4 k5
  go_wp2_with fail
  go_ret
  exact ⟨rfl, HB2.out⟩
set_option maxRecDepth 100000 in
set_option maxHeartbeats 2000000 in
theorem walk_mid (h : RxC w w.heap.size n r cs) (h0 : errR n r = 0) (hq : ReC w w.heap.size q cs) (hs : s.size ≤ 300) (hs2 : 60 < s.size) :
    Calls Try.prog 6 #[.agg cs.toArray, .string s] w fun e w' => e = .returned (.bool true) ∧ Below w.heap.size w w' := by
  obtain ⟨a0, a1, a2, a3, a4, A5, l5, cap5, rfl⟩ := h.six
  obtain ⟨W, hW⟩ : ∃ W, W = w.alloc (.cells #[.int .i64 a0, .int .u64 a1, .int .u64 a2, .int .u64 a3, .int .u64 a4, .slice A5 l5 cap5] 27) := ⟨_, rfl⟩
  have hWb : Below w.heap.size w W := by rw [hW]; exact (Below.refl _ _).alloc (Nat.le_refl _) _
  have hK : Blk W w.heap.size 27 #[.int .i64 a0, .int .u64 a1, .int .u64 a2, .int .u64 a3, .int .u64 a4, .slice A5 l5 cap5] := by rw [hW]; exact Blk.new _ _ _
  have hWs := hWb.size
  have C1 := Lib.hid (find_ok n r _ s W q ((h.below hWb).grow hWb.size) h0 ((hq.below hWb).grow hWb.size) hs)
  have C2 := Lib.hid fun w1 (hb : Below W.heap.size W w1) => refRex_any n r _ w.heap.size w1 ((h.below hWb).below (hb.mono hWb.size)) (Nat.le_trans hWb.size hb.size)
  rw [h0] at C2
  have e3 : ¬ (300 : Int) < (s.size : Int) := by omega
  have e4 : decide ((300 : Int) < (s.size : Int)) = false := decide_eq_false e3
  have e5 : (60 : Int) < (s.size : Int) := by omega
  have HWB := Lib.hid hWb
  have HW := Lib.hid hW
  have HK := Lib.hid hK
  clear hW hWb hK h
  go_enter Try.func6, Try.ntmps6
  go_wp2_with fail
  rw [← HW.out]
  refine C1.out.mono ?_
  rintro e w1 ⟨⟨i, j, b, rfl, hF⟩, b1⟩
  have hWlt : w.heap.size < W.heap.size := HK.out.lt
  have hs1 : W.heap.size ≤ w1.heap.size := b1.size
  have hlt1 : w.heap.size < w1.heap.size := by omega
  have HB1 := Lib.hid (HWB.out.trans (b1.mono HWB.out.size))
  have hK1 := HK.out.below b1 hWlt
  have k0 : w1.cell? ⟨w.heap.size, 0, none⟩ = some (.int .i64 a0) := hK1.cell 0
  have k1 : w1.cell? ⟨w.heap.size, 1, none⟩ = some (.int .u64 a1) := hK1.cell 1
  have k2 : w1.cell? ⟨w.heap.size, 2, none⟩ = some (.int .u64 a2) := hK1.cell 2
  have k3 : w1.cell? ⟨w.heap.size, 3, none⟩ = some (.int .u64 a3) := hK1.cell 3
  have k4 : w1.cell? ⟨w.heap.size, 4, none⟩ = some (.int .u64 a4) := hK1.cell 4
  have k5 : w1.cell? ⟨w.heap.size, 5, none⟩ = some (.slice A5 l5 cap5) := hK1.cell 5
  have HK1 := Lib.hid hK1
  obtain ⟨V, hV⟩ : ∃ V, V = w1.alloc (.cells #[.int .i64 i, .int .i64 j] 52) := ⟨_, rfl⟩
  have hVb : Below w1.heap.size w1 V := by rw [hV]; exact (Below.refl _ _).alloc (Nat.le_refl _) _
  have hVk : Blk V w1.heap.size 52 #[.int .i64 i, .int .i64 j] := by rw [hV]; exact Blk.new _ _ _
  have HV := Lib.hid hV
  have HVK := Lib.hid hVk
  have HKV := Lib.hid (HK1.out.below hVb hlt1)
  have hVs := hVb.size
  have C3 := Lib.hid (C2.out V (b1.trans (hVb.mono hs1)))
  have HBV := Lib.hid (b1.trans (hVb.mono hs1))
  have HBW := Lib.hid (HB1.out.trans (hVb.mono (Nat.le_of_lt hlt1)))
  have hlv : w1.heap.size < V.heap.size := hVk.lt
  clear b1 hK1 hV hVb hVk C1 C2
  go_wp2_with fail
  rw [← HV.out]
  refine C3.out.mono ?_
  rintro e w2 ⟨rfl, b2⟩
  have HB2 := Lib.hid (HBW.out.trans (b2.mono HBW.out.size))
  have hVK2 := HVK.out.below b2 hlv
  have r0 : w2.cell? ⟨w1.heap.size, 0, none⟩ = some (.int .i64 i) := hVK2.cell 0
  have r1 : w2.cell? ⟨w1.heap.size, 1, none⟩ = some (.int .i64 j) := hVK2.cell 1
  clear b2 hVK2 k0 k1 k2 k3 k4 k5
  go_wp2_with fail
  go_ret
  exact ⟨rfl, HB2.out⟩
set_option maxRecDepth 100000 in
set_option maxHeartbeats 2000000 in
theorem walk_ok (h : RxC w w.heap.size n r cs) (h0 : errR n r = 0) (hq : ReC w w.heap.size q cs) (hs : s.size ≤ 60) :
    Calls Try.prog 6 #[.agg cs.toArray, .string s] w fun e w' => e = .returned (.bool true) ∧ Below w.heap.size w w' := by
  obtain ⟨a0, a1, a2, a3, a4, A5, l5, cap5, rfl⟩ := h.six
  obtain ⟨W, hW⟩ : ∃ W, W = w.alloc (.cells #[.int .i64 a0, .int .u64 a1, .int .u64 a2, .int .u64 a3, .int .u64 a4, .slice A5 l5 cap5] 27) := ⟨_, rfl⟩
  have hWb : Below w.heap.size w W := by rw [hW]; exact (Below.refl _ _).alloc (Nat.le_refl _) _
  have hK : Blk W w.heap.size 27 #[.int .i64 a0, .int .u64 a1, .int .u64 a2, .int .u64 a3, .int .u64 a4, .slice A5 l5 cap5] := by rw [hW]; exact Blk.new _ _ _
  have hWs := hWb.size
  have C1 := Lib.hid (find_ok n r _ s W q ((h.below hWb).grow hWb.size) h0 ((hq.below hWb).grow hWb.size) (by omega))
  have C2 := Lib.hid fun w1 (hb : Below W.heap.size W w1) => refRex_any n r _ w.heap.size w1 ((h.below hWb).below (hb.mono hWb.size)) (Nat.le_trans hWb.size hb.size)
  have C4 := Lib.hid fun w1 (hb : Below W.heap.size W w1) => Spans_any s hs q _ w.heap.size w1 ((hq.below hWb).below (hb.mono hWb.size)) (Nat.le_trans hWb.size hb.size)
  rw [h0] at C2
  have e3 : ¬ (300 : Int) < (s.size : Int) := by omega
  have e4 : decide ((300 : Int) < (s.size : Int)) = false := decide_eq_false e3
  have e5 : ¬ (60 : Int) < (s.size : Int) := by omega
  clear hq
  have HWB := Lib.hid hWb
  have HW := Lib.hid hW
  have HK := Lib.hid hK
  clear hW hWb hK h
  go_enter Try.func6, Try.ntmps6
  go_wp2_with fail
  rw [← HW.out]
  refine C1.out.mono ?_
  rintro e w1 ⟨⟨i, j, b, rfl, hF⟩, b1⟩
  have HF := Lib.hid hF
  clear hF
  have hWlt : w.heap.size < W.heap.size := HK.out.lt
  have hs1 : W.heap.size ≤ w1.heap.size := b1.size
  have hlt1 : w.heap.size < w1.heap.size := by omega
  have HB1 := Lib.hid (HWB.out.trans (b1.mono HWB.out.size))
  have hK1 := HK.out.below b1 hWlt
  have k0 : w1.cell? ⟨w.heap.size, 0, none⟩ = some (.int .i64 a0) := hK1.cell 0
  have k1 : w1.cell? ⟨w.heap.size, 1, none⟩ = some (.int .u64 a1) := hK1.cell 1
  have k2 : w1.cell? ⟨w.heap.size, 2, none⟩ = some (.int .u64 a2) := hK1.cell 2
  have k3 : w1.cell? ⟨w.heap.size, 3, none⟩ = some (.int .u64 a3) := hK1.cell 3
  have k4 : w1.cell? ⟨w.heap.size, 4, none⟩ = some (.int .u64 a4) := hK1.cell 4
  have k5 : w1.cell? ⟨w.heap.size, 5, none⟩ = some (.slice A5 l5 cap5) := hK1.cell 5
  have HK1 := Lib.hid hK1
  obtain ⟨V, hV⟩ : ∃ V, V = w1.alloc (.cells #[.int .i64 i, .int .i64 j] 52) := ⟨_, rfl⟩
  have hVb : Below w1.heap.size w1 V := by rw [hV]; exact (Below.refl _ _).alloc (Nat.le_refl _) _
  have hVk : Blk V w1.heap.size 52 #[.int .i64 i, .int .i64 j] := by rw [hV]; exact Blk.new _ _ _
  have HV := Lib.hid hV
  have HVK := Lib.hid hVk
  have HKV := Lib.hid (HK1.out.below hVb hlt1)
  have hVs := hVb.size
  have C3 := Lib.hid (C2.out V (b1.trans (hVb.mono hs1)))
  have HBV := Lib.hid (b1.trans (hVb.mono hs1))
  have HBW := Lib.hid (HB1.out.trans (hVb.mono (Nat.le_of_lt hlt1)))
  have hlv : w1.heap.size < V.heap.size := hVk.lt
  clear b1 hK1 hV hVb hVk C1 C2
  go_wp2_with fail
  rw [← HV.out]
  refine C3.out.mono ?_
  rintro e w2 ⟨rfl, b2⟩
  have HB2 := Lib.hid (HBW.out.trans (b2.mono HBW.out.size))
  have hVK2 := HVK.out.below b2 hlv
  have r0 : w2.cell? ⟨w1.heap.size, 0, none⟩ = some (.int .i64 i) := hVK2.cell 0
  have r1 : w2.cell? ⟨w1.heap.size, 1, none⟩ = some (.int .i64 j) := hVK2.cell 1
  have hK2 := HKV.out.below b2 (by omega)
  clear k0 k1 k2 k3 k4 k5 r0 r1
  have k0 : w2.cell? ⟨w.heap.size, 0, none⟩ = some (.int .i64 a0) := hK2.cell 0
  have k1 : w2.cell? ⟨w.heap.size, 1, none⟩ = some (.int .u64 a1) := hK2.cell 1
  have k2 : w2.cell? ⟨w.heap.size, 2, none⟩ = some (.int .u64 a2) := hK2.cell 2
  have k3 : w2.cell? ⟨w.heap.size, 3, none⟩ = some (.int .u64 a3) := hK2.cell 3
  have k4 : w2.cell? ⟨w.heap.size, 4, none⟩ = some (.int .u64 a4) := hK2.cell 4
  have k5 : w2.cell? ⟨w.heap.size, 5, none⟩ = some (.slice A5 l5 cap5) := hK2.cell 5
  have HVK2 := Lib.hid hVK2
  have C5 := Lib.hid (C4.out w2 (HBV.out.trans (b2.mono HBV.out.size)))
  have hv2 : w1.heap.size < w2.heap.size := hVK2.lt
  clear b2 hK2 hVK2 C3 C4
  go_wp2_with fail
  refine C5.out.mono ?_
  rintro e w3 ⟨g, T, rfl, hT, hg, b3, hS⟩
  have HS := Lib.hid hS
  have HB3 := Lib.hid (HB2.out.trans (b3.mono HB2.out.size))
  have HVK3 := Lib.hid (HVK2.out.below b3 hv2)
  have hv3 : w1.heap.size < w3.heap.size := HVK3.out.lt
  have C6 := Lib.hid (First_any s.size g (by omega) T w3 hT)
  clear hT hS b3 k0 k1 k2 k3 k4 k5
  go_wp2_with fail
  refine C6.out.mono ?_
  rintro e w4 ⟨⟨i', j', b', rfl, hF2⟩, b4⟩
  have hFF : i' = i ∧ j' = j ∧ b' = b := FirstP.same (FirstT.first (s := s.data.toList) (by rw [lst_len]; exact hF2) HS.out) HF.out
  obtain ⟨rfl, rfl, rfl⟩ := hFF
  have HB4 := Lib.hid (HB3.out.trans (b4.mono HB3.out.size))
  have hVK4 := HVK3.out.below b4 hv3
  have r0 : w4.cell? ⟨w1.heap.size, 0, none⟩ = some (.int .i64 i') := hVK4.cell 0
  have r1 : w4.cell? ⟨w1.heap.size, 1, none⟩ = some (.int .i64 j') := hVK4.cell 1
  have hv4 : w1.heap.size < w4.heap.size := hVK4.lt
  clear b4 hVK4 hF2
  go_wp2_with fail
  go_ret
  exact ⟨rfl, HB4.out.alloc HB4.out.size _⟩
theorem walk (h : RxC w w.heap.size n r cs) (hs : s.size ≤ 9223372036854775807) :
    Calls Try.prog 6 #[.agg cs.toArray, .string s] w fun e w' => e = .returned (.bool true) ∧ Below w.heap.size w w' := by
  by_cases h0 : errR n r = 0
  · obtain ⟨q, hq, hr, hz, h80, hd⟩ := right_of_chk n r cs 1 0 h h0 (by omega)
    by_cases h1 : 300 < s.size
    · exact walk_long n r cs s w h h0 h1 hs
    · by_cases h2 : 60 < s.size
      · exact walk_mid n r q cs s w h h0 hq (by omega) h2
      · exact walk_ok n r q cs s w h h0 hq (by omega)
  · exact walk_bad n r cs s w h h0
end
theorem own : ownKnob Try.prog.godebug = none := by kernel_rfl
set_option maxRecDepth 100000 in
theorem contract (H : Type) (enc : TypeId × Value → H) (W : World) (base : Nat) (args : Array Value) (ds gs : List (DataW H)) (before : List MemPlace)
    (hval : ∀ (j : Nat) t v, Try.f6.params[j]? = some t → args[j]? = some v → Value.okWide Try.prog W .any base t v)
    (hW : DataW.Whole enc Try.prog Try.f6.params.toList Rows.rexFindsSpec.vars false W args.toList ds gs before) :
    Calls Try.prog 6 args W fun e W' => ∃ v, e = .returned v ∧ Rows.rexFindsSpec.post enc Try.prog Try.f6 false true false false W args v W' := by
  have hW' := hW
  obtain ⟨p, q, hA0, hV, rfl, hfz, hnd⟩ := hW
  have hA : DataW.TrodAll enc Try.prog W 0 (fun _ => true) true Try.f6.params.toList args.toList ds p := hA0
  rw [Try.params6] at hA hval
  obtain ⟨v0, vs0, d0, ds0, p0, q0, hargs, rfl, rfl, h0, r0⟩ := trodAll_cons hA
  obtain ⟨v1, vs1, d1, ds1, p1, q1, rfl, rfl, rfl, h1, r1⟩ := trodAll_cons r0
  obtain ⟨rfl, rfl, rfl⟩ := trodAll_nil r1
  obtain rfl : args = #[v0, v1] := by cases args; simp_all
  obtain ⟨rfl, rfl⟩ := trodVars_none hV
  obtain ⟨n, r, cs, rfl, hR⟩ := open_rexV (hval 0 27 v0 rfl rfl) h0
  obtain ⟨a1, rfl, rfl, rfl, w1⟩ := open_string Try.underlying9 (hval 1 9 v1 rfl rfl) h1
  unfold maxLen at w1
  clear hA0
  refine (walk n r cs a1 W hR (by omega)).mono fun e W' ⟨he, hg⟩ => ?_
  subst he
  exact ⟨_, rfl, post_true 4 Try.underlying4 (by kernel_rfl) (by kernel_rfl) (by kernel_rfl) rfl rfl hW' hg⟩

set_option maxRecDepth 100000 in
theorem lifted (os : Os) (started : os.Started) (H : Type) (enc : TypeId × Value → H) :
    ReturnsInHanded {} Try.checked os 6 .any (Rows.rexFindsSpec.pre6 enc Try.prog Try.f6 Rows.rexFindsRow.domain false) (Rows.rexFindsSpec.post enc Try.prog Try.f6 false true false false) := by
  refine returnsInHanded_of_change (C := Try.checked) own started (by kernel_rfl) Try.func6
    (ChangeSpec.witness6 (enc := enc) (C := Try.checked) false ⟨#[], #[.agg #[.int .i64 0, .int .u64 0, .int .u64 0, .int .u64 0, .int .u64 0, .slice none 0 0], .string ByteArray.empty], []⟩ 8 (by kernel_rfl) (by kernel_rfl) (by kernel_rfl) (by kernel_rfl)) ?_
  intro W base args ds gs before hval hW _ _
  exact contract H enc W base args ds gs before hval hW

theorem proved : Rows.RexFindsSaid :=
  OpenClaim.holds_of_wide 6 Try.f6 rfl rfl rfl rfl rfl rfl rfl ⟨rfl, rfl, rfl, rfl, rfl⟩ rfl rfl rfl rfl rfl (by kernel_rfl) Try.func6 (by kernel_rfl)
    (of_decide_eq_true (by kernel_rfl)) (by unfold Func.isWrapper; first | (rw [if_pos (by decide +kernel)]; kernel_rfl) | (rw [if_neg (by decide +kernel)]; exact ⟨rfl, rfl⟩))
    (fun os started H enc _ => lifted os started H enc)
#print axioms proved
end Go.Proofs.Ytckinkapbfaceaa.lawFinds
