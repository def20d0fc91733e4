/- Walks: rex.last, rex.Find. -/
import Derived.Test.YtckinkapbfaceaaEndD
import Derived.Test.YtckinkapbfaceaaRexC
namespace Go.Proofs.Ytckinkapbfaceaa
open Go.RowKit
set_option linter.unusedVariables false
set_option linter.unusedSimpArgs false

/-- the last place that is true; -1: none -/
def lastF (g : Nat → Bool) : Nat → Int
  | 0 => -1
  | n + 1 => if g n = true then (n : Int) else lastF g n
theorem lastF_yes {g : Nat → Bool} {n : Nat} (h : g n = true) : lastF g (n + 1) = (n : Int) := by unfold lastF; rw [if_pos h]
theorem lastF_no {g : Nat → Bool} {n : Nat} (h : g n = false) : lastF g (n + 1) = lastF g n := by conv => lhs; unfold lastF; rw [if_neg (by rw [h]; simp)]
theorem lastF_spec (g : Nat → Bool) : ∀ n : Nat, (lastF g n = -1 ∧ ∀ j, j < n → g j = false) ∨ ∃ k : Nat, lastF g n = (k : Int) ∧ k < n ∧ g k = true ∧ ∀ j, j < n → g j = true → j ≤ k
  | 0 => .inl ⟨rfl, fun j h => absurd h (by omega)⟩
  | n + 1 => by
    cases h : g n with
    | true =>
      refine .inr ⟨n, lastF_yes h, by omega, h, fun j hj _ => by omega⟩
    | false =>
      rw [lastF_no h]
      rcases lastF_spec g n with ⟨h1, h2⟩ | ⟨k, h1, h2, h3, h4⟩
      · refine .inl ⟨h1, fun j hj => ?_⟩
        by_cases e : j = n
        · rw [e]; exact h
        · exact h2 j (by omega)
      · refine .inr ⟨k, h1, by omega, h3, fun j hj hg => ?_⟩
        by_cases e : j = n
        · rw [e, h] at hg; cases hg
        · exact h4 j (by omega) hg
theorem last_any (b N cap : Nat) (g : Nat → Bool) (w : World) (hN : N ≤ 1000000) (h : BoR w b N g) :
    Calls Try.prog 55 #[.slice (some ⟨b, 0, none⟩) N cap] w fun e w' => e = .returned (.int .i64 (lastF g N)) ∧ w = w' := by
  go_enter Try.func55, Try.ntmps55
  go_wp2
  go_loop [3] (fun i => ∃ k : Nat, k ≤ N ∧ i = .int .i64 ((k : Int) - 1) ∧ Hid (lastF g N = lastF g k)) (fun i => (intOf i + 1).toNat)
  case atStart => exact ⟨N, by omega, rfl, rfl⟩
  case round =>
    obtain ⟨k, hk, rfl, HE⟩ := hrel
    by_cases hlt : 0 < k
    · obtain ⟨m, rfl⟩ : ∃ m, k = m + 1 := ⟨k - 1, by omega⟩
      have x0 := h.cell m (by omega)
      have e1 : (((m + 1 : Nat) : Int) - 1) = (m : Int) := by omega
      rw [e1]
      cases hg : g m with
      | true =>
        rw [hg] at x0
        have HN : Hid (lastF g N = (m : Int)) := by show _ = _; rw [HE.out, lastF_yes hg]
        clear hg
        go_wp2
        go_ret
        exact ⟨by rw [HN.out]; rfl, rfl⟩
      | false =>
        rw [hg] at x0
        have HN : Hid (lastF g N = lastF g m) := by show _ = _; rw [HE.out, lastF_no hg]
        clear hg
        go_wp2
        go_round
        case rel => exact ⟨m, by omega, by go_num, HN⟩
        case measure => simp [intOf]
    · obtain rfl : k = 0 := by omega
      go_wp2
      go_ret
      exact ⟨by rw [HE.out]; rfl, rfl⟩

/-- the leftmost span, and the longest of those; or none -/
def FirstP (s : List UInt8) (q : Re) (i j : Nat) (b : Bool) : Prop :=
  (b = true ∧ Sp s q i j ∧ (∀ i' j', i' < i → ¬ Sp s q i' j') ∧ ∀ j', Sp s q i j' → j' ≤ j) ∨ (b = false ∧ i = 0 ∧ j = 0 ∧ ∀ i' j', ¬ Sp s q i' j')
theorem FirstP.same {s : List UInt8} {q : Re} {i j i' j' : Nat} {b b' : Bool} (h : FirstP s q i j b) (h' : FirstP s q i' j' b') : i = i' ∧ j = j' ∧ b = b' := by
  rcases h with ⟨rfl, h1, h2, h3⟩ | ⟨rfl, rfl, rfl, h1⟩ <;> rcases h' with ⟨rfl, k1, k2, k3⟩ | ⟨rfl, rfl, rfl, k1⟩
  · have hi : i = i' := by
      rcases Nat.lt_trichotomy i i' with h | h | h
      · exact absurd h1 (k2 _ _ h)
      · exact h
      · exact absurd k1 (h2 _ _ h)
    subst hi
    exact ⟨rfl, Nat.le_antisymm (k3 _ h1) (h3 _ k1), rfl⟩
  · exact absurd h1 (k1 _ _)
  · exact absurd k1 (h1 _ _)
  · exact ⟨rfl, rfl, rfl⟩

/-- a span put into the result's cells -/
theorem span_put {w : World} {g B : Nat} {x y : Value} (h : Blk w g 52 #[x, y]) (hB : B ≤ g) (i j : Int) :
    ∃ wz, wz = (w.setCell ⟨g, 0, none⟩ (.int .i64 i)).setCell ⟨g, 1, none⟩ (.int .i64 j) ∧ Below B w wz ∧ wz.cell? ⟨g, 0, none⟩ = some (.int .i64 i) ∧ wz.cell? ⟨g, 1, none⟩ = some (.int .i64 j) := by
  have h2 := (h.set_ 0 (.int .i64 i)).set_ 1 (.int .i64 j)
  exact ⟨_, rfl, ((Below.refl _ _).setCell (p := ⟨g, 0, none⟩) hB _).setCell (p := ⟨g, 1, none⟩) hB _, h2.cell 0, h2.cell 1⟩
section
variable (n : Nat) (r : Rx) (cs : List Value) (s : ByteArray) (w : World)
set_option maxHeartbeats 1000000 in
theorem find_bad (h : RxC w w.heap.size n r cs) (h0 : ¬ errR n r = 0) :
    Calls Try.prog 26 #[.agg cs.toArray, .string s] w fun e w' => e = .returned (.tuple #[.agg #[.int .i64 0, .int .i64 0], .bool false, .int .i64 (errR n r)]) ∧ Below w.heap.size w w' := by
  obtain ⟨a0, a1, a2, a3, a4, A5, l5, cap5, rfl⟩ := h.six
  obtain ⟨W, hW⟩ : ∃ W, W = (w.alloc (.cells #[.int .i64 a0, .int .u64 a1, .int .u64 a2, .int .u64 a3, .int .u64 a4, .slice A5 l5 cap5] 27)).alloc (.cells #[.int .i64 0, .int .i64 0] 52) := ⟨_, rfl⟩
  have hWb : Below w.heap.size w W := by rw [hW]; exact ((Below.refl _ _).alloc (Nat.le_refl _) _).alloc (by simp) _
  have hR : Blk W (w.heap.size + 1) 52 #[.int .i64 0, .int .i64 0] := by
    have := Blk.new (w.alloc (.cells #[.int .i64 a0, .int .u64 a1, .int .u64 a2, .int .u64 a3, .int .u64 a4, .slice A5 l5 cap5] 27)) 52 #[.int .i64 0, .int .i64 0]
    rw [hW]; simpa using this
  have C := Lib.hid (rexCheck_any n r _ w.heap.size W (h.below hWb) hWb.size)
  obtain ⟨E, hE⟩ : ∃ E, E = errR n r := ⟨_, rfl⟩
  rw [← hE] at h0 C ⊢
  have e0 : (E != 0) = true := bne_iff_ne.2 h0
  have HW := Lib.hid hW
  have HWB := Lib.hid hWb
  have HR := Lib.hid hR
  clear hW hWb h h0 hR hE
  go_enter Try.func26, Try.ntmps26
  go_wp2_with fail
  rw [← HW.out]
  refine C.out.mono ?_
  rintro e w1 ⟨rfl, b1⟩
  have HB1 := Lib.hid (HWB.out.trans (b1.mono HWB.out.size))
  have hR1 := HR.out.below b1 HR.out.lt
  have HR1 := Lib.hid hR1
  have r0 : w1.cell? ⟨w.heap.size + 1, 0, none⟩ = some (.int .i64 0) := hR1.cell 0
  have r1 : w1.cell? ⟨w.heap.size + 1, 1, none⟩ = some (.int .i64 0) := hR1.cell 1
  have f0 : w1.frozen? ⟨w.heap.size + 1, 0, none⟩ = false := hR1.frozen 0
  have f1 : w1.frozen? ⟨w.heap.size + 1, 1, none⟩ = false := hR1.frozen 1
  clear b1 hR1
  go_wp2_with fail
  obtain ⟨wz, hwz, hz, z0, z1⟩ := span_put (B := w.heap.size) HR1.out (by omega) 0 0
  rw [← hwz]
  refine bodyPost_ret (v := .tuple #[.agg #[.int .i64 0, .int .i64 0], .bool false, .int .i64 E]) (by simp [results, Try.results26, go_sem, z0, z1]) rfl ⟨rfl, HB1.out.trans hz⟩
set_option maxHeartbeats 1000000 in
theorem find_long (h : RxC w w.heap.size n r cs) (h0 : errR n r = 0) (hs : 300 < s.size) (hs2 : s.size ≤ 9223372036854775807) :
    Calls Try.prog 26 #[.agg cs.toArray, .string s] w fun e w' => e = .returned (.tuple #[.agg #[.int .i64 0, .int .i64 0], .bool false, .int .i64 2]) ∧ Below w.heap.size w w' := by
  obtain ⟨a0, a1, a2, a3, a4, A5, l5, cap5, rfl⟩ := h.six
  obtain ⟨W, hW⟩ : ∃ W, W = (w.alloc (.cells #[.int .i64 a0, .int .u64 a1, .int .u64 a2, .int .u64 a3, .int .u64 a4, .slice A5 l5 cap5] 27)).alloc (.cells #[.int .i64 0, .int .i64 0] 52) := ⟨_, rfl⟩
  have hWb : Below w.heap.size w W := by rw [hW]; exact ((Below.refl _ _).alloc (Nat.le_refl _) _).alloc (by simp) _
  have hR : Blk W (w.heap.size + 1) 52 #[.int .i64 0, .int .i64 0] := by
    have := Blk.new (w.alloc (.cells #[.int .i64 a0, .int .u64 a1, .int .u64 a2, .int .u64 a3, .int .u64 a4, .slice A5 l5 cap5] 27)) 52 #[.int .i64 0, .int .i64 0]
    rw [hW]; simpa using this
  have C := Lib.hid (rexCheck_any n r _ w.heap.size W (h.below hWb) hWb.size)
  rw [h0] at C
  have e3 : (300 : Int) < (s.size : Int) := by omega
  have HW := Lib.hid hW
  have HWB := Lib.hid hWb
  have HR := Lib.hid hR
  clear hW hWb h h0 hR
  go_enter Try.func26, Try.ntmps26
  go_wp2_with fail
  rw [← HW.out]
  refine C.out.mono ?_
  rintro e w1 ⟨rfl, b1⟩
  have HB1 := Lib.hid (HWB.out.trans (b1.mono HWB.out.size))
  have hR1 := HR.out.below b1 HR.out.lt
  have HR1 := Lib.hid hR1
  have r0 : w1.cell? ⟨w.heap.size + 1, 0, none⟩ = some (.int .i64 0) := hR1.cell 0
  have r1 : w1.cell? ⟨w.heap.size + 1, 1, none⟩ = some (.int .i64 0) := hR1.cell 1
  have f0 : w1.frozen? ⟨w.heap.size + 1, 0, none⟩ = false := hR1.frozen 0
  have f1 : w1.frozen? ⟨w.heap.size + 1, 1, none⟩ = false := hR1.frozen 1
  clear b1 hR1
  go_wp2_with fail
  obtain ⟨wz, hwz, hz, z0, z1⟩ := span_put (B := w.heap.size) HR1.out (by omega) 0 0
  rw [← hwz]
  refine bodyPost_ret (v := .tuple #[.agg #[.int .i64 0, .int .i64 0], .bool false, .int .i64 2]) (by simp [results, Try.results26, go_sem, z0, z1]) rfl ⟨rfl, HB1.out.trans hz⟩
set_option maxRecDepth 100000 in
set_option maxHeartbeats 4000000 in
theorem find_ok (q : Re) (h : RxC w w.heap.size n r cs) (h0 : errR n r = 0) (hq : ReC w w.heap.size q cs) (hs : s.size ≤ 300) :
    Calls Try.prog 26 #[.agg cs.toArray, .string s] w fun e w' => (∃ (i j : Nat) (b : Bool), e = .returned (.tuple #[.agg #[.int .i64 i, .int .i64 j], .bool b, .int .i64 0]) ∧ FirstP s.data.toList q i j b) ∧ Below w.heap.size w w' := by
  obtain ⟨a0, a1, a2, a3, a4, A5, l5, cap5, rfl⟩ := h.six
  obtain ⟨W, hW⟩ : ∃ W, W = (w.alloc (.cells #[.int .i64 a0, .int .u64 a1, .int .u64 a2, .int .u64 a3, .int .u64 a4, .slice A5 l5 cap5] 27)).alloc (.cells #[.int .i64 0, .int .i64 0] 52) := ⟨_, rfl⟩
  have hWb : Below w.heap.size w W := by rw [hW]; exact ((Below.refl _ _).alloc (Nat.le_refl _) _).alloc (by simp) _
  have hR : Blk W (w.heap.size + 1) 52 #[.int .i64 0, .int .i64 0] := by
    have := Blk.new (w.alloc (.cells #[.int .i64 a0, .int .u64 a1, .int .u64 a2, .int .u64 a3, .int .u64 a4, .slice A5 l5 cap5] 27)) 52 #[.int .i64 0, .int .i64 0]
    rw [hW]; simpa using this
  have hK : Blk W w.heap.size 27 #[.int .i64 a0, .int .u64 a1, .int .u64 a2, .int .u64 a3, .int .u64 a4, .slice A5 l5 cap5] := by rw [hW]; exact (Blk.new _ _ _).alloc _
  have C := Lib.hid (rexCheck_any n r _ w.heap.size W (h.below hWb) hWb.size)
  rw [h0] at C
  have e3 : ¬ (300 : Int) < (s.size : Int) := by omega
  have CE := Lib.hid fun w1 (hb : Below w.heap.size w w1) (g : Nat → Bool) bg c (hg : BoR w1 bg (s.size + 1) g) => ends_ok s hs q _ g bg c w.heap.size w1 (hq.below hb) hb.size hg
  have hmk := make_bools' s.size (by omega)
  have HW := Lib.hid hW
  have HWB := Lib.hid hWb
  have HR := Lib.hid hR
  have HK := Lib.hid hK
  clear hW hWb h h0 hR hK hq
  go_enter Try.func26, Try.ntmps26
  go_wp2_with fail
  rw [← HW.out]
  refine C.out.mono ?_
  rintro e w1 ⟨rfl, b1⟩
  have hWs : w.heap.size + 1 < W.heap.size := HR.out.lt
  have hs1 : W.heap.size ≤ w1.heap.size := b1.size
  have HB1 := Lib.hid (HWB.out.trans (b1.mono HWB.out.size))
  have HR1 := Lib.hid (HR.out.below b1 (by omega))
  have HK1 := Lib.hid (HK.out.below b1 (by omega))
  clear b1 C HR HK
  obtain ⟨V, hV⟩ : ∃ V, V = w1.alloc (.cells (madeCells #[.bool false] (s.size + 1)) 4) := ⟨_, rfl⟩
  have HVB : Hid (Below w1.heap.size w1 V) := by rw [hV]; exact (Below.refl _ _).alloc (Nat.le_refl _) _
  have HVR : Hid (BoR V w1.heap.size (s.size + 1) (fun j => decide (j < 0))) := by rw [hV]; exact (BoR.made _ _).congr fun j _ => by simp
  have HV := Lib.hid hV
  clear hV
  go_wp2_with fail
  rw [← HV.out]
  go_loopw [29] (fun i wr => ∃ k : Nat, k ≤ s.size + 1 ∧ i = .int .i64 k ∧ BoR wr w1.heap.size (s.size + 1) (fun j => decide (j < k)) ∧ Below w1.heap.size w1 wr) (fun i _ => s.size + 1 - (intOf i).toNat)
  case atStart => exact ⟨0, by omega, rfl, HVR.out, HVB.out⟩
  case round =>
    obtain ⟨k, hk, rfl, hm, hb⟩ := hrel
    have HM := Lib.hid hm
    have HB := Lib.hid hb
    by_cases hlk : k < s.size + 1
    · have y0 := hm.cell k hlk
      have y1 := hm.frozen k hlk
      have i1 : (k : Int) < (s.size : Int) + 1 := by omega
      have HN := Lib.hid ((HM.out.set_ hlk true).congr (g := fun j => decide (j < k + 1)) fun j _ => by
        by_cases e : j = k
        · subst e; simp
        · rw [if_neg e]; rw [Bool.eq_iff_iff, decide_eq_true_eq, decide_eq_true_eq]; omega)
      have HB2 := Lib.hid (HB.out.setCell (p := ⟨w1.heap.size, k, none⟩) (Nat.le_refl _) (.bool true))
      clear hm hb
      go_wp2_with fail
      go_roundw
      case rel => exact ⟨k + 1, by omega, by go_num, HN.out, HB2.out⟩
      case measure => simp [intOf]; omega
    · obtain rfl : k = s.size + 1 := by omega
      obtain ⟨wm, hwm⟩ : ∃ wm : World, wm = wr := ⟨_, rfl⟩
      rw [← hwm] at HM HB hm hb ⊢
      clear hwm
      have HB1m := Lib.hid (HB1.out.trans (hb.mono (by omega)))
      have HRm := Lib.hid (HR1.out.below hb (by omega))
      have hKm := HK1.out.below hb (by omega)
      have k0 : wm.cell? ⟨w.heap.size, 0, none⟩ = some (.int .i64 a0) := hKm.cell 0
      have k1 : wm.cell? ⟨w.heap.size, 1, none⟩ = some (.int .u64 a1) := hKm.cell 1
      have k2 : wm.cell? ⟨w.heap.size, 2, none⟩ = some (.int .u64 a2) := hKm.cell 2
      have k3 : wm.cell? ⟨w.heap.size, 3, none⟩ = some (.int .u64 a3) := hKm.cell 3
      have k4 : wm.cell? ⟨w.heap.size, 4, none⟩ = some (.int .u64 a4) := hKm.cell 4
      have k5 : wm.cell? ⟨w.heap.size, 5, none⟩ = some (.slice A5 l5 cap5) := hKm.cell 5
      have HKm := Lib.hid hKm
      have CA := Lib.hid (CE.out wm HB1m.out _ w1.heap.size (s.size + 1) hm)
      clear hm hb hKm
      go_wp2_with fail
      refine CA.out.mono ?_
      rintro e w2 ⟨rb, rc, g, rfl, hrg, hlg, hb2, hE⟩
      have HRg := Lib.hid hrg
      have HE := Lib.hid hE
      have HB2 := Lib.hid (HB1m.out.trans (hb2.mono HB1m.out.size))
      have hwl : w1.heap.size < wm.heap.size := HM.out.lt
      have HR2 := Lib.hid (HRm.out.below hb2 (by omega))
      have HK2 := Lib.hid (HKm.out.below hb2 (by omega))
      have hw2 : wm.heap.size ≤ w2.heap.size := hb2.size
      obtain ⟨L, hL⟩ : ∃ L, L = lastF g (s.size + 1) := ⟨_, rfl⟩
      have CL := Lib.hid (last_any rb (s.size + 1) rc g w2 (by omega) hrg)
      rw [← hL] at CL
      have HL := Lib.hid hL
      clear hrg hE hb2 hL CA k0 k1 k2 k3 k4 k5 HM HB HKm HRm
      go_wp2_with fail
      refine CL.out.mono ?_
      rintro e w3 ⟨rfl, rfl⟩
      rcases lastF_spec g (s.size + 1) with ⟨q1, q2⟩ | ⟨m, q1, q2, q3, q4⟩
      · have HF : Hid (FirstP s.data.toList q 0 0 false) := .inr ⟨rfl, rfl, rfl, fun i' j' hsp => by
          have hle := sp_le _ _ _ _ hsp
          have h1 := (HE.out j' hle.2).2 ⟨i', by omega, decide_eq_true (by rw [lst_len] at hle; omega), hsp⟩
          rw [lst_len] at hle
          rw [q2 j' (by omega)] at h1; cases h1⟩
        have hLn : L = -1 := by rw [HL.out]; exact q1
        rw [hLn]
        have r0 : w2.cell? ⟨w.heap.size + 1, 0, none⟩ = some (.int .i64 0) := HR2.out.cell 0
        have r1 : w2.cell? ⟨w.heap.size + 1, 1, none⟩ = some (.int .i64 0) := HR2.out.cell 1
        have f0 : w2.frozen? ⟨w.heap.size + 1, 0, none⟩ = false := HR2.out.frozen 0
        have f1 : w2.frozen? ⟨w.heap.size + 1, 1, none⟩ = false := HR2.out.frozen 1
        clear q1 q2 hLn
        go_wp2_with fail
        obtain ⟨wz, hwz, hz, z0, z1⟩ := span_put (B := w.heap.size) HR2.out (by omega) 0 0
        rw [← hwz]
        refine bodyPost_ret (v := .tuple #[.agg #[.int .i64 0, .int .i64 0], .bool false, .int .i64 0]) (by simp [results, Try.results26, go_sem, z0, z1]) rfl ⟨⟨0, 0, false, rfl, HF.out⟩, HB2.out.trans hz⟩
      · have hLn : ¬ L < 0 := by rw [HL.out, q1]; omega
        clear q1 q2 q3 q4 HL HRg HE CL
        go_wp2_with fail
        go_loopw [45] (fun i wr => ∃ k : Nat, k ≤ s.size + 1 ∧ i = .int .i64 k ∧ Hid (∀ i', i' < k → ∀ j', ¬ Sp s.data.toList q i' j') ∧ Below w2.heap.size w2 wr) (fun i _ => s.size + 1 - (intOf i).toNat)
        case atStart => exact ⟨0, by omega, rfl, fun i' h => absurd h (by omega), Below.refl _ _⟩
        case round =>
          obtain ⟨k, hk, rfl, HN, hb⟩ := hrel
          have HB := Lib.hid hb
          have hz := hb.size
          have hwr : w.heap.size + 1 < wr.heap.size := by omega
          have hwr0 : w.heap.size < wr.heap.size := by omega
          have HRr := Lib.hid (HR2.out.below hb (by omega))
          by_cases hlk : k < s.size + 1
          · have hKr := HK2.out.below hb (by omega)
            have k0 : wr.cell? ⟨w.heap.size, 0, none⟩ = some (.int .i64 a0) := hKr.cell 0
            have k1 : wr.cell? ⟨w.heap.size, 1, none⟩ = some (.int .u64 a1) := hKr.cell 1
            have k2 : wr.cell? ⟨w.heap.size, 2, none⟩ = some (.int .u64 a2) := hKr.cell 2
            have k3 : wr.cell? ⟨w.heap.size, 3, none⟩ = some (.int .u64 a3) := hKr.cell 3
            have k4 : wr.cell? ⟨w.heap.size, 4, none⟩ = some (.int .u64 a4) := hKr.cell 4
            have k5 : wr.cell? ⟨w.heap.size, 5, none⟩ = some (.slice A5 l5 cap5) := hKr.cell 5
            have hm0 := BoR.made wr (s.size + 1)
            have y0 := hm0.cell k hlk
            have y1 := hm0.frozen k hlk
            have i1 : (k : Int) < (s.size : Int) + 1 := by omega
            have hm1 := (hm0.set_ hlk true).congr (g := fun j => decide (j = k)) fun j _ => by
              by_cases e : j = k
              · rw [if_pos e, decide_eq_true e]
              · rw [if_neg e, decide_eq_false e]
            rw [World.setCell_alloc_at _ _ _ _ _ rfl] at hm1
            obtain ⟨V2, hV2⟩ : ∃ V2, V2 = wr.alloc (.cells ((madeCells #[.bool false] (s.size + 1)).setIfInBounds k (.bool true)) 4) := ⟨_, rfl⟩
            rw [← hV2] at hm1
            have hVb : Below wr.heap.size wr V2 := by rw [hV2]; exact (Below.refl _ _).alloc (Nat.le_refl _) _
            have HV2 := Lib.hid hV2
            have HBV := Lib.hid (HB2.out.trans ((hb.trans (hVb.mono hz)).mono (by omega)))
            have CV := Lib.hid (CE.out V2 HBV.out _ wr.heap.size (s.size + 1) hm1)
            have HRv := Lib.hid (HRr.out.below hVb (by omega))
            have hVs : wr.heap.size ≤ V2.heap.size := hVb.size
            have HBV2 := Lib.hid (hb.trans (hVb.mono hz))
            clear hKr hm0 hm1 hV2 hVb hb
            go_wp2_with fail
            rw [← HV2.out]
            refine CV.out.mono ?_
            rintro e w4 ⟨rb2, rc2, g2, rfl, hrg2, hlg2, hb4, hE2⟩
            have HE2 := Lib.hid hE2
            have HB4 := Lib.hid (HBV.out.trans (hb4.mono HBV.out.size))
            have HB5 := Lib.hid (HBV2.out.trans (hb4.mono (by omega)))
            have HR4 := Lib.hid (HRv.out.below hb4 (by omega))
            obtain ⟨L2, hL2⟩ : ∃ L2, L2 = lastF g2 (s.size + 1) := ⟨_, rfl⟩
            have CL2 := Lib.hid (last_any rb2 (s.size + 1) rc2 g2 w4 (by omega) hrg2)
            rw [← hL2] at CL2
            have HL2 := Lib.hid hL2
            clear hrg2 hE2 hb4 hL2 CV k0 k1 k2 k3 k4 k5 y0 y1
            go_wp2_with fail
            refine CL2.out.mono ?_
            rintro e w5 ⟨rfl, rfl⟩
            rcases lastF_spec g2 (s.size + 1) with ⟨q1, q2⟩ | ⟨m, q1, q2, q3, q4⟩
            · have HN2 : Hid (∀ i', i' < k + 1 → ∀ j', ¬ Sp s.data.toList q i' j') := fun i' hi j' hsp => by
                by_cases e : i' = k
                · subst e
                  have hle := sp_le _ _ _ _ hsp
                  have h1 := (HE2.out j' hle.2).2 ⟨i', by omega, decide_eq_true rfl, hsp⟩
                  rw [lst_len] at hle
                  rw [q2 j' (by omega)] at h1; cases h1
                · exact HN.out i' (by omega) j' hsp
              have hLn : L2 = -1 := by rw [HL2.out]; exact q1
              rw [hLn]
              clear q1 q2 hLn
              go_wp2_with fail
              go_roundw
              case rel => exact ⟨k + 1, by omega, by go_num, HN2, HB5.out⟩
              case measure => simp [intOf]; omega
            · have HF : Hid (FirstP s.data.toList q k m true) := .inl ⟨rfl, by
                  obtain ⟨i', _, h2, h3⟩ := (HE2.out m (by rw [lst_len]; omega)).1 q3
                  rw [decide_eq_true_eq] at h2; subst h2; exact h3, fun i' j' hi => HN.out i' hi j', fun j' hsp => by
                    have hle := sp_le _ _ _ _ hsp
                    rw [lst_len] at hle
                    exact q4 j' (by omega) ((HE2.out j' (by rw [lst_len]; omega)).2 ⟨k, by rw [lst_len]; omega, decide_eq_true rfl, hsp⟩)⟩
              have hLn : L2 = (m : Int) := by rw [HL2.out]; exact q1
              rw [hLn]
              have r0 : w4.cell? ⟨w.heap.size + 1, 0, none⟩ = some (.int .i64 0) := HR4.out.cell 0
              have r1 : w4.cell? ⟨w.heap.size + 1, 1, none⟩ = some (.int .i64 0) := HR4.out.cell 1
              have f0 : w4.frozen? ⟨w.heap.size + 1, 0, none⟩ = false := HR4.out.frozen 0
              have f1 : w4.frozen? ⟨w.heap.size + 1, 1, none⟩ = false := HR4.out.frozen 1
              clear q1 q2 q3 q4 hLn
              go_wp2_with fail
              obtain ⟨wz, hwz, hz, z0, z1⟩ := span_put (B := w.heap.size) HR4.out (by omega) (k : Int) (m : Int)
              rw [← hwz]
              refine bodyPost_ret (v := .tuple #[.agg #[.int .i64 (k : Int), .int .i64 (m : Int)], .bool true, .int .i64 0]) (by simp [results, Try.results26, go_sem, z0, z1]) rfl ⟨⟨k, m, true, rfl, HF.out⟩, HB4.out.trans hz⟩
          · obtain rfl : k = s.size + 1 := by omega
            have HF : Hid (FirstP s.data.toList q 0 0 false) := .inr ⟨rfl, rfl, rfl, fun i' j' hsp => by
              have hle := sp_le _ _ _ _ hsp
              rw [lst_len] at hle
              exact HN.out i' (by omega) j' hsp⟩
            have HBr := Lib.hid (HB2.out.trans (hb.mono (by omega)))
            have r0 : wr.cell? ⟨w.heap.size + 1, 0, none⟩ = some (.int .i64 0) := HRr.out.cell 0
            have r1 : wr.cell? ⟨w.heap.size + 1, 1, none⟩ = some (.int .i64 0) := HRr.out.cell 1
            have f0 : wr.frozen? ⟨w.heap.size + 1, 0, none⟩ = false := HRr.out.frozen 0
            have f1 : wr.frozen? ⟨w.heap.size + 1, 1, none⟩ = false := HRr.out.frozen 1
            clear hb
            go_wp2_with fail
            obtain ⟨wz, hwz, hz, z0, z1⟩ := span_put (B := w.heap.size) HRr.out (by omega) 0 0
            rw [← hwz]
            refine bodyPost_ret (v := .tuple #[.agg #[.int .i64 0, .int .i64 0], .bool false, .int .i64 0]) (by simp [results, Try.results26, go_sem, z0, z1]) rfl ⟨⟨0, 0, false, rfl, HF.out⟩, HBr.out.trans hz⟩
end
end Go.Proofs.Ytckinkapbfaceaa
