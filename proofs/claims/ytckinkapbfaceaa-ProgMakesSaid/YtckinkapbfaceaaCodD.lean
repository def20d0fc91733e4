/- Walks: wickref.Code, prog.Make. -/
import Derived.Test.YtckinkapbfaceaaCodC
namespace Go.Proofs.Ytckinkapbfaceaa
open Go.RowKit
set_option linter.unusedVariables false
set_option linter.unusedSimpArgs false

theorem rc_any : ∀ q : Re, RcOk q
  | .none => by rintro cs x n D w rfl ⟨A, cap, rfl⟩ hD hl; exact rc_none n w A cap
  | .empty => by rintro cs x n D w rfl ⟨A, cap, rfl⟩ hD hl; exact rc_empty n w A cap
  | .byte s => by rintro cs x n D w rfl ⟨hs, hz, A, cap, rfl⟩ hD hl; exact rc_byte n w A cap s
  | .beg => by rintro cs x n D w rfl ⟨A, cap, rfl⟩ hD hl; exact rc_beg n w A cap
  | .fin => by rintro cs x n D w rfl ⟨A, cap, rfl⟩ hD hl; exact rc_fin n w A cap
  | .cat a b => by rintro cs x n D w rfl ⟨A, cap, ca, cb, rfl, h1, h2, h3, h4, h5, h6⟩ hD hl; exact rc_cat n D w A cap a b ca cb (rc_any a) (rc_any b) hD (by simp only [Re.size] at hl; omega) h3 h4 h5 h6 h1 h2
  | .alt a b => by rintro cs x n D w rfl ⟨A, cap, ca, cb, rfl, h1, h2, h3, h4, h5, h6⟩ hD hl; exact rc_alt n D w A cap a b ca cb (rc_any a) (rc_any b) hD (by simp only [Re.size] at hl; omega) h3 h4 h5 h6 h1 h2
  | .star a => by rintro cs x n D w rfl ⟨A, cap, ca, rfl, h1, h2, h3, h4⟩ hD hl; exact rc_star n D w A cap a ca (rc_any a) hD (by simp only [Re.size] at hl; omega) h3 h4 h1 h2

/-- the whole code -/
def codeM (q : Re) : List In := codeF q 0 ++ [⟨6, 0, 0, ⟨0, 0, 0, 0⟩⟩]
def CodeMRes (q : Re) (w : World) (e : Ending) (w' : World) : Prop := ∃ v', e = .returned v' ∧ OIn w' w.heap.size v' (codeM q) ∧ Below w.heap.size w w'
set_option maxHeartbeats 1000000 in
theorem refCode_any (q : Re) (cs : List Value) (D : Nat) (w : World) (h : ReC w D q cs) (hD : D ≤ w.heap.size) (hq : q.size ≤ 80) :
    Calls Try.prog 13 #[.agg cs.toArray] w (CodeMRes q w) := by
  obtain ⟨a0, a1, a2, a3, a4, A5, l5, cap5, rfl⟩ := re_cs h
  obtain ⟨W, hW⟩ : ∃ W, W = w.alloc (.cells #[.int .i64 a0, .int .u64 a1, .int .u64 a2, .int .u64 a3, .int .u64 a4, .slice A5 l5 cap5] 27) := ⟨_, rfl⟩
  have hWb : Below w.heap.size w W := by rw [hW]; exact (Below.refl _ _).alloc (Nat.le_refl _) _
  have hlc := codeF_len q 0
  have C := Lib.hid (rc_any q _ 0 0 D W rfl (h.below (hWb.mono hD)) (by have := hWb.size; omega) (by omega))
  have HWB := Lib.hid hWb
  have HW := Lib.hid hW
  clear hW hWb h
  go_enter Try.func13, Try.ntmps13
  go_wp2_with fail
  rw [← HW.out]
  refine C.out.mono ?_
  rintro e w1 ⟨v1, rfl, o1, b1⟩
  have HO1 := Lib.hid o1
  have HB1 := Lib.hid (HWB.out.trans (b1.mono HWB.out.size))
  have hs1 : W.heap.size ≤ w1.heap.size := b1.size
  clear o1 b1
  go_wp2_with (at_builtin; refine wpL_appI rfl (.tmp 4) (.tmp 6) rfl HO1.out rfl ⟨6, 0, 0, ⟨0, 0, 0, 0⟩⟩ rfl rfl (by omega) hs1 ?_; intro v2 w2 ho2 hg2; have HO2 := Lib.hid ho2; have HB2 := Lib.hid (HB1.out.trans (hg2.below (B := w.heap.size) HB1.out.size (fun g hg => Nat.le_trans HWB.out.size (own_from HO1.out g hg)))); clear ho2 hg2)
  go_ret
  exact ⟨v2, rfl, OIn.mono HO2.out HWB.out.size, HB2.out⟩

set_option maxHeartbeats 1000000 in
theorem make_bad (n : Nat) (r : Rx) (cs : List Value) (B : Nat) (w : World) (h : RxC w B n r cs) (hB : B ≤ w.heap.size) (h0 : ¬ errR n r = 0) :
    Calls Try.prog 10 #[.agg cs.toArray] w fun e w' => e = .returned (.tuple #[.slice none 0 0, .int .i64 (errR n r)]) ∧ Below w.heap.size w w' := by
  obtain ⟨a0, a1, a2, a3, a4, A5, l5, cap5, rfl⟩ := h.six
  obtain ⟨W, hW⟩ : ∃ W, W = w.alloc (.cells #[.int .i64 a0, .int .u64 a1, .int .u64 a2, .int .u64 a3, .int .u64 a4, .slice A5 l5 cap5] 27) := ⟨_, rfl⟩
  have hWb : Below w.heap.size w W := by rw [hW]; exact (Below.refl _ _).alloc (Nat.le_refl _) _
  have C := Lib.hid (rexCheck_any n r _ B W (h.below (hWb.mono hB)) (by have := hWb.size; omega))
  have HWB := Lib.hid hWb
  have HW := Lib.hid hW
  obtain ⟨E, hE⟩ : ∃ E, E = errR n r := ⟨_, rfl⟩
  rw [← hE] at h0 C ⊢
  have e0 : (E != 0) = true := bne_iff_ne.2 h0
  clear hW hWb h hE h0
  go_enter Try.func10, Try.ntmps10
  go_wp2_with fail
  rw [← HW.out]
  refine C.out.mono ?_
  rintro e w1 ⟨rfl, b1⟩
  have HB1 := Lib.hid (HWB.out.trans (b1.mono HWB.out.size))
  clear b1
  go_wp2_with fail
  go_ret2
  exact ⟨rfl, HB1.out⟩

set_option maxHeartbeats 1000000 in
theorem make_ok (n : Nat) (r : Rx) (q : Re) (cs : List Value) (B : Nat) (w : World) (h : RxC w B n r cs) (hB : B ≤ w.heap.size) (h0 : errR n r = 0) (hq : ReC w B q cs) (hz : q.size ≤ 80) :
    Calls Try.prog 10 #[.agg cs.toArray] w fun e w' => ∃ v', e = .returned (.tuple #[v', .int .i64 0]) ∧ OIn w' w.heap.size v' (codeM q) ∧ Below w.heap.size w w' := by
  obtain ⟨a0, a1, a2, a3, a4, A5, l5, cap5, rfl⟩ := h.six
  obtain ⟨W, hW⟩ : ∃ W, W = w.alloc (.cells #[.int .i64 a0, .int .u64 a1, .int .u64 a2, .int .u64 a3, .int .u64 a4, .slice A5 l5 cap5] 27) := ⟨_, rfl⟩
  have hWb : Below w.heap.size w W := by rw [hW]; exact (Below.refl _ _).alloc (Nat.le_refl _) _
  have hK : Blk W w.heap.size 27 #[.int .i64 a0, .int .u64 a1, .int .u64 a2, .int .u64 a3, .int .u64 a4, .slice A5 l5 cap5] := by rw [hW]; exact Blk.new _ _ _
  have C := Lib.hid (rexCheck_any n r _ B W (h.below (hWb.mono hB)) (by have := hWb.size; omega))
  rw [h0] at C
  have hlc := codeF_len q 0
  have CM := Lib.hid fun w1 (hb : Below B W w1) (hs : B ≤ w1.heap.size) => code_any q _ [] (.slice none 0 0) w1.heap.size B w1 ((hq.below (hWb.mono hB)).below hb) hs (Nat.le_refl _) (OIn.nil _ _) (by simp; omega)
  have HWB := Lib.hid hWb
  have HW := Lib.hid hW
  have HK := Lib.hid hK
  clear hW hWb h h0 hq hK
  go_enter Try.func10, Try.ntmps10
  go_wp2_with fail
  rw [← HW.out]
  refine C.out.mono ?_
  rintro e w1 ⟨rfl, b1⟩
  have hWs : w.heap.size ≤ W.heap.size := HWB.out.size
  have hs1 : W.heap.size ≤ w1.heap.size := b1.size
  have HB1 := Lib.hid (HWB.out.trans (b1.mono hWs))
  have CM1 := Lib.hid (CM.out w1 (b1.mono (by omega)) (by omega))
  have hK1 := HK.out.below b1 HK.out.lt
  have k0 : w1.cell? ⟨w.heap.size, 0, none⟩ = some (.int .i64 a0) := hK1.cell 0
  have k1 : w1.cell? ⟨w.heap.size, 1, none⟩ = some (.int .u64 a1) := hK1.cell 1
  have k2 : w1.cell? ⟨w.heap.size, 2, none⟩ = some (.int .u64 a2) := hK1.cell 2
  have k3 : w1.cell? ⟨w.heap.size, 3, none⟩ = some (.int .u64 a3) := hK1.cell 3
  have k4 : w1.cell? ⟨w.heap.size, 4, none⟩ = some (.int .u64 a4) := hK1.cell 4
  have k5 : w1.cell? ⟨w.heap.size, 5, none⟩ = some (.slice A5 l5 cap5) := hK1.cell 5
  clear b1 C CM hK1
  go_wp2_with fail
  refine CM1.out.mono ?_
  rintro e w2 ⟨v2, rfl, ho2, hg2⟩
  have HO2 := Lib.hid ho2
  have HB2 := Lib.hid (HB1.out.trans (hg2.below (B := w.heap.size) (by omega) (fun g hg => by cases hg)))
  have hs2 : w1.heap.size ≤ w2.heap.size := hg2.grown.size
  clear ho2 hg2 k0 k1 k2 k3 k4 k5
  go_wp2_with (at_builtin; refine wpL_appI rfl (.tmp 11) (.tmp 13) rfl HO2.out rfl ⟨6, 0, 0, ⟨0, 0, 0, 0⟩⟩ rfl rfl (by simp; omega) hs2 ?_; intro v3 w3 ho3 hg3; have HO3 := Lib.hid ho3; have HB3 := Lib.hid (HB2.out.trans (hg3.below (B := w.heap.size) (by omega) (fun g hg => Nat.le_trans (by omega) (own_from HO2.out g hg)))); clear ho3 hg3)
  go_ret2
  exact ⟨v3, rfl, OIn.mono HO3.out (by omega), HB3.out⟩
end Go.Proofs.Ytckinkapbfaceaa
