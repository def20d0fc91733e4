/- Walk: wickref.Requests. -/
import Derived.Test.YtkcncgdgicffhaaDoorGat
import Derived.LoopTactic
namespace Go.Proofs.YtkcncgdgicffhaaDoor
open Go.RowKit
set_option linter.unusedVariables false
set_option linter.unusedSimpArgs false

/-- the bounds' box -/
structure Bq (w wr : World) (H B A : Int) : Prop where
  bx : Blk wr w.heap.size 43 #[.int .i64 H, .int .i64 B, .int .i64 A]
  be : Below w.heap.size w wr
section
variable {w wr wr' : World} {H B A : Int}
theorem Bq.start : Bq w (w.alloc (.cells #[.int .i64 H, .int .i64 B, .int .i64 A] 43)) H B A := ⟨Blk.new _ _ _, (Below.refl _ _).alloc (Nat.le_refl _) _⟩
theorem Bq.step (h : Bq w wr H B A) (hb : Below wr.heap.size wr wr') : Bq w wr' H B A := ⟨h.bx.below hb h.bx.lt, h.be.trans (hb.mono h.be.size)⟩
theorem Bq.grow (h : Bq w wr H B A) (hb : Below (w.heap.size + 1) wr wr') : Bq w wr' H B A := ⟨h.bx.below hb (Nat.lt_succ_self _), h.be.trans (hb.mono (Nat.le_succ _))⟩
theorem Bq.facts (h : Bq w wr H B A) : wr.cell? ⟨w.heap.size, 0, none⟩ = some (.int .i64 H) ∧ wr.cell? ⟨w.heap.size, 1, none⟩ = some (.int .i64 B) ∧ wr.cell? ⟨w.heap.size, 2, none⟩ = some (.int .i64 A) := ⟨h.bx.cell 0, h.bx.cell 1, h.bx.cell 2⟩
end
/-- what the list's maker answers -/
def RqsRes (R : List (Hd × ByteArray) × ByteArray × Int) (w : World) (e : Ending) (w' : World) : Prop :=
  ∃ v L, e = .returned (.tuple #[v, .string R.2.1, .int .i64 R.2.2]) ∧ RL w' w.heap.size v L ∧ L.map RC.plain = R.1 ∧ Below w.heap.size w w'
section
variable (s : ByteArray) (H B A : Int) (w : World)
set_option maxRecDepth 100000 in
set_option maxHeartbeats 4000000 in
theorem requests_any (hs : s.size ≤ 1048576) (hH : 0 ≤ H ∧ H ≤ 1048576) (hB : -9223372036854775808 ≤ B ∧ B ≤ 9223372036854775807) :
    Calls Tryd.prog 26 #[.string s, .agg #[.int .i64 H, .int .i64 B, .int .i64 A]] w (RqsRes (reqsR s H B) w) := by
  obtain ⟨W, hW⟩ : ∃ W, w.alloc (.cells #[.int .i64 H, .int .i64 B, .int .i64 A] 43) = W := ⟨_, rfl⟩
  have hX : Bq w W H B A := by rw [← hW]; exact Bq.start
  have CR := fun t w' (ht : t.size ≤ 1048576) => request_any t H B A w' ht hH hB
  unfold ReqRes at CR
  have CR := Lib.hid CR
  obtain ⟨R, hR⟩ : ∃ R, R = reqsR s H B := ⟨_, rfl⟩
  rw [← hR]
  have H0 : Hid (reqsF H B (s.size + 1) s [] = R) := Lib.hid (by rw [hR]; rfl)
  have HX := Lib.hid hX
  clear hX hR hH hB
  go_enter Tryd.func26, Tryd.ntmps26
  go_wp2_with fail
  clear hW
  go_loopw [0, 7] (fun x v wr => ∃ (t : ByteArray) (L : List RC) (f : Nat), x = .string t ∧ Bq w wr H B A ∧ RL wr (w.heap.size + 1) v L ∧ t.size < f ∧ L.length + t.size ≤ s.size ∧ Hid (reqsF H B f t (L.map RC.plain) = R)) (fun x _ _ => match x with | .string t => t.size | _ => 0)
  case atStart => exact ⟨s, [], s.size + 1, rfl, HX.out, RL.nil _ _, by omega, by simp, H0.out⟩
  case round =>
    obtain ⟨t, L, f, rfl, hq, hl, hf, hLs, HC⟩ := hrel
    obtain ⟨f, rfl⟩ : ∃ f', f = f' + 1 := ⟨f - 1, by omega⟩
    have htz : t.size ≤ 1048576 := by omega
    obtain ⟨x0, x1, x2⟩ := hq.facts
    have CRt := CR.out t wr htz
    obtain ⟨E, h, x, n, hRR⟩ : ∃ E h x n, reqR t H B = (E, h, x, n) := ⟨_, _, _, _, rfl⟩
    rw [hRR] at CRt
    obtain ⟨mm, tt, ff⟩ := h
    dsimp only at CRt
    have CRt := Lib.hid CRt
    obtain ⟨A0, c0, rfl⟩ := hl.form
    have HQ := Lib.hid hq
    have HL := Lib.hid hl
    clear hq hl HX H0
    go_wp2_with fail
    refine CRt.out.mono ?_
    rintro e w1 ⟨v, rfl, ⟨A1, c1, rfl, ho1⟩, b1⟩
    have hal := (Below.refl w1.heap.size w1).alloc (Nat.le_refl _) (.cells #[.string mm, .string tt, .slice A1 ff.length c1, .string x] 36)
    have hK := Blk.new w1 36 #[.string mm, .string tt, .slice A1 ff.length c1, .string x]
    have hO : OP 108 w1 wr.heap.size (.slice A1 ff.length c1) ff := ho1
    have hO2 := (hO.kept hal).mono (show w.heap.size + 1 ≤ wr.heap.size from HQ.out.bx.lt)
    have hQ2 := (HQ.out.step b1).step hal
    have hL2 := (HL.out.kept b1).kept hal
    clear b1 ho1 hO hal CRt x0 x1 x2
    go_upto_region 3 with fail
    obtain ⟨V, hV⟩ : ∃ V, w1.alloc (.cells #[.string mm, .string tt, .slice A1 ff.length c1, .string x] 36) = V := ⟨_, rfl⟩
    rw [hV] at hK hO2 hQ2 hL2 ⊢
    clear hV
    have k0 := hK.cell 0
    have k1 := hK.cell 1
    have k2 := hK.cell 2
    have k3 := hK.cell 3
    have HQ2 := Lib.hid hQ2
    have HL2 := Lib.hid hL2
    have HO2 := Lib.hid hO2
    clear hK hQ2 hL2 hO2 HQ HL
    by_cases e7 : E = 7
    · have HR := Lib.hid (HC.out.symm.trans (reqsF_more (by rw [hRR, e7])))
      subst e7
      clear hRR
      go_wp2_with fail
      go_ret3
      exact ⟨_, L, by rw [HR.out]; rfl, HL2.out.mono (Nat.le_succ _), by rw [HR.out], HQ2.out.be⟩
    · have ee7 : (E == 7) = false := beq_eq_false_iff_ne.2 e7
      by_cases e0 : E = 0
      · subst e0
        have hn := reqR_n hRR
        have HC2 := Lib.hid ((reqsF_go hRR).symm.trans HC.out)
        have i1 : (0 : Int) ≤ (n : Int) := by omega
        have i2 : (n : Int) ≤ (t.size : Int) := by omega
        have hV1 : w.heap.size + 1 ≤ V.heap.size := HQ2.out.bx.lt
        have hLl : L.length ≤ 1048576 := by omega
        clear hRR e7
        go_wp2_with (at_builtin; refine wpL_req rfl (.tmp 26) (.tmp 28) rfl HL2.out rfl ⟨A1, c1, ⟨mm, tt, ff⟩, x⟩ HO2.out rfl hLl hV1 ?_; intro A5 c5 w5 h5 hb5; have H5 := Lib.hid h5; have HQ5 := Lib.hid (HQ2.out.grow hb5); clear h5 hb5 k0 k1 k2 k3)
        go_roundw
        case rel => exact ⟨t.extract n t.size, L ++ [⟨A1, c1, ⟨mm, tt, ff⟩, x⟩], f, rfl, HQ5.out, H5.out, by rw [ByteArray.size_extract]; omega, by rw [List.length_append, List.length_singleton, ByteArray.size_extract]; omega, by rw [List.map_append]; exact HC2.out⟩
        case measure => simp only [ByteArray.size_extract]; omega
      · have HR := Lib.hid (HC.out.symm.trans (reqsF_bad hRR e7 e0))
        have ee : (E != 0) = true := bne_iff_ne.2 e0
        clear hRR e7 e0
        go_wp2_with fail
        go_ret3
        exact ⟨_, L, by rw [HR.out]; rfl, HL2.out.mono (Nat.le_succ _), by rw [HR.out], HQ2.out.be⟩
end
end Go.Proofs.YtkcncgdgicffhaaDoor
