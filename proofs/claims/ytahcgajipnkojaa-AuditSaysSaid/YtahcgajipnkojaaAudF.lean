/- Walk: wickref.RecordText. -/
import Derived.Test.YtahcgajipnkojaaAudD
import Derived.Test.YtahcgajipnkojaaAudE
import Derived.Deep.RegionHeld3
import Derived.Deep.DrawnRows
namespace Go.Proofs.Ytahcgajipnkojaa
open Go.RowKit
set_option linter.unusedVariables false
set_option linter.unusedSimpArgs false
attribute [local go_sem ↓] Go.wp_at_zero Go.wp_at_succ

theorem fourR_blk (n : Int) (w : World) (g : Nat) (tt : TypeId) (cs : Array Value) (hb : Blk w g tt cs) (B : Nat) (w0 : World) (hB : B ≤ w.heap.size) (h : Below B w0 w) (h0 : 0 ≤ n) (h1 : n < 4294967296) :
    Calls Try.prog 55 #[.int .i64 n] w fun e w' => e = .returned (.string (str (fourL n))) ∧ Blk w' g tt cs ∧ B ≤ w'.heap.size ∧ Below B w0 w' :=
  (fourR_any n w h0 h1).mono fun _ _ ⟨he, hb2⟩ => ⟨he, hb.below hb2 hb.lt, Nat.le_trans hB hb2.size, h.trans (hb2.mono hB)⟩

section
variable (c o b s : Int) (A : Option Addr) (cap : Nat) (ms : List Int) (t : ByteArray) (B : Nat) (w : World)
set_option maxHeartbeats 4000000 in
theorem recText_any (hE : recE c o b s ms t.size = 0) (hR : Reads w B 1 A ms.length (ms.map (Value.int .i64))) (hB : B ≤ w.heap.size) :
    Calls Try.prog 15 #[recV c o b s A ms.length cap t] w fun e w' => e = .returned (.string (str (encRec c o b s ms t.data.toList))) ∧ Below w.heap.size w w' := by
  have HR := Lib.hid hR
  have HE := Lib.hid hE
  obtain ⟨b1, b2, b3, b4, b5, b6, b7, b8, b9, b10, hms⟩ := recE_ok hE
  have HMS := Lib.hid hms
  clear hR hE hms
  go_enter Try.func15, Try.ntmps15
  go_wp2_with fail
  obtain ⟨w2, e2⟩ : ∃ w2, w2 = w.alloc (.cells #[.int .i64 c, .int .i64 o, .int .i64 b, .int .i64 s, .slice A ms.length cap, .string t] 32) := ⟨_, rfl⟩
  rw [← e2]
  have hbk : Blk w2 w.heap.size 32 #[.int .i64 c, .int .i64 o, .int .i64 b, .int .i64 s, .slice A ms.length cap, .string t] := by rw [e2]; exact Blk.new w _ _
  have hbw : Below w.heap.size w w2 := by rw [e2]; exact (Below.refl _ _).alloc (Nat.le_refl _) _
  have hbz : w.heap.size ≤ w2.heap.size := hbw.size
  have HS : Hid (∀ w', Blk w' w.heap.size 32 #[.int .i64 c, .int .i64 o, .int .i64 b, .int .i64 s, .slice A ms.length cap, .string t] → w'.cell? ⟨w.heap.size, 0, none⟩ = some (.int .i64 c) ∧ w'.cell? ⟨w.heap.size, 1, none⟩ = some (.int .i64 o) ∧ w'.cell? ⟨w.heap.size, 2, none⟩ = some (.int .i64 b) ∧ w'.cell? ⟨w.heap.size, 3, none⟩ = some (.int .i64 s) ∧ w'.cell? ⟨w.heap.size, 4, none⟩ = some (.slice A ms.length cap)) :=
    fun w' h => ⟨h.cell 0, h.cell 1, h.cell 2, h.cell 3, h.cell 4⟩
  obtain ⟨k0, k1, k2, k3, k4⟩ := HS.out _ hbk
  have hbwd := hbw.drew
  have hbkd := hbk.drew
  have z0 : (str (fourL c)).size = 4 := by rw [size_str]; rfl
  have z1 : (str (fourL o)).size = 4 := by rw [size_str]; rfl
  have z2 : (str (fourL b)).size = 4 := by rw [size_str]; rfl
  have z3 : (str (fourL s)).size = 4 := by rw [size_str]; rfl
  have z4 : (str (fourL ms.length)).size = 4 := by rw [size_str]; rfl
  clear e2
  go_region_held3 (fun w' => w'.cell? ⟨w.heap.size, 0, none⟩ = some (.int .i64 c) ∧ w'.cell? ⟨w.heap.size, 1, none⟩ = some (.int .i64 o) ∧ w'.cell? ⟨w.heap.size, 2, none⟩ = some (.int .i64 b) ∧ w'.cell? ⟨w.heap.size, 3, none⟩ = some (.int .i64 s) ∧ w'.cell? ⟨w.heap.size, 4, none⟩ = some (.slice A ms.length cap)) (exact HS.out _ (by assumption))
    (first | (go_at_call 55; refine (fourR_blk _ _ _ _ _ (by assumption) w.heap.size w (by assumption) (by assumption) (by omega) (by omega)).mono ?_; rintro e w' ⟨rfl, hbk', hbz', hbw'⟩))
  obtain ⟨F, hF⟩ : ∃ F : List Int, F = [c, o, b, s, (ms.length : Int)] := ⟨_, rfl⟩
  obtain ⟨M, hM⟩ : ∃ M, M = F.flatMap fourL := ⟨_, rfl⟩
  have hMl : M.length = 20 := by rw [hM, flat4, hF]; rfl
  have hstr : ({ data := #[82] } : ByteArray) ++ str (fourL c) ++ str (fourL o) ++ str (fourL b) ++ str (fourL s) ++ str (fourL ms.length) = str ([82] ++ M) := by
    rw [hM, hF]
    apply lst_inj
    simp only [lst_app, lst_mk, List.flatMap_cons, List.flatMap_nil, List.append_assoc, List.append_nil]
  rw [hstr]
  have HF := Lib.hid hF
  have HM := Lib.hid hM
  have HK := Lib.hid hbk'
  have HB := Lib.hid hbw'
  clear hstr hF hM z0 z1 z2 z3 z4 k0 k1 k2 k3 k4
  obtain ⟨w3, hw3⟩ : ∃ w3 : World, w3 = w' := ⟨_, rfl⟩
  rw [← hw3] at HK HB hbz' ⊢
  have hz3 : w.heap.size ≤ w3.heap.size := hbz'
  clear hw3
  go_wp2_with fail
  go_loopw [3, 4] (fun v i wr => ∃ k : Nat, k ≤ ms.length ∧ i = .int .i64 k ∧ v = .string (str ([82] ++ M ++ (ms.take k).flatMap fourL)) ∧ Blk wr w.heap.size 32 #[.int .i64 c, .int .i64 o, .int .i64 b, .int .i64 s, .slice A ms.length cap, .string t] ∧ w.heap.size ≤ wr.heap.size ∧ Below w.heap.size w wr) (fun _ i _ => ms.length - (intOf i).toNat)
  case atStart => exact ⟨0, by omega, rfl, by simp, HK.out, hz3, HB.out⟩
  case round =>
    obtain ⟨k, hk, rfl, rfl, hbkr, hzr, hbr⟩ := hrel
    have HKr := Lib.hid hbkr
    have HBr := Lib.hid hbr
    have HRr := Lib.hid (HR.out.below (hbr.mono hB))
    have k4 : wr.cell? ⟨w.heap.size, 4, none⟩ = some (.slice A ms.length cap) := hbkr.cell 4
    have k5 : wr.cell? ⟨w.heap.size, 5, none⟩ = some (.string t) := hbkr.cell 5
    obtain ⟨L, hL⟩ : ∃ L, L = [82] ++ M ++ (ms.take k).flatMap fourL := ⟨_, rfl⟩
    have hls : (str L).size ≤ 200 := by rw [size_str, hL, List.length_append, List.length_append, flat4, hMl, List.length_take]; simp; omega
    have hll : L.length ≤ 200 := by rw [size_str] at hls; exact hls
    rw [← hL]
    have HL := Lib.hid hL
    clear hL
    by_cases hlt : k < ms.length
    · obtain ⟨ad, hA, _, hcell⟩ := HRr.out.int_at hlt
      have hx := HMS.out ms[k] (List.getElem_mem _)
      have z : (str (fourL ms[k])).size = 4 := by rw [size_str]; rfl
      have HC := Lib.hid (fourR_blk ms[k] wr _ _ _ hbkr w.heap.size w hzr hbr (by omega) (by omega))
      subst hA
      clear hbkr hbr
      go_wp2_with fail
      refine HC.out.mono ?_
      rintro e w4 ⟨rfl, hk4, hz4, hb4⟩
      have HK4 := Lib.hid hk4
      have HB4 := Lib.hid hb4
      clear hk4 hb4
      go_wp2_with fail
      go_roundw
      case rel =>
        (repeat apply Exists.intro)
        exact ⟨⟨k + 1, by omega, by go_num, ret_s (by rw [cat_str, HL.out, List.take_succ_eq_append_getElem hlt, List.flatMap_append, ← List.append_assoc]; simp), HK4.out, hz4, HB4.out⟩, rfl⟩
      case measure => simp [intOf]; omega
    · obtain rfl : k = ms.length := by omega
      rw [List.take_length] at HL
      have z : (str (fourL t.size)).size = 4 := by rw [size_str]; rfl
      have HS5 : Hid (∀ w', Blk w' w.heap.size 32 #[.int .i64 c, .int .i64 o, .int .i64 b, .int .i64 s, .slice A ms.length cap, .string t] → w'.cell? ⟨w.heap.size, 5, none⟩ = some (.string t)) := fun w' h => h.cell 5
      have j1 : ¬ 9223372036854775807 < L.length + 4 := by omega
      have j2 : ¬ 9223372036854775807 < L.length + 4 + t.size := by omega
      have hbwd2 := hbr.drew
      have hbkd2 := hbkr.drew
      go_wp2_with fail
      go_region_held3 (fun w' => w'.cell? ⟨w.heap.size, 5, none⟩ = some (.string t)) (exact HS5.out _ (by assumption))
        (first | (go_at_call 55; refine (fourR_blk _ _ _ _ _ (by assumption) w.heap.size w (by assumption) (by assumption) (by omega) (by omega)).mono ?_; rintro e w' ⟨rfl, hbk', hbz', hbw'⟩))
      go_wp2_with fail
      go_ret
      refine ⟨ret_str ?_, hbw'⟩
      apply lst_inj
      rw [lst_app, lst_app, lst_mk, lst_mk, encRec, HL.out, lst_len, ← HF.out, ← HM.out]
      simp only [List.append_assoc]
end
end Go.Proofs.Ytahcgajipnkojaa
