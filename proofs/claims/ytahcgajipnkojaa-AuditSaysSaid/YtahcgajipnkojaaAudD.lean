/- Walk: audit.Encode. -/
import Derived.Test.YtahcgajipnkojaaAudC
import Derived.Test.YtahcgajipnkojaaApp
namespace Go.Proofs.Ytahcgajipnkojaa
open Go.RowKit
set_option linter.unusedVariables false
set_option linter.unusedSimpArgs false

def encRec (c o b s : Int) (ms : List Int) (t : List UInt8) : List UInt8 := [82] ++ ([c, o, b, s, (ms.length : Int)].flatMap fourL ++ (ms.flatMap fourL ++ (fourL t.length ++ t)))
theorem flat4 (l : List Int) : (l.flatMap fourL).length = 4 * l.length := by
  induction l with
  | nil => rfl
  | cons n l ih => rw [List.flatMap_cons, List.length_append, ih, fourL_len, List.length_cons]; omega
theorem recE_ok {c o b s : Int} {ms : List Int} {t : Nat} (h : recE c o b s ms t = 0) : ms.length ≤ 40 ∧ t ≤ 1000 ∧ 0 ≤ c ∧ c ≤ 255 ∧ 0 ≤ o ∧ o ≤ 599 ∧ 0 ≤ b ∧ b ≤ 9999 ∧ 0 ≤ s ∧ s ≤ 1000000 ∧ ∀ m ∈ ms, 1 ≤ m ∧ m ≤ 9999 := by
  unfold recE at h
  by_cases h1 : 40 < ms.length ∨ 1000 < t
  · rw [if_pos h1] at h; omega
  rw [if_neg h1] at h
  by_cases h2 : (numsB c o b s && !badL ms) = true
  · unfold numsB at h2
    simp only [Bool.and_eq_true, Bool.or_eq_true, Bool.not_eq_true', beq_iff_eq, inB_iff] at h2
    obtain ⟨⟨⟨⟨hc, ho⟩, hb⟩, hs⟩, hm⟩ := h2
    refine ⟨by omega, by omega, hc.1, hc.2, by omega, by omega, hb.1, hb.2, hs.1, hs.2, fun m hm1 => ?_⟩
    unfold badL at hm
    rw [List.any_eq_false] at hm
    have := hm m hm1
    simpa [inB_iff] using this
  · rw [if_neg h2] at h; omega

theorem ob_lit1 (w : World) (b : UInt8) : OB (w.alloc (.cells #[.int .u8 b.toNat] 5)) w.heap.size (.slice (some ⟨w.heap.size, 0, none⟩) 1 1) [b] :=
  World.ownsRow_lit (size := 1) w #[.int .u8 b.toNat] 1 (Nat.le_refl _) (by unfold maxLen; omega) rfl
section
variable (c o b s : Int) (A : Option Addr) (cap : Nat) (ms : List Int) (t : ByteArray) (B : Nat) (w : World)
theorem encode_bad (E : Int) (hE : recE c o b s ms t.size = E) (hne : ¬ E = 0) (hl : ms.length ≤ 9223372036854775807) (ht : t.size ≤ 9223372036854775807) (hR : Reads w B 1 A ms.length (ms.map (Value.int .i64))) (hB : B ≤ w.heap.size) :
    Calls Try.prog 16 #[recV c o b s A ms.length cap t] w fun e w' => e = .returned (.tuple #[.string (str []), .int .i64 E]) ∧ Below w.heap.size w w' := by
  have HR := Lib.hid hR
  have HE := Lib.hid hE
  have n1 : (E != 0) = true := by rw [bne_iff_ne]; exact hne
  have n2 : (E == 0) = false := by rw [beq_eq_false_iff_ne]; exact hne
  clear hR hE hne
  go_enter Try.func16, Try.ntmps16
  go_wp2_with fail
  refine (check_any c o b s A cap ms t B _ hl ht (HR.out.alloc hB _) (by simp; omega)).mono ?_
  rintro e w1 ⟨rfl, hb1⟩
  rw [HE.out]
  have HB1 := Lib.hid (((Below.refl w.heap.size w).alloc (Nat.le_refl _) _).trans (hb1.mono (by simp)))
  clear hb1
  go_wp2_with fail
  go_ret2
  exact ⟨rfl, HB1.out⟩

set_option maxHeartbeats 2000000 in
theorem encode_ok (hE : recE c o b s ms t.size = 0) (hR : Reads w B 1 A ms.length (ms.map (Value.int .i64))) (hB : B ≤ w.heap.size) :
    Calls Try.prog 16 #[recV c o b s A ms.length cap t] w fun e w' => e = .returned (.tuple #[.string (str (encRec c o b s ms t.data.toList)), .int .i64 0]) ∧ Below w.heap.size w w' := by
  have HR := Lib.hid hR
  have HE := Lib.hid hE
  obtain ⟨b1, b2, b3, b4, b5, b6, b7, b8, b9, b10, hms⟩ := recE_ok hE
  have HMS := Lib.hid hms
  clear hR hE hms
  go_enter Try.func16, Try.ntmps16
  go_wp2_with fail
  refine (check_any c o b s A cap ms t B _ (by omega) (by omega) (HR.out.alloc hB _) (by simp; omega)).mono ?_
  rintro e w1 ⟨rfl, hb1⟩
  rw [HE.out]
  have HBox : Hid (Blk w1 w.heap.size 32 #[.int .i64 c, .int .i64 o, .int .i64 b, .int .i64 s, .slice A ms.length cap, .string t]) := (Blk.new w _ _).below hb1 (by simp)
  have HB1 := Lib.hid (((Below.refl w.heap.size w).alloc (Nat.le_refl _) _).trans (hb1.mono (by simp)))
  have hz1 : w.heap.size + 1 ≤ w1.heap.size := by have := hb1.size; simp at this; omega
  have hz : w.heap.size < w1.heap.size := by omega
  have HR1 := Lib.hid (HR.out.below (HB1.out.mono hB))
  clear hb1
  have k0 : w1.cell? ⟨w.heap.size, 0, none⟩ = some (.int .i64 c) := HBox.out.cell 0
  have k1 : w1.cell? ⟨w.heap.size, 1, none⟩ = some (.int .i64 o) := HBox.out.cell 1
  have k2 : w1.cell? ⟨w.heap.size, 2, none⟩ = some (.int .i64 b) := HBox.out.cell 2
  have k3 : w1.cell? ⟨w.heap.size, 3, none⟩ = some (.int .i64 s) := HBox.out.cell 3
  have k4 : w1.cell? ⟨w.heap.size, 4, none⟩ = some (.slice A ms.length cap) := HBox.out.cell 4
  have k5 : w1.cell? ⟨w.heap.size, 5, none⟩ = some (.string t) := HBox.out.cell 5
  go_wp2_with fail
  obtain ⟨F, hF⟩ : ∃ F : List Int, F = [c, o, b, s, (ms.length : Int)] := ⟨_, rfl⟩
  have hFb : ∀ x ∈ F, 0 ≤ x ∧ x ≤ 1000000 := by
    rw [hF]; intro x hx
    simp only [List.mem_cons, List.not_mem_nil, or_false] at hx
    rcases hx with rfl | rfl | rfl | rfl | rfl <;> omega
  have hFl : F.length = 5 := by rw [hF]; rfl
  obtain ⟨w2, e2⟩ : ∃ w2, w2 = (w1.alloc (.cells #[.int .u8 82] 5)).alloc (.cells #[.int .i64 c, .int .i64 o, .int .i64 b, .int .i64 s, .int .i64 ms.length] 3) := ⟨_, rfl⟩
  rw [← e2]
  have hz2 : w2.heap.size = w1.heap.size + 2 := by rw [e2]; simp
  have HO2 : Hid (OB w2 w1.heap.size (.slice (some ⟨w1.heap.size, 0, none⟩) 1 1) [82]) := by
    rw [e2]
    exact (ob_lit1 w1 82).alloc _
  have HL2 : Hid (Blk w2 (w1.heap.size + 1) 3 (F.map (Value.int .i64)).toArray) := by
    rw [e2, hF]
    have := Blk.new (w1.alloc (.cells #[.int .u8 82] 5)) 3 #[.int .i64 c, .int .i64 o, .int .i64 b, .int .i64 s, .int .i64 ms.length]
    simp only [World.size_alloc] at this
    exact this
  have HBx2 : Hid (Blk w2 w.heap.size 32 #[.int .i64 c, .int .i64 o, .int .i64 b, .int .i64 s, .slice A ms.length cap, .string t]) := by
    rw [e2]; exact (HBox.out.alloc _).alloc _
  have HB2 : Hid (Below w.heap.size w w2) := by rw [e2]; exact (HB1.out.alloc (by omega) _).alloc (by simp; omega) _
  have HR2 : Hid (Reads w2 B 1 A ms.length (ms.map (Value.int .i64))) := HR.out.below (HB2.out.mono hB)
  have HF := Lib.hid hF
  have HFb := Lib.hid hFb
  clear e2 hF hFb k0 k1 k2 k3 k4 k5 HBox HR1 HB1
  obtain ⟨v0, e0⟩ : ∃ v0, v0 = Value.slice (some ⟨w1.heap.size, 0, none⟩) 1 1 := ⟨_, rfl⟩
  rw [← e0] at HO2
  have HV0 : Hid (v0.ownBlock = some w1.heap.size) := by rw [e0]; rfl
  go_loopw [5, 29] (fun v i wr => ∃ k : Nat, k ≤ 5 ∧ i = .int .i64 k ∧ OB wr w1.heap.size v ([82] ++ (F.take k).flatMap fourL) ∧ Grew w2 wr v0 v) (fun _ i _ => 5 - (intOf i).toNat)
  case atStart => exact ⟨0, by omega, rfl, by rw [← e0]; exact HO2.out, by rw [← e0]; exact Grew.refl _ _⟩
  case round =>
    obtain ⟨k, hk, rfl, ho, hg⟩ := hrel
    have hszr := hg.grown.size
    have hsz : w1.heap.size ≤ wr.heap.size := by omega
    have HG := Lib.hid hg
    have HO := Lib.hid ho
    clear hg ho
    by_cases hlt : k < 5
    · have hcell : wr.cell? ⟨w1.heap.size + 1, k, none⟩ = some (.int .i64 F[k]) := by
        have h1 := (HG.out.blk HL2.out (by rw [HV0.out]; intro e; injection e with e; omega)).cell k
        rw [h1]; simp [hFl, hlt]
      have hx := HFb.out F[k] (List.getElem_mem _)
      have HC := Lib.hid (four_any u5 _ F[k] w1.heap.size wr HO.out hsz (by omega) (by omega) (by rw [List.length_append, flat4, List.length_take]; simp; omega))
      clear e0
      go_wp2_with fail
      refine HC.out.mono ?_
      rintro e w3 ⟨v3, rfl, ho3, hg3⟩
      have HG3 := Lib.hid (HG.out.trans hg3)
      have HO3 := Lib.hid ho3
      clear ho3 hg3
      go_wp2_with fail
      go_roundw
      case rel => exact ⟨k + 1, by omega, by go_num, by rw [List.take_succ_eq_append_getElem (by omega), List.flatMap_append, ← List.append_assoc]; simpa using HO3.out, HG3.out⟩
      case measure => simp [intOf]; omega
    · obtain rfl : k = 5 := by omega
      rw [show F.take 5 = F from List.take_of_length_le (by omega)] at HO
      have HB3 : Hid (Below w.heap.size w wr) := HB2.out.trans (HG.out.below (by omega) (by rw [HV0.out]; intro g e; injection e with e; omega))
      have HBx3 : Hid (Blk wr w.heap.size 32 #[.int .i64 c, .int .i64 o, .int .i64 b, .int .i64 s, .slice A ms.length cap, .string t]) := HG.out.blk HBx2.out (by rw [HV0.out]; intro e; injection e with e; omega)
      have HR3 : Hid (Reads wr B 1 A ms.length (ms.map (Value.int .i64))) := HG.out.reads HR2.out (by omega) (by rw [HV0.out]; intro g e; injection e with e; omega)
      have hd5 : decide ((5 : Int) < 5) = false := rfl
      have k4 : wr.cell? ⟨w.heap.size, 4, none⟩ = some (.slice A ms.length cap) := HBx3.out.cell 4
      clear e0 HL2 HB2 HBx2 HR2
      have HOO := HO
      clear HO
      go_wp2_with fail
      obtain ⟨M, hM⟩ : ∃ M, M = F.flatMap fourL := ⟨_, rfl⟩
      have hMl : M.length = 20 := by rw [hM, flat4, hFl]
      rw [← hM] at HOO
      have HM := Lib.hid hM
      clear hM
      obtain ⟨wm, rfl⟩ : ∃ wm : World, wm = wr := ⟨_, rfl⟩
      obtain ⟨vm, rfl⟩ : ∃ vm : Value, vm = u5 := ⟨_, rfl⟩
      go_loopw [5, 40] (fun v i wr => ∃ k : Nat, k ≤ ms.length ∧ i = .int .i64 k ∧ OB wr w1.heap.size v ([82] ++ M ++ (ms.take k).flatMap fourL) ∧ Grew wm wr vm v) (fun _ i _ => ms.length - (intOf i).toNat)
      case atStart => exact ⟨0, by omega, rfl, by simpa using HOO.out, Grew.refl _ _⟩
      case round =>
        obtain ⟨k, hk, rfl, ho, hg⟩ := hrel
        have hv5 := own_from HOO.out
        have HV5 := Lib.hid hv5
        clear hv5
        have hszq := hg.grown.size
        have hszq2 : w1.heap.size ≤ wr.heap.size := by omega
        have HG4 := Lib.hid hg
        have HO4 := Lib.hid ho
        clear hg ho
        have HR4 : Hid (Reads wr B 1 A ms.length (ms.map (Value.int .i64))) := HG4.out.reads HR3.out (by omega) (fun g e => by have := HV5.out g e; omega)
        by_cases hlt : k < ms.length
        · obtain ⟨ad, rfl, _, hcell⟩ := HR4.out.int_at hlt
          have hx := HMS.out ms[k] (List.getElem_mem _)
          have HC := Lib.hid (four_any u5 _ ms[k] w1.heap.size wr HO4.out hszq2 (by omega) (by omega) (by rw [List.length_append, List.length_append, flat4, List.length_take, hMl]; simp; omega))
          go_wp2_with fail
          refine HC.out.mono ?_
          rintro e w3 ⟨v3, rfl, ho3, hg3⟩
          have HG5 := Lib.hid (HG4.out.trans hg3)
          have HO5 := Lib.hid ho3
          clear ho3 hg3
          go_wp2_with fail
          go_roundw
          case rel =>
            (repeat apply Exists.intro)
            exact ⟨⟨k + 1, by omega, by go_num, by rw [List.take_succ_eq_append_getElem hlt, List.flatMap_append, ← List.append_assoc]; simpa using HO5.out, HG5.out⟩, rfl⟩
          case measure => simp [intOf]; omega
        · obtain rfl : k = ms.length := by omega
          rw [List.take_length] at HO4
          have HBx5 := Lib.hid (HG4.out.blk HBx3.out (by intro e; have := HV5.out _ e; omega))
          have k5 : wr.cell? ⟨w.heap.size, 5, none⟩ = some (.string t) := HBx5.out.cell 5
          have HB5 := Lib.hid (HB3.out.trans (HG4.out.below (by omega) (fun g e => by have := HV5.out g e; omega)))
          clear k4
          have HC := Lib.hid (four_any u5 _ t.size w1.heap.size wr HO4.out hszq2 (by omega) (by omega) (by rw [List.length_append, List.length_append, flat4, hMl]; simp; omega))
          go_wp2_with fail
          refine HC.out.mono ?_
          rintro e w3 ⟨v3, rfl, ho3, hg3⟩
          have HB6 := Lib.hid (HB5.out.trans (hg3.below (by omega) (fun g e => by have := own_from HO4.out g e; omega)))
          obtain ⟨O, hO⟩ : ∃ O, O = [82] ++ M ++ ms.flatMap fourL ++ fourL t.size := ⟨_, rfl⟩
          rw [← hO] at ho3
          have hcv := ob_str ho3
          have HBx6 := Lib.hid (hg3.blk HBx5.out (by intro e; have := own_from HO4.out _ e; omega))
          have k6 : w3.cell? ⟨w.heap.size, 5, none⟩ = some (.string t) := HBx6.out.cell 5
          have hls : (str O).size ≤ 200 := by rw [size_str, hO, List.length_append, List.length_append, List.length_append, flat4, hMl, fourL_len]; simp; omega
          have HOE := Lib.hid hO
          clear ho3 hg3 k5 hO
          go_wp2_with fail
          go_ret2
          refine ⟨?_, HB6.out⟩
          refine ret_two (ret_s ?_) rfl
          apply lst_inj
          rw [lst_app, lst_mk, lst_mk, encRec, ← HF.out, ← HM.out, lst_len, HOE.out]
          simp only [List.append_assoc]
end
end Go.Proofs.Ytahcgajipnkojaa
