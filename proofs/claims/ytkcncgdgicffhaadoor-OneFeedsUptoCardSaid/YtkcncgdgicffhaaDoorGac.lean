/- Walks: head.Print, wickref.HeadText. -/
import Derived.Test.YtkcncgdgicffhaaDoorGj
import Derived.Test.YtkcncgdgicffhaaDoorGk
import Derived.Test.YtkcncgdgicffhaaDoorGab
namespace Go.Proofs.YtkcncgdgicffhaaDoor
open Go.RowKit
set_option linter.unusedVariables false
set_option linter.unusedSimpArgs false

section
variable (m t : ByteArray) (fs : List Fd) (A : Option Addr) (cap B : Nat) (w : World)
set_option maxHeartbeats 1000000 in
theorem print_bad (hm : m.size ≤ 1048576) (ht : t.size ≤ 1048576) (hf : FdR w B A cap fs) (hB : B ≤ w.heap.size) (h : ¬ hdE ⟨m, t, fs⟩ = 0) :
    Calls Tryd.prog 59 #[.agg #[.string m, .string t, .slice A fs.length cap]] w fun e w' => e = .returned (.tuple #[.string ByteArray.empty, .int .i64 (hdE ⟨m, t, fs⟩)]) ∧ Below w.heap.size w w' := by
  obtain ⟨W, hW⟩ : ∃ W, W = w.alloc (.cells #[.string m, .string t, .slice A fs.length cap] 24) := ⟨_, rfl⟩
  have hWb : Below w.heap.size w W := by rw [hW]; exact (Below.refl _ _).alloc (Nat.le_refl _) _
  have C := Lib.hid (headCheck_any m t fs A cap B W hm ht (hf.below (hWb.mono hB)) (Nat.le_trans hB hWb.size))
  obtain ⟨E, hE⟩ : ∃ E, E = hdE ⟨m, t, fs⟩ := ⟨_, rfl⟩
  rw [← hE] at h C ⊢
  have e0 : (E != 0) = true := bne_iff_ne.2 h
  have HW := Lib.hid hW
  have HWB := Lib.hid hWb
  clear hW hWb hf h hE
  go_enter Tryd.func59, Tryd.ntmps59
  go_wp2_with fail
  rw [← HW.out]
  refine C.out.mono ?_
  rintro e w1 ⟨rfl, hb1⟩
  have HB1 := Lib.hid (HWB.out.trans (hb1.mono HWB.out.size))
  clear hb1
  go_wp2_with fail
  go_ret2
  exact ⟨rfl, HB1.out⟩

set_option maxRecDepth 100000 in
set_option maxHeartbeats 2000000 in
theorem print_ok (hm : m.size ≤ 1048576) (ht : t.size ≤ 1048576) (hf : FdR w B A cap fs) (hB : B ≤ w.heap.size) (h : hdE ⟨m, t, fs⟩ = 0) :
    Calls Tryd.prog 59 #[.agg #[.string m, .string t, .slice A fs.length cap]] w fun e w' => e = .returned (.tuple #[.string (str (hdText ⟨m, t, fs⟩)), .int .i64 0]) ∧ Below w.heap.size w w' := by
  obtain ⟨s1, s2, s3, s4⟩ := hdE_small h
  obtain ⟨W, hW⟩ : ∃ W, W = w.alloc (.cells #[.string m, .string t, .slice A fs.length cap] 24) := ⟨_, rfl⟩
  have hWb : Below w.heap.size w W := by rw [hW]; exact (Below.refl _ _).alloc (Nat.le_refl _) _
  have hK : Blk W w.heap.size 24 #[.string m, .string t, .slice A fs.length cap] := by rw [hW]; exact Blk.new _ _ _
  have C := Lib.hid (headCheck_any m t fs A cap B W hm ht (hf.below (hWb.mono hB)) (Nat.le_trans hB hWb.size))
  rw [h] at C
  have HW := Lib.hid hW
  have HWB := Lib.hid hWb
  have HK := Lib.hid hK
  have HF := Lib.hid (hf.below (hWb.mono hB))
  obtain ⟨hcp1, hcp2⟩ : fs.length ≤ cap ∧ cap ≤ 9223372036854775807 := ⟨hf.2.1, hf.2.2.1⟩
  have HS4 := Lib.hid s4
  clear hW hWb hf h hK s4
  go_enter Tryd.func59, Tryd.ntmps59
  go_wp2_with fail
  rw [← HW.out]
  refine C.out.mono ?_
  rintro e w1 ⟨rfl, hb1⟩
  have hW1 : w.heap.size < W.heap.size := HK.out.lt
  have hs1 : W.heap.size ≤ w1.heap.size := hb1.size
  have HB1 := Lib.hid (HWB.out.trans (hb1.mono (by omega)))
  have HK1 := Lib.hid (HK.out.below hb1 hW1)
  have HF1 := Lib.hid (HF.out.below (hb1.mono (by omega)))
  have k0 : w1.cell? ⟨w.heap.size, 0, none⟩ = some (.string m) := HK1.out.cell 0
  have k1 : w1.cell? ⟨w.heap.size, 1, none⟩ = some (.string t) := HK1.out.cell 1
  clear hb1 C HK HF
  obtain ⟨b, hbb⟩ : ∃ b, b = w1.heap.size := ⟨_, rfl⟩
  obtain ⟨W2, hW2⟩ : ∃ W2, W2 = w1.alloc (.cells #[.pointer none, .slice none 0 0] 98) := ⟨_, rfl⟩
  have HL0 : Hid (Bld W2 w1.heap.size []) := by rw [hW2]; exact Bld.new _
  have HB2 : Hid (Below w1.heap.size w1 W2) := by rw [hW2]; exact (Below.refl _ _).alloc (Nat.le_refl _) _
  have HW2 := Lib.hid hW2
  clear hW2
  have hlt1 : w.heap.size < w1.heap.size := by omega
  go_wp2_with fail
  rw [← HW2.out]
  refine (write_any _ HL0.out ?hl).mono ?_
  case hl => rw [← lst_len, line_eq, hdLine_len]; simp only [List.length_nil]; omega
  rintro e w2 ⟨rfl, hl2, hb2⟩
  rw [line_eq, List.nil_append] at hl2
  have HL2 := Lib.hid hl2
  have HB3 := Lib.hid (HB2.out.trans (hb2.mono (Nat.le_refl _)))
  have k2 : w2.cell? ⟨w.heap.size, 2, none⟩ = some (.slice A fs.length cap) := (HK1.out.below HB3.out hlt1).cell 2
  have hs2 : w1.heap.size ≤ w2.heap.size := HB3.out.size
  have hlt2 : w.heap.size < w2.heap.size := by omega
  clear hl2 hb2 HL0 HB2 k0 k1
  go_wp2_with fail
  go_loopw [24] (fun i wr => ∃ k : Nat, k ≤ fs.length ∧ i = .int .i64 k ∧ Bld wr w1.heap.size (hdLine m t ++ fdsText (fs.take k)) ∧ Below w1.heap.size w1 wr) (fun i _ => fs.length - (intOf i).toNat)
  case atStart => exact ⟨0, by omega, rfl, by simpa [fdsText] using HL2.out, HB3.out⟩
  case round =>
    obtain ⟨k, hk, rfl, hl, hb⟩ := hrel
    have HL := Lib.hid hl
    have HB := Lib.hid hb
    have hz := hb.size
    have hlen := fdsText_len HS4.out k hk
    have hll := hdLine_len m t
    have hlL : (hdLine m t ++ fdsText (fs.take k)).length ≤ 40000 := by rw [List.length_append, hll]; omega
    clear hlen hll
    by_cases hlt : k < fs.length
    · obtain ⟨ad, rfl, hab, x0, x1, z0, z1⟩ := fd_cells (HF1.out.below (hb.mono (by omega))) hlt
      clear hb hl
      have hq := HS4.out k hlt
      obtain ⟨L, hL⟩ : ∃ L, L = hdLine m t ++ fdsText (fs.take k) := ⟨_, rfl⟩
      have hN : hdLine m t ++ fdsText (fs.take (k + 1)) = L ++ fdText fs[k] := by rw [hL, fdsText_snoc hlt, List.append_assoc]
      rw [← hL] at HL hlL
      have HN := Lib.hid hN
      clear hL hN
      obtain ⟨f, hfe⟩ : ∃ f, f = fs[k] := ⟨_, rfl⟩
      rw [← hfe] at x0 x1 z0 z1 HN hq
      clear hfe
      go_wp2_with fail
      refine (write_any _ (HL.out.alloc _) ?hl).mono ?_
      case hl => rw [← lst_len, fd_eq, fdText_len]; omega
      rintro e w3 ⟨rfl, hl3, hb3⟩
      rw [fd_eq, ← HN.out] at hl3
      have HL3 := Lib.hid hl3
      have HB4 := Lib.hid ((HB.out.alloc hz _).trans hb3)
      clear hl3 hb3
      go_wp2_with fail
      go_roundw
      case rel => exact ⟨k + 1, by omega, by go_num, HL3.out, HB4.out⟩
      case measure => simp [intOf]; omega
    · obtain rfl : k = fs.length := by omega
      rw [List.take_length] at HL hlL
      clear hb hl
      go_wp2_with fail
      refine (bldString_any HL.out).mono ?_
      rintro e w3 ⟨rfl, hb3⟩
      have HB4 := Lib.hid (HB1.out.trans ((HB.out.trans hb3).mono (by omega)))
      clear hb3
      obtain ⟨S, hS⟩ : ∃ S, S = str (hdLine m t ++ fdsText fs) := ⟨_, rfl⟩
      have zz : S.size ≤ 40000 := by rw [hS, size_str]; exact hlL
      rw [← hS]
      have HSS := Lib.hid hS
      clear hS
      go_wp2_with fail
      go_ret2
      rw [HSS.out]
      refine ⟨?_, HB4.out⟩
      have : str (hdLine m t ++ fdsText fs) ++ { data := #[13, 10] } = str (hdText ⟨m, t, fs⟩) := by
        apply lst_inj
        rw [lst_app]
        show (hdLine m t ++ fdsText fs) ++ [13, 10] = hdText ⟨m, t, fs⟩
        unfold hdText; rw [List.append_assoc]
      rw [← this]; rfl

set_option maxRecDepth 100000 in
set_option maxHeartbeats 2000000 in
theorem headText_any (hm : m.size ≤ 1048576) (ht : t.size ≤ 1048576) (hf : FdR w B A cap fs) (hB : B ≤ w.heap.size) (h : hdE ⟨m, t, fs⟩ = 0) :
    Calls Tryd.prog 61 #[.agg #[.string m, .string t, .slice A fs.length cap]] w fun e w' => e = .returned (.string (str (hdText ⟨m, t, fs⟩))) ∧ Below w.heap.size w w' := by
  obtain ⟨s1, s2, s3, s4⟩ := hdE_small h
  obtain ⟨W, hW⟩ : ∃ W, W = w.alloc (.cells #[.string m, .string t, .slice A fs.length cap] 24) := ⟨_, rfl⟩
  have hWb : Below w.heap.size w W := by rw [hW]; exact (Below.refl _ _).alloc (Nat.le_refl _) _
  have hK : Blk W w.heap.size 24 #[.string m, .string t, .slice A fs.length cap] := by rw [hW]; exact Blk.new _ _ _
  have k0 : W.cell? ⟨w.heap.size, 0, none⟩ = some (.string m) := hK.cell 0
  have k1 : W.cell? ⟨w.heap.size, 1, none⟩ = some (.string t) := hK.cell 1
  have k2 : W.cell? ⟨w.heap.size, 2, none⟩ = some (.slice A fs.length cap) := hK.cell 2
  have HW := Lib.hid hW
  have HWB := Lib.hid hWb
  have HF := Lib.hid (hf.below (hWb.mono hB))
  obtain ⟨hcp1, hcp2⟩ : fs.length ≤ cap ∧ cap ≤ 9223372036854775807 := ⟨hf.2.1, hf.2.2.1⟩
  have HS4 := Lib.hid s4
  have z1 : (m ++ { data := #[32] } ++ t ++ { data := #[32, 72, 84, 84, 80, 47, 49, 46, 49] } : ByteArray).size ≤ 2000 := by rw [← lst_len]; simp only [lst_app, List.length_append, lst_len]; show _ + 1 + _ + 9 ≤ _; omega
  clear hW hWb hf h hK s4
  go_enter Tryd.func61, Tryd.ntmps61
  go_wp2_with fail
  rw [← HW.out]
  obtain ⟨S0, hS0⟩ : ∃ S0 : ByteArray, S0 = m ++ { data := #[32] } ++ t ++ { data := #[32, 72, 84, 84, 80, 47, 49, 46, 49] } ++ { data := #[13, 10] } := ⟨_, rfl⟩
  have hS1 : S0 = str (hdLine m t) := by
    apply lst_inj
    rw [hS0]
    simp only [lst_app, List.append_assoc]; rfl
  rw [← hS0]
  have HS1 := Lib.hid hS1
  have hWlt : w.heap.size < W.heap.size := by rw [HW.out]; simp
  clear hS0 hS1 z1 k0 k1
  go_loopw [3, 4] (fun v i wr => ∃ k : Nat, k ≤ fs.length ∧ i = .int .i64 k ∧ v = .string (str (hdLine m t ++ fdsText (fs.take k))) ∧ Below W.heap.size W wr) (fun _ i _ => fs.length - (intOf i).toNat)
  case atStart => exact ⟨0, by omega, rfl, by rw [HS1.out]; simp [fdsText], Below.refl _ _⟩
  case round =>
    obtain ⟨k, hk, rfl, rfl, hb⟩ := hrel
    have HB := Lib.hid hb
    have hz := hb.size
    have hlen := fdsText_len HS4.out k hk
    have hll := hdLine_len m t
    have hlL : (hdLine m t ++ fdsText (fs.take k)).length ≤ 40000 := by rw [List.length_append, hll]; omega
    clear hlen hll
    have k2' : wr.cell? ⟨w.heap.size, 2, none⟩ = some (.slice A fs.length cap) := by rw [hb.cell (p := ⟨w.heap.size, 2, none⟩) hWlt]; exact k2
    by_cases hlt : k < fs.length
    · obtain ⟨ad, rfl, hab, x0, x1, z0, z1⟩ := fd_cells (HF.out.below (hb.mono (by omega))) hlt
      clear hb
      have hq := HS4.out k hlt
      obtain ⟨S, hS⟩ : ∃ S, S = str (hdLine m t ++ fdsText (fs.take k)) := ⟨_, rfl⟩
      have hSz : S.size ≤ 40000 := by rw [hS, size_str]; exact hlL
      have hN : str (hdLine m t ++ fdsText (fs.take (k + 1))) = S ++ (fs[k].n ++ { data := #[58, 32] } ++ fs[k].v ++ { data := #[13, 10] }) := by
        rw [hS]; apply lst_inj; rw [lst_app, fd_eq, fdsText_snoc hlt, ← List.append_assoc]
      rw [← hS]
      have HN := Lib.hid hN
      clear hS hN hlL
      obtain ⟨f, hfe⟩ : ∃ f, f = fs[k] := ⟨_, rfl⟩
      rw [← hfe] at x0 x1 z0 z1 HN hq
      clear hfe k2
      go_wp2_with fail
      go_quiet (fail)
      go_wp2_with fail
      go_roundw
      case rel => exact ⟨k + 1, by omega, by go_num, by rw [HN.out], below_drewN HB.out _⟩
      case measure => simp [intOf]; omega
    · obtain rfl : k = fs.length := by omega
      obtain ⟨S, hS⟩ : ∃ S, S = str (hdLine m t ++ fdsText fs) := ⟨_, rfl⟩
      rw [List.take_length] at hlL ⊢
      have zz : S.size ≤ 40000 := by rw [hS, size_str]; exact hlL
      rw [← hS]
      have HSS := Lib.hid hS
      clear hS hb hlL
      go_wp2_with fail
      go_ret
      rw [HSS.out]
      refine ⟨?_, HWB.out.trans (HB.out.mono (Nat.le_of_lt hWlt))⟩
      have : str (hdLine m t ++ fdsText fs) ++ { data := #[13, 10] } = str (hdText ⟨m, t, fs⟩) := by
        apply lst_inj
        rw [lst_app]
        show (hdLine m t ++ fdsText fs) ++ [13, 10] = hdText ⟨m, t, fs⟩
        unfold hdText; rw [List.append_assoc]
      rw [← this]; rfl
end
end Go.Proofs.YtkcncgdgicffhaaDoor
