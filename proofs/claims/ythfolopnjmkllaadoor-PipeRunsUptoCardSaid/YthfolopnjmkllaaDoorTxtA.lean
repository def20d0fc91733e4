/- Walks: octet.Lower, wickref.Low. -/
import Derived.Test.YthfolopnjmkllaaDoorStr
import Derived.Test.YthfolopnjmkllaaDoorDec
import Derived.Test.YthfolopnjmkllaaDoorMB
namespace Go.Proofs.YthfolopnjmkllaaDoor
open Go.RowKit
set_option linter.unusedVariables false
set_option linter.unusedSimpArgs false

/-- a letter made small -/
def lowB (b : UInt8) : UInt8 := if 65 ≤ b.toNat ∧ b.toNat ≤ 90 then UInt8.ofNat (b.toNat + 32) else b
/-- the first k bytes made small -/
def lowK (l : List UInt8) (k : Nat) : List UInt8 := (l.take k).map lowB ++ l.drop k
theorem lowK_len (l : List UInt8) (k : Nat) : (lowK l k).length = l.length := by simp [lowK]; omega
theorem lowK_at {s : ByteArray} {k : Nat} (h : k < s.size) : (lowK s.data.toList k)[k]'(by rw [lowK_len, lst_len]; exact h) = s[k] := by
  unfold lowK
  rw [List.getElem_append_right (by simp; omega)]
  simp only [List.length_map, take_len s k (by omega), Nat.sub_self]
  simp [lst_get s k h]
theorem lowK_step {s : ByteArray} {k : Nat} (h : k < s.size) : (lowK s.data.toList k).set k (lowB s[k]) = lowK s.data.toList (k + 1) := by
  unfold lowK
  rw [List.set_append_right _ _ (by simp; omega), List.length_map, take_len s k (by omega), Nat.sub_self, drop_cons s k h, List.set_cons_zero, take_snoc s k h, List.map_append, List.append_assoc]
  rfl
theorem lowK_all {s : ByteArray} {k : Nat} (h : s.size ≤ k) : lowK s.data.toList k = s.data.toList.map lowB := by
  unfold lowK; rw [take_all s h, drop_all s h, List.append_nil]
theorem set_same {l : List UInt8} {k : Nat} (h : k < l.length) : l.set k l[k] = l := by simp

set_option maxRecDepth 100000 in
set_option maxHeartbeats 400000 in
theorem lower_any (s : ByteArray) (w : World) (hs : s.size ≤ 140737488355320) :
    Calls Tryd.prog 41 #[.string s] w fun e w' => e = .returned (.string (str (s.data.toList.map lowB))) ∧ Below w.heap.size w w' := by
  obtain ⟨c, w1, hconv, hmb, hbl, hz⟩ := mb_make s w
  have HM := Lib.hid hmb
  have HB := Lib.hid hbl
  clear hmb hbl
  go_enter Tryd.func41, Tryd.ntmps41
  go_wp2
  go_loopw [10] (fun i wr => ∃ k : Nat, k ≤ s.size ∧ i = .int .i64 k ∧ Hid (MB wr w.heap.size (lowK s.data.toList k)) ∧ Hid (Below w.heap.size w wr)) (fun i _ => s.size - (intOf i).toNat)
  case atStart => exact ⟨0, by omega, rfl, by rw [show lowK s.data.toList 0 = s.data.toList by simp [lowK]]; exact HM, HB⟩
  case round =>
    clear HM HB
    obtain ⟨k, hk, rfl, HM, HB⟩ := hrel
    by_cases hlt : k < s.size
    · have hcf := HM.out k (by rw [lowK_len, lst_len]; exact hlt)
      rw [lowK_at hlt] at hcf
      obtain ⟨hc, hf⟩ := hcf
      unfold bv at hc
      obtain ⟨c1, c2⟩ := byte_lt s[k]
      by_cases hu : 65 ≤ (s[k].toNat : Int) ∧ (s[k].toNat : Int) ≤ 90
      · have hl : lowB s[k] = UInt8.ofNat (s[k].toNat + 32) := if_pos (by omega)
        have HL := Lib.hid hl
        obtain ⟨u1, u2⟩ := hu
        clear hl
        go_wp2
        go_roundw
        case rel =>
          refine ⟨k + 1, by omega, by go_num, ?_, HB.out.setCell (Nat.le_refl _) _⟩
          have := HM.out.set_ (k := k) (by rw [lowK_len, lst_len]; exact hlt) (lowB s[k])
          rw [lowK_step hlt, HL.out] at this
          have e : bv (UInt8.ofNat (s[k].toNat + 32)) = .int .u8 ((s[k].toNat : Int) + 32) := by unfold bv; rw [toNat_of _ (by omega)]; rfl
          rw [e] at this
          exact this
        case measure => simp [intOf]; omega
      · have hl : lowB s[k] = s[k] := if_neg (by omega)
        have hm : MB wr w.heap.size (lowK s.data.toList (k + 1)) := by
          have h1 := HM.out
          rw [← lowK_step hlt, hl]
          have h2 := set_same (l := lowK s.data.toList k) (k := k) (by rw [lowK_len, lst_len]; exact hlt)
          rw [lowK_at hlt] at h2
          rw [h2]; exact h1
        have HM1 := Lib.hid hm
        clear hl hm
        have hu2 : (s[k].toNat : Int) < 65 ∨ 90 < (s[k].toNat : Int) := by omega
        clear hu
        rcases hu2 with hu2 | hu2
        all_goals
          go_wp2
          all_goals go_roundw
          all_goals first | exact ⟨k + 1, by omega, by go_num, HM1, HB⟩ | (simp [intOf]; omega)
    · have h := HM.out
      rw [lowK_all (by omega)] at h
      have hcv := mb_str h (n := s.size) (by rw [List.length_map, lst_len]) c
      clear h
      go_wp2
      go_ret
      exact ⟨rfl, HB.out⟩

/-- made small if it is one of the first k capitals -/
def lowAt (b : UInt8) (k : Nat) : UInt8 := if 65 ≤ b.toNat ∧ b.toNat < 65 + k then UInt8.ofNat (b.toNat + 32) else b
theorem low_26 (b : UInt8) : lowAt b 26 = lowB b := by
  unfold lowAt lowB
  by_cases h : 65 ≤ b.toNat ∧ b.toNat ≤ 90
  · rw [if_pos h, if_pos (by omega)]
  · rw [if_neg h, if_neg (by omega)]
theorem lowAt_hit {b : UInt8} {k : Nat} (h : b.toNat = 65 + k) : lowAt b (k + 1) = UInt8.ofNat (97 + k) := by
  unfold lowAt; rw [if_pos (by omega)]; congr 1; omega
theorem lowAt_miss {b : UInt8} {k : Nat} (h : ¬ b.toNat = 65 + k) : lowAt b (k + 1) = lowAt b k := by
  unfold lowAt
  by_cases h2 : 65 ≤ b.toNat ∧ b.toNat < 65 + k
  · rw [if_pos h2, if_pos (by omega)]
  · rw [if_neg h2, if_neg (by omega)]
theorem caps_size : (ByteArray.mk #[65, 66, 67, 68, 69, 70, 71, 72, 73, 74, 75, 76, 77, 78, 79, 80, 81, 82, 83, 84, 85, 86, 87, 88, 89, 90]).size = 26 := rfl
theorem smalls_size : (ByteArray.mk #[97, 98, 99, 100, 101, 102, 103, 104, 105, 106, 107, 108, 109, 110, 111, 112, 113, 114, 115, 116, 117, 118, 119, 120, 121, 122]).size = 26 := rfl
theorem caps_fin : ∀ k : Fin 26, ((ByteArray.mk #[65, 66, 67, 68, 69, 70, 71, 72, 73, 74, 75, 76, 77, 78, 79, 80, 81, 82, 83, 84, 85, 86, 87, 88, 89, 90])[k.val]'(by rw [caps_size]; exact k.isLt)).toNat = 65 + k.val := by decide
theorem smalls_fin : ∀ k : Fin 26, (ByteArray.mk #[97, 98, 99, 100, 101, 102, 103, 104, 105, 106, 107, 108, 109, 110, 111, 112, 113, 114, 115, 116, 117, 118, 119, 120, 121, 122])[k.val]'(by rw [smalls_size]; exact k.isLt) = UInt8.ofNat (97 + k.val) := by decide
theorem caps_at (k : Nat) (h : k < 26) : ((ByteArray.mk #[65, 66, 67, 68, 69, 70, 71, 72, 73, 74, 75, 76, 77, 78, 79, 80, 81, 82, 83, 84, 85, 86, 87, 88, 89, 90])[k]'(by rw [caps_size]; exact h)).toNat = 65 + k := caps_fin ⟨k, h⟩
theorem smalls_ext (k : Nat) (h : k < 26) : (ByteArray.mk #[97, 98, 99, 100, 101, 102, 103, 104, 105, 106, 107, 108, 109, 110, 111, 112, 113, 114, 115, 116, 117, 118, 119, 120, 121, 122]).extract k (k + 1) = str [UInt8.ofNat (97 + k)] := by
  apply lst_inj; rw [ext_one _ k (by rw [smalls_size]; exact h), lst_mk, smalls_fin ⟨k, h⟩]

set_option maxHeartbeats 1000000 in
theorem Low_any (s : ByteArray) (w : World) (hs : s.size ≤ 140737488355320) :
    Calls Tryd.prog 25 #[.string s] w fun e w' => e = .returned (.string (str (s.data.toList.map lowB))) ∧ ∃ q, w' = w.drewN q := by
  go_enter Tryd.func25, Tryd.ntmps25
  go_wp2
  go_loopw [3, 4] (fun v i wr => ∃ k : Nat, k ≤ s.size ∧ i = .int .i64 k ∧ v = .string (str ((s.data.toList.take k).map lowB)) ∧ ∃ q, wr = w.drewN q) (fun _ i _ => s.size - (intOf i).toNat)
  case atStart => exact ⟨0, by omega, rfl, rfl, 0, rfl⟩
  case round =>
    obtain ⟨k, hk, rfl, rfl, q, rfl⟩ := hrel
    obtain ⟨L, hL⟩ : ∃ L, L = (s.data.toList.take k).map lowB := ⟨_, rfl⟩
    have hlen : (str L).size ≤ k := by rw [size_str, hL, List.length_map, take_len s k hk]; omega
    rw [← hL]
    have HL := Lib.hid hL
    clear hL
    by_cases hlt : k < s.size
    · obtain ⟨c1, c2⟩ := byte_lt s[k]
      have i1 : (0 : Int) ≤ k ∧ (k : Int) < s.size := by omega
      go_wp2
      go_loopw [5, 6] (fun c j wr => ∃ m : Nat, m ≤ 26 ∧ j = .int .i64 m ∧ c = .string (str [lowAt s[k] m]) ∧ ∃ q, wr = w.drewN q) (fun _ j _ => 26 - (intOf j).toNat)
      case atStart => exact ⟨0, by omega, rfl, ret_s (by apply lst_inj; rw [ext_one s k hlt, lst_mk]; unfold lowAt; rw [if_neg (by omega)]), q, rfl⟩
      case round =>
        obtain ⟨m, hm, rfl, rfl, q2, rfl⟩ := hrel
        by_cases hmt : m < 26
        · have i2 : (0 : Int) ≤ m ∧ (m : Int) < 26 := by omega
          by_cases he : s[k].toNat = 65 + m
          · have e1 : ((s[k].toNat : Int) == (((ByteArray.mk #[65, 66, 67, 68, 69, 70, 71, 72, 73, 74, 75, 76, 77, 78, 79, 80, 81, 82, 83, 84, 85, 86, 87, 88, 89, 90])[m]'(by rw [caps_size]; exact hmt)).toNat : Int)) = true := by rw [caps_at m hmt, beq_iff_eq]; omega
            have HA := Lib.hid (lowAt_hit he)
            clear he
            go_wp2
            go_quiet (fail)
            go_wp2
            go_roundw
            case rel => exact ⟨m + 1, by omega, by go_num, ret_s (by rw [HA.out, smalls_ext m hmt]), _, rfl⟩
            case measure => simp [intOf]; omega
          · have e1 : ((s[k].toNat : Int) == (((ByteArray.mk #[65, 66, 67, 68, 69, 70, 71, 72, 73, 74, 75, 76, 77, 78, 79, 80, 81, 82, 83, 84, 85, 86, 87, 88, 89, 90])[m]'(by rw [caps_size]; exact hmt)).toNat : Int)) = false := by rw [caps_at m hmt, beq_eq_false_iff_ne]; omega
            have HA := Lib.hid (lowAt_miss he)
            clear he
            go_wp2
            go_quiet (fail)
            go_wp2
            go_roundw
            case rel => exact ⟨m + 1, by omega, by go_num, by rw [HA.out], _, rfl⟩
            case measure => simp [intOf]; omega
        · have hm26 : lowAt s[k] m = lowB s[k] := by rw [show m = 26 from by omega, low_26]
          have HM := Lib.hid hm26
          have h1 : (str [lowAt s[k] m]).size ≤ 1 := by rw [size_str]; simp
          clear hm26
          go_wp2
          go_roundw
          case rel => exact ⟨k + 1, by omega, by go_num, ret_s (by rw [cat_str, HM.out, take_snoc s k hlt, List.map_append, ← HL.out]; rfl), q2, rfl⟩
          case measure => simp [intOf]; omega
    · go_wp2
      go_ret
      exact ⟨ret_str (by rw [HL.out, take_all s (by omega)]), q, rfl⟩
end Go.Proofs.YthfolopnjmkllaaDoor
