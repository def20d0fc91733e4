/- Walks: multi.right, wickref.IsBoundary, multi.front. -/
import Derived.Test.YtaepbpdcfmklpaaDoorIdx
import Derived.Test.YtaepbpdcfmklpaaDoorDec
import Derived.Test.YtaepbpdcfmklpaaDoorTxtA
namespace Go.Proofs.YtaepbpdcfmklpaaDoor
open Go.RowKit
set_option linter.unusedVariables false
set_option linter.unusedSimpArgs false

section
variable (p : UInt8 → Bool)
theorem al_step {s : ByteArray} {k : Nat} (h : k < s.size) (h1 : (s.data.toList.take k).all p = true) (h2 : p s[k] = true) : (s.data.toList.take (k + 1)).all p = true := by
  rw [take_snoc s k h, List.all_append, h1]; simp [h2]
theorem al_hit {s : ByteArray} {k : Nat} (h : k < s.size) (h2 : p s[k] = false) : s.data.toList.all p = false := by
  rw [List.all_eq_false]
  exact ⟨s[k], by rw [← lst_get s k h]; exact List.getElem_mem _, by rw [h2]; decide⟩
theorem al_end {s : ByteArray} {k : Nat} (h : s.size ≤ k) (h1 : (s.data.toList.take k).all p = true) : s.data.toList.all p = true := by
  rw [take_all s h] at h1; exact h1
end
/-- a byte of a boundary -/
def bndB (b : UInt8) : Bool := (65 ≤ b.toNat && b.toNat ≤ 90) || (97 ≤ b.toNat && b.toNat ≤ 122) || (48 ≤ b.toNat && b.toNat ≤ 57) || ([39, 43, 95, 45, 46] : List UInt8).contains b
def bndL (s : ByteArray) : Bool := s.data.toList.all bndB && decide (1 ≤ s.size ∧ s.size ≤ 70)
theorem bnd_bad {s : ByteArray} (h : s.data.toList.all bndB = false) : bndL s = false := by unfold bndL; rw [h]; rfl
theorem bnd_all {s : ByteArray} (h : s.data.toList.all bndB = true) : bndL s = decide (1 ≤ s.size ∧ s.size ≤ 70) := by unfold bndL; rw [h]; rfl
theorem bnd_size {s : ByteArray} (h : bndL s = true) : 1 ≤ s.size ∧ s.size ≤ 70 := by
  unfold bndL at h
  rw [Bool.and_eq_true, decide_eq_true_eq] at h
  exact h.2
theorem bnd_cases : ∀ b : UInt8,
    (bndB b = true ∧ 97 ≤ bits .or .u8 (b.toNat : Int) 32 ∧ bits .or .u8 (b.toNat : Int) 32 ≤ 122) ∨
    (bndB b = true ∧ bits .or .u8 (b.toNat : Int) 32 < 97 ∧ 48 ≤ (b.toNat : Int) ∧ (b.toNat : Int) ≤ 57) ∨
    (bndB b = true ∧ bits .or .u8 (b.toNat : Int) 32 < 97 ∧ (b.toNat : Int) < 48 ∧ 0 ≤ ixb [39, 43, 95, 45, 46] (b.toNat : Int)) ∨
    (bndB b = true ∧ bits .or .u8 (b.toNat : Int) 32 < 97 ∧ 48 ≤ (b.toNat : Int) ∧ 57 < (b.toNat : Int) ∧ 0 ≤ ixb [39, 43, 95, 45, 46] (b.toNat : Int)) ∨
    (bndB b = true ∧ 97 ≤ bits .or .u8 (b.toNat : Int) 32 ∧ 122 < bits .or .u8 (b.toNat : Int) 32 ∧ 57 < (b.toNat : Int) ∧ 0 ≤ ixb [39, 43, 95, 45, 46] (b.toNat : Int)) ∨
    (bndB b = true ∧ 97 ≤ bits .or .u8 (b.toNat : Int) 32 ∧ 122 < bits .or .u8 (b.toNat : Int) 32 ∧ (b.toNat : Int) < 48 ∧ 0 ≤ ixb [39, 43, 95, 45, 46] (b.toNat : Int)) ∨
    (bndB b = false ∧ bits .or .u8 (b.toNat : Int) 32 < 97 ∧ (b.toNat : Int) < 48 ∧ ixb [39, 43, 95, 45, 46] (b.toNat : Int) < 0) ∨
    (bndB b = false ∧ bits .or .u8 (b.toNat : Int) 32 < 97 ∧ 48 ≤ (b.toNat : Int) ∧ 57 < (b.toNat : Int) ∧ ixb [39, 43, 95, 45, 46] (b.toNat : Int) < 0) ∨
    (bndB b = false ∧ 97 ≤ bits .or .u8 (b.toNat : Int) 32 ∧ 122 < bits .or .u8 (b.toNat : Int) 32 ∧ 57 < (b.toNat : Int) ∧ ixb [39, 43, 95, 45, 46] (b.toNat : Int) < 0) ∨
    (bndB b = false ∧ 97 ≤ bits .or .u8 (b.toNat : Int) 32 ∧ 122 < bits .or .u8 (b.toNat : Int) 32 ∧ (b.toNat : Int) < 48 ∧ ixb [39, 43, 95, 45, 46] (b.toNat : Int) < 0) := all_bytes (by decide +kernel)
theorem hasb_bnd : ∀ b : UInt8, hasb b.toNat (lst ⟨([97, 98, 99, 100, 101, 102, 103, 104, 105, 106, 107, 108, 109, 110, 111, 112, 113, 114, 115, 116, 117, 118, 119, 120, 121, 122, 65, 66, 67, 68, 69, 70, 71].append [72, 73, 74, 75, 76, 77, 78, 79, 80, 81, 82, 83, 84, 85, 86, 87, 88, 89, 90, 48, 49, 50, 51, 52, 53, 54, 55, 56, 57, 39, 43, 95, 45, 46]).toArray⟩) = bndB b := all_bytes (by decide +kernel)

set_option maxHeartbeats 1000000 in
theorem right_any (s : ByteArray) (w : World) (hs : s.size ≤ 140737488355328) :
    Calls Tryd.prog 79 #[.string s] w fun e w' => e = .returned (.bool (bndL s)) ∧ w = w' := by
  go_enter Tryd.func79, Tryd.ntmps79
  go_wp2
  go_loop [8] (fun i => ∃ k : Nat, k ≤ s.size ∧ i = .int .i64 k ∧ Hid ((s.data.toList.take k).all bndB = true)) (fun i => s.size - (intOf i).toNat)
  case atStart => exact ⟨0, by omega, rfl, rfl⟩
  case round =>
    obtain ⟨k, hk, rfl, HE⟩ := hrel
    by_cases hlt : k < s.size
    · obtain ⟨c1, c2⟩ := byte_lt s[k]
      have HC := Lib.hid (bnd_cases s[k])
      cases htk : bndB s[k] with
      | true =>
        have HN := Lib.hid (al_step bndB hlt HE.out htk)
        have HK := Lib.hid htk
        clear htk
        rcases HC.out with h | h | h | h | h | h | h | h | h | h
        all_goals first | (exfalso; have := h.1; rw [HK.out] at this; cases this; done) | replace h := h.2
        all_goals
          go_wp2_with (go_at_call 83; refine (indexByte_any _ [39, 43, 95, 45, 46] rfl _ _).mono ?_; rintro e w' ⟨rfl, rfl⟩)
        all_goals go_round
        all_goals first | exact ⟨k + 1, by omega, by go_num, HN⟩ | (simp [intOf]; omega)
      | false =>
        have HN := Lib.hid (bnd_bad (al_hit bndB hlt htk))
        have HK := Lib.hid htk
        clear htk
        rcases HC.out with h | h | h | h | h | h | h | h | h | h
        all_goals first | (exfalso; have := h.1; rw [HK.out] at this; cases this; done) | replace h := h.2
        all_goals
          go_wp2_with (go_at_call 83; refine (indexByte_any _ [39, 43, 95, 45, 46] rfl _ _).mono ?_; rintro e w' ⟨rfl, rfl⟩)
        all_goals first | (go_ret; exact ⟨ret_bool HN.out.symm, rfl⟩) | (exfalso; rename_i hx; simp at hx; omega)
    · have HN := Lib.hid (bnd_all (al_end bndB (by omega) HE.out))
      by_cases z1 : 1 ≤ s.size
      · have y1 : (1 : Int) ≤ (s.size : Int) := by omega
        by_cases z2 : s.size ≤ 70
        · have y2 : (s.size : Int) ≤ 70 := by omega
          go_wp2
          go_ret
          exact ⟨ret_bool (by rw [HN.out]; exact (decide_eq_true ⟨z1, z2⟩).symm), rfl⟩
        · have y2 : ¬ (s.size : Int) ≤ 70 := by omega
          go_wp2
          go_ret
          exact ⟨ret_bool (by rw [HN.out]; exact (decide_eq_false fun h => z2 h.2).symm), rfl⟩
      · have y1 : ¬ (1 : Int) ≤ (s.size : Int) := by omega
        go_wp2
        go_ret
        exact ⟨ret_bool (by rw [HN.out]; exact (decide_eq_false fun h => z1 h.1).symm), rfl⟩

set_option maxHeartbeats 1000000 in
theorem isBnd_any (s : ByteArray) (w : World) (hs : s.size ≤ 140737488355328) :
    Calls Tryd.prog 55 #[.string s] w fun e w' => e = .returned (.bool (bndL s)) ∧ w = w' := by
  go_enter Tryd.func55, Tryd.ntmps55
  go_wp2
  go_loop [3] (fun i => ∃ k : Nat, k ≤ s.size ∧ i = .int .i64 k ∧ Hid ((s.data.toList.take k).all bndB = true)) (fun i => s.size - (intOf i).toNat)
  case atStart => exact ⟨0, by omega, rfl, rfl⟩
  case round =>
    obtain ⟨k, hk, rfl, HE⟩ := hrel
    by_cases hlt : k < s.size
    · obtain ⟨c1, c2⟩ := byte_lt s[k]
      have HT := Lib.hid (hasb_bnd s[k])
      cases htk : bndB s[k] with
      | true =>
        have HN := Lib.hid (al_step bndB hlt HE.out htk)
        have HK := Lib.hid htk
        clear htk
        go_wp2_with (go_at_call 82; go_must (refine (in_res _ _ _ (HT.out.trans HK.out) _ (by decide) c1 c2).mono ?_; rintro e w' ⟨rfl, rfl⟩))
        go_round
        case rel => exact ⟨k + 1, by omega, by go_num, HN⟩
        case measure => simp [intOf]; omega
      | false =>
        have HN := Lib.hid (bnd_bad (al_hit bndB hlt htk))
        have HK := Lib.hid htk
        clear htk
        go_wp2_with (go_at_call 82; go_must (refine (in_res _ _ _ (HT.out.trans HK.out) _ (by decide) c1 c2).mono ?_; rintro e w' ⟨rfl, rfl⟩))
        go_ret
        exact ⟨ret_bool HN.out.symm, rfl⟩
    · have HN := Lib.hid (bnd_all (al_end bndB (by omega) HE.out))
      by_cases z1 : 1 ≤ s.size
      · have y1 : (1 : Int) ≤ (s.size : Int) := by omega
        by_cases z2 : s.size ≤ 70
        · have y2 : (s.size : Int) ≤ 70 := by omega
          go_wp2
          go_ret
          exact ⟨ret_bool (by rw [HN.out]; exact (decide_eq_true ⟨z1, z2⟩).symm), rfl⟩
        · have y2 : ¬ (s.size : Int) ≤ 70 := by omega
          go_wp2
          go_ret
          exact ⟨ret_bool (by rw [HN.out]; exact (decide_eq_false fun h => z2 h.2).symm), rfl⟩
      · have y1 : ¬ (1 : Int) ≤ (s.size : Int) := by omega
        go_wp2
        go_ret
        exact ⟨ret_bool (by rw [HN.out]; exact (decide_eq_false fun h => z1 h.1).symm), rfl⟩
/-- has s, in small letters, the front p? -/
def frontB (s p : ByteArray) : Bool := decide (p.size ≤ s.size) && ((s.data.toList.take p.size).map lowB == p.data.toList)
/-- what is left of s behind it -/
def frontS (s p : ByteArray) : ByteArray := if frontB s p = true then s.extract p.size s.size else s
theorem frontS_yes {s p : ByteArray} (h : frontB s p = true) : frontS s p = s.extract p.size s.size := by unfold frontS; rw [if_pos h]
theorem frontS_no {s p : ByteArray} (h : frontB s p = false) : frontS s p = s := by unfold frontS; rw [if_neg (by rw [h]; decide)]
theorem front_any (s p : ByteArray) (w : World) (hs : s.size ≤ 140737488355320) (hp : p.size ≤ 140737488355320) :
    Calls Tryd.prog 78 #[.string s, .string p] w fun e w' => e = .returned (.tuple #[.string (frontS s p), .bool (frontB s p)]) ∧ Below w.heap.size w w' := by
  by_cases h1 : p.size ≤ s.size
  · have d1 : ¬ (s.size : Int) < (p.size : Int) := by omega
    have d2 : (p.size : Int) ≤ (s.size : Int) := by omega
    have C := lower_any (s.extract 0 p.size) w (by rw [ByteArray.size_extract]; omega)
    have e : (s.extract 0 p.size).data.toList = s.data.toList.take p.size := by rw [lst_ext]; simp
    rw [e] at C
    obtain ⟨T, hT⟩ : ∃ T, T = (s.data.toList.take p.size).map lowB := ⟨_, rfl⟩
    rw [← hT] at C
    have hF : frontB s p = (T == p.data.toList) := by unfold frontB; rw [decide_eq_true h1, Bool.true_and, ← hT]
    have C := Lib.hid C
    cases hq : (T == p.data.toList) with
    | true =>
      have q0 : (T == p.toList) = true := by rw [Lib.toList_data]; exact hq
      have q1 : ((str T).toList == p.toList) = true := by rw [Lib.toList_data, Lib.toList_data, lst_mk]; exact hq
      have q2 : ((str T).toList != p.toList) = false := by rw [bne, q1]; rfl
      have HF := Lib.hid (hF.trans hq)
      clear hT hF hq e h1
      go_enter Tryd.func78, Tryd.ntmps78
      go_wp2_with fail
      refine C.out.mono ?_
      rintro e w' ⟨rfl, hb⟩
      have HB := Lib.hid hb
      clear hb
      go_wp2_with fail
      go_ret2
      rw [HF.out, frontS_yes HF.out]
      exact ⟨rfl, HB.out⟩
    | false =>
      have q0 : (T == p.toList) = false := by rw [Lib.toList_data]; exact hq
      have q1 : ((str T).toList == p.toList) = false := by rw [Lib.toList_data, Lib.toList_data, lst_mk]; exact hq
      have q2 : ((str T).toList != p.toList) = true := by rw [bne, q1]; rfl
      have HF := Lib.hid (hF.trans hq)
      clear hT hF hq e h1
      go_enter Tryd.func78, Tryd.ntmps78
      go_wp2_with fail
      refine C.out.mono ?_
      rintro e w' ⟨rfl, hb⟩
      have HB := Lib.hid hb
      clear hb
      go_wp2_with fail
      go_ret2
      rw [HF.out, frontS_no HF.out]
      exact ⟨rfl, HB.out⟩
  · have d1 : (s.size : Int) < (p.size : Int) := by omega
    have HF : Hid (frontB s p = false) := by show _ = _; unfold frontB; rw [decide_eq_false h1]; rfl
    clear h1
    go_enter Tryd.func78, Tryd.ntmps78
    go_wp2_with fail
    go_ret2
    rw [HF.out, frontS_no HF.out]
    exact ⟨rfl, Below.refl _ _⟩
end Go.Proofs.YtaepbpdcfmklpaaDoor
