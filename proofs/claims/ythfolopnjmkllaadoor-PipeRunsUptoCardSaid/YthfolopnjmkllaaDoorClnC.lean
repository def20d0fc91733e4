/- Walks: clean.Cmd, wickref.Cmd. -/
import Derived.Test.YthfolopnjmkllaaDoorClnB
import Derived.Test.YthfolopnjmkllaaDoorTxtB
namespace Go.Proofs.YthfolopnjmkllaaDoor
open Go.RowKit
set_option linter.unusedVariables false
set_option linter.unusedSimpArgs false

def spc (b : UInt8) : UInt8 := if b = 44 ∨ b = 59 then 32 else b
def spcK (l : List UInt8) (k : Nat) : List UInt8 := (l.take k).map spc ++ l.drop k
theorem spcK_len (l : List UInt8) (k : Nat) : (spcK l k).length = l.length := by simp [spcK]; omega
theorem spcK_at {s : ByteArray} {k : Nat} (h : k < s.size) : (spcK s.data.toList k)[k]'(by rw [spcK_len, lst_len]; exact h) = s[k] := by
  unfold spcK
  rw [List.getElem_append_right (by simp; omega)]
  simp only [List.length_map, take_len s k (by omega), Nat.sub_self]
  simp [lst_get s k h]
theorem spcK_step {s : ByteArray} {k : Nat} (h : k < s.size) : (spcK s.data.toList k).set k (spc s[k]) = spcK s.data.toList (k + 1) := by
  unfold spcK
  rw [List.set_append_right _ _ (by simp; omega), List.length_map, take_len s k (by omega), Nat.sub_self, drop_cons s k h, List.set_cons_zero, take_snoc s k h, List.map_append, List.append_assoc]
  rfl
theorem spcK_all {s : ByteArray} {k : Nat} (h : s.size ≤ k) : spcK s.data.toList k = s.data.toList.map spc := by
  unfold spcK; rw [take_all s h, drop_all s h, List.append_nil]

/-- is the byte at place k a space ahead of / or ( ? -/
def skp (l : List UInt8) (k : Nat) : Bool := decide (l.getD k 0 = 32) && (decide (l[k + 1]? = some 47) || decide (l[k + 1]? = some 40))
def cm2 (l : List UInt8) : Nat → List UInt8
  | 0 => []
  | k + 1 => cm2 l k ++ (if skp l k then [] else [l.getD k 0])
theorem cm2_le (l : List UInt8) : ∀ k, (cm2 l k).length ≤ k
  | 0 => Nat.le_refl _
  | k + 1 => by
    have := cm2_le l k
    rw [cm2, List.length_append]
    split <;> simp <;> omega
theorem cm2_keep {s : ByteArray} {k : Nat} (h : k < s.size) (hw : skp s.data.toList k = false) : cm2 s.data.toList (k + 1) = cm2 s.data.toList k ++ [s[k]] := by
  rw [cm2, getD_s s k h, hw]; rfl
theorem cm2_drop {s : ByteArray} {k : Nat} (hw : skp s.data.toList k = true) : cm2 s.data.toList (k + 1) = cm2 s.data.toList k := by
  rw [cm2, hw]; simp
theorem skp_no {s : ByteArray} {k : Nat} (h : k < s.size) (h1 : ¬ s[k] = 32) : skp s.data.toList k = false := by
  unfold skp; rw [getD_s s k h]; simp [h1]
theorem skp_end {s : ByteArray} {k : Nat} (h : s.size ≤ k + 1) : skp s.data.toList k = false := by
  unfold skp; rw [List.getElem?_eq_none (by rw [lst_len]; exact h)]; simp
theorem skp_at {s : ByteArray} {k : Nat} (h : k + 1 < s.size) (h1 : s[k] = 32) : skp s.data.toList k = (decide (s[k+1] = 47) || decide (s[k+1] = 40)) := by
  unfold skp; rw [getD_s s k (by omega), lst_get? s (k+1) h]; simp [h1]
theorem atB_one (s : ByteArray) (k : Nat) (c : UInt8) : atB s.data.toList ((k : Int) + 1) [c] = decide (s.data.toList[k + 1]? = some c) := by
  unfold atB Lib.occAt
  rw [show ((k : Int) + 1).toNat = k + 1 by omega]
  by_cases h : k + 1 < s.size
  · rw [drop_cons s (k+1) h, lst_get? s (k+1) h, decide_eq_true (show (0 : Int) ≤ (k : Int) + 1 by omega), decide_eq_true (show ((k : Int) + 1) ≤ (s.data.toList.length : Nat) by rw [lst_len]; omega)]
    simp only [List.isPrefixOf, Bool.and_true, Option.some.injEq, Bool.true_and]
    rw [Bool.eq_iff_iff, beq_iff_eq, decide_eq_true_eq]
    exact eq_comm
  · rw [drop_all s (by omega), List.getElem?_eq_none (by rw [lst_len]; omega)]
    simp [List.isPrefixOf]

def cmdM (l : List UInt8) : List UInt8 := (wo [92, 34, 39, 94] l l.length).map spc
def cmdQ (l : List UInt8) : List UInt8 := sqz (cmdM l) (cmdM l).length
def cmdF (l : List UInt8) : List UInt8 := (cm2 (cmdQ l) (cmdQ l).length).map lowB
theorem cmd_le (l : List UInt8) : (cmdM l).length ≤ l.length ∧ (cmdQ l).length ≤ l.length := by
  have h1 := wo_le [92, 34, 39, 94] l l.length
  have h2 := sqz_le (cmdM l) (cmdM l).length
  have h3 : (cmdM l).length = (wo [92, 34, 39, 94] l l.length).length := by unfold cmdM; rw [List.length_map]
  unfold cmdQ
  omega

set_option maxHeartbeats 2000000 in
theorem cmd_any (s : ByteArray) (w : World) (hs : s.size ≤ 140737488355320) :
    Calls Tryd.prog 56 #[.string s] w fun e w' => e = .returned (.string (str (cmdF s.data.toList))) ∧ Below w.heap.size w w' := by
  obtain ⟨A, hA⟩ : ∃ A : ByteArray, A = str (wo (ByteArray.mk #[92, 34, 39, 94]).data.toList s.data.toList s.size) := ⟨_, rfl⟩
  have hAl : A.data.toList = wo [92, 34, 39, 94] s.data.toList s.data.toList.length := by rw [hA, lst_mk, lst_len]
  have hAs : A.size ≤ s.size := by rw [← lst_len A, hAl]; have := wo_le [92, 34, 39, 94] s.data.toList s.data.toList.length; rw [lst_len] at this ⊢; exact this
  obtain ⟨M, hM⟩ : ∃ M : ByteArray, M = str (A.data.toList.map spc) := ⟨_, rfl⟩
  have hMl : M.data.toList = cmdM s.data.toList := by rw [hM, lst_mk, hAl]; rfl
  have hMs : M.size ≤ s.size := by rw [← lst_len M, hMl, ← lst_len s]; exact (cmd_le _).1
  obtain ⟨Q, hQ⟩ : ∃ Q : ByteArray, Q = str (sqz M.data.toList M.size) := ⟨_, rfl⟩
  have hQl : Q.data.toList = cmdQ s.data.toList := by rw [hQ, lst_mk, ← lst_len M, hMl]; rfl
  have hQs : Q.size ≤ s.size := by rw [← lst_len Q, hQl, ← lst_len s]; exact (cmd_le _).2
  have HA := Lib.hid hA
  have HM := Lib.hid hM
  have HQ := Lib.hid hQ
  have HQL := Lib.hid hQl
  clear hA hM hQ hAl hMl hQl
  go_enter Tryd.func56, Tryd.ntmps56
  go_wp2_with fail
  refine (without_any s ⟨#[92, 34, 39, 94]⟩ _ hs).mono ?_
  rintro e w1 ⟨rfl, hb1⟩
  rw [← HA.out]
  obtain ⟨c, w2, hconv, hmb, hbl, hz⟩ := mb_make A w1
  have HMB := Lib.hid hmb
  have HB2 := Lib.hid (hb1.trans (hbl.mono hb1.size))
  have hsz1 : w.heap.size ≤ w1.heap.size := hb1.size
  clear hmb hbl hb1
  go_wp2_with fail
  go_loopw [13] (fun i wr => ∃ k : Nat, k ≤ A.size ∧ i = .int .i64 k ∧ Hid (MB wr w1.heap.size (spcK A.data.toList k)) ∧ Hid (Below w.heap.size w wr)) (fun i _ => A.size - (intOf i).toNat)
  case atStart => exact ⟨0, by omega, rfl, by rw [show spcK A.data.toList 0 = A.data.toList by simp [spcK]]; exact HMB, HB2⟩
  case round =>
    clear HMB HB2 hconv
    obtain ⟨k, hk, rfl, HMB, HB⟩ := hrel
    by_cases hlt : k < A.size
    · have hcf := HMB.out k (by rw [spcK_len, lst_len]; exact hlt)
      rw [spcK_at hlt] at hcf
      obtain ⟨hc, hf⟩ := hcf
      unfold bv at hc
      obtain ⟨c1, c2⟩ := byte_lt A[k]
      have HSt : Hid (∀ b, spc A[k] = b → MB (wr.setCell ⟨w1.heap.size, k, none⟩ (bv b)) w1.heap.size (spcK A.data.toList (k + 1))) := by
        intro b hb
        have := HMB.out.set_ (k := k) (by rw [spcK_len, lst_len]; exact hlt) (spc A[k])
        rw [spcK_step hlt, hb] at this
        exact this
      by_cases h44 : A[k] = 44
      · have e44 : ((A[k].toNat : Int) == 44) = true := byte_eq (c := 44) h44
        have HS := Lib.hid (HSt.out 32 (by unfold spc; rw [if_pos (.inl h44)]))
        clear h44
        go_wp2_with fail
        go_roundw
        case rel => exact ⟨k + 1, by omega, by go_num, HS, HB.out.setCell hsz1 _⟩
        case measure => simp [intOf]; omega
      · have e44 : ((A[k].toNat : Int) == 44) = false := byte_ne (c := 44) h44
        by_cases h59 : A[k] = 59
        · have e59 : ((A[k].toNat : Int) == 59) = true := byte_eq (c := 59) h59
          have HS := Lib.hid (HSt.out 32 (by unfold spc; rw [if_pos (.inr h59)]))
          clear h59 h44
          go_wp2_with fail
          go_roundw
          case rel => exact ⟨k + 1, by omega, by go_num, HS, HB.out.setCell hsz1 _⟩
          case measure => simp [intOf]; omega
        · have e59 : ((A[k].toNat : Int) == 59) = false := byte_ne (c := 59) h59
          have hsp : spc A[k] = A[k] := by unfold spc; rw [if_neg (by rintro (h | h); exact h44 h; exact h59 h)]
          have HS : Hid (MB wr w1.heap.size (spcK A.data.toList (k + 1))) := by
            have h1 := HMB.out
            show MB _ _ _
            rw [← spcK_step hlt, hsp]
            have h2 : (spcK A.data.toList k).set k A[k] = spcK A.data.toList k := by
              have h3 := set_same (l := spcK A.data.toList k) (k := k) (by rw [spcK_len, lst_len]; exact hlt)
              rw [spcK_at hlt] at h3; exact h3
            rw [h2]; exact h1
          clear h59 h44 hsp
          go_wp2_with fail
          go_roundw
          case rel => exact ⟨k + 1, by omega, by go_num, HS, HB⟩
          case measure => simp [intOf]; omega
    · have h := HMB.out
      rw [spcK_all (by omega)] at h
      have hcv := mb_str h (n := A.size) (by rw [List.length_map, lst_len]) c
      rw [← HM.out] at hcv
      clear h HMB
      go_wp2_with fail
      refine (squeeze_any M _ (by omega)).mono ?_
      rintro e w3 ⟨rfl, hb3⟩
      rw [← HQ.out]
      have HB3 := Lib.hid (HB.out.trans (hb3.mono HB.out.size))
      clear hb3 hcv HB
      go_wp2_with fail
      go_loopw [6, 33] (fun v i wr => ∃ k : Nat, k ≤ Q.size ∧ i = .int .i64 k ∧ OB wr w.heap.size v (cm2 Q.data.toList k) ∧ Below w.heap.size w wr) (fun _ i _ => Q.size - (intOf i).toNat)
      case atStart => exact ⟨0, by omega, rfl, OB.nil _ _, HB3.out⟩
      case round =>
        obtain ⟨k, hk, rfl, ho, hb⟩ := hrel
        have HO := Lib.hid ho
        have HB := Lib.hid hb
        have hsz := hb.size
        have hlen := cm2_le Q.data.toList k
        clear ho hb HB3
        by_cases hlt : k < Q.size
        · obtain ⟨c1, c2⟩ := byte_lt Q[k]
          by_cases h32 : Q[k] = 32
          · have e32 : ((Q[k].toNat : Int) == 32) = true := byte_eq (c := 32) h32
            by_cases hk1 : k + 1 < Q.size
            · have i1 : (0 : Int) ≤ (k : Int) + 1 := by omega
              have i2 : (k : Int) + 1 < (Q.size : Int) := by omega
              have t1 : ((k : Int) + 1).toNat = k + 1 := by omega
              have d1 : decide ((k : Int) + 1 < (Q.size : Int)) = true := decide_eq_true i2
              have hsk := skp_at hk1 h32
              by_cases h47 : Q[k + 1] = 47
              · have e47 : ((Q[k + 1].toNat : Int) == 47) = true := byte_eq (c := 47) h47
                have HK := Lib.hid (cm2_drop (s := Q) (k := k) (by rw [hsk, decide_eq_true h47]; rfl))
                clear hsk h47 h32
                go_wp2_with fail
                go_roundw
                case rel => exact ⟨k + 1, by omega, by go_num, by rw [HK.out]; exact HO.out, HB.out⟩
                case measure => simp [intOf]; omega
              · have e47 : ((Q[k + 1].toNat : Int) == 47) = false := byte_ne (c := 47) h47
                by_cases h40 : Q[k + 1] = 40
                · have e40 : ((Q[k + 1].toNat : Int) == 40) = true := byte_eq (c := 40) h40
                  have HK := Lib.hid (cm2_drop (s := Q) (k := k) (by rw [hsk, decide_eq_true h40]; simp))
                  clear hsk h47 h32 h40
                  go_wp2_with fail
                  go_roundw
                  case rel => exact ⟨k + 1, by omega, by go_num, by rw [HK.out]; exact HO.out, HB.out⟩
                  case measure => simp [intOf]; omega
                · have e40 : ((Q[k + 1].toNat : Int) == 40) = false := byte_ne (c := 40) h40
                  have HK := Lib.hid (cm2_keep (s := Q) (k := k) hlt (by rw [hsk, decide_eq_false h40, decide_eq_false h47]; rfl))
                  clear hsk h47 h32 h40
                  go_wp2_with (at_builtin; refine wpL_app rfl (.tmp 61) (.tmp 65) rfl HO.out rfl [.int .u8 Q[k].toNat] [Q[k]] rfl rfl (by simp only [List.length_cons, List.length_nil]; omega) hsz ?_; intro v' w9 ho1 hb1)
                  go_roundw
                  case rel => exact ⟨k + 1, by omega, by go_num, by rw [HK.out]; exact ho1, HB.out.trans hb1⟩
                  case measure => simp [intOf]; omega
            · have HK := Lib.hid (cm2_keep (s := Q) (k := k) hlt (skp_end (by omega)))
              have d1 : decide ((k : Int) + 1 < (Q.size : Int)) = false := decide_eq_false (by omega)
              clear h32
              go_wp2_with (at_builtin; refine wpL_app rfl (.tmp 61) (.tmp 65) rfl HO.out rfl [.int .u8 Q[k].toNat] [Q[k]] rfl rfl (by simp only [List.length_cons, List.length_nil]; omega) hsz ?_; intro v' w9 ho1 hb1)
              go_roundw
              case rel => exact ⟨k + 1, by omega, by go_num, by rw [HK.out]; exact ho1, HB.out.trans hb1⟩
              case measure => simp [intOf]; omega
          · have e32 : ((Q[k].toNat : Int) == 32) = false := byte_ne (c := 32) h32
            have HK := Lib.hid (cm2_keep (s := Q) (k := k) hlt (skp_no hlt h32))
            clear h32
            go_wp2_with (at_builtin; refine wpL_app rfl (.tmp 61) (.tmp 65) rfl HO.out rfl [.int .u8 Q[k].toNat] [Q[k]] rfl rfl (by simp only [List.length_cons, List.length_nil]; omega) hsz ?_; intro v' w9 ho1 hb1)
            go_roundw
            case rel => exact ⟨k + 1, by omega, by go_num, by rw [HK.out]; exact ho1, HB.out.trans hb1⟩
            case measure => simp [intOf]; omega
        · obtain rfl : k = Q.size := by omega
          have HS := Lib.hid (ob_str HO.out)
          have hS := HS.out
          have CL := Lib.hid (fun w => lower_any (str (cm2 Q.data.toList Q.size)) w (by rw [size_str]; omega))
          go_wp2_with fail
          refine (CL.out _).mono ?_
          rintro e w4 ⟨rfl, hb4⟩
          have HB4 := Lib.hid (HB.out.trans (hb4.mono HB.out.size))
          have HF : Hid (str ((str (cm2 Q.data.toList Q.size)).data.toList.map lowB) = str (cmdF s.data.toList)) := by show _ = _; rw [lst_mk, ← lst_len Q, HQL.out]; rfl
          clear hb4 hS
          go_wp2_with fail
          go_ret
          exact ⟨ret_str HF.out, HB4.out⟩
end Go.Proofs.YthfolopnjmkllaaDoor
