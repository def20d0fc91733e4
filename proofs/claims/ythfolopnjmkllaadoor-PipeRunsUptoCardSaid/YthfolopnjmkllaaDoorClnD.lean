/- Walk: wickref.Cmd. -/
import Derived.Test.YthfolopnjmkllaaDoorClnC
namespace Go.Proofs.YthfolopnjmkllaaDoor
open Go.RowKit
set_option linter.unusedVariables false
set_option linter.unusedSimpArgs false

theorem hasb_spc (b : UInt8) : hasb (b.toNat : Int) [44, 59] = decide (b = 44 ∨ b = 59) := by
  unfold hasb
  rw [Bool.eq_iff_iff]
  simp only [List.any_cons, List.any_nil, Bool.or_eq_true, decide_eq_true_eq, Bool.or_false]
  have e44 : (44 : UInt8).toNat = 44 := rfl
  have e59 : (59 : UInt8).toNat = 59 := rfl
  constructor
  · rintro (h | h)
    · exact .inl (UInt8.toNat_inj.1 (by omega))
    · exact .inr (UInt8.toNat_inj.1 (by omega))
  · rintro (h | h)
    · exact .inl (by rw [h])
    · exact .inr (by rw [h])
theorem at1_res (s : ByteArray) (k : Nat) (c : UInt8) (v : Bool) (hv : decide (s.data.toList[k + 1]? = some c) = v) (hs : s.size ≤ 140737488355320) (hk : k ≤ s.size) (w : World) :
    Calls Tryd.prog 64 #[.string s, .int .i64 ((k : Int) + 1), .string ⟨#[c]⟩] w fun e w' => e = .returned (.bool v) ∧ w = w' := by
  have := at_any s ⟨#[c]⟩ ((k : Int) + 1) w (by omega) (by show 1 ≤ _; decide) (by omega) (by omega)
  rw [show (ByteArray.mk #[c]).data.toList = [c] from rfl, atB_one, hv] at this
  exact this

set_option maxHeartbeats 2000000 in
theorem Cmd_any (s : ByteArray) (w : World) (hs : s.size ≤ 140737488355320) :
    Calls Tryd.prog 39 #[.string s] w fun e w' => e = .returned (.string (str (cmdF s.data.toList))) ∧ ∃ q, w' = w.drewN q := by
  obtain ⟨A, hA⟩ : ∃ A : ByteArray, A = str (wo (ByteArray.mk #[92, 34, 39, 94]).data.toList s.data.toList s.size) := ⟨_, rfl⟩
  have hAl : A.data.toList = wo [92, 34, 39, 94] s.data.toList s.data.toList.length := by rw [hA, lst_mk, lst_len]
  have hAs : A.size ≤ s.size := by rw [← lst_len A, hAl]; have := wo_le [92, 34, 39, 94] s.data.toList s.data.toList.length; rw [lst_len] at this ⊢; exact this
  obtain ⟨M, hM⟩ : ∃ M : ByteArray, M = str (A.data.toList.map spc) := ⟨_, rfl⟩
  have hMl : M.data.toList = cmdM s.data.toList := by rw [hM, lst_mk, hAl]; rfl
  have hMs : M.size ≤ s.size := by rw [← lst_len M, hMl, ← lst_len s]; exact (cmd_le _).1
  obtain ⟨Q, hQ⟩ : ∃ Q : ByteArray, Q = str (sqz M.data.toList M.size) := ⟨_, rfl⟩
  have hQl : Q.data.toList = cmdQ s.data.toList := by rw [hQ, lst_mk, ← lst_len M, hMl]; rfl
  have hQs : Q.size ≤ s.size := by rw [← lst_len Q, hQl, ← lst_len s]; exact (cmd_le _).2
  have HA := Lib.hid hA
  have HM := Lib.hid hM
  have HQ := Lib.hid hQ
  have HQL := Lib.hid hQl
  clear hA hM hQ hAl hMl hQl
  go_enter Tryd.func39, Tryd.ntmps39
  go_wp2_with fail
  refine (Without_any s ⟨#[92, 34, 39, 94]⟩ _ hs (by decide)).mono ?_
  rintro e w1 ⟨rfl, rfl⟩
  rw [← HA.out]
  go_wp2_with fail
  go_loop [4, 5] (fun v i => ∃ k : Nat, k ≤ A.size ∧ i = .int .i64 k ∧ v = .string (str ((A.data.toList.take k).map spc))) (fun _ i => A.size - (intOf i).toNat)
  case atStart => exact ⟨0, by omega, rfl, rfl⟩
  case round =>
    obtain ⟨k, hk, rfl, rfl⟩ := hrel
    obtain ⟨L, hL⟩ : ∃ L, L = (A.data.toList.take k).map spc := ⟨_, rfl⟩
    have hlen : L.length ≤ k := by rw [hL, List.length_map, take_len A k hk]; omega
    have hls : (str L).size ≤ k := by rw [size_str]; exact hlen
    rw [← hL]
    have HL := Lib.hid hL
    clear hL
    by_cases hlt : k < A.size
    · obtain ⟨c1, c2⟩ := byte_lt A[k]
      have i1 : (0 : Int) ≤ k ∧ (k : Int) < A.size := by omega
      by_cases hc : A[k] = 44 ∨ A[k] = 59
      · have CW := Lib.hid (fun w => in_res (A[k].toNat : Int) ⟨#[44, 59]⟩ true (by rw [show (ByteArray.mk #[44, 59]).data.toList = [44, 59] from rfl, hasb_spc, decide_eq_true hc]) w (by decide) c1 c2)
        have HS : Hid (spc A[k] = 32) := if_pos hc
        clear hc
        go_wp2_with fail
        refine (CW.out _).mono ?_
        rintro e w' ⟨rfl, rfl⟩
        go_wp2_with fail
        go_round
        case rel => exact ⟨k + 1, by omega, by go_num, ret_s (by rw [take_snoc A k hlt, List.map_append, ← HL.out, List.map_cons, List.map_nil, HS.out]; exact cat_str L [32])⟩
        case measure => simp [intOf]; omega
      · have CW := Lib.hid (fun w => in_res (A[k].toNat : Int) ⟨#[44, 59]⟩ false (by rw [show (ByteArray.mk #[44, 59]).data.toList = [44, 59] from rfl, hasb_spc, decide_eq_false hc]) w (by decide) c1 c2)
        have HS : Hid (spc A[k] = A[k]) := if_neg hc
        clear hc
        go_wp2_with fail
        refine (CW.out _).mono ?_
        rintro e w' ⟨rfl, rfl⟩
        go_wp2_with fail
        go_round
        case rel => exact ⟨k + 1, by omega, by go_num, ret_s (by rw [take_snoc A k hlt, List.map_append, ← HL.out, List.map_cons, List.map_nil, HS.out]; exact cat_ext1 L A k hlt)⟩
        case measure => simp [intOf]; omega
    · have hLM : str L = M := by rw [HL.out, take_all A (by omega), ← HM.out]
      rw [hLM]
      clear hLM hls hlen
      go_wp2_with fail
      refine (Squeeze_any M _ (by omega)).mono ?_
      rintro e w3 ⟨rfl, rfl⟩
      rw [← HQ.out]
      go_wp2_with fail
      go_loop [6, 7] (fun v i => ∃ k : Nat, k ≤ Q.size ∧ i = .int .i64 k ∧ v = .string (str (cm2 Q.data.toList k))) (fun _ i => Q.size - (intOf i).toNat)
      case atStart => exact ⟨0, by omega, rfl, rfl⟩
      case round =>
        clear HL
        obtain ⟨k, hk, rfl, rfl⟩ := hrel
        have hlen := cm2_le Q.data.toList k
        obtain ⟨L, hL⟩ : ∃ L, L = cm2 Q.data.toList k := ⟨_, rfl⟩
        rw [← hL] at hlen ⊢
        have hls : (str L).size ≤ k := by rw [size_str]; exact hlen
        have HL := Lib.hid hL
        clear hL
        by_cases hlt : k < Q.size
        · obtain ⟨c1, c2⟩ := byte_lt Q[k]
          have i1 : (0 : Int) ≤ k ∧ (k : Int) < Q.size := by omega
          by_cases h32 : Q[k] = 32
          · have e32 : ((Q[k].toNat : Int) != 32) = false := byte_neqf (c := 32) h32
            have hsk : skp Q.data.toList k = (decide (Q.data.toList[k + 1]? = some 47) || decide (Q.data.toList[k + 1]? = some 40)) := by unfold skp; rw [getD_s Q k hlt]; simp [h32]
            clear h32
            cases v47 : decide (Q.data.toList[k + 1]? = some 47) with
            | true =>
              have C1 := Lib.hid (fun w => at1_res Q k 47 true v47 (by omega) hk w)
              have HK := Lib.hid (cm2_drop (s := Q) (k := k) (by rw [hsk, v47]; rfl))
              clear hsk v47
              go_wp2_with fail
              refine (C1.out _).mono ?_
              rintro e w' ⟨rfl, rfl⟩
              go_wp2_with fail
              go_round
              case rel => exact ⟨k + 1, by omega, by go_num, by rw [HK.out, HL.out]⟩
              case measure => simp [intOf]; omega
            | false =>
              have C1 := Lib.hid (fun w => at1_res Q k 47 false v47 (by omega) hk w)
              cases v40 : decide (Q.data.toList[k + 1]? = some 40) with
              | true =>
                have C2 := Lib.hid (fun w => at1_res Q k 40 true v40 (by omega) hk w)
                have HK := Lib.hid (cm2_drop (s := Q) (k := k) (by rw [hsk, v47, v40]; rfl))
                clear hsk v47 v40
                go_wp2_with fail
                refine (C1.out _).mono ?_
                rintro e w' ⟨rfl, rfl⟩
                go_wp2_with fail
                refine (C2.out _).mono ?_
                rintro e w' ⟨rfl, rfl⟩
                go_wp2_with fail
                go_round
                case rel => exact ⟨k + 1, by omega, by go_num, by rw [HK.out, HL.out]⟩
                case measure => simp [intOf]; omega
              | false =>
                have C2 := Lib.hid (fun w => at1_res Q k 40 false v40 (by omega) hk w)
                have HK := Lib.hid (cm2_keep (s := Q) (k := k) hlt (by rw [hsk, v47, v40]; rfl))
                clear hsk v47 v40
                go_wp2_with fail
                refine (C1.out _).mono ?_
                rintro e w' ⟨rfl, rfl⟩
                go_wp2_with fail
                refine (C2.out _).mono ?_
                rintro e w' ⟨rfl, rfl⟩
                go_wp2_with fail
                go_round
                case rel => exact ⟨k + 1, by omega, by go_num, ret_s (by rw [HK.out, ← HL.out]; exact cat_ext1 L Q k hlt)⟩
                case measure => simp [intOf]; omega
          · have e32 : ((Q[k].toNat : Int) != 32) = true := byte_neq (c := 32) h32
            have HK := Lib.hid (cm2_keep (s := Q) (k := k) hlt (skp_no hlt h32))
            clear h32
            go_wp2_with fail
            go_round
            case rel => exact ⟨k + 1, by omega, by go_num, ret_s (by rw [HK.out, ← HL.out]; exact cat_ext1 L Q k hlt)⟩
            case measure => simp [intOf]; omega
        · obtain rfl : k = Q.size := by omega
          have CL := Lib.hid (fun w => Low_any (str L) w (by omega))
          go_wp2_with fail
          refine (CL.out _).mono ?_
          rintro e w4 ⟨rfl, q, rfl⟩
          have HF : Hid (str ((str L).data.toList.map lowB) = str (cmdF s.data.toList)) := by show _ = _; rw [lst_mk, HL.out, ← lst_len Q, HQL.out]; rfl
          go_wp2_with fail
          go_ret
          exact ⟨ret_str HF.out, q, rfl⟩
end Go.Proofs.YthfolopnjmkllaaDoor
