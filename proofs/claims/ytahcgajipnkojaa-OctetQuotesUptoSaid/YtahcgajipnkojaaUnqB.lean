/- Walks: wickref.Unquote. -/
import Derived.Test.YtahcgajipnkojaaUnqA
import Derived.Test.YtahcgajipnkojaaUrlE
namespace Go.Proofs.Ytahcgajipnkojaa
open Go.RowKit
set_option linter.unusedVariables false
set_option linter.unusedSimpArgs false

def hexT (r : List UInt8) : UInt8 × Nat :=
  match r with
  | b :: c :: _ => if (0 : Int) ≤ ixb loHex (b.toNat : Int) ∧ (0 : Int) ≤ ixb loHex (c.toNat : Int) then (UInt8.ofNat ((16 : Int) * hexv (b.toNat : Int) + hexv (c.toNat : Int)).toNat, 3) else (0, 0)
  | _ => (0, 0)
theorem escAt (s : ByteArray) (k : Nat) (h : k < s.size) : escF (s.data.toList.drop k) =
    if (0 : Int) ≤ ixb [110, 114, 116, 115, 92, 45] (s[k].toNat : Int) then (([10, 13, 9, 32, 92, 45] : List UInt8).getD (ixb [110, 114, 116, 115, 92, 45] (s[k].toNat : Int)).toNat 0, 1) else if s[k] = 120 then hexT (s.data.toList.drop (k + 1)) else (0, 0) := by
  rw [drop_cons s k h]; rfl
theorem hexT_at (s : ByteArray) (k : Nat) (h : k + 1 < s.size) : hexT (s.data.toList.drop k) =
    if (0 : Int) ≤ ixb loHex (s[k].toNat : Int) ∧ (0 : Int) ≤ ixb loHex (s[k+1].toNat : Int) then (UInt8.ofNat ((16 : Int) * hexv (s[k].toNat : Int) + hexv (s[k+1].toNat : Int)).toNat, 3) else (0, 0) := by
  rw [drop_cons s k (by omega), drop_cons s (k + 1) h]; rfl
theorem hexT_short (s : ByteArray) (k : Nat) (h : s.size ≤ k + 1) : hexT (s.data.toList.drop k) = (0, 0) := by
  have hl : (s.data.toList.drop k).length < 2 := by rw [List.length_drop, lst_len]; omega
  match hd : s.data.toList.drop k with
  | [] => rfl
  | [_] => rfl
  | _ :: _ :: _ => rw [hd] at hl; simp at hl; omega
theorem esc_end (s : ByteArray) (k : Nat) (h : s.size ≤ k) : escF (s.data.toList.drop k) = (0, 0) := by rw [drop_all s h]; rfl
theorem unF_yes {s : ByteArray} {k : Nat} (h : k < s.size) (h92 : s[k] = 92) {x : UInt8} {n : Nat} (he : escF (s.data.toList.drop (k + 1)) = (x, n)) (hn : ¬ n = 0) : unF (s.data.toList.drop k) = some (x, n + 1) := by
  rw [unF_at h, if_pos h92, he]; exact if_neg hn
theorem unF_bad {s : ByteArray} {k : Nat} (h : k < s.size) (h92 : s[k] = 92) {x : UInt8} (he : escF (s.data.toList.drop (k + 1)) = (x, 0)) : unF (s.data.toList.drop k) = none := by
  rw [unF_at h, if_pos h92, he]; rfl
theorem fnd_one : ∀ b : UInt8, fndL [110, 114, 116, 115, 92, 45] [b] 0 = ixb [110, 114, 116, 115, 92, 45] (b.toNat : Int) := all_bytes (by decide +kernel)
theorem hasb_lo : ∀ b : UInt8, hasb (b.toNat : Int) [48, 49, 50, 51, 52, 53, 54, 55, 56, 57, 97, 98, 99, 100, 101, 102] = decide ((0 : Int) ≤ ixb loHex (b.toNat : Int)) := all_bytes (by decide +kernel)
theorem Find_res (s t : ByteArray) (i J : Int) (w : World) (hJ : fndL s.data.toList t.data.toList i.toNat = J) (hs : s.size ≤ 140737488355328) (ht : t.size ≤ 140737488355328) (h0 : -9223372036854775808 ≤ i) (h1 : i ≤ 9223372036854775807) :
    Calls Try.prog 49 #[.string s, .string t, .int .i64 i] w fun e w' => e = .returned (.int .i64 J) ∧ w = w' := by
  subst hJ; exact Find_any s t i w hs ht h0 h1
theorem un_ext (k : Nat) (h : k < 6) : (ByteArray.mk #[10, 13, 9, 32, 92, 45]).extract k (k + 1) = str [([10, 13, 9, 32, 92, 45] : List UInt8).getD k 0] := by
  apply lst_inj; rw [ext_one _ k (by rw [un_size]; exact h), lst_mk, un_at k h]
theorem in_lo (b : UInt8) (r : Bool) (hr : decide ((0 : Int) ≤ ixb loHex (b.toNat : Int)) = r) (w : World) :
    Calls Try.prog 73 #[.int .u8 (b.toNat : Int), .string ⟨#[48, 49, 50, 51, 52, 53, 54, 55, 56, 57, 97, 98, 99, 100, 101, 102]⟩] w fun e w' => e = .returned (.bool r) ∧ w = w' := by
  obtain ⟨c1, c2⟩ := byte_lt b
  exact in_res _ _ r ((hasb_lo b).trans hr) w (by decide) c1 c2

set_option maxHeartbeats 8000000 in
set_option maxRecDepth 100000 in
theorem Unquote_any (s : ByteArray) (w : World) (hs : s.size ≤ 140737488355320) :
    Calls Try.prog 35 #[.string s] w fun e w' => e = .returned (.tuple #[.string (str (unqT s.data.toList)), .int .i64 (unqE s.data.toList)]) ∧ Below w.heap.size w w' := by
  by_cases h1 : s.data.toList = [45]
  · have HQ := Lib.hid (show unqT s.data.toList = [] ∧ unqE s.data.toList = 0 by simp [unqT, unqE, h1])
    have e2 := (list_one 45).trans (decide_eq_true h1)
    clear h1
    go_enter Try.func35, Try.ntmps35
    go_wp2
    go_ret2
    exact ⟨by rw [HQ.out.1, HQ.out.2]; rfl, Below.refl _ _⟩
  · have e2 := (list_one 45).trans (decide_eq_false h1)
    have HS := Lib.hid (fun A => unq_some (A := A) h1)
    have HN := Lib.hid (unq_none h1)
    have H0 := Lib.hid (show s.data.toList = [] → unqT s.data.toList = [] ∧ unqE s.data.toList = 3 by intro h; rw [h]; simp [unqT, unqE, decO_nil])
    clear h1
    go_enter Try.func35, Try.ntmps35
    go_wp2_with fail
    go_loopw [4, 5] (fun v i wr => ∃ (k : Nat) (A : List UInt8), k ≤ s.size ∧ A.length ≤ k ∧ i = .int .i64 k ∧ v = .string (str A) ∧ Hid (decO unF s.data.toList = (decO unF (s.data.toList.drop k)).map (A ++ ·)) ∧ Below w.heap.size w wr) (fun _ i _ => s.size - (intOf i).toNat)
    case atStart => exact ⟨0, [], by omega, by simp, rfl, rfl, decO_start _, Below.refl _ _⟩
    case round =>
      obtain ⟨k, A, hk, hA, rfl, rfl, HE, hbl⟩ := hrel
      have hsz := hbl.size
      have HB := Lib.hid hbl
      have hAs : (str A).size ≤ k := by rw [size_str]; omega
      clear hbl
      by_cases hlt : k < s.size
      · obtain ⟨c1, c2⟩ := byte_lt s[k]
        have HF := Lib.hid (unF_at hlt)
        have hne : ¬ s.data.toList = [] := by intro h; have := lst_len s; rw [h] at this; simp at this; omega
        have HN2 := Lib.hid (HN.out hne)
        clear hne
        by_cases h92 : s[k] = 92
        · have e92 : ((s[k].toNat : Int) != 92) = false := byte_neqf (c := 92) h92
          have r92 : 33 ≤ (s[k].toNat : Int) ∧ (s[k].toNat : Int) ≤ 126 := by rw [h92]; decide
          by_cases hk1 : k + 1 < s.size
          · obtain ⟨c3, c4⟩ := byte_lt s[k+1]
            have e1 : ((k : Int) + 1 == s.size) = false := beq_eq_false_iff_ne.2 (by omega)
            have i1 : (0 : Int) ≤ (k : Int) + 1 ∧ (k : Int) + 1 < s.size := by omega
            have hl : (s.extract (k + 1) (k + 2)).data.toList = [s[k+1]] := ext_one s (k + 1) hk1
            have hz2 : (s.extract (k + 1) (k + 2)).size ≤ 1 := by rw [← lst_len, hl]; simp
            have HFnd := Lib.hid (show fndL [110, 114, 116, 115, 92, 45] (s.extract (k + 1) (k + 2)).data.toList (0 : Int).toNat = ixb [110, 114, 116, 115, 92, 45] (s[k+1].toNat : Int) by rw [hl]; exact fnd_one _)
            have HA2 := Lib.hid (escAt s (k + 1) hk1)
            clear hl
            rcases ix_cases s[k+1] with ⟨⟨K, hK⟩, hx⟩ | hx
            · have HD := Lib.hid (decO_some (n := 2) (b := ([10, 13, 9, 32, 92, 45] : List UInt8).getD K 0) hlt (by omega) (unF_yes hlt h92 (HA2.out.trans ((if_pos (by omega)).trans (by rw [hx]; rfl))) (by omega)))
              have HX := Lib.hid (HFnd.out.trans hx)
              have hk6 : (0 : Int) ≤ K ∧ (K : Int) < 6 := by omega
              clear hx h92
              go_wp2_with (go_at_call 49; go_must (refine (Find_res _ _ 0 K _ HX.out (by decide) (by omega) (by omega) (by omega)).mono ?_; rintro e w' ⟨rfl, rfl⟩))
              go_roundw
              case rel => exact ⟨k + 2, A ++ [([10, 13, 9, 32, 92, 45] : List UInt8).getD K 0], by omega, by rw [List.length_append]; simp; omega, by go_num, ret_s (by rw [un_ext K hK, cat_str]), decO_keep HE HD.out, HB.out⟩
              case measure => simp [intOf]; omega
            · have HX := Lib.hid (HFnd.out.trans hx)
              by_cases h120 : s[k+1] = 120
              · have e120 : ((s[k+1].toNat : Int) != 120) = false := byte_neqf (c := 120) h120
                have HA3 := Lib.hid (HA2.out.trans ((if_neg (by omega)).trans (if_pos h120)))
                by_cases hk3 : k + 3 < s.size
                · obtain ⟨c5, c6⟩ := byte_lt s[k+2]
                  obtain ⟨c7, c8⟩ := byte_lt s[k+3]
                  have hk2 : k + 2 < s.size := by omega
                  have i2 : (0 : Int) ≤ (k : Int) + 2 ∧ (k : Int) + 2 < s.size := by omega
                  have i3 : (0 : Int) ≤ (k : Int) + 3 ∧ (k : Int) + 3 < s.size := by omega
                  have d1 := hexv_le s[k+2].toNat
                  have d2 := hexv_ge s[k+2].toNat
                  have d3 := hexv_le s[k+3].toNat
                  have d4 := hexv_ge s[k+3].toNat
                  have HA4 := Lib.hid (HA3.out.trans (hexT_at s (k + 2) hk3))
                  by_cases p1 : (0 : Int) ≤ ixb loHex (s[k+2].toNat : Int)
                  · have HP1 := Lib.hid (decide_eq_true p1)
                    by_cases p2 : (0 : Int) ≤ ixb loHex (s[k+3].toNat : Int)
                    · have HP2 := Lib.hid (decide_eq_true p2)
                      have HD := Lib.hid (decO_some hlt (by omega) (unF_yes hlt h92 (HA4.out.trans (if_pos ⟨p1, p2⟩)) (by omega)))
                      have v1 := lohex_val _ p1
                      have v2 := lohex_val _ p2
                      clear hx h92 h120 p1 p2
                      go_wp2_with fail
                      refine (Find_res _ _ 0 (-1) _ HX.out (by decide) (by omega) (by omega) (by omega)).mono ?_
                      rintro e w' ⟨rfl, rfl⟩
                      go_wp2_with fail
                      refine (in_lo _ true HP1.out _).mono ?_
                      rintro e w' ⟨rfl, rfl⟩
                      go_wp2_with fail
                      refine (in_lo _ true HP2.out _).mono ?_
                      rintro e w' ⟨rfl, rfl⟩
                      go_wp2_with fail
                      have hcv := conv_one_drew
                      have j1 : IntKind.i64.wrap ((k : Int) + 2) = (k : Int) + 2 := IntWalk.i64_in _ (by omega)
                      have j2 : IntKind.i64.wrap ((k : Int) + 3) = (k : Int) + 3 := IntWalk.i64_in _ (by omega)
                      have j3 : ((k : Int) + 2).toNat = k + 2 := by omega
                      have j4 : ((k : Int) + 3).toNat = k + 3 := by omega
                      have j5 : IntKind.i64.wrap (hexv s[k+2].toNat * 16) = hexv s[k+2].toNat * 16 := IntWalk.i64_in _ (by omega)
                      have j6 : IntKind.i64.wrap (hexv s[k+2].toNat * 16 + hexv s[k+3].toNat) = hexv s[k+2].toNat * 16 + hexv s[k+3].toNat := IntWalk.i64_in _ (by omega)
                      have j7 : IntKind.u8.wrap (hexv s[k+2].toNat * 16 + hexv s[k+3].toNat) = hexv s[k+2].toNat * 16 + hexv s[k+3].toNat := IntWalk.u8_in _ (by omega)
                      have j8 : ¬ 9223372036854775807 < A.length + 1 := by omega
                      go_region_law (first | (go_simp; go_at_call 53; refine (value_any _ (by omega) (by omega) _).mono ?_; rintro e w' ⟨rfl, rfl⟩))
                      all_goals go_wp2
                      all_goals go_roundw
                      all_goals first
                        | exact ⟨k + 4, A ++ [UInt8.ofNat ((16 : Int) * hexv (s[k+2].toNat : Int) + hexv (s[k+3].toNat : Int)).toNat], by omega, by rw [List.length_append]; simp; omega, by go_num, ret_s (by rw [cat_str, Int.mul_comm]), decO_keep HE HD.out, (HB.out.alloc hsz _).drew⟩
                        | (simp [intOf]; omega)
                    · have HP2 := Lib.hid (decide_eq_false p2)
                      have HD := Lib.hid (HN2.out (decO_bad HE (decO_none hlt (unF_bad hlt h92 (HA4.out.trans (if_neg (fun h => p2 h.2)))))))
                      clear hx h92 h120 p1 p2
                      go_wp2_with fail
                      refine (Find_res _ _ 0 (-1) _ HX.out (by decide) (by omega) (by omega) (by omega)).mono ?_
                      rintro e w' ⟨rfl, rfl⟩
                      go_wp2_with fail
                      refine (in_lo _ true HP1.out _).mono ?_
                      rintro e w' ⟨rfl, rfl⟩
                      go_wp2_with fail
                      refine (in_lo _ false HP2.out _).mono ?_
                      rintro e w' ⟨rfl, rfl⟩
                      go_wp2_with fail
                      go_ret2
                      exact ⟨by rw [HD.out.1, HD.out.2]; rfl, HB.out⟩
                  · have HP1 := Lib.hid (decide_eq_false p1)
                    have HD := Lib.hid (HN2.out (decO_bad HE (decO_none hlt (unF_bad hlt h92 (HA4.out.trans (if_neg (fun h => p1 h.1)))))))
                    clear hx h92 h120 p1
                    go_wp2_with fail
                    refine (Find_res _ _ 0 (-1) _ HX.out (by decide) (by omega) (by omega) (by omega)).mono ?_
                    rintro e w' ⟨rfl, rfl⟩
                    go_wp2_with fail
                    refine (in_lo _ false HP1.out _).mono ?_
                    rintro e w' ⟨rfl, rfl⟩
                    go_wp2_with fail
                    go_ret2
                    exact ⟨by rw [HD.out.1, HD.out.2]; rfl, HB.out⟩
                · have HD := Lib.hid (HN2.out (decO_bad HE (decO_none hlt (unF_bad hlt h92 (HA3.out.trans (hexT_short s (k + 2) (by omega)))))))
                  have i4 : (s.size : Int) < (k : Int) + 4 := by omega
                  clear hx h92 h120
                  go_wp2_with (go_at_call 49; refine (Find_res _ _ 0 (-1) _ HX.out (by decide) (by omega) (by omega) (by omega)).mono ?_; rintro e w' ⟨rfl, rfl⟩)
                  go_ret2
                  exact ⟨by rw [HD.out.1, HD.out.2]; rfl, HB.out⟩
              · have e120 : ((s[k+1].toNat : Int) != 120) = true := byte_neq (c := 120) h120
                have HD := Lib.hid (HN2.out (decO_bad HE (decO_none hlt (unF_bad hlt h92 (HA2.out.trans ((if_neg (by omega)).trans (if_neg h120)))))))
                clear hx h92 h120
                go_wp2_with (go_at_call 49; refine (Find_res _ _ 0 (-1) _ HX.out (by decide) (by omega) (by omega) (by omega)).mono ?_; rintro e w' ⟨rfl, rfl⟩)
                go_ret2
                exact ⟨by rw [HD.out.1, HD.out.2]; rfl, HB.out⟩
          · have HD := Lib.hid (HN2.out (decO_bad HE (decO_none hlt (unF_bad hlt h92 (esc_end s (k + 1) (by omega))))))
            clear h92
            go_wp2_with fail
            go_ret2
            exact ⟨by rw [HD.out.1, HD.out.2]; rfl, HB.out⟩
        · have e92 : ((s[k].toNat : Int) != 92) = true := byte_neq (c := 92) h92
          by_cases hr : s[k].toNat < 33 ∨ 126 < s[k].toNat
          · have HD := Lib.hid (HN2.out (decO_bad HE (decO_none hlt (HF.out.trans ((if_neg h92).trans (if_pos hr))))))
            have hr2 : (s[k].toNat : Int) < 33 ∨ (33 ≤ (s[k].toNat : Int) ∧ 126 < (s[k].toNat : Int)) := by omega
            clear h92 hr
            rcases hr2 with hr2 | hr2
            all_goals go_wp2_with fail
            all_goals go_ret2
            all_goals exact ⟨by rw [HD.out.1, HD.out.2]; rfl, HB.out⟩
          · have HD := Lib.hid (decO_some hlt (by omega) (HF.out.trans ((if_neg h92).trans (if_neg hr))))
            have hr2 : 33 ≤ (s[k].toNat : Int) ∧ (s[k].toNat : Int) ≤ 126 := by omega
            clear h92 hr
            go_wp2_with fail
            go_roundw
            case rel => exact ⟨k + 1, A ++ [s[k]], by omega, by rw [List.length_append]; simp; omega, by go_num, ret_s (cat_ext1 A s k hlt), decO_keep HE HD.out, HB.out⟩
            case measure => simp [intOf]; omega
      · by_cases h0 : s.data.toList = []
        · have HD := Lib.hid (H0.out h0)
          have hz : s.size = 0 := by rw [← lst_len, h0]; rfl
          have ez : ((s.size : Int) == 0) = true := beq_iff_eq.2 (by omega)
          clear h0 hz
          go_wp2
          go_ret2
          exact ⟨by rw [HD.out.1, HD.out.2]; rfl, HB.out⟩
        · have HD := Lib.hid (HS.out A h0 (decO_end HE (by omega)))
          have hz : ¬ s.size = 0 := by intro h; apply h0; apply List.eq_nil_of_length_eq_zero; rw [lst_len]; exact h
          have ez : ((s.size : Int) == 0) = false := beq_eq_false_iff_ne.2 (by omega)
          clear h0 hz
          go_wp2
          go_ret2
          exact ⟨by rw [HD.out.1, HD.out.2]; rfl, HB.out⟩
end Go.Proofs.Ytahcgajipnkojaa
