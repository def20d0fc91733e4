/- Walk: wickref.Base64Decode. -/
import Derived.Test.YthfolopnjmkllaaDoorB64F
namespace Go.Proofs.YthfolopnjmkllaaDoor
open Go.RowKit
set_option linter.unusedVariables false
set_option linter.unusedSimpArgs false

theorem trimE_last (T : List UInt8) : trimE (T ++ [61]) = T := by
  unfold trimE Lib.trimSuffix
  have : Lib.hasSuffix (T ++ [61]) [61] = true := by unfold Lib.hasSuffix; simp [List.isSuffixOf, List.isPrefixOf]
  rw [if_pos this]; simp
theorem trimE_nil : trimE [] = [] := by simp [trimE, Lib.trimSuffix, Lib.hasSuffix, List.isSuffixOf, List.isPrefixOf]
theorem trimE_other (T : List UInt8) (b : UInt8) (h : b ≠ 61) : trimE (T ++ [b]) = T ++ [b] := by
  unfold trimE Lib.trimSuffix
  have : Lib.hasSuffix (T ++ [b]) [61] = false := by
    unfold Lib.hasSuffix; simp [List.isSuffixOf, List.isPrefixOf]; exact fun e => h e.symm
  rw [if_neg (by rw [this]; decide)]
theorem trimE_app (T : List UInt8) : T = trimE T ∨ T = trimE T ++ [61] := by
  induction T using snoc_ind with
  | h0 => exact .inl trimE_nil.symm
  | h1 T b _ =>
    by_cases h : b = 61
    · subst h; exact .inr (by rw [trimE_last])
    · exact .inl (trimE_other T b h).symm
theorem bodyE_app (T : List UInt8) : ∃ p, p ≤ 2 ∧ T = bodyE T ++ List.replicate p 61 := by
  unfold bodyE
  rcases trimE_app T with h | h
  · rcases trimE_app (trimE T) with h2 | h2
    · exact ⟨0, by omega, by rw [← h2]; simpa using h⟩
    · exact ⟨1, by omega, by rw [List.replicate_one, ← h2]; exact h⟩
  · rcases trimE_app (trimE T) with h2 | h2
    · exact ⟨1, by omega, by rw [List.replicate_one, ← h2]; exact h⟩
    · exact ⟨2, by omega, by
        show T = _ ++ [61, 61]
        rw [show ([61, 61] : List UInt8) = [61] ++ [61] from rfl, ← List.append_assoc, ← h2]; exact h⟩
/-- what the reference's last test says -/
theorem decB_main (l : List UInt8) (hall : ∀ c ∈ bodyE l, 0 ≤ sx c) :
    (encB (outR (sxs (bodyE l))) = l → decB l = (outR (sxs (bodyE l)), 0)) ∧ (encB (outR (sxs (bodyE l))) ≠ l → decB l = ([], 4)) := by
  obtain ⟨p, hp, hl⟩ := bodyE_app l
  obtain ⟨m1, m2⟩ := dec_main (sxs (bodyE l)) p (sxs_lt _) hp
  have hs : (sxs (bodyE l)).map sg = bodyE l := by
    unfold sxs
    rw [List.map_map]
    conv => rhs; rw [← List.map_id (bodyE l)]
    apply List.map_congr_left
    intro c hc
    have := hall c hc
    rcases sx_facts c with h | h
    · omega
    · exact h.2.2
  rw [hs, ← hl] at m2
  have hlen : l.length = (sxs (bodyE l)).length + p := by
    have := congrArg List.length hl
    rw [List.length_append, List.length_replicate] at this
    rw [sxs_len]; exact this
  obtain ⟨n, b, A, e, _, _⟩ := foldD_bd (sxs (bodyE l)) (sxs_lt _)
  unfold GoodD at m2
  rw [← hlen, e] at m2
  rw [e] at m1
  constructor
  · intro h
    obtain ⟨g1, g2, g3⟩ := m2.1 h
    rw [decB_good e g1 hall (by rintro (h | h); exact h g2; exact g3 h)]
    rw [← m1]
  · intro h
    have hn : ¬ (l.length % 4 = 0 ∧ n = 0 ∧ b ≠ 6) := fun hg => h (m2.2 hg)
    by_cases h4 : l.length % 4 = 0
    · exact decB_wrong e (by by_cases hn0 : n = 0; exact .inr (by by_cases hb : b = 6; exact hb; exact absurd ⟨h4, hn0, hb⟩ hn); exact .inl hn0)
    · exact decB_len h4

set_option maxHeartbeats 4000000 in
theorem B64Decode_any (s : ByteArray) (w : World) (hs : s.size ≤ 1048576) :
    Calls Tryd.prog 33 #[.string s] w fun e w' => e = .returned (.tuple #[.string (str (decB s.data.toList).1), .int .i64 (decB s.data.toList).2]) ∧ Below w.heap.size w w' := by
  go_enter Tryd.func33, Tryd.ntmps33
  go_wp2_with fail
  go_loop [4] (fun t => ∃ (j : Nat) (T : List UInt8), t = .string (str T) ∧ T.length + j = s.size ∧ Hid (j = 0 ∧ T = s.data.toList ∨ j = 1 ∧ T = trimE s.data.toList ∧ s.data.toList = T ++ [61] ∨ j = 2 ∧ T = bodyE s.data.toList)) (fun t => slen t)
  case atStart => exact ⟨0, s.data.toList, by rw [show str s.data.toList = s from str_lst s], by rw [lst_len]; rfl, .inl ⟨rfl, rfl⟩⟩
  case round =>
    obtain ⟨j, T, rfl, hTl, HT⟩ := hrel
    have hTs := size_str T
    by_cases hgo : 0 < T.length ∧ j < 2 ∧ ∃ U, T = U ++ [61]
    · obtain ⟨g1, g2, U, rfl⟩ := hgo
      rw [List.length_append, List.length_cons, List.length_nil] at hTs hTl
      have HX : Hid ((str (U ++ [61])).extract 0 U.length = str U) := by
        show _ = _
        apply lst_inj
        rw [lst_ext, lst_mk, lst_mk]; simp
      have HT2 : Hid (j + 1 = 0 ∧ U = s.data.toList ∨ j + 1 = 1 ∧ U = trimE s.data.toList ∧ s.data.toList = U ++ [61] ∨ j + 1 = 2 ∧ U = bodyE s.data.toList) := by
        rcases HT.out with ⟨h1, h2⟩ | ⟨h1, h2, h3⟩ | ⟨h1, h2⟩
        · exact .inr (.inl ⟨by omega, by rw [← h2, trimE_last], h2.symm⟩)
        · exact .inr (.inr ⟨by omega, by unfold bodyE; rw [← h2, trimE_last]⟩)
        · omega
      have hl61 : (str (U ++ [61]))[U.length] = 61 := by
        have := lst_get (str (U ++ [61])) U.length (by rw [size_str]; simp)
        rw [← this]; simp [str]
      have t1 : (((str (U ++ [61]))[U.length].toNat : Int) == 61) = true := by rw [hl61]; rfl
      clear hl61
      go_wp2_with fail
      exact ⟨⟨j + 1, U, by rw [HX.out], by omega, HT2⟩, by rw [HX.out]; simp only [slen]; rw [size_str, size_str]; simp⟩
    · have HBody : Hid (T = bodyE s.data.toList) := by
        show _ = _
        rcases HT.out with ⟨h1, h2⟩ | ⟨h1, h2, h3⟩ | ⟨h1, h2⟩
        · have ht : trimE T = T := by
            rcases trimE_app T with h | h
            · exact h.symm
            · exact absurd ⟨by rw [h]; simp, by omega, _, h⟩ hgo
          unfold bodyE; rw [← h2, ht, ht]
        · have ht : trimE T = T := by
            rcases trimE_app T with h | h
            · exact h.symm
            · exact absurd ⟨by rw [h]; simp, by omega, _, h⟩ hgo
          unfold bodyE; rw [← h2, ht]
        · exact h2
      have HC : Hid (Calls Tryd.prog 59 #[.string (str T), .func (.func 60) #[] #[], .int .i64 6] w fun e w' => Below w.heap.size w w' ∧
          (decB s.data.toList = ([], 4) ∧ e = .returned (.tuple #[.slice none 0 0, .bool false]) ∨
           (∀ c ∈ bodyE s.data.toList, 0 ≤ sx c) ∧ ∃ v, e = .returned (.tuple #[v, .bool true]) ∧ OI w' w.heap.size v (ibits (bit6s (sxs T))))) := by
        refine (bits6_any (str T) w (by rw [size_str]; omega)).mono fun e w' ⟨h1, h2⟩ => ⟨h1, ?_⟩
        rw [show (str T).data.toList = T from lst_str T] at h2
        rcases h2 with ⟨⟨c, hc, hcx⟩, he⟩ | ⟨h3, h4⟩
        · exact .inl ⟨decB_bad (by rw [← HBody.out]; exact hc) hcx, he⟩
        · exact .inr ⟨by rw [← HBody.out]; exact h3, h4⟩
      have HG : Hid (T.length = 0 ∨ (∃ h : 0 < T.length, ¬ ((str T)[T.length - 1]'(by rw [size_str]; omega)) = 61) ∨ (∃ h : 0 < T.length, ((str T)[T.length - 1]'(by rw [size_str]; omega)) = 61) ∧ j = 2) := by
        by_cases h0 : T.length = 0
        · exact .inl h0
        · by_cases h61 : (str T)[T.length - 1]'(by rw [size_str]; omega) = 61
          · refine .inr (.inr ⟨⟨by omega, h61⟩, ?_⟩)
            by_cases hj : j < 2
            · refine absurd ⟨by omega, hj, T.take (T.length - 1), ?_⟩ hgo
              have h2 := lst_get (str T) (T.length - 1) (by rw [size_str]; omega)
              rw [h61] at h2
              have h3 : T.take (T.length - 1 + 1) = T.take (T.length - 1) ++ [T[T.length - 1]] := List.take_succ_eq_append_getElem (by omega)
              rw [show T.length - 1 + 1 = T.length by omega, List.take_length] at h3
              have h4 : T[T.length - 1] = 61 := h2
              rw [h4] at h3; exact h3
            · rcases HT.out with h | h | h <;> omega
          · exact .inr (.inl ⟨by omega, h61⟩)
      have HM := Lib.hid (decB_main s.data.toList)
      obtain ⟨V, hV⟩ : ∃ V, V = sxs T := ⟨_, rfl⟩
      have hVl : V.length = T.length := by rw [hV, sxs_len]
      rw [HBody.out] at hV
      rw [← hV] at HM
      have hV2 : sxs T = V := by rw [HBody.out, hV]
      rw [hV2] at HC
      have HVl := Lib.hid hVl
      clear HT hgo hV hV2 hVl
      have key : T.length ≤ s.size := by omega
      rcases HG.out with g0 | ⟨g0, g1⟩ | ⟨⟨g0, g1⟩, g2⟩
      · have hd0 : decide (0 < T.length) = false := decide_eq_false (by omega)
        clear HG
        go_wp2_with fail
        refine HC.out.mono ?_
        rintro e w1 ⟨hb1, ⟨hbad, rfl⟩ | ⟨hall, v, rfl, ho⟩⟩
        · have HB1 := Lib.hid hb1
          have HBad := Lib.hid hbad
          clear hb1 hbad
          go_wp2_with fail
          go_ret2
          exact ⟨by rw [HBad.out]; rfl, HB1.out⟩
        · have HB1 := Lib.hid hb1
          have HAll := Lib.hid hall
          have hsz1 := hb1.size
          have hl6 := bit6s_len V
          have HC8 := Lib.hid (numbers8_any _ _ _ w1 ho (bit6s_lt _) (by have := HVl.out; omega))
          have HNL := Lib.hid (numL_lt (wide := 8) (bit6s_lt V))
          have HN0 := Lib.hid (numL_len 8 (bit6s V))
          clear hb1 hall ho
          go_wp2_with fail
          refine HC8.out.mono ?_
          rintro e w2 ⟨v2, rfl, ho2, hb2⟩
          obtain ⟨N, hN⟩ : ∃ N, N = numL 8 (bit6s V) := ⟨_, rfl⟩
          rw [← hN] at ho2 HNL HN0
          have hNl : N.length ≤ s.size := by have := HN0.out; have := HVl.out; omega
          obtain ⟨A2, c2, rfl⟩ := ho2.form
          have hR : Reads w2 w2.heap.size 1 A2 N.length ((ibits N).map iv) := by
            have h2 : World.ownsRow w2 w1.heap.size 3 1 (.slice A2 N.length c2) N.length ((ibits N).map iv) := by have := ho2; unfold OI at this; rw [ibits_len] at this; exact this
            exact Reads.of_own h2
          rw [ibits_len]
          have HR := Lib.hid hR
          have hsz2 : w.heap.size ≤ w2.heap.size := by have := hb2.size; omega
          have HB2 := Lib.hid (HB1.out.trans (hb2.mono hsz1))
          have HO : Hid (N.map UInt8.ofNat = outR V) := by show _ = _; rw [hN]; rfl
          clear hR hb2 ho2 HC8 HN0 hN
          go_wp2_with fail
          go_loopw [8, 9] (fun o i wr => ∃ q : Nat, q ≤ N.length ∧ i = .int .i64 q ∧ o = .string (str ((N.take q).map UInt8.ofNat)) ∧ Below w2.heap.size w2 wr) (fun _ i _ => N.length - (intOf i).toNat)
          case atStart => exact ⟨0, by omega, rfl, rfl, Below.refl _ _⟩
          case round =>
            obtain ⟨q, hq, rfl, rfl, hbl⟩ := hrel
            by_cases hqN : q < N.length
            · have hnq : N[q] < 256 := HNL.out N[q] (List.getElem_mem _)
              obtain ⟨ad, u, rfl, e2, e3, hcell⟩ := (HR.out.below hbl).at_ hqN
              have e4 : u = .int .i64 (N[q] : Nat) := by
                simp only [ibits, List.getElem?_map, List.getElem?_eq_getElem hqN, Option.map_some] at e3
                exact (Option.some.inj e3).symm
              rw [e4] at hcell
              clear e4 e3 e2
              have hszr := hbl.size
              have HBl := Lib.hid hbl
              clear hbl
              have hAs : (str ((N.take q).map UInt8.ofNat)).size ≤ 1398200 := by rw [size_str, List.length_map, List.length_take]; omega
              have hcv : (convert 72 9 (.slice (some ⟨wr.heap.size, 0, none⟩) 1 1)).run Tryd.prog (wr.alloc (.cells #[.int .u8 (N[q] : Nat)] 5)) = .ok (.string (str [UInt8.ofNat N[q]])) (wr.alloc (.cells #[.int .u8 (N[q] : Nat)] 5)) := by
                have := conv_one wr (N[q] : Nat)
                rw [Int.toNat_natCast] at this; exact this
              go_wp2_with fail
              go_roundw
              case rel => exact ⟨q + 1, by omega, by go_num, ret_s (by rw [take_app hqN]; simp only [List.map_append, List.map_cons, List.map_nil, List.map_take]; exact cat_str _ _), HBl.out.alloc hszr _⟩
              case measure => simp [intOf]; omega
            · have hqe : q = N.length := by omega
              have hqd : decide (q < N.length) = false := decide_eq_false hqN
              have HTk : Hid (N.take q = N) := List.take_of_length_le (by omega)
              rw [HTk.out, HO.out]
              have hob : (str (outR V)).size ≤ 1048576 := by rw [size_str, ← HO.out, List.length_map]; omega
              have HB3 := Lib.hid (HB2.out.trans (hbl.mono hsz2))
              have HE := Lib.hid (B64Encode_any (str (outR V)) wr hob)
              rw [show (str (outR V)).data.toList = outR V from lst_str _] at HE
              have hsz3 : w.heap.size ≤ wr.heap.size := by have := hbl.size; omega
              clear hbl hob
              go_wp2_with fail
              refine HE.out.mono ?_
              rintro e w4 ⟨rfl, hb4⟩
              have HB4 := Lib.hid (HB3.out.trans (hb4.mono hsz3))
              clear hb4
              by_cases hee : encB (outR V) = s.data.toList
              · have hb : (encB (outR V) == s.toList) = true := by rw [Lib.toList_data, beq_iff_eq]; exact hee
                have HR2 := Lib.hid ((HM.out HAll.out).1 hee)
                clear hee
                go_wp2_with fail
                go_ret2
                exact ⟨by rw [HR2.out]; rfl, HB4.out⟩
              · have hb : (encB (outR V) == s.toList) = false := by rw [Lib.toList_data, beq_eq_false_iff_ne]; exact hee
                have HR2 := Lib.hid ((HM.out HAll.out).2 hee)
                clear hee
                go_wp2_with fail
                go_ret2
                exact ⟨by rw [HR2.out]; rfl, HB4.out⟩
      · have t1 : (((str T)[T.length - 1].toNat : Int) == 61) = false := byte_ne (c := 61) g1
        clear g1 HG
        go_wp2_with fail
        refine HC.out.mono ?_
        rintro e w1 ⟨hb1, ⟨hbad, rfl⟩ | ⟨hall, v, rfl, ho⟩⟩
        · have HB1 := Lib.hid hb1
          have HBad := Lib.hid hbad
          clear hb1 hbad
          go_wp2_with fail
          go_ret2
          exact ⟨by rw [HBad.out]; rfl, HB1.out⟩
        · have HB1 := Lib.hid hb1
          have HAll := Lib.hid hall
          have hsz1 := hb1.size
          have hl6 := bit6s_len V
          have HC8 := Lib.hid (numbers8_any _ _ _ w1 ho (bit6s_lt _) (by have := HVl.out; omega))
          have HNL := Lib.hid (numL_lt (wide := 8) (bit6s_lt V))
          have HN0 := Lib.hid (numL_len 8 (bit6s V))
          clear hb1 hall ho
          go_wp2_with fail
          refine HC8.out.mono ?_
          rintro e w2 ⟨v2, rfl, ho2, hb2⟩
          obtain ⟨N, hN⟩ : ∃ N, N = numL 8 (bit6s V) := ⟨_, rfl⟩
          rw [← hN] at ho2 HNL HN0
          have hNl : N.length ≤ s.size := by have := HN0.out; have := HVl.out; omega
          obtain ⟨A2, c2, rfl⟩ := ho2.form
          have hR : Reads w2 w2.heap.size 1 A2 N.length ((ibits N).map iv) := by
            have h2 : World.ownsRow w2 w1.heap.size 3 1 (.slice A2 N.length c2) N.length ((ibits N).map iv) := by have := ho2; unfold OI at this; rw [ibits_len] at this; exact this
            exact Reads.of_own h2
          rw [ibits_len]
          have HR := Lib.hid hR
          have hsz2 : w.heap.size ≤ w2.heap.size := by have := hb2.size; omega
          have HB2 := Lib.hid (HB1.out.trans (hb2.mono hsz1))
          have HO : Hid (N.map UInt8.ofNat = outR V) := by show _ = _; rw [hN]; rfl
          clear hR hb2 ho2 HC8 HN0 hN
          go_wp2_with fail
          go_loopw [8, 9] (fun o i wr => ∃ q : Nat, q ≤ N.length ∧ i = .int .i64 q ∧ o = .string (str ((N.take q).map UInt8.ofNat)) ∧ Below w2.heap.size w2 wr) (fun _ i _ => N.length - (intOf i).toNat)
          case atStart => exact ⟨0, by omega, rfl, rfl, Below.refl _ _⟩
          case round =>
            obtain ⟨q, hq, rfl, rfl, hbl⟩ := hrel
            by_cases hqN : q < N.length
            · have hnq : N[q] < 256 := HNL.out N[q] (List.getElem_mem _)
              obtain ⟨ad, u, rfl, e2, e3, hcell⟩ := (HR.out.below hbl).at_ hqN
              have e4 : u = .int .i64 (N[q] : Nat) := by
                simp only [ibits, List.getElem?_map, List.getElem?_eq_getElem hqN, Option.map_some] at e3
                exact (Option.some.inj e3).symm
              rw [e4] at hcell
              clear e4 e3 e2
              have hszr := hbl.size
              have HBl := Lib.hid hbl
              clear hbl
              have hAs : (str ((N.take q).map UInt8.ofNat)).size ≤ 1398200 := by rw [size_str, List.length_map, List.length_take]; omega
              have hcv : (convert 72 9 (.slice (some ⟨wr.heap.size, 0, none⟩) 1 1)).run Tryd.prog (wr.alloc (.cells #[.int .u8 (N[q] : Nat)] 5)) = .ok (.string (str [UInt8.ofNat N[q]])) (wr.alloc (.cells #[.int .u8 (N[q] : Nat)] 5)) := by
                have := conv_one wr (N[q] : Nat)
                rw [Int.toNat_natCast] at this; exact this
              go_wp2_with fail
              go_roundw
              case rel => exact ⟨q + 1, by omega, by go_num, ret_s (by rw [take_app hqN]; simp only [List.map_append, List.map_cons, List.map_nil, List.map_take]; exact cat_str _ _), HBl.out.alloc hszr _⟩
              case measure => simp [intOf]; omega
            · have hqe : q = N.length := by omega
              have hqd : decide (q < N.length) = false := decide_eq_false hqN
              have HTk : Hid (N.take q = N) := List.take_of_length_le (by omega)
              rw [HTk.out, HO.out]
              have hob : (str (outR V)).size ≤ 1048576 := by rw [size_str, ← HO.out, List.length_map]; omega
              have HB3 := Lib.hid (HB2.out.trans (hbl.mono hsz2))
              have HE := Lib.hid (B64Encode_any (str (outR V)) wr hob)
              rw [show (str (outR V)).data.toList = outR V from lst_str _] at HE
              have hsz3 : w.heap.size ≤ wr.heap.size := by have := hbl.size; omega
              clear hbl hob
              go_wp2_with fail
              refine HE.out.mono ?_
              rintro e w4 ⟨rfl, hb4⟩
              have HB4 := Lib.hid (HB3.out.trans (hb4.mono hsz3))
              clear hb4
              by_cases hee : encB (outR V) = s.data.toList
              · have hb : (encB (outR V) == s.toList) = true := by rw [Lib.toList_data, beq_iff_eq]; exact hee
                have HR2 := Lib.hid ((HM.out HAll.out).1 hee)
                clear hee
                go_wp2_with fail
                go_ret2
                exact ⟨by rw [HR2.out]; rfl, HB4.out⟩
              · have hb : (encB (outR V) == s.toList) = false := by rw [Lib.toList_data, beq_eq_false_iff_ne]; exact hee
                have HR2 := Lib.hid ((HM.out HAll.out).2 hee)
                clear hee
                go_wp2_with fail
                go_ret2
                exact ⟨by rw [HR2.out]; rfl, HB4.out⟩
      · have t1 : (((str T)[T.length - 1].toNat : Int) == 61) = true := by rw [g1]; rfl
        subst g2
        have t2 : decide ((s.size : Int) - (T.length : Int) < 2) = false := decide_eq_false (by omega)
        clear g1 HG
        go_wp2_with fail
        refine HC.out.mono ?_
        rintro e w1 ⟨hb1, ⟨hbad, rfl⟩ | ⟨hall, v, rfl, ho⟩⟩
        · have HB1 := Lib.hid hb1
          have HBad := Lib.hid hbad
          clear hb1 hbad
          go_wp2_with fail
          go_ret2
          exact ⟨by rw [HBad.out]; rfl, HB1.out⟩
        · have HB1 := Lib.hid hb1
          have HAll := Lib.hid hall
          have hsz1 := hb1.size
          have hl6 := bit6s_len V
          have HC8 := Lib.hid (numbers8_any _ _ _ w1 ho (bit6s_lt _) (by have := HVl.out; omega))
          have HNL := Lib.hid (numL_lt (wide := 8) (bit6s_lt V))
          have HN0 := Lib.hid (numL_len 8 (bit6s V))
          clear hb1 hall ho
          go_wp2_with fail
          refine HC8.out.mono ?_
          rintro e w2 ⟨v2, rfl, ho2, hb2⟩
          obtain ⟨N, hN⟩ : ∃ N, N = numL 8 (bit6s V) := ⟨_, rfl⟩
          rw [← hN] at ho2 HNL HN0
          have hNl : N.length ≤ s.size := by have := HN0.out; have := HVl.out; omega
          obtain ⟨A2, c2, rfl⟩ := ho2.form
          have hR : Reads w2 w2.heap.size 1 A2 N.length ((ibits N).map iv) := by
            have h2 : World.ownsRow w2 w1.heap.size 3 1 (.slice A2 N.length c2) N.length ((ibits N).map iv) := by have := ho2; unfold OI at this; rw [ibits_len] at this; exact this
            exact Reads.of_own h2
          rw [ibits_len]
          have HR := Lib.hid hR
          have hsz2 : w.heap.size ≤ w2.heap.size := by have := hb2.size; omega
          have HB2 := Lib.hid (HB1.out.trans (hb2.mono hsz1))
          have HO : Hid (N.map UInt8.ofNat = outR V) := by show _ = _; rw [hN]; rfl
          clear hR hb2 ho2 HC8 HN0 hN
          go_wp2_with fail
          go_loopw [8, 9] (fun o i wr => ∃ q : Nat, q ≤ N.length ∧ i = .int .i64 q ∧ o = .string (str ((N.take q).map UInt8.ofNat)) ∧ Below w2.heap.size w2 wr) (fun _ i _ => N.length - (intOf i).toNat)
          case atStart => exact ⟨0, by omega, rfl, rfl, Below.refl _ _⟩
          case round =>
            obtain ⟨q, hq, rfl, rfl, hbl⟩ := hrel
            by_cases hqN : q < N.length
            · have hnq : N[q] < 256 := HNL.out N[q] (List.getElem_mem _)
              obtain ⟨ad, u, rfl, e2, e3, hcell⟩ := (HR.out.below hbl).at_ hqN
              have e4 : u = .int .i64 (N[q] : Nat) := by
                simp only [ibits, List.getElem?_map, List.getElem?_eq_getElem hqN, Option.map_some] at e3
                exact (Option.some.inj e3).symm
              rw [e4] at hcell
              clear e4 e3 e2
              have hszr := hbl.size
              have HBl := Lib.hid hbl
              clear hbl
              have hAs : (str ((N.take q).map UInt8.ofNat)).size ≤ 1398200 := by rw [size_str, List.length_map, List.length_take]; omega
              have hcv : (convert 72 9 (.slice (some ⟨wr.heap.size, 0, none⟩) 1 1)).run Tryd.prog (wr.alloc (.cells #[.int .u8 (N[q] : Nat)] 5)) = .ok (.string (str [UInt8.ofNat N[q]])) (wr.alloc (.cells #[.int .u8 (N[q] : Nat)] 5)) := by
                have := conv_one wr (N[q] : Nat)
                rw [Int.toNat_natCast] at this; exact this
              go_wp2_with fail
              go_roundw
              case rel => exact ⟨q + 1, by omega, by go_num, ret_s (by rw [take_app hqN]; simp only [List.map_append, List.map_cons, List.map_nil, List.map_take]; exact cat_str _ _), HBl.out.alloc hszr _⟩
              case measure => simp [intOf]; omega
            · have hqe : q = N.length := by omega
              have hqd : decide (q < N.length) = false := decide_eq_false hqN
              have HTk : Hid (N.take q = N) := List.take_of_length_le (by omega)
              rw [HTk.out, HO.out]
              have hob : (str (outR V)).size ≤ 1048576 := by rw [size_str, ← HO.out, List.length_map]; omega
              have HB3 := Lib.hid (HB2.out.trans (hbl.mono hsz2))
              have HE := Lib.hid (B64Encode_any (str (outR V)) wr hob)
              rw [show (str (outR V)).data.toList = outR V from lst_str _] at HE
              have hsz3 : w.heap.size ≤ wr.heap.size := by have := hbl.size; omega
              clear hbl hob
              go_wp2_with fail
              refine HE.out.mono ?_
              rintro e w4 ⟨rfl, hb4⟩
              have HB4 := Lib.hid (HB3.out.trans (hb4.mono hsz3))
              clear hb4
              by_cases hee : encB (outR V) = s.data.toList
              · have hb : (encB (outR V) == s.toList) = true := by rw [Lib.toList_data, beq_iff_eq]; exact hee
                have HR2 := Lib.hid ((HM.out HAll.out).1 hee)
                clear hee
                go_wp2_with fail
                go_ret2
                exact ⟨by rw [HR2.out]; rfl, HB4.out⟩
              · have hb : (encB (outR V) == s.toList) = false := by rw [Lib.toList_data, beq_eq_false_iff_ne]; exact hee
                have HR2 := Lib.hid ((HM.out HAll.out).2 hee)
                clear hee
                go_wp2_with fail
                go_ret2
                exact ⟨by rw [HR2.out]; rfl, HB4.out⟩
end Go.Proofs.YthfolopnjmkllaaDoor
