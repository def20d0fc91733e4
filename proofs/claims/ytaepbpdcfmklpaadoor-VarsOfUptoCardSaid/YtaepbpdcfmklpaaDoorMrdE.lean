/- Walk: wickref.ReadMulti. -/
import Derived.Test.YtaepbpdcfmklpaaDoorMrdD
namespace Go.Proofs.YtaepbpdcfmklpaaDoor
open Go.RowKit
set_option linter.unusedVariables false
set_option linter.unusedSimpArgs false

theorem dis_low : (⟨#[67, 111, 110, 116, 101, 110, 116, 45, 68, 105, 115, 112, 111, 115, 105, 116, 105, 111, 110, 58, 32, 102, 111, 114, 109, 45, 100, 97, 116, 97, 59, 32, 110, 97, 109, 101, 61, 34]⟩ : ByteArray).data.toList.map lowB = begB.data.toList := by decide +kernel
theorem empty_eq {f : ByteArray} (h : f.size = 0) : f.toList.isEmpty = true := by
  rw [Lib.toList_data]
  have : f.data.toList.length = 0 := by rw [lst_len]; exact h
  cases hh : f.data.toList with
  | nil => rfl
  | cons a t => rw [hh] at this; cases this
theorem empty_ne {f : ByteArray} (h : ¬ f.size = 0) : f.toList.isEmpty = false := by
  rw [Lib.toList_data]
  have : f.data.toList.length ≠ 0 := by rw [lst_len]; exact h
  cases hh : f.data.toList with
  | nil => rw [hh] at this; exact absurd rfl this
  | cons a t => rfl
/-- the lines that are read: at place A, N of them by now, F the first -/
def Lines (s : ByteArray) (a A N : Nat) (F : ByteArray) : Prop :=
  (N = 0 ∧ A = a) ∨ (1 ≤ N ∧ (cutS (tl s a) crlfB).2.2 = true ∧ F = (cutS (tl s a) crlfB).1 ∧ ¬ F.size = 0 ∧ F.size ≤ s.size ∧ ∃ k, (tl s A).size < k ∧ skipN k (tl s A) = skipN ((tl s a).size + 1) (cutS (tl s a) crlfB).2.1)
theorem skip_miss {k : Nat} {r : ByteArray} (h : (cutS r crlfB).2.2 = false) : skipN k r = none := by
  cases k with
  | zero => rfl
  | succ k => rw [skipN, if_pos h]
theorem skip_hit0 {k : Nat} {r x y : ByteArray} (hk : r.size < k) (h : cutS r crlfB = (x, y, true)) (hx : x.size = 0) : skipN k r = some y := by
  obtain ⟨k, rfl⟩ : ∃ j, k = j + 1 := ⟨k - 1, by omega⟩
  rw [skipN, h, if_neg (fun h => by cases h), if_pos hx]
theorem skip_hit1 {k : Nat} {r x y : ByteArray} (h : cutS r crlfB = (x, y, true)) (hx : ¬ x.size = 0) : skipN (k + 1) r = skipN k y := by
  rw [skipN, h, if_neg (fun h => by cases h), if_neg hx]
section
variable (b s : ByteArray) (most : Int) (w : World)
theorem rr_arg (hb : b.size ≤ 1048576) (hmo : (Lit.int .i64 most).wf = true) (h : bndL b = false) : Calls Tryd.prog 31 #[.string s, .string b, .int .i64 most] w (PsRes b s most w) := by
  have C := Lib.hid (isBnd_eq h w hb)
  have HF := Lib.hid (readR_arg (s := s) (most := most) h)
  clear h
  go_enter Tryd.func31, Tryd.ntmps31
  go_wp2_with fail
  refine C.out.mono ?_
  rintro e w' ⟨rfl, rfl⟩
  go_wp2_with fail
  go_ret2
  refine ⟨.slice none 0 0, by rw [HF.out]; rfl, by rw [HF.out]; exact OP.nil _ _ _, Below.refl _ _⟩
theorem rr_large (hb : b.size ≤ 1048576) (h : bndL b = true) (h2 : 4096 < s.size) : Calls Tryd.prog 31 #[.string s, .string b, .int .i64 most] w (PsRes b s most w) := by
  have C := Lib.hid (isBnd_eq h w hb)
  have HF := Lib.hid (readR_large (most := most) h h2)
  have d1 : (4096 : Int) < (s.size : Int) := by omega
  clear h
  go_enter Tryd.func31, Tryd.ntmps31
  go_wp2_with fail
  refine C.out.mono ?_
  rintro e w' ⟨rfl, rfl⟩
  go_wp2_with fail
  go_ret2
  refine ⟨.slice none 0 0, by rw [HF.out]; rfl, by rw [HF.out]; exact OP.nil _ _ _, Below.refl _ _⟩
theorem at_zero (t : ByteArray) : atB s.data.toList 0 t.data.toList = preB s t := by
  have := at_pre s t 0 (by omega)
  rw [tl_zero] at this; exact this
theorem rr_form (hb : b.size ≤ 1048576) (h : bndL b = true) (h2 : ¬ 4096 < s.size) (h3 : preB s (ddB b) = false) : Calls Tryd.prog 31 #[.string s, .string b, .int .i64 most] w (PsRes b s most w) := by
  have C := Lib.hid (isBnd_eq h w hb)
  have HF := Lib.hid (readR_form (most := most) h h2 h3)
  have d1 : ¬ (4096 : Int) < (s.size : Int) := by omega
  have C2 := at_any s (ddB b) 0 w (by omega) (by rw [ddB_size]; omega) (by omega) (by omega)
  rw [at_zero, h3] at C2
  obtain ⟨D, hD⟩ : ∃ D, ({ data := #[45, 45] } ++ b : ByteArray) = D := ⟨_, rfl⟩
  rw [show ddB b = D from hD] at C2
  have C2 := Lib.hid C2
  clear h h3
  go_enter Tryd.func31, Tryd.ntmps31
  go_wp2_with fail
  refine C.out.mono ?_
  rintro e w' ⟨rfl, rfl⟩
  go_wp2_with fail
  refine C2.out.mono ?_
  rintro e w' ⟨rfl, rfl⟩
  go_wp2_with fail
  go_ret2
  refine ⟨.slice none 0 0, by rw [HF.out]; rfl, by rw [HF.out]; exact OP.nil _ _ _, Below.refl _ _⟩
set_option maxRecDepth 100000 in
set_option maxHeartbeats 16000000 in
theorem rr_rest (hb : b.size ≤ 1048576) (h : bndL b = true) (h2 : ¬ 4096 < s.size) (h3 : preB s (ddB b) = true) : Calls Tryd.prog 31 #[.string s, .string b, .int .i64 most] w (PsRes b s most w) := by
  have C := Lib.hid (isBnd_eq h w hb)
  have hbz := (bnd_size h).2
  have d1 : ¬ (4096 : Int) < (s.size : Int) := by omega
  have C2 := at_any s (ddB b) 0 w (by omega) (by rw [ddB_size]; omega) (by omega) (by omega)
  rw [at_zero, h3] at C2
  have hdz := ddB_size b
  have hdle := preB_size h3
  obtain ⟨D, hD⟩ : ∃ D, ({ data := #[45, 45] } ++ b : ByteArray) = D := ⟨_, rfl⟩
  rw [show ddB b = D from hD] at C2 hdz hdle
  replace hdz : D.size ≤ 72 := by omega
  have hsep : ({ data := #[13, 10] } ++ D : ByteArray) = sepB b := by
    apply lst_inj
    unfold sepB
    rw [← hD, lst_app, lst_app, lst_app]; rfl
  have hsz := sepB_size b
  obtain ⟨SP, hSP⟩ : ∃ SP, SP = sepB b := ⟨_, rfl⟩
  rw [← hSP] at hsep hsz
  replace hsz : 4 ≤ SP.size ∧ SP.size ≤ 74 := by omega
  obtain ⟨hsz1, hsz2⟩ := hsz
  have C2 := Lib.hid C2
  have hF := readR_rest (most := most) h h2 h3
  obtain ⟨T, hT⟩ : ∃ T, T = readR b s most := ⟨_, rfl⟩
  rw [show ddB b = D from hD, ← hT] at hF
  have HF := Lib.hid hF
  have HT := Lib.hid hT
  have HSP := Lib.hid hSP
  clear h h3 hF hT hSP
  unfold PsRes
  rw [← HT.out]
  go_enter Tryd.func31, Tryd.ntmps31
  go_wp2_with fail
  refine C.out.mono ?_
  rintro e w' ⟨rfl, rfl⟩
  go_wp2_with fail
  refine C2.out.mono ?_
  rintro e w' ⟨rfl, rfl⟩
  go_wp2_with fail
  clear hD
  go_loopw [9, 10, 11, 12, 13, 14, 15, 16, 17] (fun av ov _ _ _ _ _ _ _ wr => ∃ (a : Nat) (n : Nat) (out : List Fd), av = .int .i64 a ∧ a ≤ s.size ∧ (tl s a).size < n ∧ out.length + (tl s a).size ≤ 4096 ∧ Hid (readN b most n (tl s a) out = T) ∧ OP 35 wr w.heap.size ov out ∧ Hid (Below w.heap.size w wr)) (fun av _ _ _ _ _ _ _ _ _ => s.size - (intOf av).toNat)
  case atStart => exact ⟨D.size, s.size + 1, [], rfl, hdle, by rw [tl_size]; omega, by rw [tl_size]; simp; omega, Lib.hid HF.out.symm, OP.nil _ _ _, Lib.hid (Below.refl _ _)⟩
  case round =>
    obtain ⟨a, n, out, rfl, ha, hn, hoz, HN, ho, HB⟩ := hrel
    obtain ⟨n, rfl⟩ : ∃ k, n = k + 1 := ⟨n - 1, by omega⟩
    obtain ⟨A, c, rfl⟩ := ho.form
    have HO := Lib.hid ho
    have i0 : (a : Int) ≤ (s.size : Int) := by omega
    have C3 := fun w => at_any s ⟨#[13, 10]⟩ (a : Int) w (by omega) (by decide) (by omega) (by omega)
    rw [show atB s.data.toList (a : Int) (⟨#[13, 10]⟩ : ByteArray).data.toList = preB (tl s a) crlfB from at_pre s crlfB a ha] at C3
    clear ho
    cases hl : ((tl s a).data.toList == lastB.data.toList) with
    | true =>
      have q1 : ((s.extract a s.size).toList == [45, 45, 13, 10]) = true := by rw [Lib.toList_data]; exact hl
      have HR : Hid (T = (out, 0)) := Lib.hid (by rw [← HN.out, read_end hl])
      clear hl
      go_wp2_with fail
      go_ret2
      exact ⟨.slice A out.length c, by rw [HR.out]; rfl, by rw [HR.out]; exact HO.out, HB.out⟩
    | false =>
      have q1 : ((s.extract a s.size).toList == [45, 45, 13, 10]) = false := by rw [Lib.toList_data]; exact hl
      cases hp : preB (tl s a) crlfB with
      | false =>
        have HR : Hid (T = ([], 4)) := Lib.hid (by rw [← HN.out, read_pre hl hp])
        rw [hp] at C3
        have C3 := Lib.hid C3
        clear hl hp
        go_wp2_with fail
        refine (C3.out _).mono ?_
        rintro e w1 ⟨rfl, rfl⟩
        go_wp2_with fail
        go_ret2
        exact ⟨.slice none 0 0, by rw [HR.out]; rfl, by rw [HR.out]; exact OP.nil _ _ _, HB.out⟩
      | true =>
        rw [hp] at C3
        have C3 := Lib.hid C3
        have hcz := preB_size hp
        rw [tl_size, show crlfB.size = 2 from rfl] at hcz
        have hnone : partF b (tl s (a + 2)) = none → T = ([], 4) := fun h => by
          rw [← HN.out, read_none hl (by rw [tl_tl s a 2 ha]; exact h)]
        have hmany : ∀ x, partF b (tl s (a + 2)) = some x → most ≤ (out.length : Int) → T = ([], 2) := fun x h h4 => by
          rw [← HN.out, read_many hl hp (by rw [tl_tl s a 2 ha]; exact h) h4]
        have hmore : ∀ x, partF b (tl s (a + 2)) = some x → ¬ most ≤ (out.length : Int) → readN b most n x.2 (out ++ [x.1]) = T := fun x h h4 => by
          rw [← HN.out, read_more hl hp (by rw [tl_tl s a 2 ha]; exact h) h4]
        have HNO := Lib.hid hnone
        have HMA := Lib.hid hmany
        have HMO := Lib.hid hmore
        obtain ⟨a2, ha2⟩ : ∃ a2, a2 = a + 2 := ⟨_, rfl⟩
        rw [← ha2] at HNO HMA HMO
        have w2 : IntKind.i64.wrap ((a : Int) + 2) = (a2 : Int) := by rw [IntWalk.i64_in _ (by omega)]; omega
        have ha2s : a2 ≤ s.size := by omega
        rw [tl_size] at hn hoz
        have hlt2 : a < a2 := by omega
        have hn2 : s.size - a2 + 2 = s.size - a := by omega
        clear hl hp hnone hmany hmore ha2 hcz
        go_wp2_with fail
        refine (C3.out _).mono ?_
        rintro e w1 ⟨rfl, rfl⟩
        go_wp2_with fail
        obtain ⟨wm, hwm⟩ : ∃ wm : World, wm = wr := ⟨_, rfl⟩
        have HBm : Hid (Below w.heap.size w wm) := Lib.hid (by rw [hwm]; exact HB.out)
        have HOm : Hid (OP 35 wm w.heap.size (.slice A out.length c) out) := Lib.hid (by rw [hwm]; exact HO.out)
        rw [← hwm]
        clear hwm HB HO
        go_loopw [9, 11, 12, 13, 14] (fun av fv nv _ _ wx => ∃ (P N : Nat) (F : ByteArray), av = .int .i64 P ∧ fv = .string F ∧ nv = .int .i64 N ∧ P ≤ s.size ∧ a2 ≤ P ∧ N ≤ P ∧ Hid (Lines s a2 P N F) ∧ wx = wm) (fun av _ _ _ _ _ => s.size - (intOf av).toNat)
        case atStart => exact ⟨a2, 0, _, rfl, rfl, rfl, ha2s, Nat.le_refl _, Nat.zero_le _, Lib.hid (.inl ⟨rfl, rfl⟩), rfl⟩
        case round =>
          obtain ⟨P, N, F, rfl, rfl, rfl, hP, hP2, hNP, HLn, rfl⟩ := hrel
          have C4 := fun w => Find_any s ⟨#[13, 10]⟩ (P : Int) w (by omega) (by decide) (by omega) (by omega)
          rw [Int.toNat_natCast] at C4
          have j0 : (P : Int) ≤ (s.size : Int) := by omega
          have hfc := find_cut s crlfB P hP
          obtain ⟨fx, hfx⟩ : ∃ fx, fx = fndL s.data.toList crlfB.data.toList P := ⟨_, rfl⟩
          rw [show fndL s.data.toList (⟨#[13, 10]⟩ : ByteArray).data.toList P = fx from hfx.symm] at C4
          rw [← hfx] at hfc
          have C4 := Lib.hid C4
          clear hfx
          rcases hfc with ⟨hc, rfl⟩ | ⟨i, rfl, hr, hc, he⟩
          · have HR : Hid (T = ([], 4)) := Lib.hid (HNO.out (by
              rcases HLn.out with ⟨_, e2⟩ | ⟨_, _, _, _, _, k, hk1, hk2⟩
              · rw [e2] at hc; exact part_nocut hc
              · exact part_noskip (by rw [← hk2]; exact skip_miss hc)))
            clear hc
            go_wp2_with fail
            refine (C4.out _).mono ?_
            rintro e w3 ⟨rfl, rfl⟩
            go_wp2_with fail
            go_ret2
            exact ⟨.slice none 0 0, by rw [HR.out]; rfl, by rw [HR.out]; exact OP.nil _ _ _, HBm.out⟩
          · obtain ⟨p, hpe⟩ : ∃ p, p = P + i := ⟨_, rfl⟩
            rw [← hpe] at C4 hr hc he
            have hr : p + 2 ≤ s.size := hr
            have he : s.extract p (p + 2) = crlfB := he
            have hc : cutS (tl s P) crlfB = (s.extract P p, tl s (p + 2), true) := hc
            have hxz : (s.extract P p).size = p - P := by rw [ByteArray.size_extract]; omega
            have hPp : P ≤ p := by omega
            have j1 : (P : Int) ≤ (p : Int) := by omega
            have j2 : (p : Int) ≤ (s.size : Int) := by omega
            have j3 : ¬ (p : Int) < 0 := by omega
            obtain ⟨p2, hp2⟩ : ∃ p2, p2 = p + 2 := ⟨_, rfl⟩
            have w3 : IntKind.i64.wrap ((p : Int) + 2) = (p2 : Int) := by rw [IntWalk.i64_in _ (by omega)]; omega
            have w4 : IntKind.i64.wrap ((N : Int) + 1) = ((N + 1 : Nat) : Int) := by rw [IntWalk.i64_in _ (by omega)]; omega
            have HE := Lib.hid he
            have HC := Lib.hid hc
            have HP2 := Lib.hid hp2
            have y1 : p2 ≤ s.size := by omega
            have y2 : p < p2 := by omega
            have y3 : p2 ≤ p + 2 := by omega
            have y4 : p + 2 ≤ p2 := by omega
            clear hpe hc he hp2
            rcases HLn.out with ⟨hN0, e2⟩ | ⟨hN1, hk0, hF, hFz, hFs, k, hk1, hk2⟩
            · subst hN0
              by_cases hi : p = P
              · have d5 : ((p : Int) == (P : Int)) = true := by rw [hi]; simp
                have HR : Hid (T = ([], 4)) := Lib.hid (HNO.out (part_noname (by
                  have := HC.out
                  rw [e2] at this
                  rw [this]
                  exact name_empty (by rw [ByteArray.size_extract]; omega))))
                clear hi e2
                go_wp2_with fail
                refine (C4.out _).mono ?_
                rintro e w3 ⟨rfl, rfl⟩
                go_wp2_with fail
                go_ret2
                exact ⟨.slice none 0 0, by rw [HR.out]; rfl, by rw [HR.out]; exact OP.nil _ _ _, HBm.out⟩
              · have d5 : ((p : Int) == (P : Int)) = false := beq_eq_false_iff_ne.2 (by omega)
                have HL2 : Hid (Lines s a2 p2 1 (s.extract P p)) := Lib.hid (by
                  have h1 := HC.out
                  rw [e2] at h1
                  exact .inr ⟨Nat.le_refl _, by rw [h1], by rw [h1, e2], by rw [hxz]; omega, by rw [hxz]; omega, (tl s a2).size + 1, by rw [tl_size, tl_size]; omega, by rw [h1, HP2.out]⟩)
                clear e2
                go_wp2_with fail
                refine (C4.out _).mono ?_
                rintro e w3 ⟨rfl, rfl⟩
                go_wp2_with fail
                go_roundw
                case rel => exact ⟨p2, 1, _, rfl, rfl, rfl, by omega, by omega, by omega, HL2, by first | rfl | trivial⟩
                case measure => simp [intOf]; omega
            · have d6 : ((N : Int) == 0) = false := beq_eq_false_iff_ne.2 (by omega)
              have hFz2 : F.size ≤ 4096 := by omega
              by_cases hi : p = P
              · have d7 : (s.extract P p).toList.isEmpty = true := empty_eq (by omega)
                have HSK : Hid (skipN ((tl s a2).size + 1) (cutS (tl s a2) crlfB).2.1 = some (tl s p2)) := Lib.hid (by rw [← hk2, skip_hit0 hk1 HC.out (by omega), HP2.out])
                have HF1 := Lib.hid hF
                have HK0 := Lib.hid hk0
                have hp2s : p2 ≤ s.size := by omega
                have hap : a + 4 ≤ p2 := by omega
                clear hi hF hk0 hk1 hk2 hxz hFz HLn
                go_wp2_with fail
                refine (C4.out _).mono ?_
                rintro e w3 ⟨rfl, rfl⟩
                have HNP : ∀ (o : Bool), nameB F = o → Hid (nameB (cutS (tl s a2) crlfB).1 = o) := fun o h => Lib.hid (by rw [← HF1.out]; exact h)
                rcases name_cases F with ⟨g1, g2⟩ | ⟨g1, ⟨g2, g3⟩ | ⟨g2, g3, ⟨g4, g5⟩ | ⟨g4, g5, g6⟩⟩⟩
                · have d8 : (F.size : Int) ≤ 38 := by omega
                  have HR : Hid (T = ([], 4)) := Lib.hid (HNO.out (part_noname (HNP _ g2).out))
                  clear g2 HNP
                  go_wp2_with fail
                  go_ret2
                  exact ⟨.slice none 0 0, by rw [HR.out]; rfl, by rw [HR.out]; exact OP.nil _ _ _, HBm.out⟩
                · have d8 : ¬ (F.size : Int) ≤ 38 := by omega
                  have d9 : (38 : Int) ≤ (F.size : Int) := by omega
                  have HR : Hid (T = ([], 4)) := Lib.hid (HNO.out (part_noname (HNP _ g3).out))
                  have C5 := fun w => Low_any (F.extract 0 38) w (by rw [ByteArray.size_extract]; omega)
                  have e9 : (F.extract 0 38).data.toList = F.data.toList.take 38 := by rw [lst_ext]; simp
                  rw [e9] at C5
                  have C6 := fun w => Low_any ⟨#[67, 111, 110, 116, 101, 110, 116, 45, 68, 105, 115, 112, 111, 115, 105, 116, 105, 111, 110, 58, 32, 102, 111, 114, 109, 45, 100, 97, 116, 97, 59, 32, 110, 97, 109, 101, 61, 34]⟩ w (by decide)
                  rw [dis_low] at C6
                  obtain ⟨G, hG⟩ : ∃ G, G = (F.data.toList.take 38).map lowB := ⟨_, rfl⟩
                  rw [← hG] at C5 g2
                  have d10 : (G == [99, 111, 110, 116, 101, 110, 116, 45, 100, 105, 115, 112, 111, 115, 105, 116, 105, 111, 110, 58, 32, 102, 111, 114, 109, 45, 100, 97, 116, 97, 59, 32, 110, 97, 109, 101, 61, 34]) = false := g2
                  have C5 := Lib.hid C5
                  have C6 := Lib.hid C6
                  clear g2 g3 HNP hG e9
                  go_wp2_with fail
                  refine (C5.out _).mono ?_
                  rintro e w4 ⟨rfl, q4, hw4⟩
                  have HB4 : Hid (Below w.heap.size w w4) := Lib.hid (by rw [hw4]; exact below_drewN HBm.out q4)
                  clear hw4
                  go_wp2_with fail
                  refine (C6.out _).mono ?_
                  rintro e w5 ⟨rfl, q5, hw5⟩
                  have HB5 : Hid (Below w.heap.size w w5) := Lib.hid (by rw [hw5]; exact below_drewN HB4.out q5)
                  clear hw5
                  unfold begB
                  go_wp2_with fail
                  go_ret2
                  exact ⟨.slice none 0 0, by rw [HR.out]; rfl, by rw [HR.out]; exact OP.nil _ _ _, HB5.out⟩
                · have d8 : ¬ (F.size : Int) ≤ 38 := by omega
                  have HR : Hid (T = ([], 4)) := Lib.hid (HNO.out (part_noname (HNP _ g5).out))
                  have d12 : ((F[F.size - 1].toNat : Int) != 34) = true := byte_neq (c := 34) g4
                  clear g4 g5 HNP
                  have d9 : (38 : Int) ≤ (F.size : Int) := by omega
                  have C5 := fun w => Low_any (F.extract 0 38) w (by rw [ByteArray.size_extract]; omega)
                  have e9 : (F.extract 0 38).data.toList = F.data.toList.take 38 := by rw [lst_ext]; simp
                  rw [e9] at C5
                  have C6 := fun w => Low_any ⟨#[67, 111, 110, 116, 101, 110, 116, 45, 68, 105, 115, 112, 111, 115, 105, 116, 105, 111, 110, 58, 32, 102, 111, 114, 109, 45, 100, 97, 116, 97, 59, 32, 110, 97, 109, 101, 61, 34]⟩ w (by decide)
                  rw [dis_low] at C6
                  obtain ⟨G, hG⟩ : ∃ G, G = (F.data.toList.take 38).map lowB := ⟨_, rfl⟩
                  rw [← hG] at C5 g2
                  have d10 : (G == [99, 111, 110, 116, 101, 110, 116, 45, 100, 105, 115, 112, 111, 115, 105, 116, 105, 111, 110, 58, 32, 102, 111, 114, 109, 45, 100, 97, 116, 97, 59, 32, 110, 97, 109, 101, 61, 34]) = true := g2
                  have w6 : IntKind.i64.wrap ((F.size : Int) - 1) = ((F.size - 1 : Nat) : Int) := by rw [IntWalk.i64_in _ (by omega)]; omega
                  have d11 : ((F.size - 1 : Nat) : Int) < (F.size : Int) := by omega
                  have d14 : (38 : Int) ≤ ((F.size - 1 : Nat) : Int) := by omega
                  have d15 : ((F.size - 1 : Nat) : Int) ≤ (F.size : Int) := by omega
                  have C5 := Lib.hid C5
                  have C6 := Lib.hid C6
                  clear g2 hG e9
                  go_wp2_with fail
                  refine (C5.out _).mono ?_
                  rintro e w4 ⟨rfl, q4, hw4⟩
                  have HB4 : Hid (Below w.heap.size w w4) := Lib.hid (by rw [hw4]; exact below_drewN HBm.out q4)
                  have HO4 : Hid (OP 35 w4 w.heap.size (.slice A out.length c) out) := Lib.hid (by rw [hw4]; exact HOm.out.drewN q4)
                  clear hw4
                  go_wp2_with fail
                  refine (C6.out _).mono ?_
                  rintro e w5 ⟨rfl, q5, hw5⟩
                  have HB5 : Hid (Below w.heap.size w w5) := Lib.hid (by rw [hw5]; exact below_drewN HB4.out q5)
                  have HO5 : Hid (OP 35 w5 w.heap.size (.slice A out.length c) out) := Lib.hid (by rw [hw5]; exact HO4.out.drewN q5)
                  clear hw5
                  unfold begB
                  go_wp2_with fail
                  go_ret2
                  exact ⟨.slice none 0 0, by rw [HR.out]; rfl, by rw [HR.out]; exact OP.nil _ _ _, HB5.out⟩
                · have d8 : ¬ (F.size : Int) ≤ 38 := by omega
                  have d12 : ((F[F.size - 1].toNat : Int) != 34) = false := byte_neqf (c := 34) g4
                  have HG5 := Lib.hid g5
                  have HG6 := Lib.hid g6
                  have HNPP := Lib.hid HNP
                  clear g4 g5 g6 HNP
                  have d9 : (38 : Int) ≤ (F.size : Int) := by omega
                  have C5 := fun w => Low_any (F.extract 0 38) w (by rw [ByteArray.size_extract]; omega)
                  have e9 : (F.extract 0 38).data.toList = F.data.toList.take 38 := by rw [lst_ext]; simp
                  rw [e9] at C5
                  have C6 := fun w => Low_any ⟨#[67, 111, 110, 116, 101, 110, 116, 45, 68, 105, 115, 112, 111, 115, 105, 116, 105, 111, 110, 58, 32, 102, 111, 114, 109, 45, 100, 97, 116, 97, 59, 32, 110, 97, 109, 101, 61, 34]⟩ w (by decide)
                  rw [dis_low] at C6
                  obtain ⟨G, hG⟩ : ∃ G, G = (F.data.toList.take 38).map lowB := ⟨_, rfl⟩
                  rw [← hG] at C5 g2
                  have d10 : (G == [99, 111, 110, 116, 101, 110, 116, 45, 100, 105, 115, 112, 111, 115, 105, 116, 105, 111, 110, 58, 32, 102, 111, 114, 109, 45, 100, 97, 116, 97, 59, 32, 110, 97, 109, 101, 61, 34]) = true := g2
                  have w6 : IntKind.i64.wrap ((F.size : Int) - 1) = ((F.size - 1 : Nat) : Int) := by rw [IntWalk.i64_in _ (by omega)]; omega
                  have d11 : ((F.size - 1 : Nat) : Int) < (F.size : Int) := by omega
                  have d14 : (38 : Int) ≤ ((F.size - 1 : Nat) : Int) := by omega
                  have d15 : ((F.size - 1 : Nat) : Int) ≤ (F.size : Int) := by omega
                  have C5 := Lib.hid C5
                  have C6 := Lib.hid C6
                  clear g2 hG e9
                  go_wp2_with fail
                  refine (C5.out _).mono ?_
                  rintro e w4 ⟨rfl, q4, hw4⟩
                  have HB4 : Hid (Below w.heap.size w w4) := Lib.hid (by rw [hw4]; exact below_drewN HBm.out q4)
                  have HO4 : Hid (OP 35 w4 w.heap.size (.slice A out.length c) out) := Lib.hid (by rw [hw4]; exact HOm.out.drewN q4)
                  clear hw4
                  go_wp2_with fail
                  refine (C6.out _).mono ?_
                  rintro e w5 ⟨rfl, q5, hw5⟩
                  have HB5 : Hid (Below w.heap.size w w5) := Lib.hid (by rw [hw5]; exact below_drewN HB4.out q5)
                  have HO5 : Hid (OP 35 w5 w.heap.size (.slice A out.length c) out) := Lib.hid (by rw [hw5]; exact HO4.out.drewN q5)
                  clear hw5
                  unfold begB
                  obtain ⟨nm, hnm⟩ : ∃ nm, F.extract 38 (F.size - 1) = nm := ⟨_, rfl⟩
                  have hnz : nm.size ≤ 4096 := by rw [← hnm, ByteArray.size_extract]; omega
                  have HNM := Lib.hid hnm
                  have D1 := fun w => has1_any nm 34 w (by omega)
                  have D2 := fun w => has1_any nm 13 w (by omega)
                  have D3 := fun w => has1_any nm 10 w (by omega)
                  obtain ⟨a1, h1⟩ : ∃ a, a = decide (0 ≤ Lib.indexByte nm.data.toList 34) := ⟨_, rfl⟩
                  obtain ⟨b1, h2'⟩ : ∃ a, a = decide (0 ≤ Lib.indexByte nm.data.toList 13) := ⟨_, rfl⟩
                  obtain ⟨c1, h3⟩ : ∃ a, a = decide (0 ≤ Lib.indexByte nm.data.toList 10) := ⟨_, rfl⟩
                  have hbad : nameB F = !(a1 || b1 || c1) := by rw [HG5.out, hnm, hasQ_three, h1, h2', h3]
                  rw [← h1] at D1
                  rw [← h2'] at D2
                  rw [← h3] at D3
                  have D1 := Lib.hid D1
                  have D2 := Lib.hid D2
                  have D3 := Lib.hid D3
                  have HBD := Lib.hid hbad
                  clear h1 h2' h3 hbad
                  cases a1 with
                  | true =>
                    have HR : Hid (T = ([], 4)) := Lib.hid (HNO.out (part_noname (HNPP.out _ (by rw [HBD.out]; rfl)).out))
                    go_wp2_with fail
                    refine (D1.out _).mono ?_
                    rintro e w6 ⟨rfl, rfl⟩
                    go_wp2_with fail
                    go_ret2
                    exact ⟨.slice none 0 0, by rw [HR.out]; rfl, by rw [HR.out]; exact OP.nil _ _ _, HB5.out⟩
                  | false =>
                    cases b1 with
                    | true =>
                      have HR : Hid (T = ([], 4)) := Lib.hid (HNO.out (part_noname (HNPP.out _ (by rw [HBD.out]; rfl)).out))
                      go_wp2_with fail
                      refine (D1.out _).mono ?_
                      rintro e w6 ⟨rfl, rfl⟩
                      go_wp2_with fail
                      refine (D2.out _).mono ?_
                      rintro e w7 ⟨rfl, rfl⟩
                      go_wp2_with fail
                      go_ret2
                      exact ⟨.slice none 0 0, by rw [HR.out]; rfl, by rw [HR.out]; exact OP.nil _ _ _, HB5.out⟩
                    | false =>
                      cases c1 with
                      | true =>
                        have HR : Hid (T = ([], 4)) := Lib.hid (HNO.out (part_noname (HNPP.out _ (by rw [HBD.out]; rfl)).out))
                        go_wp2_with fail
                        refine (D1.out _).mono ?_
                        rintro e w6 ⟨rfl, rfl⟩
                        go_wp2_with fail
                        refine (D2.out _).mono ?_
                        rintro e w7 ⟨rfl, rfl⟩
                        go_wp2_with fail
                        refine (D3.out _).mono ?_
                        rintro e w8 ⟨rfl, rfl⟩
                        go_wp2_with fail
                        go_ret2
                        exact ⟨.slice none 0 0, by rw [HR.out]; rfl, by rw [HR.out]; exact OP.nil _ _ _, HB5.out⟩
                      | false =>
                        have HNB := Lib.hid (HNPP.out true (by rw [HBD.out]; rfl)).out
                        go_wp2_with fail
                        refine (D1.out _).mono ?_
                        rintro e w6 ⟨rfl, rfl⟩
                        go_wp2_with fail
                        refine (D2.out _).mono ?_
                        rintro e w7 ⟨rfl, rfl⟩
                        go_wp2_with fail
                        refine (D3.out _).mono ?_
                        rintro e w8 ⟨rfl, rfl⟩
                        have hkp : P ≤ s.size := hP
                        have C7 := fun w => Find_any s SP (p : Int) w (by omega) (by omega) (by omega) (by omega)
                        rw [Int.toNat_natCast] at C7
                        have w7 : IntKind.i64.wrap ((p2 : Int) - 2) = (p : Int) := by rw [IntWalk.i64_in _ (by have := HP2.out; omega)]; have := HP2.out; omega
                        have hfc := find_cut s SP p (by omega)
                        obtain ⟨fx, hfx⟩ : ∃ fx, fx = fndL s.data.toList SP.data.toList p := ⟨_, rfl⟩
                        rw [← hfx] at C7 hfc
                        have C7 := Lib.hid C7
                        have hraw : rawB (tl s p2) = tl s p := by rw [HP2.out]; exact raw_tl HE.out (by have := HP2.out; omega)
                        clear hfx
                        rcases hfc with ⟨hc, rfl⟩ | ⟨j, rfl, hr2, hc, he⟩
                        · have HR : Hid (T = ([], 4)) := Lib.hid (HNO.out (part_nosep HSK.out (by rw [hraw, ← HSP.out]; exact hc)))
                          clear hc hraw
                          go_wp2_with fail
                          refine (C7.out _).mono ?_
                          rintro e w9 ⟨rfl, rfl⟩
                          go_wp2_with fail
                          go_ret2
                          exact ⟨.slice none 0 0, by rw [HR.out]; rfl, by rw [HR.out]; exact OP.nil _ _ _, HB5.out⟩
                        · obtain ⟨u, hu⟩ : ∃ u, u = p + j := ⟨_, rfl⟩
                          rw [← hu] at C7 hc he hr2
                          have hval : valS (s.extract p u) = s.extract p2 (max u p2) := by
                            rw [HP2.out, hu]
                            exact val_tl (t := SP) (L := [10, 45, 45] ++ b.data.toList) HE.out (by have := HP2.out; omega) (by rw [← hu]; exact he) (by rw [← hu]; exact hr2) (by rw [HSP.out]; unfold sepB; rw [lst_app]; rfl)
                          have hsome : partF b (tl s a2) = some (⟨nm, s.extract p2 (max u p2)⟩, tl s (u + SP.size)) := by
                            rw [part_some HK0.out HNB.out HSK.out (by rw [hraw, ← HSP.out, hc]), hraw, ← HSP.out, hc]
                            show some ((Fd.mk (nameS (cutS (tl s a2) crlfB).1) (valS (s.extract p u)), tl s (u + SP.size)) : Fd × ByteArray) = _
                            rw [hval, ← HF1.out, HG6.out, hnm]
                          have k0 : ¬ (u : Int) < 0 := by omega
                          have HHS := Lib.hid hsome
                          have hpu : p ≤ u := by omega
                          clear hc he hval hsome hraw hu
                          by_cases hmo : most ≤ (out.length : Int)
                          · have HR : Hid (T = ([], 2)) := Lib.hid (HMA.out _ HHS.out hmo)
                            go_wp2_with fail
                            refine (C7.out _).mono ?_
                            rintro e w9 ⟨rfl, rfl⟩
                            go_wp2_with fail
                            go_ret2
                            exact ⟨.slice none 0 0, by rw [HR.out]; rfl, by rw [HR.out]; exact OP.nil _ _ _, HB5.out⟩
                          · have HM2 := Lib.hid (HMO.out _ HHS.out (by omega))
                            obtain ⟨mx, hmx⟩ : ∃ mx, mx = max u p2 := ⟨_, rfl⟩
                            have m1 : (p2 : Int) ≤ (mx : Int) := by omega
                            have m2 : (mx : Int) ≤ (s.size : Int) := by omega
                            have m3 : max (u : Int) (p2 : Int) = (mx : Int) := by omega
                            obtain ⟨z, hz⟩ : ∃ z, z = u + SP.size := ⟨_, rfl⟩
                            have w8 : IntKind.i64.wrap ((u : Int) + (SP.size : Int)) = (z : Int) := by rw [IntWalk.i64_in _ (by omega)]; omega
                            rw [← hmx, ← hz] at HM2
                            have HZ := Lib.hid hz
                            clear hmx hz
                            go_wp2_with fail
                            refine (C7.out _).mono ?_
                            rintro e w9 ⟨rfl, rfl⟩
                            go_wp2_with (at_builtin; refine wpL_appP infoArg Tryd.underlying28 rfl (.tmp 117) (.tmp 126) rfl HO5.out rfl ⟨nm, s.extract p2 mx⟩ rfl rfl (by omega) HB5.out.size ?_; intro v5 wy ho5 _ hb5)
                            have HO6 := Lib.hid ho5
                            have HB6 := Lib.hid (HB5.out.trans hb5)
                            clear ho5 hb5
                            go_wp2_with fail
                            go_roundw
                            case rel => exact ⟨z, n, out ++ [⟨nm, s.extract p2 mx⟩], rfl, by have := HZ.out; omega, by rw [tl_size]; have := HZ.out; omega, by rw [tl_size, List.length_append, List.length_singleton]; have := HZ.out; omega, HM2, HO6.out, HB6⟩
                            case measure => simp [intOf]; have := HZ.out; omega
              · have d7 : (s.extract P p).toList.isEmpty = false := empty_ne (by omega)
                have HL2 : Hid (Lines s a2 p2 (N + 1) F) := Lib.hid (by
                  obtain ⟨k, rfl⟩ : ∃ j, k = j + 1 := ⟨k - 1, by omega⟩
                  exact .inr ⟨by omega, hk0, hF, hFz, hFs, k, by rw [tl_size] at hk1 ⊢; omega, by rw [← hk2, skip_hit1 HC.out (by omega), HP2.out]⟩)
                clear hk0 hF hFs hk1 hk2 hFz
                go_wp2_with fail
                refine (C4.out _).mono ?_
                rintro e w3 ⟨rfl, rfl⟩
                go_wp2_with fail
                go_roundw
                case rel => exact ⟨p2, N + 1, F, rfl, rfl, rfl, by omega, by omega, by omega, HL2, by first | rfl | trivial⟩
                case measure => simp [intOf]; omega
theorem readMulti_any (hb : b.size ≤ 1048576) (hmo : (Lit.int .i64 most).wf = true) : Calls Tryd.prog 31 #[.string s, .string b, .int .i64 most] w (PsRes b s most w) := by
  cases h : bndL b with
  | false => exact rr_arg b s most w hb hmo h
  | true =>
    by_cases h2 : 4096 < s.size
    · exact rr_large b s most w hb h h2
    · cases h3 : preB s (ddB b) with
      | false => exact rr_form b s most w hb h h2 h3
      | true => exact rr_rest b s most w hb h h2 h3
end
end Go.Proofs.YtaepbpdcfmklpaaDoor
