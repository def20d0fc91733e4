/- Walks: wickref.HtmlDecode. -/
import Derived.Test.YthfolopnjmkllaaDoorHtmC
namespace Go.Proofs.YthfolopnjmkllaaDoor
open Go.RowKit
set_option linter.unusedVariables false
set_option linter.unusedSimpArgs false

theorem at_eq (l p : List UInt8) (i : Int) (h0 : 0 ≤ i) (hp0 : p ≠ []) : atB l i p = hp (l.drop i.toNat) p := by
  unfold atB
  rw [decide_eq_true h0, Bool.true_and]
  by_cases h : i ≤ l.length
  · rw [decide_eq_true h, Bool.true_and]; rfl
  · rw [decide_eq_false h, Bool.false_and, List.drop_eq_nil_of_le (by omega)]
    cases p with
    | nil => exact absurd rfl hp0
    | cons a q => rfl
theorem at_hp (s t : ByteArray) (i : Int) (p T : List UInt8) (b : Bool) (hT : s.data.toList.drop i.toNat = T) (ht : t.data.toList = p) (hb : hp T p = b) (h0 : 0 ≤ i) (h1 : i ≤ 140737488355338) (hp0 : p ≠ []) (hpl : p.length ≤ 100) (w : World) (hs : s.size ≤ 140737488355320) :
    Calls Tryd.prog 64 #[.string s, .int .i64 i, .string t] w fun e w' => e = .returned (.bool b) ∧ w = w' := by
  subst hb; subst ht; subst hT
  rw [← at_eq _ _ i h0 hp0]
  rw [lst_len] at hpl
  exact at_any s t i w (by omega) (by omega) (by omega) (by omega)
theorem val_int {k : IntKind} {a b : Int} (h : a = b) : Value.int k a = .int k b := by rw [h]
theorem num_res (t : ByteArray) (l : List UInt8) (hl : t.data.toList = l) (base most N er : Int) (hN : numN base most (str l) = N) (he : numE base most (str l) = er) (hb : 2 ≤ base) (hb2 : base ≤ 16) (hm0 : 0 ≤ most) (hm : most ≤ 9) (hz : l.length ≤ 100) (w : World) :
    Calls Tryd.prog 65 #[.string t, .int .i64 base, .int .i64 most] w fun e w' => e = .returned (.tuple #[.int .i64 N, .int .i64 er]) ∧ w = w' := by
  obtain rfl : t = str l := lst_inj (by rw [hl])
  subst hN; subst he
  exact Number_any _ base most w (by rw [size_str]; unfold maxLen; omega) hb hb2 hm0 hm
theorem nm_ne (k : Nat) (h : k < 4) : nmL k ≠ [] := by
  match k, h with
  | 0, _ | 1, _ | 2, _ | 3, _ => decide
theorem num_ref (base most : Int) (l : List UInt8) (hb : 2 ≤ base) (hb2 : base ≤ 16) (h1 : 1 ≤ l.length) (hl : (l.length : Int) ≤ most) :
    ∃ N er, numN base most (str l) = N ∧ numE base most (str l) = er ∧ ((er = 0 ∧ 0 ≤ N ∧ N < 256 ∧ (digs base l && decide (numv base l < 256)) = true ∧ numv base l = N) ∨ (er = 0 ∧ 256 ≤ N ∧ (digs base l && decide (numv base l < 256)) = false) ∨ (er = 4 ∧ (digs base l && decide (numv base l < 256)) = false)) := by
  cases hd : digs base l with
  | true =>
    obtain ⟨g1, g2⟩ := num_good (base := base) (most := most) (s := str l) (by rw [show (str l).data.toList = l from lst_str l]; exact hd) (by rw [size_str]; exact h1) (by rw [size_str]; exact hl)
    rw [show (str l).data.toList = l from lst_str l] at g1
    refine ⟨_, _, g1, g2, ?_⟩
    have h0 := (numv_bd hb hb2 l hd).1
    by_cases h : numv base l < 256
    · exact .inl ⟨rfl, h0, h, by rw [decide_eq_true h]; rfl, rfl⟩
    · exact .inr (.inl ⟨rfl, by omega, by rw [decide_eq_false h]; rfl⟩)
  | false =>
    obtain ⟨g1, g2⟩ := num_bad (base := base) (most := most) (s := str l) (.inl (by rw [show (str l).data.toList = l from lst_str l]; exact hd))
    exact ⟨_, _, g1, g2, .inr (.inr ⟨rfl, rfl⟩)⟩
theorem htm_ref {b : UInt8} {r : List UInt8} {x n : Int} (h : refH (b :: r) = (x, n)) : htmF (b :: r) = (UInt8.ofNat x.toNat, n.toNat) ∧ 1 ≤ n ∧ n ≤ (b :: r).length := by
  rw [ref_eq] at h
  obtain ⟨b1, b2, b3, b4⟩ := entF_bd (b :: r)
  unfold htmF
  split at h
  · next h0 =>
    injection h with e1 e2
    rw [if_pos h0, ← e1, ← e2]
    refine ⟨?_, by omega, by simp only [List.length_cons]; omega⟩
    show (b, 1) = _
    rw [show ((b.toNat : Int)).toNat = b.toNat by omega, UInt8.ofNat_toNat]; rfl
  · next h0 =>
    rw [if_neg h0]
    rw [h] at b3 b4 h0 ⊢
    exact ⟨rfl, by simp only [] at h0 b3; omega, b4⟩
def accH (T : List UInt8) (Z : Int × Int) : Nat → Int × Int
  | 0 => nmH T Z 4
  | 1 => stpH 10 [38, 35] T (nmH T Z 4) 3
  | _ => stpH 16 [38, 35, 120] T (stpH 10 [38, 35] T (nmH T Z 4) 3) 2

set_option maxHeartbeats 4000000 in
set_option maxRecDepth 100000 in
theorem HtmlDecode_any (s : ByteArray) (w : World) (hs : s.size ≤ 140737488355320) :
    Calls Tryd.prog 34 #[.string s] w fun e w' => e = .returned (.string (str (decL htmF s.data.toList))) ∧ Below w.heap.size w w' := by
  go_enter Tryd.func34, Tryd.ntmps34
  go_wp2
  go_loopw [3, 4] (fun v i wr => ∃ (k : Nat) (A : List UInt8), k ≤ s.size ∧ A.length ≤ k ∧ i = .int .i64 k ∧ v = .string (str A) ∧ Hid (A ++ decL htmF (s.data.toList.drop k) = decL htmF s.data.toList) ∧ Below w.heap.size w wr) (fun _ i _ => s.size - (intOf i).toNat)
  case atStart => exact ⟨0, [], by omega, by simp, rfl, rfl, rfl, Below.refl _ _⟩
  case round =>
    obtain ⟨k, A, hk, hA, rfl, rfl, HE, hbl⟩ := hrel
    have hsz := hbl.size
    have HB := Lib.hid hbl
    have hAs : (str A).size ≤ k := by rw [size_str]; omega
    clear hbl
    by_cases hlt : k < s.size
    · obtain ⟨T, hT⟩ : ∃ T, T = s.data.toList.drop k := ⟨_, rfl⟩
      have hd := drop_cons s k hlt
      rw [← hT] at hd
      have hll : T.length = s.size - k := by rw [hT, List.length_drop, lst_len]
      have HS := Lib.hid (fun (b : UInt8) (n : Nat) (h1 : 1 ≤ n) (h : htmF (s.data.toList.drop k) = (b, n)) => decL_step hlt h1 h)
      have HT := Lib.hid hT
      have HL := Lib.hid hll
      have HD := Lib.hid hd
      have HK := Lib.hid (show s.data.toList.drop ((k : Int)).toNat = T by rw [show ((k : Int)).toNat = k by omega, ← hT])
      clear hT hll hd
      obtain ⟨Z, hZ⟩ : ∃ Z : Int × Int, Z = ((s[k].toNat : Int), 1) := ⟨_, rfl⟩
      have HZ := Lib.hid hZ
      have HC0 := Lib.hid (nm_cell wr)
      have HB0 := Lib.hid (show Below w.heap.size w (nmW wr) from HB.out.alloc (by omega) _)
      unfold nmW at HC0 HB0
      obtain ⟨g, hg⟩ : ∃ g, wr.heap.size = g := ⟨_, rfl⟩
      rw [hg] at HC0
      go_wp2
      clear hg
      obtain ⟨w1, e1⟩ : ∃ w1, w1 = wr.alloc (.cells #[.string ⟨#[38, 108, 116, 59]⟩, .string ⟨#[38, 103, 116, 59]⟩, .string ⟨#[38, 97, 109, 112, 59]⟩, .string ⟨#[38, 113, 117, 111, 116, 59]⟩] 9) := ⟨_, rfl⟩
      rw [← e1] at HC0 HB0 ⊢
      clear e1
      go_loopw [5, 6, 8] (fun b n i wr => ∃ q : Nat, q ≤ 4 ∧ i = .int .i64 q ∧ b = .int .u8 (nmH T Z q).1 ∧ n = .int .i64 (nmH T Z q).2 ∧ Hid (∀ j, j < 4 → wr.cell? ⟨g, j, none⟩ = some (.string (str (nmL j)))) ∧ Hid (Below w.heap.size w wr)) (fun _ _ i _ => 4 - (intOf i).toNat)
      case atStart => exact ⟨0, by omega, rfl, by rw [hZ]; rfl, by rw [hZ]; rfl, HC0, HB0⟩
      case round =>
        clear HC0 HB0 hZ
        obtain ⟨q, hq, rfl, rfl, rfl, HC, HB1⟩ := hrel
        by_cases hqt : q < 4
        · have hc := HC.out q hqt
          obtain ⟨n1, n2⟩ := nm_size q hqt
          have hne := nm_ne q hqt
          have hnz : ((str (nmL q)).size : Int) = ((nmL q).length : Int) := by rw [size_str]
          have i1 : (0 : Int) ≤ q ∧ (q : Int) < 4 := by omega
          obtain ⟨Y, hY⟩ : ∃ Y, nmH T Z q = Y := ⟨_, rfl⟩
          rw [hY]
          have HST := Lib.hid (show nmH T Z (q + 1) = if hp T (nmL q) then (((nmB q).toNat : Int), ((nmL q).length : Int)) else Y by rw [← hY]; rfl)
          clear hY
          cases hv : hp T (nmL q) with
          | true =>
            have HN := Lib.hid (HST.out.trans (if_pos hv))
            have HV := Lib.hid hv
            clear hv
            go_wp2_with (go_at_call 64; refine (at_hp s _ _ (nmL q) T true (by rw [show ((k : Int)).toNat = k by omega, ← HT.out]) (lst_str _) HV.out (by omega) (by omega) hne (by omega) _ hs).mono ?_; rintro e w' ⟨rfl, rfl⟩)
            go_quiet (fail)
            all_goals go_wp2
            all_goals exact ⟨⟨q + 1, by omega, by simp, by rw [HN.out, lt_at q hqt], by rw [HN.out], HC, below_drewN HB1.out _⟩, by simp [intOf]; omega⟩
          | false =>
            have HN := Lib.hid (HST.out.trans (if_neg (by rw [hv]; decide)))
            have HV := Lib.hid hv
            clear hv
            go_wp2_with (go_at_call 64; refine (at_hp s _ _ (nmL q) T false (by rw [show ((k : Int)).toNat = k by omega, ← HT.out]) (lst_str _) HV.out (by omega) (by omega) hne (by omega) _ hs).mono ?_; rintro e w' ⟨rfl, rfl⟩)
            go_roundw
            case rel => exact ⟨q + 1, by omega, by go_num, by rw [HN.out], by rw [HN.out], HC, HB1⟩
            case measure => simp [intOf]; omega
        · have hq4 : q = 4 := by omega
          subst hq4
          obtain ⟨Z1, hZ1⟩ : ∃ Z1, nmH T Z 4 = Z1 := ⟨_, rfl⟩
          rw [hZ1]
          have hrf : refH T = stpH 16 [38, 35, 120] T (stpH 10 [38, 35] T Z1 3) 2 := by
            rw [← hZ1, HZ.out, HD.out]; rfl
          clear hZ1
          obtain ⟨Z2, hZ2⟩ : ∃ Z2, stpH 10 [38, 35] T Z1 3 = Z2 := ⟨_, rfl⟩
          rw [hZ2] at hrf
          obtain ⟨Z3, hZ3⟩ : ∃ Z3, stpH 16 [38, 35, 120] T Z2 2 = Z3 := ⟨_, rfl⟩
          rw [hZ3] at hrf
          have HZ2 := Lib.hid hZ2
          have HZ3 := Lib.hid hZ3
          have HRF := Lib.hid hrf
          clear hZ2 hZ3 hrf
          go_wp2_with fail
          go_loop [5, 6, 9, 10] (fun b n x y => (x = .int .i64 10 ∧ y = .int .i64 3 ∧ b = .int .u8 Z1.1 ∧ n = .int .i64 Z1.2) ∨ (x = .int .i64 16 ∧ y = .int .i64 2 ∧ b = .int .u8 Z2.1 ∧ n = .int .i64 Z2.2) ∨ (x = .int .i64 22 ∧ y = .int .i64 1 ∧ b = .int .u8 Z3.1 ∧ n = .int .i64 Z3.2)) (fun _ _ x _ => 23 - (intOf x).toNat)
          case atStart => exact .inl ⟨rfl, rfl, rfl, rfl⟩
          case round =>
            rcases hrel with ⟨rfl, rfl, rfl, rfl⟩ | ⟨rfl, rfl, rfl, rfl⟩ | ⟨rfl, rfl, rfl, rfl⟩
            · go_wp2_with fail
              go_loop [5, 6, 12] (fun b n i => ∃ q : Nat, q ≤ 3 ∧ i = .int .i64 ((q : Int) + 1) ∧ b = .int .u8 (stpH 10 [38, 35] T Z1 q).1 ∧ n = .int .i64 (stpH 10 [38, 35] T Z1 q).2) (fun _ _ i => 3 + 1 - (intOf i).toNat)
              case atStart => exact ⟨0, by omega, rfl, rfl, rfl⟩
              case round =>
                obtain ⟨q, hq, rfl, rfl, rfl⟩ := hrel
                by_cases hqt : q < 3
                · obtain ⟨Y, hY⟩ : ∃ Y, stpH 10 [38, 35] T Z1 q = Y := ⟨_, rfl⟩
                  rw [hY]
                  have HST := Lib.hid (show stpH 10 [38, 35] T Z1 (q + 1) = if candH 10 [38, 35] T (q + 1) then (numv 10 ((T.drop 2).take (q + 1)), ((2 + (q + 1) + 1 : Nat) : Int)) else Y by rw [← hY]; rfl)
                  clear hY
                  have j1 : IntKind.i64.wrap ((k : Int) + 2) = (k : Int) + 2 := IntWalk.i64_in _ (by omega)
                  have j2 : IntKind.i64.wrap ((k : Int) + 2 + ((q : Int) + 1)) = (k : Int) + 2 + ((q : Int) + 1) := IntWalk.i64_in _ (by omega)
                  have j3 : IntKind.i64.wrap ((q : Int) + 1 + 1) = (q : Int) + 1 + 1 := IntWalk.i64_in _ (by omega)
                  cases hf : hp T [38, 35] with
                  | false =>
                    have HN := Lib.hid (HST.out.trans (if_neg (by rw [cand_off hf]; decide)))
                    have CF := Lib.hid (fun w' => at_hp s ⟨#[38, 35]⟩ (k : Int) [38, 35] T false HK.out rfl hf (by omega) (by omega) (by decide) (by decide) w' hs)
                    clear hf
                    go_wp2_with fail
                    refine (CF.out _).mono ?_
                    rintro e w' ⟨rfl, rfl⟩
                    go_wp2_with fail
                    go_round
                    case rel => exact ⟨q + 1, by omega, by go_num, by rw [HN.out], by rw [HN.out]⟩
                    case measure => simp [intOf]; omega
                  | true =>
                    have CF := Lib.hid (fun w' => at_hp s ⟨#[38, 35]⟩ (k : Int) [38, 35] T true HK.out rfl hf (by omega) (by omega) (by decide) (by decide) w' hs)
                    have hdr : s.data.toList.drop ((k : Int) + 2 + ((q : Int) + 1)).toNat = T.drop (2 + (q + 1)) := by
                      rw [HT.out, List.drop_drop]; congr 1; omega
                    cases he : hp (T.drop (2 + (q + 1))) [59] with
                    | false =>
                      have HN := Lib.hid (HST.out.trans (if_neg (show ¬ candH 10 [38, 35] T (q + 1) = true by unfold candH; rw [show ([38, 35] : List UInt8).length = 2 from rfl, he]; simp)))
                      have CE := Lib.hid (fun w' => at_hp s ⟨#[59]⟩ ((k : Int) + 2 + ((q : Int) + 1)) [59] (T.drop (2 + (q + 1))) false hdr rfl he (by omega) (by omega) (by decide) (by decide) w' hs)
                      clear hf he hdr
                      go_wp2_with fail
                      refine (CF.out _).mono ?_
                      rintro e w' ⟨rfl, rfl⟩
                      go_wp2_with fail
                      refine (CE.out _).mono ?_
                      rintro e w' ⟨rfl, rfl⟩
                      go_wp2_with fail
                      go_round
                      case rel => exact ⟨q + 1, by omega, by go_num, by rw [HN.out], by rw [HN.out]⟩
                      case measure => simp [intOf]; omega
                    | true =>
                      have hln := hp_len he
                      rw [List.length_drop, HL.out] at hln
                      simp only [List.length_cons, List.length_nil] at hln
                      obtain ⟨l, hl⟩ : ∃ l, (T.drop 2).take (q + 1) = l := ⟨_, rfl⟩
                      rw [hl] at HST
                      have hlq : l.length = q + 1 := by rw [← hl, List.length_take, List.length_drop, HL.out]; omega
                      have hxl : (s.extract ((k : Int) + 2).toNat ((k : Int) + 2 + ((q : Int) + 1)).toNat).data.toList = l := by
                        rw [lst_ext, List.drop_take, ← hl, HT.out, List.drop_drop, show ((k : Int) + 2).toNat = k + 2 by omega, show ((k : Int) + 2 + ((q : Int) + 1)).toNat - (k + 2) = q + 1 by omega]
                      have hcand : candH 10 [38, 35] T (q + 1) = (digs 10 l && decide (numv 10 l < 256)) := by
                        unfold candH
                        rw [show ([38, 35] : List UInt8).length = 2 from rfl, he, hf, hl]; rfl
                      rw [hcand] at HST
                      have CE := Lib.hid (fun w' => at_hp s ⟨#[59]⟩ ((k : Int) + 2 + ((q : Int) + 1)) [59] (T.drop (2 + (q + 1))) true hdr rfl he (by omega) (by omega) (by decide) (by decide) w' hs)
                      obtain ⟨N, er, hN, her, hc⟩ := num_ref 10 3 l (by omega) (by omega) (by omega) (by omega)
                      have CN := Lib.hid (fun w' => num_res _ l hxl 10 3 N er hN her (by omega) (by omega) (by omega) (by omega) (by omega) w')
                      have HCC := Lib.hid hc
                      clear hf he hl hcand hdr hxl hN her hc
                      have i1 : (0 : Int) ≤ (k : Int) + 2 ∧ (k : Int) + 2 ≤ (k : Int) + 2 + ((q : Int) + 1) ∧ (k : Int) + 2 + ((q : Int) + 1) ≤ s.size := by omega
                      go_wp2_with fail
                      refine (CF.out _).mono ?_
                      rintro e w' ⟨rfl, rfl⟩
                      go_wp2_with fail
                      refine (CE.out _).mono ?_
                      rintro e w' ⟨rfl, rfl⟩
                      go_wp2_with fail
                      refine (CN.out _).mono ?_
                      rintro e w' ⟨rfl, rfl⟩
                      rcases HCC.out with ⟨rfl, g1, g2, g3⟩ | ⟨rfl, g1, g3⟩ | ⟨rfl, g3⟩
                      · have HN := Lib.hid (HST.out.trans (if_pos g3.1))
                        rw [g3.2] at HN
                        have j4 : IntKind.u8.wrap N = N := u8_in _ g1 (by omega)
                        have j5 : IntKind.i64.wrap (2 + ((q : Int) + 1)) = 2 + ((q : Int) + 1) := IntWalk.i64_in _ (by omega)
                        have j6 : IntKind.i64.wrap (2 + ((q : Int) + 1) + 1) = 2 + ((q : Int) + 1) + 1 := IntWalk.i64_in _ (by omega)
                        clear g3
                        go_wp2_with fail
                        go_round
                        case rel => exact ⟨q + 1, by omega, by go_num, by rw [HN.out], val_int (by rw [HN.out]; show _ = ((2 + (q + 1) + 1 : Nat) : Int); omega)⟩
                        case measure => simp [intOf]; omega
                      · have HN := Lib.hid (HST.out.trans (if_neg (by rw [g3]; decide)))
                        have j4 : decide (N < 256) = false := decide_eq_false (by omega)
                        clear g3
                        go_wp2_with fail
                        go_round
                        case rel => exact ⟨q + 1, by omega, by go_num, by rw [HN.out], by rw [HN.out]⟩
                        case measure => simp [intOf]; omega
                      · have HN := Lib.hid (HST.out.trans (if_neg (by rw [g3]; decide)))
                        clear g3
                        go_wp2_with fail
                        go_round
                        case rel => exact ⟨q + 1, by omega, by go_num, by rw [HN.out], by rw [HN.out]⟩
                        case measure => simp [intOf]; omega
                · have hq4 : q = 3 := by omega
                  subst hq4
                  rw [HZ2.out]
                  go_wp2_with fail
                  go_round
                  case rel => exact ⟨_, _, _, _, .inr (.inl ⟨rfl, rfl, rfl, rfl⟩), rfl, rfl, rfl, rfl⟩
                  case measure => simp [intOf]
            · go_wp2_with fail
              go_loop [5, 6, 12] (fun b n i => ∃ q : Nat, q ≤ 2 ∧ i = .int .i64 ((q : Int) + 1) ∧ b = .int .u8 (stpH 16 [38, 35, 120] T Z2 q).1 ∧ n = .int .i64 (stpH 16 [38, 35, 120] T Z2 q).2) (fun _ _ i => 2 + 1 - (intOf i).toNat)
              case atStart => exact ⟨0, by omega, rfl, rfl, rfl⟩
              case round =>
                obtain ⟨q, hq, rfl, rfl, rfl⟩ := hrel
                by_cases hqt : q < 2
                · obtain ⟨Y, hY⟩ : ∃ Y, stpH 16 [38, 35, 120] T Z2 q = Y := ⟨_, rfl⟩
                  rw [hY]
                  have HST := Lib.hid (show stpH 16 [38, 35, 120] T Z2 (q + 1) = if candH 16 [38, 35, 120] T (q + 1) then (numv 16 ((T.drop 3).take (q + 1)), ((3 + (q + 1) + 1 : Nat) : Int)) else Y by rw [← hY]; rfl)
                  clear hY
                  have j1 : IntKind.i64.wrap ((k : Int) + 3) = (k : Int) + 3 := IntWalk.i64_in _ (by omega)
                  have j2 : IntKind.i64.wrap ((k : Int) + 3 + ((q : Int) + 1)) = (k : Int) + 3 + ((q : Int) + 1) := IntWalk.i64_in _ (by omega)
                  have j3 : IntKind.i64.wrap ((q : Int) + 1 + 1) = (q : Int) + 1 + 1 := IntWalk.i64_in _ (by omega)
                  cases hf : hp T [38, 35, 120] with
                  | false =>
                    have HN := Lib.hid (HST.out.trans (if_neg (by rw [cand_off hf]; decide)))
                    have CF := Lib.hid (fun w' => at_hp s ⟨#[38, 35, 120]⟩ (k : Int) [38, 35, 120] T false HK.out rfl hf (by omega) (by omega) (by decide) (by decide) w' hs)
                    clear hf
                    go_wp2_with fail
                    refine (CF.out _).mono ?_
                    rintro e w' ⟨rfl, rfl⟩
                    go_wp2_with fail
                    go_round
                    case rel => exact ⟨q + 1, by omega, by go_num, by rw [HN.out], by rw [HN.out]⟩
                    case measure => simp [intOf]; omega
                  | true =>
                    have CF := Lib.hid (fun w' => at_hp s ⟨#[38, 35, 120]⟩ (k : Int) [38, 35, 120] T true HK.out rfl hf (by omega) (by omega) (by decide) (by decide) w' hs)
                    have hdr : s.data.toList.drop ((k : Int) + 3 + ((q : Int) + 1)).toNat = T.drop (3 + (q + 1)) := by
                      rw [HT.out, List.drop_drop]; congr 1; omega
                    cases he : hp (T.drop (3 + (q + 1))) [59] with
                    | false =>
                      have HN := Lib.hid (HST.out.trans (if_neg (show ¬ candH 16 [38, 35, 120] T (q + 1) = true by unfold candH; rw [show ([38, 35, 120] : List UInt8).length = 3 from rfl, he]; simp)))
                      have CE := Lib.hid (fun w' => at_hp s ⟨#[59]⟩ ((k : Int) + 3 + ((q : Int) + 1)) [59] (T.drop (3 + (q + 1))) false hdr rfl he (by omega) (by omega) (by decide) (by decide) w' hs)
                      clear hf he hdr
                      go_wp2_with fail
                      refine (CF.out _).mono ?_
                      rintro e w' ⟨rfl, rfl⟩
                      go_wp2_with fail
                      refine (CE.out _).mono ?_
                      rintro e w' ⟨rfl, rfl⟩
                      go_wp2_with fail
                      go_round
                      case rel => exact ⟨q + 1, by omega, by go_num, by rw [HN.out], by rw [HN.out]⟩
                      case measure => simp [intOf]; omega
                    | true =>
                      have hln := hp_len he
                      rw [List.length_drop, HL.out] at hln
                      simp only [List.length_cons, List.length_nil] at hln
                      obtain ⟨l, hl⟩ : ∃ l, (T.drop 3).take (q + 1) = l := ⟨_, rfl⟩
                      rw [hl] at HST
                      have hlq : l.length = q + 1 := by rw [← hl, List.length_take, List.length_drop, HL.out]; omega
                      have hxl : (s.extract ((k : Int) + 3).toNat ((k : Int) + 3 + ((q : Int) + 1)).toNat).data.toList = l := by
                        rw [lst_ext, List.drop_take, ← hl, HT.out, List.drop_drop, show ((k : Int) + 3).toNat = k + 3 by omega, show ((k : Int) + 3 + ((q : Int) + 1)).toNat - (k + 3) = q + 1 by omega]
                      have hcand : candH 16 [38, 35, 120] T (q + 1) = (digs 16 l && decide (numv 16 l < 256)) := by
                        unfold candH
                        rw [show ([38, 35, 120] : List UInt8).length = 3 from rfl, he, hf, hl]; rfl
                      rw [hcand] at HST
                      have CE := Lib.hid (fun w' => at_hp s ⟨#[59]⟩ ((k : Int) + 3 + ((q : Int) + 1)) [59] (T.drop (3 + (q + 1))) true hdr rfl he (by omega) (by omega) (by decide) (by decide) w' hs)
                      obtain ⟨N, er, hN, her, hc⟩ := num_ref 16 2 l (by omega) (by omega) (by omega) (by omega)
                      have CN := Lib.hid (fun w' => num_res _ l hxl 16 2 N er hN her (by omega) (by omega) (by omega) (by omega) (by omega) w')
                      have HCC := Lib.hid hc
                      clear hf he hl hcand hdr hxl hN her hc
                      have i1 : (0 : Int) ≤ (k : Int) + 3 ∧ (k : Int) + 3 ≤ (k : Int) + 3 + ((q : Int) + 1) ∧ (k : Int) + 3 + ((q : Int) + 1) ≤ s.size := by omega
                      go_wp2_with fail
                      refine (CF.out _).mono ?_
                      rintro e w' ⟨rfl, rfl⟩
                      go_wp2_with fail
                      refine (CE.out _).mono ?_
                      rintro e w' ⟨rfl, rfl⟩
                      go_wp2_with fail
                      refine (CN.out _).mono ?_
                      rintro e w' ⟨rfl, rfl⟩
                      rcases HCC.out with ⟨rfl, g1, g2, g3⟩ | ⟨rfl, g1, g3⟩ | ⟨rfl, g3⟩
                      · have HN := Lib.hid (HST.out.trans (if_pos g3.1))
                        rw [g3.2] at HN
                        have j4 : IntKind.u8.wrap N = N := u8_in _ g1 (by omega)
                        have j5 : IntKind.i64.wrap (3 + ((q : Int) + 1)) = 3 + ((q : Int) + 1) := IntWalk.i64_in _ (by omega)
                        have j6 : IntKind.i64.wrap (3 + ((q : Int) + 1) + 1) = 3 + ((q : Int) + 1) + 1 := IntWalk.i64_in _ (by omega)
                        clear g3
                        go_wp2_with fail
                        go_round
                        case rel => exact ⟨q + 1, by omega, by go_num, by rw [HN.out], val_int (by rw [HN.out]; show _ = ((3 + (q + 1) + 1 : Nat) : Int); omega)⟩
                        case measure => simp [intOf]; omega
                      · have HN := Lib.hid (HST.out.trans (if_neg (by rw [g3]; decide)))
                        have j4 : decide (N < 256) = false := decide_eq_false (by omega)
                        clear g3
                        go_wp2_with fail
                        go_round
                        case rel => exact ⟨q + 1, by omega, by go_num, by rw [HN.out], by rw [HN.out]⟩
                        case measure => simp [intOf]; omega
                      · have HN := Lib.hid (HST.out.trans (if_neg (by rw [g3]; decide)))
                        clear g3
                        go_wp2_with fail
                        go_round
                        case rel => exact ⟨q + 1, by omega, by go_num, by rw [HN.out], by rw [HN.out]⟩
                        case measure => simp [intOf]; omega
                · have hq4 : q = 2 := by omega
                  subst hq4
                  rw [HZ3.out]
                  go_wp2_with fail
                  go_round
                  case rel => exact ⟨_, _, _, _, .inr (.inr ⟨rfl, rfl, rfl, rfl⟩), rfl, rfl, rfl, rfl⟩
                  case measure => simp [intOf]
            · obtain ⟨x, n⟩ := Z3
              have hrf := HRF.out
              rw [HD.out] at hrf
              obtain ⟨h1, h2, h3⟩ := htm_ref hrf
              obtain ⟨m, rfl⟩ := Int.eq_ofNat_of_zero_le (show 0 ≤ n by omega)
              rw [← HD.out] at h1 h3
              rw [HL.out] at h3
              have HG := Lib.hid (HS.out (UInt8.ofNat x.toNat) m (by omega) (by rw [← HT.out]; exact h1))
              have hcv := conv_one wr x
              have hs2 := HB1.out.size
              have j1 : IntKind.i64.wrap ((k : Int) + m) = (k : Int) + m := IntWalk.i64_in _ (by omega)
              clear h1 hrf
              go_wp2_with fail
              go_roundw
              case rel => exact ⟨k + m, A ++ [UInt8.ofNat x.toNat], by omega, by rw [List.length_append]; simp; omega, by simp, ret_s (cat_str A [UInt8.ofNat x.toNat]), dec_keep HE HG, HB1.out.alloc (by omega) _⟩
              case measure => simp [intOf]; omega
    · have h := dec_end HE (by omega)
      have HR := Lib.hid h
      clear h
      go_wp2
      go_ret
      exact ⟨by rw [HR.out]; rfl, HB.out⟩
end Go.Proofs.YthfolopnjmkllaaDoor
