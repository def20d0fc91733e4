/- Walks: wickref.items, rex.not. (Printed by gen_rsyd.py.) -/
import Derived.Test.YtckinkapbfaceaaRsyC
namespace Go.Proofs.Ytckinkapbfaceaa
open Go.RowKit
set_option linter.unusedVariables false
set_option linter.unusedSimpArgs false

theorem cat_3 {L A B : List UInt8} : str L ++ str A ++ str B = str (L ++ (A ++ B)) := by rw [cat_str, cat_str]; simp
theorem cat_3d {L A B : List UInt8} : str L ++ str A ++ ⟨#[45]⟩ ++ str B = str (L ++ (A ++ 45 :: B)) := by
  have e : (⟨#[45]⟩ : ByteArray) = str [45] := rfl
  rw [e, cat_str, cat_str, cat_str]; simp
structure Y4 (w wr : World) (q : Q4) : Prop where
  y0 : wr.cell? ⟨w.heap.size, 0, none⟩ = some (.int .u64 (q.a : Int))
  y1 : wr.cell? ⟨w.heap.size, 1, none⟩ = some (.int .u64 (q.b : Int))
  y2 : wr.cell? ⟨w.heap.size, 2, none⟩ = some (.int .u64 (q.c : Int))
  y3 : wr.cell? ⟨w.heap.size, 3, none⟩ = some (.int .u64 (q.d : Int))
theorem SBlk.y4 {w wr : World} {q : Q4} (h : SBlk wr w.heap.size q) : Y4 w wr q := ⟨h.cell (k := 0) (by omega), h.cell (k := 1) (by omega), h.cell (k := 2) (by omega), h.cell (k := 3) (by omega)⟩
set_option maxRecDepth 100000 in
set_option maxHeartbeats 8000000 in
theorem Items_any (q : Q4) (w : World) :
    Calls Try.prog 68 #[setV q] w fun e w' => e = .returned (.string (str (itemsF (setB q)))) ∧ Below w.heap.size w w' := by
  obtain ⟨f, hf⟩ : ∃ f, f = setB q := ⟨_, rfl⟩
  have CI := Lib.hid fun (j : Nat) (hj : j ≤ 255) w' => is_any q j hj w'
  rw [← hf] at CI ⊢
  obtain ⟨W, hW⟩ : ∃ W, w.alloc (.cells #[.int .u64 (q.a : Int), .int .u64 (q.b : Int), .int .u64 (q.c : Int), .int .u64 (q.d : Int)] 24) = W := ⟨_, rfl⟩
  have hSW : SBlk W w.heap.size q := by rw [← hW]; exact Blk.new _ _ _
  have HSW := Lib.hid hSW
  have HBW : Hid (Below w.heap.size w W) := by show Below _ _ _; rw [← hW]; exact (Below.refl _ _).alloc (Nat.le_refl _) _
  clear hf hSW
  unfold setV
  go_enter Try.func68, Try.ntmps68
  go_wp2_with fail
  go_loopw [3, 4] (fun o u wr => ∃ b : Nat, u = .int .i64 (b : Int) ∧ b ≤ 256 ∧ o = .string (str (itemsK f b)) ∧ SBlk wr w.heap.size q ∧ Below w.heap.size w wr) (fun _ u _ => 256 - (intOf u).toNat)
  case atStart => exact ⟨0, rfl, by omega, rfl, HSW.out, HBW.out⟩
  case round =>
    obtain ⟨b, rfl, hb, rfl, hS, hB⟩ := hrel
    clear HSW HBW hW
    have hsz := hB.size
    have HS := Lib.hid hS
    have HB := Lib.hid hB
    have hil := itemsK_le f b
    have hL : (str (itemsK f b)).size ≤ 2313 := by rw [size_str]; omega
    have hL1 : (itemsK f b).length ≤ 2313 := by omega
    have HX : Hid (itemsK f (b + 1) = itemsK f b ++ pcF f b) := rfl
    by_cases hlt : b < 256
    · have i1 : (b : Int) < 256 := by omega
      obtain ⟨y0, y1, y2, y3⟩ := hS.y4
      have CB := CI.out b (by omega) wr
      clear hS hB hil
      cases hfb : f b with
      | false =>
        rw [hfb] at CB
        have CB := Lib.hid CB
        have HK : Hid (itemsK f (b + 1) = itemsK f b) := by show _ = _; rw [HX.out, pcF_none (.inl hfb), List.append_nil]
        clear hfb HX
        go_wp2_with fail
        refine CB.out.mono ?_
        rintro e w2 ⟨rfl, b2⟩
        have HS2 := Lib.hid (HS.out.kept b2)
        have HB2 := Lib.hid (HB.out.trans (b2.mono hsz))
        clear b2 CB y0 y1 y2 y3
        go_wp2_with fail
        go_roundw
        case rel => exact ⟨b + 1, by go_num, by omega, by rw [HK.out], HS2.out, HB2.out⟩
        case measure => simp [intOf]; omega
      | true =>
        rw [hfb] at CB
        have CB := Lib.hid CB
        go_wp2_with fail
        refine CB.out.mono ?_
        rintro e w2 ⟨rfl, b2⟩
        have hS2 := HS.out.kept b2
        have HS2 := Lib.hid hS2
        have HB2 := Lib.hid (HB.out.trans (b2.mono hsz))
        have hsz2 : w.heap.size ≤ w2.heap.size := HB2.out.size
        clear b2 CB y0 y1 y2 y3 HS HB
        obtain ⟨y0, y1, y2, y3⟩ := hS2.y4
        clear hS2
        by_cases hb0 : b = 0
        · have HP2 : Hid (b = 0 ∨ f (b - 1) = false) := .inl hb0
          have HFb := Lib.hid hfb
          have n0 : ¬ (0 : Int) < (b : Int) := by omega
          clear hfb hb0
          go_wp2_with fail
          obtain ⟨wm, rfl⟩ : ∃ wm : World, wm = wr := ⟨_, rfl⟩
          go_loopw [5] (fun u wr => ∃ l : Nat, u = .int .i64 (l : Int) ∧ b ≤ l ∧ l ≤ 255 ∧ SBlk wr w.heap.size q ∧ Below w.heap.size w wr ∧ Hid (∀ i, b ≤ i → i ≤ l → f i = true)) (fun u _ => 255 - (intOf u).toNat)
          case atStart => exact ⟨b, rfl, by omega, by omega, HS2.out, HB2.out, fun i h1 h2 => (show i = b by omega) ▸ HFb.out⟩
          case round =>
            obtain ⟨l, rfl, hbl, hl, hS, hB, HA⟩ := hrel
            have HS := Lib.hid hS
            have HB := Lib.hid hB
            have hz := hB.size
            obtain ⟨y0, y1, y2, y3⟩ := hS.y4
            have hwl : w.heap.size < wr.heap.size := Blk.lt hS
            clear hS hB
            have hway : (l < 255 ∧ f (l + 1) = true) ∨ IsRun f b (l + 1) := by
              by_cases h1 : l < 255
              · cases h2 : f (l + 1) with
                | true => exact .inl ⟨h1, rfl⟩
                | false => exact .inr ⟨by omega, by omega, fun i i1 i2 => HA.out i i1 (by omega), fun _ => h2⟩
              · exact .inr ⟨by omega, by omega, fun i i1 i2 => HA.out i i1 (by omega), fun h => absurd h (by omega)⟩
            rcases hway with ⟨h1, h2⟩ | hrun
            · have j1 : (l : Int) < 255 := by omega
              have CJ := CI.out (l + 1) (by omega) wr
              rw [h2, Int.natCast_succ] at CJ
              have CJ := Lib.hid CJ
              have HA2 : Hid (∀ i, b ≤ i → i ≤ l + 1 → f i = true) := fun i i1 i2 => by
                by_cases e : i = l + 1
                · subst e; exact h2
                · exact HA.out i i1 (by omega)
              clear h2
              go_wp2_with fail
              refine CJ.out.mono ?_
              rintro e w4 ⟨rfl, b4⟩
              have HS4 := Lib.hid (HS.out.kept b4)
              have HB4 := Lib.hid (HB.out.trans (b4.mono hz))
              clear b4 CJ y0 y1 y2 y3
              go_wp2_with fail
              go_roundw
              case rel => exact ⟨l + 1, by go_num, by omega, by omega, HS4.out, HB4.out, HA2⟩
              case measure => simp [intOf]; omega
            · have HK0 : Hid (itemsK f (b + 1) = itemsK f b ++ pieceF b (l + 1)) := by show _ = _; rw [HX.out, pcF_run hrun (by omega) HP2.out]
              by_cases h9 : l < 255
              · have hcs3 : l = b ∨ l = b + 1 ∨ b + 2 ≤ l := by omega
                have CJ := CI.out (l + 1) (by omega) wr
                rw [hrun.stop (by omega), Int.natCast_succ] at CJ
                have CJ := Lib.hid CJ
                have n1 : (l : Int) < 255 := by omega
                clear hrun
                go_wp2_with fail
                refine CJ.out.mono ?_
                rintro e w2 ⟨rfl, b2⟩
                have HS2 := Lib.hid (HS.out.kept b2)
                have HB2 := Lib.hid (HB.out.trans (b2.mono hz))
                clear b2 CJ y0 y1 y2 y3 HS HB
                have HS := HS2
                have HB := HB2
                have hz := HB.out.size
                have hwl : w.heap.size < w2.heap.size := Blk.lt HS.out
                clear HS2 HB2
                rcases hcs3 with hcs | hcs | hcs
                · have HK : Hid (itemsK f (b + 1) = itemsK f b ++ chrN b) := by show _ = _; rw [HK0.out]; unfold pieceF; rw [if_neg (by omega), if_pos (by omega)]
                  have d1 : ¬ (b : Int) + 1 < (l : Int) := by omega
                  have d2 : ¬ (b : Int) < (l : Int) := by omega
                  have C1 := Lib.hid fun w' => CharN b (by omega) w'
                  have s1 : (str (chrN b)).size ≤ 4 := by rw [size_str]; exact chrN_le _
                  have s1' : (chrN b).length ≤ 4 := chrN_le _
                  obtain ⟨X, hX⟩ : ∃ X, X = chrN b := ⟨_, rfl⟩
                  rw [← hX] at C1 s1 s1' HK
                  clear HK0 hcs hX
                  go_wp2_with fail
                  refine (C1.out _).mono ?_
                  rintro e w4 ⟨rfl, b4⟩
                  have HS4 := Lib.hid (HS.out.kept b4)
                  have HB4 := Lib.hid (HB.out.trans (b4.mono HB.out.size))
                  clear b4
                  go_wp2_with fail
                  go_roundw
                  case rel => exact ⟨b + 1, by go_num, by omega, ret_s (by rw [HK.out]; exact cat_str _ _), HS4.out, HB4.out⟩
                  case measure => simp [intOf]; omega
                · have HK : Hid (itemsK f (b + 1) = itemsK f b ++ (chrN b ++ chrN l)) := by show _ = _; rw [HK0.out]; unfold pieceF; rw [if_neg (by omega), if_neg (by omega), if_pos (by omega), hcs]
                  have d1 : ¬ (b : Int) + 1 < (l : Int) := by omega
                  have d2 : (b : Int) < (l : Int) := by omega
                  have C1 := Lib.hid fun w' => CharN b (by omega) w'
                  have s1 : (str (chrN b)).size ≤ 4 := by rw [size_str]; exact chrN_le _
                  have s1' : (chrN b).length ≤ 4 := chrN_le _
                  obtain ⟨X, hX⟩ : ∃ X, X = chrN b := ⟨_, rfl⟩
                  rw [← hX] at C1 s1 s1' HK
                  have C2 := Lib.hid fun w' => CharN l (by omega) w'
                  have s2 : (str (chrN l)).size ≤ 4 := by rw [size_str]; exact chrN_le _
                  have s2' : (chrN l).length ≤ 4 := chrN_le _
                  obtain ⟨Y, hY⟩ : ∃ Y, Y = chrN l := ⟨_, rfl⟩
                  rw [← hY] at C2 s2 s2' HK
                  clear HK0 hcs hX hY
                  go_wp2_with fail
                  refine (C1.out _).mono ?_
                  rintro e w4 ⟨rfl, b4⟩
                  have HS4 := Lib.hid (HS.out.kept b4)
                  have HB4 := Lib.hid (HB.out.trans (b4.mono HB.out.size))
                  clear b4
                  go_wp2_with fail
                  refine (C2.out _).mono ?_
                  rintro e w5 ⟨rfl, b5⟩
                  have HS5 := Lib.hid (HS4.out.kept b5)
                  have HB5 := Lib.hid (HB4.out.trans (b5.mono HB4.out.size))
                  clear b5
                  go_wp2_with fail
                  go_roundw
                  case rel => exact ⟨b + 1, by go_num, by omega, ret_s (by rw [HK.out]; exact cat_3), HS5.out, HB5.out⟩
                  case measure => simp [intOf]; omega
                · have HK : Hid (itemsK f (b + 1) = itemsK f b ++ (chrN b ++ 45 :: chrN l)) := by show _ = _; rw [HK0.out]; unfold pieceF; rw [if_neg (by omega), if_neg (by omega), if_neg (by omega)]; rfl
                  have d1 : (b : Int) + 1 < (l : Int) := by omega
                  have d2 : (b : Int) < (l : Int) := by omega
                  have C1 := Lib.hid fun w' => CharN b (by omega) w'
                  have s1 : (str (chrN b)).size ≤ 4 := by rw [size_str]; exact chrN_le _
                  have s1' : (chrN b).length ≤ 4 := chrN_le _
                  obtain ⟨X, hX⟩ : ∃ X, X = chrN b := ⟨_, rfl⟩
                  rw [← hX] at C1 s1 s1' HK
                  have C2 := Lib.hid fun w' => CharN l (by omega) w'
                  have s2 : (str (chrN l)).size ≤ 4 := by rw [size_str]; exact chrN_le _
                  have s2' : (chrN l).length ≤ 4 := chrN_le _
                  obtain ⟨Y, hY⟩ : ∃ Y, Y = chrN l := ⟨_, rfl⟩
                  rw [← hY] at C2 s2 s2' HK
                  clear HK0 hX hY
                  go_wp2_with fail
                  refine (C1.out _).mono ?_
                  rintro e w4 ⟨rfl, b4⟩
                  have HS4 := Lib.hid (HS.out.kept b4)
                  have HB4 := Lib.hid (HB.out.trans (b4.mono HB.out.size))
                  clear b4
                  go_wp2_with fail
                  refine (C2.out _).mono ?_
                  rintro e w5 ⟨rfl, b5⟩
                  have HS5 := Lib.hid (HS4.out.kept b5)
                  have HB5 := Lib.hid (HB4.out.trans (b5.mono HB4.out.size))
                  clear b5
                  go_wp2_with fail
                  go_roundw
                  case rel => exact ⟨b + 1, by go_num, by omega, ret_s (by rw [HK.out]; exact cat_3d), HS5.out, HB5.out⟩
                  case measure => simp [intOf]; omega
              · have hcs3 : l = b ∨ l = b + 1 ∨ b + 2 ≤ l := by omega
                have n1 : ¬ (l : Int) < 255 := by omega
                clear hrun
                rcases hcs3 with hcs | hcs | hcs
                · exfalso; omega
                · exfalso; omega
                · have HK : Hid (itemsK f (b + 1) = itemsK f b ++ (chrN b ++ 45 :: chrN l)) := by show _ = _; rw [HK0.out]; unfold pieceF; rw [if_neg (by omega), if_neg (by omega), if_neg (by omega)]; rfl
                  have d1 : (b : Int) + 1 < (l : Int) := by omega
                  have d2 : (b : Int) < (l : Int) := by omega
                  have C1 := Lib.hid fun w' => CharN b (by omega) w'
                  have s1 : (str (chrN b)).size ≤ 4 := by rw [size_str]; exact chrN_le _
                  have s1' : (chrN b).length ≤ 4 := chrN_le _
                  obtain ⟨X, hX⟩ : ∃ X, X = chrN b := ⟨_, rfl⟩
                  rw [← hX] at C1 s1 s1' HK
                  have C2 := Lib.hid fun w' => CharN l (by omega) w'
                  have s2 : (str (chrN l)).size ≤ 4 := by rw [size_str]; exact chrN_le _
                  have s2' : (chrN l).length ≤ 4 := chrN_le _
                  obtain ⟨Y, hY⟩ : ∃ Y, Y = chrN l := ⟨_, rfl⟩
                  rw [← hY] at C2 s2 s2' HK
                  clear HK0 hX hY
                  go_wp2_with fail
                  refine (C1.out _).mono ?_
                  rintro e w4 ⟨rfl, b4⟩
                  have HS4 := Lib.hid (HS.out.kept b4)
                  have HB4 := Lib.hid (HB.out.trans (b4.mono HB.out.size))
                  clear b4
                  go_wp2_with fail
                  refine (C2.out _).mono ?_
                  rintro e w5 ⟨rfl, b5⟩
                  have HS5 := Lib.hid (HS4.out.kept b5)
                  have HB5 := Lib.hid (HB4.out.trans (b5.mono HB4.out.size))
                  clear b5
                  go_wp2_with fail
                  go_roundw
                  case rel => exact ⟨b + 1, by go_num, by omega, ret_s (by rw [HK.out]; exact cat_3d), HS5.out, HB5.out⟩
                  case measure => simp [intOf]; omega
        · have n0 : (0 : Int) < (b : Int) := by omega
          have CP := CI.out (b - 1) (by omega) w2
          rw [show ((b - 1 : Nat) : Int) = (b : Int) - 1 by omega] at CP
          cases hfp : f (b - 1) with
          | true =>
            rw [hfp] at CP
            have CP := Lib.hid CP
            have HK : Hid (itemsK f (b + 1) = itemsK f b) := by show _ = _; rw [HX.out, pcF_none (.inr (.inr ⟨hb0, hfp⟩)), List.append_nil]
            clear hfp HX hfb hb0
            go_wp2_with fail
            refine CP.out.mono ?_
            rintro e w3 ⟨rfl, b3⟩
            have HS3 := Lib.hid (HS2.out.kept b3)
            have HB3 := Lib.hid (HB2.out.trans (b3.mono hsz2))
            clear b3 CP y0 y1 y2 y3
            go_wp2_with fail
            go_roundw
            case rel => exact ⟨b + 1, by go_num, by omega, by rw [HK.out], HS3.out, HB3.out⟩
            case measure => simp [intOf]; omega
          | false =>
            rw [hfp] at CP
            have CP := Lib.hid CP
            have HP2 : Hid (b = 0 ∨ f (b - 1) = false) := .inr hfp
            have HFb := Lib.hid hfb
            clear hfp hb0 hfb
            go_wp2_with fail
            refine CP.out.mono ?_
            rintro e w3 ⟨rfl, b3⟩
            have HS3 := Lib.hid (HS2.out.kept b3)
            have HB3 := Lib.hid (HB2.out.trans (b3.mono hsz2))
            clear b3 CP y0 y1 y2 y3 HS2 HB2
            go_wp2_with fail
            obtain ⟨wm, rfl⟩ : ∃ wm : World, wm = wr := ⟨_, rfl⟩
            go_loopw [5] (fun u wr => ∃ l : Nat, u = .int .i64 (l : Int) ∧ b ≤ l ∧ l ≤ 255 ∧ SBlk wr w.heap.size q ∧ Below w.heap.size w wr ∧ Hid (∀ i, b ≤ i → i ≤ l → f i = true)) (fun u _ => 255 - (intOf u).toNat)
            case atStart => exact ⟨b, rfl, by omega, by omega, HS3.out, HB3.out, fun i h1 h2 => (show i = b by omega) ▸ HFb.out⟩
            case round =>
              obtain ⟨l, rfl, hbl, hl, hS, hB, HA⟩ := hrel
              have HS := Lib.hid hS
              have HB := Lib.hid hB
              have hz := hB.size
              obtain ⟨y0, y1, y2, y3⟩ := hS.y4
              have hwl : w.heap.size < wr.heap.size := Blk.lt hS
              clear hS hB
              have hway : (l < 255 ∧ f (l + 1) = true) ∨ IsRun f b (l + 1) := by
                by_cases h1 : l < 255
                · cases h2 : f (l + 1) with
                  | true => exact .inl ⟨h1, rfl⟩
                  | false => exact .inr ⟨by omega, by omega, fun i i1 i2 => HA.out i i1 (by omega), fun _ => h2⟩
                · exact .inr ⟨by omega, by omega, fun i i1 i2 => HA.out i i1 (by omega), fun h => absurd h (by omega)⟩
              rcases hway with ⟨h1, h2⟩ | hrun
              · have j1 : (l : Int) < 255 := by omega
                have CJ := CI.out (l + 1) (by omega) wr
                rw [h2, Int.natCast_succ] at CJ
                have CJ := Lib.hid CJ
                have HA2 : Hid (∀ i, b ≤ i → i ≤ l + 1 → f i = true) := fun i i1 i2 => by
                  by_cases e : i = l + 1
                  · subst e; exact h2
                  · exact HA.out i i1 (by omega)
                clear h2
                go_wp2_with fail
                refine CJ.out.mono ?_
                rintro e w4 ⟨rfl, b4⟩
                have HS4 := Lib.hid (HS.out.kept b4)
                have HB4 := Lib.hid (HB.out.trans (b4.mono hz))
                clear b4 CJ y0 y1 y2 y3
                go_wp2_with fail
                go_roundw
                case rel => exact ⟨l + 1, by go_num, by omega, by omega, HS4.out, HB4.out, HA2⟩
                case measure => simp [intOf]; omega
              · have HK0 : Hid (itemsK f (b + 1) = itemsK f b ++ pieceF b (l + 1)) := by show _ = _; rw [HX.out, pcF_run hrun (by omega) HP2.out]
                by_cases h9 : l < 255
                · have hcs3 : l = b ∨ l = b + 1 ∨ b + 2 ≤ l := by omega
                  have CJ := CI.out (l + 1) (by omega) wr
                  rw [hrun.stop (by omega), Int.natCast_succ] at CJ
                  have CJ := Lib.hid CJ
                  have n1 : (l : Int) < 255 := by omega
                  clear hrun
                  go_wp2_with fail
                  refine CJ.out.mono ?_
                  rintro e w2 ⟨rfl, b2⟩
                  have HS2 := Lib.hid (HS.out.kept b2)
                  have HB2 := Lib.hid (HB.out.trans (b2.mono hz))
                  clear b2 CJ y0 y1 y2 y3 HS HB
                  have HS := HS2
                  have HB := HB2
                  have hz := HB.out.size
                  have hwl : w.heap.size < w2.heap.size := Blk.lt HS.out
                  clear HS2 HB2
                  rcases hcs3 with hcs | hcs | hcs
                  · have HK : Hid (itemsK f (b + 1) = itemsK f b ++ chrN b) := by show _ = _; rw [HK0.out]; unfold pieceF; rw [if_neg (by omega), if_pos (by omega)]
                    have d1 : ¬ (b : Int) + 1 < (l : Int) := by omega
                    have d2 : ¬ (b : Int) < (l : Int) := by omega
                    have C1 := Lib.hid fun w' => CharN b (by omega) w'
                    have s1 : (str (chrN b)).size ≤ 4 := by rw [size_str]; exact chrN_le _
                    have s1' : (chrN b).length ≤ 4 := chrN_le _
                    obtain ⟨X, hX⟩ : ∃ X, X = chrN b := ⟨_, rfl⟩
                    rw [← hX] at C1 s1 s1' HK
                    clear HK0 hcs hX
                    go_wp2_with fail
                    refine (C1.out _).mono ?_
                    rintro e w4 ⟨rfl, b4⟩
                    have HS4 := Lib.hid (HS.out.kept b4)
                    have HB4 := Lib.hid (HB.out.trans (b4.mono HB.out.size))
                    clear b4
                    go_wp2_with fail
                    go_roundw
                    case rel => exact ⟨b + 1, by go_num, by omega, ret_s (by rw [HK.out]; exact cat_str _ _), HS4.out, HB4.out⟩
                    case measure => simp [intOf]; omega
                  · have HK : Hid (itemsK f (b + 1) = itemsK f b ++ (chrN b ++ chrN l)) := by show _ = _; rw [HK0.out]; unfold pieceF; rw [if_neg (by omega), if_neg (by omega), if_pos (by omega), hcs]
                    have d1 : ¬ (b : Int) + 1 < (l : Int) := by omega
                    have d2 : (b : Int) < (l : Int) := by omega
                    have C1 := Lib.hid fun w' => CharN b (by omega) w'
                    have s1 : (str (chrN b)).size ≤ 4 := by rw [size_str]; exact chrN_le _
                    have s1' : (chrN b).length ≤ 4 := chrN_le _
                    obtain ⟨X, hX⟩ : ∃ X, X = chrN b := ⟨_, rfl⟩
                    rw [← hX] at C1 s1 s1' HK
                    have C2 := Lib.hid fun w' => CharN l (by omega) w'
                    have s2 : (str (chrN l)).size ≤ 4 := by rw [size_str]; exact chrN_le _
                    have s2' : (chrN l).length ≤ 4 := chrN_le _
                    obtain ⟨Y, hY⟩ : ∃ Y, Y = chrN l := ⟨_, rfl⟩
                    rw [← hY] at C2 s2 s2' HK
                    clear HK0 hcs hX hY
                    go_wp2_with fail
                    refine (C1.out _).mono ?_
                    rintro e w4 ⟨rfl, b4⟩
                    have HS4 := Lib.hid (HS.out.kept b4)
                    have HB4 := Lib.hid (HB.out.trans (b4.mono HB.out.size))
                    clear b4
                    go_wp2_with fail
                    refine (C2.out _).mono ?_
                    rintro e w5 ⟨rfl, b5⟩
                    have HS5 := Lib.hid (HS4.out.kept b5)
                    have HB5 := Lib.hid (HB4.out.trans (b5.mono HB4.out.size))
                    clear b5
                    go_wp2_with fail
                    go_roundw
                    case rel => exact ⟨b + 1, by go_num, by omega, ret_s (by rw [HK.out]; exact cat_3), HS5.out, HB5.out⟩
                    case measure => simp [intOf]; omega
                  · have HK : Hid (itemsK f (b + 1) = itemsK f b ++ (chrN b ++ 45 :: chrN l)) := by show _ = _; rw [HK0.out]; unfold pieceF; rw [if_neg (by omega), if_neg (by omega), if_neg (by omega)]; rfl
                    have d1 : (b : Int) + 1 < (l : Int) := by omega
                    have d2 : (b : Int) < (l : Int) := by omega
                    have C1 := Lib.hid fun w' => CharN b (by omega) w'
                    have s1 : (str (chrN b)).size ≤ 4 := by rw [size_str]; exact chrN_le _
                    have s1' : (chrN b).length ≤ 4 := chrN_le _
                    obtain ⟨X, hX⟩ : ∃ X, X = chrN b := ⟨_, rfl⟩
                    rw [← hX] at C1 s1 s1' HK
                    have C2 := Lib.hid fun w' => CharN l (by omega) w'
                    have s2 : (str (chrN l)).size ≤ 4 := by rw [size_str]; exact chrN_le _
                    have s2' : (chrN l).length ≤ 4 := chrN_le _
                    obtain ⟨Y, hY⟩ : ∃ Y, Y = chrN l := ⟨_, rfl⟩
                    rw [← hY] at C2 s2 s2' HK
                    clear HK0 hX hY
                    go_wp2_with fail
                    refine (C1.out _).mono ?_
                    rintro e w4 ⟨rfl, b4⟩
                    have HS4 := Lib.hid (HS.out.kept b4)
                    have HB4 := Lib.hid (HB.out.trans (b4.mono HB.out.size))
                    clear b4
                    go_wp2_with fail
                    refine (C2.out _).mono ?_
                    rintro e w5 ⟨rfl, b5⟩
                    have HS5 := Lib.hid (HS4.out.kept b5)
                    have HB5 := Lib.hid (HB4.out.trans (b5.mono HB4.out.size))
                    clear b5
                    go_wp2_with fail
                    go_roundw
                    case rel => exact ⟨b + 1, by go_num, by omega, ret_s (by rw [HK.out]; exact cat_3d), HS5.out, HB5.out⟩
                    case measure => simp [intOf]; omega
                · have hcs3 : l = b ∨ l = b + 1 ∨ b + 2 ≤ l := by omega
                  have n1 : ¬ (l : Int) < 255 := by omega
                  clear hrun
                  rcases hcs3 with hcs | hcs | hcs
                  · have HK : Hid (itemsK f (b + 1) = itemsK f b ++ chrN b) := by show _ = _; rw [HK0.out]; unfold pieceF; rw [if_neg (by omega), if_pos (by omega)]
                    have d1 : ¬ (b : Int) + 1 < (l : Int) := by omega
                    have d2 : ¬ (b : Int) < (l : Int) := by omega
                    have C1 := Lib.hid fun w' => CharN b (by omega) w'
                    have s1 : (str (chrN b)).size ≤ 4 := by rw [size_str]; exact chrN_le _
                    have s1' : (chrN b).length ≤ 4 := chrN_le _
                    obtain ⟨X, hX⟩ : ∃ X, X = chrN b := ⟨_, rfl⟩
                    rw [← hX] at C1 s1 s1' HK
                    clear HK0 hcs hX
                    go_wp2_with fail
                    refine (C1.out _).mono ?_
                    rintro e w4 ⟨rfl, b4⟩
                    have HS4 := Lib.hid (HS.out.kept b4)
                    have HB4 := Lib.hid (HB.out.trans (b4.mono HB.out.size))
                    clear b4
                    go_wp2_with fail
                    go_roundw
                    case rel => exact ⟨b + 1, by go_num, by omega, ret_s (by rw [HK.out]; exact cat_str _ _), HS4.out, HB4.out⟩
                    case measure => simp [intOf]; omega
                  · have HK : Hid (itemsK f (b + 1) = itemsK f b ++ (chrN b ++ chrN l)) := by show _ = _; rw [HK0.out]; unfold pieceF; rw [if_neg (by omega), if_neg (by omega), if_pos (by omega), hcs]
                    have d1 : ¬ (b : Int) + 1 < (l : Int) := by omega
                    have d2 : (b : Int) < (l : Int) := by omega
                    have C1 := Lib.hid fun w' => CharN b (by omega) w'
                    have s1 : (str (chrN b)).size ≤ 4 := by rw [size_str]; exact chrN_le _
                    have s1' : (chrN b).length ≤ 4 := chrN_le _
                    obtain ⟨X, hX⟩ : ∃ X, X = chrN b := ⟨_, rfl⟩
                    rw [← hX] at C1 s1 s1' HK
                    have C2 := Lib.hid fun w' => CharN l (by omega) w'
                    have s2 : (str (chrN l)).size ≤ 4 := by rw [size_str]; exact chrN_le _
                    have s2' : (chrN l).length ≤ 4 := chrN_le _
                    obtain ⟨Y, hY⟩ : ∃ Y, Y = chrN l := ⟨_, rfl⟩
                    rw [← hY] at C2 s2 s2' HK
                    clear HK0 hcs hX hY
                    go_wp2_with fail
                    refine (C1.out _).mono ?_
                    rintro e w4 ⟨rfl, b4⟩
                    have HS4 := Lib.hid (HS.out.kept b4)
                    have HB4 := Lib.hid (HB.out.trans (b4.mono HB.out.size))
                    clear b4
                    go_wp2_with fail
                    refine (C2.out _).mono ?_
                    rintro e w5 ⟨rfl, b5⟩
                    have HS5 := Lib.hid (HS4.out.kept b5)
                    have HB5 := Lib.hid (HB4.out.trans (b5.mono HB4.out.size))
                    clear b5
                    go_wp2_with fail
                    go_roundw
                    case rel => exact ⟨b + 1, by go_num, by omega, ret_s (by rw [HK.out]; exact cat_3), HS5.out, HB5.out⟩
                    case measure => simp [intOf]; omega
                  · have HK : Hid (itemsK f (b + 1) = itemsK f b ++ (chrN b ++ 45 :: chrN l)) := by show _ = _; rw [HK0.out]; unfold pieceF; rw [if_neg (by omega), if_neg (by omega), if_neg (by omega)]; rfl
                    have d1 : (b : Int) + 1 < (l : Int) := by omega
                    have d2 : (b : Int) < (l : Int) := by omega
                    have C1 := Lib.hid fun w' => CharN b (by omega) w'
                    have s1 : (str (chrN b)).size ≤ 4 := by rw [size_str]; exact chrN_le _
                    have s1' : (chrN b).length ≤ 4 := chrN_le _
                    obtain ⟨X, hX⟩ : ∃ X, X = chrN b := ⟨_, rfl⟩
                    rw [← hX] at C1 s1 s1' HK
                    have C2 := Lib.hid fun w' => CharN l (by omega) w'
                    have s2 : (str (chrN l)).size ≤ 4 := by rw [size_str]; exact chrN_le _
                    have s2' : (chrN l).length ≤ 4 := chrN_le _
                    obtain ⟨Y, hY⟩ : ∃ Y, Y = chrN l := ⟨_, rfl⟩
                    rw [← hY] at C2 s2 s2' HK
                    clear HK0 hX hY
                    go_wp2_with fail
                    refine (C1.out _).mono ?_
                    rintro e w4 ⟨rfl, b4⟩
                    have HS4 := Lib.hid (HS.out.kept b4)
                    have HB4 := Lib.hid (HB.out.trans (b4.mono HB.out.size))
                    clear b4
                    go_wp2_with fail
                    refine (C2.out _).mono ?_
                    rintro e w5 ⟨rfl, b5⟩
                    have HS5 := Lib.hid (HS4.out.kept b5)
                    have HB5 := Lib.hid (HB4.out.trans (b5.mono HB4.out.size))
                    clear b5
                    go_wp2_with fail
                    go_roundw
                    case rel => exact ⟨b + 1, by go_num, by omega, ret_s (by rw [HK.out]; exact cat_3d), HS5.out, HB5.out⟩
                    case measure => simp [intOf]; omega
    · obtain rfl : b = 256 := by omega
      clear hS hB hlt
      go_wp2_with fail
      go_ret
      exact ⟨rfl, HB.out⟩
end Go.Proofs.Ytckinkapbfaceaa
