/- Walk: rex.items. -/
import Derived.Test.YtckinkapbfaceaaRsyB
import Derived.Test.YtckinkapbfaceaaHas
import Derived.Test.YtckinkapbfaceaaSbB
namespace Go.Proofs.Ytckinkapbfaceaa
open Go.RowKit
set_option linter.unusedVariables false
set_option linter.unusedSimpArgs false

theorem chr_le : ∀ b : UInt8, (chr b).length ≤ 4 := all_bytes (by decide +kernel)
theorem chrN_le (n : Nat) : (chrN n).length ≤ 4 := chr_le _
theorem pieceF_le (b e : Nat) : (pieceF b e).length ≤ 9 := by
  have h1 := chrN_le b
  have h2 := chrN_le (b + 1)
  have h3 := chrN_le (e - 1)
  unfold pieceF
  split
  · simp
  · split
    · omega
    · split
      · rw [List.length_append]; omega
      · rw [List.length_append, List.length_cons]; omega
theorem pcF_le (f : Nat → Bool) (i : Nat) : (pcF f i).length ≤ 9 := by
  unfold pcF
  split
  · exact pieceF_le _ _
  · simp
theorem itemsK_le (f : Nat → Bool) : ∀ k, (itemsK f k).length ≤ 9 * k
  | 0 => by simp [itemsK]
  | k + 1 => by
    have h1 := itemsK_le f k
    have h2 := pcF_le f k
    unfold itemsK
    rw [List.length_append]; omega
theorem cntT_succ (f : Nat → Bool) (k : Nat) : cntT f (k + 1) = cntT f k + if f k = true then 1 else 0 := rfl
theorem rcharN (n : Nat) (hn : n < 256) (w : World) : Calls Try.prog 104 #[.int .i64 (n : Int)] w fun e w' => e = .returned (.string (str (chrN n))) ∧ Below w.heap.size w w' := by
  have := rchar_any (UInt8.ofNat n) w
  rwa [toNat_of n (by omega)] at this
theorem CharN (n : Nat) (hn : n < 256) (w : World) : Calls Try.prog 85 #[.int .i64 (n : Int)] w fun e w' => e = .returned (.string (str (chrN n))) ∧ Below w.heap.size w w' := by
  have := Char_any (UInt8.ofNat n) w
  rwa [toNat_of n (by omega)] at this
theorem SBlk.kept {w w' : World} {g : Nat} {q : Q4} (h : SBlk w g q) (hb : Below w.heap.size w w') : SBlk w' g q := Blk.below h hb (Blk.lt h)
theorem cat_in {L A B C : List UInt8} (h : A ++ B = C) : str L ++ (str A ++ str B) = str (L ++ C) := by rw [cat_str, cat_str, h]
theorem cat_d {L A B : List UInt8} : str L ++ (str A ++ ⟨#[45]⟩ ++ str B) = str (L ++ (A ++ 45 :: B)) := by
  have e : (⟨#[45]⟩ : ByteArray) = str [45] := rfl
  rw [e, cat_str, cat_str, cat_str]; simp
set_option maxRecDepth 100000 in
set_option maxHeartbeats 8000000 in
theorem items_any (q : Q4) (hq : q.ok) (w : World) :
    Calls Try.prog 97 #[setV q] w fun e w' => e = .returned (.tuple #[.string (str (itemsF (setB q))), .int .i64 (cntT (setB q) 256 : Int)]) ∧ Below w.heap.size w w' := by
  obtain ⟨f, hf⟩ : ∃ f, f = setB q := ⟨_, rfl⟩
  have CH := Lib.hid fun (j : Nat) (hj : j ≤ 255) w' => has_any q j hq hj w'
  rw [← hf] at CH ⊢
  obtain ⟨W, hW⟩ : ∃ W, w.alloc (.cells #[.int .u64 (q.a : Int), .int .u64 (q.b : Int), .int .u64 (q.c : Int), .int .u64 (q.d : Int)] 24) = W := ⟨_, rfl⟩
  have hSW : SBlk W w.heap.size q := by rw [← hW]; exact Blk.new _ _ _
  have HSW := Lib.hid hSW
  have HBW : Hid (Below w.heap.size w W) := by show Below _ _ _; rw [← hW]; exact (Below.refl _ _).alloc (Nat.le_refl _) _
  clear hf hSW
  unfold setV
  go_enter Try.func97, Try.ntmps97
  go_wp2_with fail
  go_loopw [4, 5, 6] (fun o n u wr => ∃ b : Nat, u = .int .i64 (b : Int) ∧ b ≤ 257 ∧ o = .string (str (itemsK f b)) ∧ n = .int .i64 (cntT f (min b 256) : Int) ∧ SBlk wr w.heap.size q ∧ Below w.heap.size w wr ∧ Hid (b = 0 ∨ f (b - 1) = false ∨ 256 < b)) (fun _ _ u _ => 257 - (intOf u).toNat)
  case atStart => exact ⟨0, rfl, by omega, rfl, rfl, HSW.out, HBW.out, .inl rfl⟩
  case round =>
    obtain ⟨b, rfl, hb, rfl, rfl, hS, hB, HP⟩ := hrel
    clear HSW HBW hW
    have hsz := hB.size
    have HS := Lib.hid hS
    have HB := Lib.hid hB
    have hil := itemsK_le f b
    have hL : (str (itemsK f b)).size ≤ 2313 := by rw [size_str]; omega
    have hL1 : (itemsK f b).length ≤ 2313 := by omega
    by_cases hlt : b < 256
    · have i1 : (b : Int) < 256 := by omega
      have hmin : min b 256 = b := by omega
      rw [hmin]
      have HP2 : Hid (b = 0 ∨ f (b - 1) = false) := by
        rcases HP.out with h | h | h
        · exact .inl h
        · exact .inr h
        · omega
      have hcn := cntT_le f b
      clear hS hB hmin hil
      go_wp2_with fail
      obtain ⟨wm, rfl⟩ : ∃ wm : World, wm = wr := ⟨_, rfl⟩
      go_loopw [5, 6] (fun n u wr => ∃ j : Nat, u = .int .i64 (j : Int) ∧ b ≤ j ∧ j ≤ 256 ∧ n = .int .i64 (cntT f j : Int) ∧ SBlk wr w.heap.size q ∧ Below w.heap.size w wr ∧ Hid (∀ i, b ≤ i → i < j → f i = true)) (fun _ u _ => 256 - (intOf u).toNat)
      case atStart => exact ⟨b, rfl, by omega, by omega, rfl, HS.out, HB.out, fun i h1 h2 => absurd h2 (by omega)⟩
      case round =>
        obtain ⟨j, rfl, hbj, hj, rfl, hS, hB, HA⟩ := hrel
        have HS := Lib.hid hS
        have HB := Lib.hid hB
        have hz := hB.size
        have hcj := cntT_le f j
        have y0 : wr.cell? ⟨w.heap.size, 0, none⟩ = some (.int .u64 (q.a : Int)) := hS.cell (k := 0) (by omega)
        have y1 : wr.cell? ⟨w.heap.size, 1, none⟩ = some (.int .u64 (q.b : Int)) := hS.cell (k := 1) (by omega)
        have y2 : wr.cell? ⟨w.heap.size, 2, none⟩ = some (.int .u64 (q.c : Int)) := hS.cell (k := 2) (by omega)
        have y3 : wr.cell? ⟨w.heap.size, 3, none⟩ = some (.int .u64 (q.d : Int)) := hS.cell (k := 3) (by omega)
        have hwl : w.heap.size < wr.heap.size := Blk.lt hS
        clear hS hB
        have hway : (j < 256 ∧ f j = true) ∨ IsRun f b j := by
          by_cases h1 : j < 256
          · cases h2 : f j with
            | true => exact .inl ⟨h1, rfl⟩
            | false => exact .inr ⟨hbj, hj, HA.out, fun _ => h2⟩
          · exact .inr ⟨hbj, hj, HA.out, fun h => absurd h h1⟩
        rcases hway with ⟨h1, h2⟩ | hrun
        · have j1 : (j : Int) < 256 := by omega
          have CJ := CH.out j (by omega) wr
          rw [h2] at CJ
          have CJ := Lib.hid CJ
          have HC : Hid (cntT f (j + 1) = cntT f j + 1) := by show _ = _; rw [cntT_succ, if_pos h2]
          have HA2 : Hid (∀ i, b ≤ i → i < j + 1 → f i = true) := fun i i1 i2 => by
            by_cases e : i = j
            · subst e; exact h2
            · exact HA.out i i1 (by omega)
          clear h2
          go_wp2_with fail
          refine CJ.out.mono ?_
          rintro e w2 ⟨rfl, b2⟩
          have HS2 := Lib.hid (HS.out.kept b2)
          have HB2 := Lib.hid (HB.out.trans (b2.mono hz))
          clear b2 CJ y0 y1 y2 y3
          go_wp2_with fail
          go_roundw
          case rel => exact ⟨j + 1, by go_num, by omega, by omega, by rw [HC.out]; go_num, HS2.out, HB2.out, HA2⟩
          case measure => simp [intOf]; omega
        · have HRun := Lib.hid hrun
          have HK : Hid (itemsK f (j + 1) = itemsK f b ++ pieceF b j) := itemsK_run hrun hlt HP2.out
          have HN : Hid (cntT f (min (j + 1) 256) = cntT f j) := by
            show _ = _
            by_cases h1 : j < 256
            · rw [show min (j + 1) 256 = j + 1 by omega, cntT_succ, hrun.stop h1]; rfl
            · rw [show min (j + 1) 256 = j by omega]
          have HE : Hid (j + 1 = 0 ∨ f (j + 1 - 1) = false ∨ 256 < j + 1) := by
            by_cases h1 : j < 256
            · exact .inr (.inl (hrun.stop h1))
            · exact .inr (.inr (by omega))
          have HK0 := HK
          clear HK
          by_cases h9 : j < 256
          · have hcs4 : j = b ∨ j = b + 1 ∨ j = b + 2 ∨ b + 3 ≤ j := by omega
            have CJ := CH.out j (by omega) wr
            rw [hrun.stop h9] at CJ
            have CJ := Lib.hid CJ
            have n1 : (j : Int) < 256 := by omega
            clear hrun
            go_wp2_with fail
            refine CJ.out.mono ?_
            rintro e w2 ⟨rfl, b2⟩
            have HS2 := Lib.hid (HS.out.kept b2)
            have HB2 := Lib.hid (HB.out.trans (b2.mono hz))
            clear b2 CJ y0 y1 y2 y3 HS HB
            have HS := HS2
            have HB := HB2
            have hz := HB.out.size
            have hwl : w.heap.size < w2.heap.size := Blk.lt HS.out
            clear HS2 HB2
            rcases hcs4 with hcs | hcs | hcs | hcs
            · obtain rfl : b = j := by omega
              have HK : Hid (itemsK f (b + 1) = itemsK f b) := by show _ = _; rw [HK0.out]; unfold pieceF; rw [if_pos (Nat.le_refl _), List.append_nil]
              have d0 : ((b : Int) - (b : Int) == 0) = true := by rw [beq_iff_eq]; omega
              clear HK0 hcs
              go_wp2_with fail
              go_roundw
              case rel => exact ⟨b + 1, by go_num, by omega, by rw [HK.out], by rw [HN.out], HS.out, HB.out, HE⟩
              case measure => simp [intOf]; omega
            · have HK : Hid (itemsK f (j + 1) = itemsK f b ++ chrN b) := by show _ = _; rw [HK0.out]; unfold pieceF; rw [if_neg (by omega), if_pos hcs]
              have d0 : ((j : Int) - (b : Int) == 0) = false := by rw [beq_eq_false_iff_ne]; omega
              have d1 : ((j : Int) - (b : Int) == 1) = true := by rw [beq_iff_eq]; omega
              have C1 := Lib.hid fun w' => rcharN b (by omega) w'
              have s1 : (str (chrN b)).size ≤ 4 := by rw [size_str]; exact chrN_le _
              have s1' : (chrN b).length ≤ 4 := chrN_le _
              obtain ⟨X, hX⟩ : ∃ X, X = chrN b := ⟨_, rfl⟩
              rw [← hX] at C1 s1 s1' HK
              clear HK0 hcs hX
              go_wp2_with fail
              refine (C1.out _).mono ?_
              rintro e w4 ⟨rfl, b4⟩
              have HS4 := Lib.hid (HS.out.kept b4)
              have HB4 := Lib.hid (HB.out.trans (b4.mono HB.out.size))
              clear b4
              go_wp2_with fail
              go_roundw
              case rel => exact ⟨j + 1, by go_num, by omega, ret_s (by rw [HK.out]; exact cat_str _ _), by rw [HN.out], HS4.out, HB4.out, HE⟩
              case measure => simp [intOf]; omega
            · have HK : Hid (itemsK f (j + 1) = itemsK f b ++ (chrN b ++ chrN (b + 1))) := by show _ = _; rw [HK0.out]; unfold pieceF; rw [if_neg (by omega), if_neg (by omega), if_pos hcs]
              have d0 : ((j : Int) - (b : Int) == 0) = false := by rw [beq_eq_false_iff_ne]; omega
              have d1 : ((j : Int) - (b : Int) == 1) = false := by rw [beq_eq_false_iff_ne]; omega
              have d2 : ((j : Int) - (b : Int) == 2) = true := by rw [beq_iff_eq]; omega
              have C1 := Lib.hid fun w' => rcharN b (by omega) w'
              have C2' := fun w' => rcharN (b + 1) (by omega) w'
              have s1 : (str (chrN b)).size ≤ 4 := by rw [size_str]; exact chrN_le _
              have s1' : (chrN b).length ≤ 4 := chrN_le _
              have s2 : (str (chrN (b + 1))).size ≤ 4 := by rw [size_str]; exact chrN_le _
              have s2' : (chrN (b + 1)).length ≤ 4 := chrN_le _
              obtain ⟨X, hX⟩ : ∃ X, X = chrN b := ⟨_, rfl⟩
              obtain ⟨Y, hY⟩ : ∃ Y, Y = chrN (b + 1) := ⟨_, rfl⟩
              rw [← hX] at C1 s1 s1' HK
              rw [← hY] at C2' s2 s2' HK
              rw [Int.natCast_succ] at C2'
              have C2 := Lib.hid C2'
              clear HK0 hcs hX hY C2'
              go_wp2_with fail
              refine (C1.out _).mono ?_
              rintro e w4 ⟨rfl, b4⟩
              have HS4 := Lib.hid (HS.out.kept b4)
              have HB4 := Lib.hid (HB.out.trans (b4.mono HB.out.size))
              clear b4
              go_wp2_with fail
              refine (C2.out _).mono ?_
              rintro e w5 ⟨rfl, b5⟩
              have HS5 := Lib.hid (HS4.out.kept b5)
              have HB5 := Lib.hid (HB4.out.trans (b5.mono HB4.out.size))
              clear b5
              go_wp2_with fail
              go_roundw
              case rel => exact ⟨j + 1, by go_num, by omega, ret_s (by rw [HK.out]; exact cat_in rfl), by rw [HN.out], HS5.out, HB5.out, HE⟩
              case measure => simp [intOf]; omega
            · have HK : Hid (itemsK f (j + 1) = itemsK f b ++ (chrN b ++ 45 :: chrN (j - 1))) := by show _ = _; rw [HK0.out]; unfold pieceF; rw [if_neg (by omega), if_neg (by omega), if_neg (by omega)]
              have d0 : ((j : Int) - (b : Int) == 0) = false := by rw [beq_eq_false_iff_ne]; omega
              have d1 : ((j : Int) - (b : Int) == 1) = false := by rw [beq_eq_false_iff_ne]; omega
              have d2 : ((j : Int) - (b : Int) == 2) = false := by rw [beq_eq_false_iff_ne]; omega
              have C1 := Lib.hid fun w' => rcharN b (by omega) w'
              have C2' := fun w' => rcharN (j - 1) (by omega) w'
              have s1 : (str (chrN b)).size ≤ 4 := by rw [size_str]; exact chrN_le _
              have s1' : (chrN b).length ≤ 4 := chrN_le _
              have s2 : (str (chrN (j - 1))).size ≤ 4 := by rw [size_str]; exact chrN_le _
              have s2' : (chrN (j - 1)).length ≤ 4 := chrN_le _
              obtain ⟨X, hX⟩ : ∃ X, X = chrN b := ⟨_, rfl⟩
              obtain ⟨Y, hY⟩ : ∃ Y, Y = chrN (j - 1) := ⟨_, rfl⟩
              rw [← hX] at C1 s1 s1' HK
              rw [← hY] at C2' s2 s2' HK
              rw [show (((j - 1 : Nat)) : Int) = (j : Int) - 1 by omega] at C2'
              have C2 := Lib.hid C2'
              clear HK0 hX hY C2'
              go_wp2_with fail
              refine (C1.out _).mono ?_
              rintro e w4 ⟨rfl, b4⟩
              have HS4 := Lib.hid (HS.out.kept b4)
              have HB4 := Lib.hid (HB.out.trans (b4.mono HB.out.size))
              clear b4
              go_wp2_with fail
              refine (C2.out _).mono ?_
              rintro e w5 ⟨rfl, b5⟩
              have HS5 := Lib.hid (HS4.out.kept b5)
              have HB5 := Lib.hid (HB4.out.trans (b5.mono HB4.out.size))
              clear b5
              go_wp2_with fail
              go_roundw
              case rel => exact ⟨j + 1, by go_num, by omega, ret_s (by rw [HK.out]; exact cat_d), by rw [HN.out], HS5.out, HB5.out, HE⟩
              case measure => simp [intOf]; omega
          · have hcs4 : j = b + 1 ∨ j = b + 2 ∨ b + 3 ≤ j := by omega
            clear hrun
            have n1 : ¬ (j : Int) < 256 := by omega
            rcases hcs4 with hcs | hcs | hcs
            · have HK : Hid (itemsK f (j + 1) = itemsK f b ++ chrN b) := by show _ = _; rw [HK0.out]; unfold pieceF; rw [if_neg (by omega), if_pos hcs]
              have d0 : ((j : Int) - (b : Int) == 0) = false := by rw [beq_eq_false_iff_ne]; omega
              have d1 : ((j : Int) - (b : Int) == 1) = true := by rw [beq_iff_eq]; omega
              have C1 := Lib.hid fun w' => rcharN b (by omega) w'
              have s1 : (str (chrN b)).size ≤ 4 := by rw [size_str]; exact chrN_le _
              have s1' : (chrN b).length ≤ 4 := chrN_le _
              obtain ⟨X, hX⟩ : ∃ X, X = chrN b := ⟨_, rfl⟩
              rw [← hX] at C1 s1 s1' HK
              clear HK0 hcs hX
              go_wp2_with fail
              refine (C1.out _).mono ?_
              rintro e w4 ⟨rfl, b4⟩
              have HS4 := Lib.hid (HS.out.kept b4)
              have HB4 := Lib.hid (HB.out.trans (b4.mono HB.out.size))
              clear b4
              go_wp2_with fail
              go_roundw
              case rel => exact ⟨j + 1, by go_num, by omega, ret_s (by rw [HK.out]; exact cat_str _ _), by rw [HN.out], HS4.out, HB4.out, HE⟩
              case measure => simp [intOf]; omega
            · have HK : Hid (itemsK f (j + 1) = itemsK f b ++ (chrN b ++ chrN (b + 1))) := by show _ = _; rw [HK0.out]; unfold pieceF; rw [if_neg (by omega), if_neg (by omega), if_pos hcs]
              have d0 : ((j : Int) - (b : Int) == 0) = false := by rw [beq_eq_false_iff_ne]; omega
              have d1 : ((j : Int) - (b : Int) == 1) = false := by rw [beq_eq_false_iff_ne]; omega
              have d2 : ((j : Int) - (b : Int) == 2) = true := by rw [beq_iff_eq]; omega
              have C1 := Lib.hid fun w' => rcharN b (by omega) w'
              have C2' := fun w' => rcharN (b + 1) (by omega) w'
              have s1 : (str (chrN b)).size ≤ 4 := by rw [size_str]; exact chrN_le _
              have s1' : (chrN b).length ≤ 4 := chrN_le _
              have s2 : (str (chrN (b + 1))).size ≤ 4 := by rw [size_str]; exact chrN_le _
              have s2' : (chrN (b + 1)).length ≤ 4 := chrN_le _
              obtain ⟨X, hX⟩ : ∃ X, X = chrN b := ⟨_, rfl⟩
              obtain ⟨Y, hY⟩ : ∃ Y, Y = chrN (b + 1) := ⟨_, rfl⟩
              rw [← hX] at C1 s1 s1' HK
              rw [← hY] at C2' s2 s2' HK
              rw [Int.natCast_succ] at C2'
              have C2 := Lib.hid C2'
              clear HK0 hcs hX hY C2'
              go_wp2_with fail
              refine (C1.out _).mono ?_
              rintro e w4 ⟨rfl, b4⟩
              have HS4 := Lib.hid (HS.out.kept b4)
              have HB4 := Lib.hid (HB.out.trans (b4.mono HB.out.size))
              clear b4
              go_wp2_with fail
              refine (C2.out _).mono ?_
              rintro e w5 ⟨rfl, b5⟩
              have HS5 := Lib.hid (HS4.out.kept b5)
              have HB5 := Lib.hid (HB4.out.trans (b5.mono HB4.out.size))
              clear b5
              go_wp2_with fail
              go_roundw
              case rel => exact ⟨j + 1, by go_num, by omega, ret_s (by rw [HK.out]; exact cat_in rfl), by rw [HN.out], HS5.out, HB5.out, HE⟩
              case measure => simp [intOf]; omega
            · have HK : Hid (itemsK f (j + 1) = itemsK f b ++ (chrN b ++ 45 :: chrN (j - 1))) := by show _ = _; rw [HK0.out]; unfold pieceF; rw [if_neg (by omega), if_neg (by omega), if_neg (by omega)]
              have d0 : ((j : Int) - (b : Int) == 0) = false := by rw [beq_eq_false_iff_ne]; omega
              have d1 : ((j : Int) - (b : Int) == 1) = false := by rw [beq_eq_false_iff_ne]; omega
              have d2 : ((j : Int) - (b : Int) == 2) = false := by rw [beq_eq_false_iff_ne]; omega
              have C1 := Lib.hid fun w' => rcharN b (by omega) w'
              have C2' := fun w' => rcharN (j - 1) (by omega) w'
              have s1 : (str (chrN b)).size ≤ 4 := by rw [size_str]; exact chrN_le _
              have s1' : (chrN b).length ≤ 4 := chrN_le _
              have s2 : (str (chrN (j - 1))).size ≤ 4 := by rw [size_str]; exact chrN_le _
              have s2' : (chrN (j - 1)).length ≤ 4 := chrN_le _
              obtain ⟨X, hX⟩ : ∃ X, X = chrN b := ⟨_, rfl⟩
              obtain ⟨Y, hY⟩ : ∃ Y, Y = chrN (j - 1) := ⟨_, rfl⟩
              rw [← hX] at C1 s1 s1' HK
              rw [← hY] at C2' s2 s2' HK
              rw [show (((j - 1 : Nat)) : Int) = (j : Int) - 1 by omega] at C2'
              have C2 := Lib.hid C2'
              clear HK0 hX hY C2'
              go_wp2_with fail
              refine (C1.out _).mono ?_
              rintro e w4 ⟨rfl, b4⟩
              have HS4 := Lib.hid (HS.out.kept b4)
              have HB4 := Lib.hid (HB.out.trans (b4.mono HB.out.size))
              clear b4
              go_wp2_with fail
              refine (C2.out _).mono ?_
              rintro e w5 ⟨rfl, b5⟩
              have HS5 := Lib.hid (HS4.out.kept b5)
              have HB5 := Lib.hid (HB4.out.trans (b5.mono HB4.out.size))
              clear b5
              go_wp2_with fail
              go_roundw
              case rel => exact ⟨j + 1, by go_num, by omega, ret_s (by rw [HK.out]; exact cat_d), by rw [HN.out], HS5.out, HB5.out, HE⟩
              case measure => simp [intOf]; omega
    · have i1 : ¬ (b : Int) < 256 := by omega
      have HI : Hid (itemsK f b = itemsF f) := itemsK_more (by omega)
      have HM : Hid (min b 256 = 256) := by show _ = _; omega
      clear hS hB
      go_wp2_with fail
      go_ret2
      exact ⟨by rw [HI.out, HM.out]; rfl, HB.out⟩
end Go.Proofs.Ytckinkapbfaceaa
