/- Walks: octet.Trim, wickref.Trim. -/
import Derived.Test.YthfolopnjmkllaaDoorStr
import Derived.Test.YthfolopnjmkllaaDoorDec
namespace Go.Proofs.YthfolopnjmkllaaDoor
open Go.RowKit
set_option linter.unusedVariables false
set_option linter.unusedSimpArgs false

/-! ### Trim -/
def wsB (b : UInt8) : Bool := b == 9 || b == 32
def ltrimL (l : List UInt8) : List UInt8 := l.dropWhile wsB
def rtrimL (l : List UInt8) : List UInt8 := (l.reverse.dropWhile wsB).reverse
def trimL (l : List UInt8) : List UInt8 := rtrimL (ltrimL l)
theorem ltrim_ws {b : UInt8} {l : List UInt8} (h : wsB b = true) : ltrimL (b :: l) = ltrimL l := by simp [ltrimL, h]
theorem ltrim_no {b : UInt8} {l : List UInt8} (h : wsB b = false) : ltrimL (b :: l) = b :: l := by simp [ltrimL, h]
theorem rtrim_ws {b : UInt8} {l : List UInt8} (h : wsB b = true) : rtrimL (l ++ [b]) = rtrimL l := by simp [rtrimL, h]
theorem rtrim_no {b : UInt8} {l : List UInt8} (h : wsB b = false) : rtrimL (l ++ [b]) = l ++ [b] := by simp [rtrimL, h]
theorem ws_no {b : UInt8} (h1 : ¬ b = 9) (h2 : ¬ b = 32) : wsB b = false := by simp [wsB, h1, h2]
theorem win_snoc {s : ByteArray} {i j : Nat} (h : i ≤ j) (hj : j < s.size) : (s.data.toList.take (j + 1)).drop i = (s.data.toList.take j).drop i ++ [s[j]] := by
  rw [take_snoc s j hj, List.drop_append_of_le_length (by rw [take_len s j (by omega)]; exact h)]

set_option maxHeartbeats 400000 in
theorem trim_any (s : ByteArray) (w : World) (hs : s.size ≤ 140737488355328) :
    Calls Tryd.prog 55 #[.string s] w fun e w' => e = .returned (.string (str (trimL s.data.toList))) ∧ w = w' := by
  go_enter Tryd.func55, Tryd.ntmps55
  go_wp2
  go_loop [3] (fun i => ∃ k : Nat, k ≤ s.size ∧ i = .int .i64 k ∧ Hid (ltrimL s.data.toList = ltrimL (s.data.toList.drop k))) (fun i => s.size - (intOf i).toNat)
  case atStart => exact ⟨0, by omega, rfl, rfl⟩
  case round =>
    obtain ⟨k, hk, rfl, HE⟩ := hrel
    by_cases hw : ∃ h : k < s.size, wsB s[k] = true
    · obtain ⟨hlt, hw⟩ := hw
      have i1 : (0 : Int) ≤ k ∧ (k : Int) < s.size := by omega
      have HN := Lib.hid (show ltrimL s.data.toList = ltrimL (s.data.toList.drop (k + 1)) by rw [HE.out, drop_cons s k hlt, ltrim_ws hw])
      by_cases e32 : s[k] = 32
      · have e : ((s[k].toNat : Int) == 32) = true := byte_eq (c := 32) e32
        clear e32 hw
        go_wp2
        go_round
        case rel => exact ⟨k + 1, by omega, by go_num, HN⟩
        case measure => simp [intOf]; omega
      · have e9 : s[k] = 9 := by simp [wsB] at hw; rcases hw with h | h; exact h; exact absurd h e32
        have n : ((s[k].toNat : Int) == 32) = false := byte_ne (c := 32) e32
        have e : ((s[k].toNat : Int) == 9) = true := byte_eq (c := 9) e9
        clear e32 hw e9
        go_wp2
        go_round
        case rel => exact ⟨k + 1, by omega, by go_num, HN⟩
        case measure => simp [intOf]; omega
    · have HD := Lib.hid (show ltrimL s.data.toList = s.data.toList.drop k by
        rw [HE.out]
        by_cases hlt : k < s.size
        · rw [drop_cons s k hlt, ltrim_no (by rw [Bool.eq_false_iff]; exact fun h => hw ⟨hlt, h⟩)]
        · rw [drop_all s (by omega)]; rfl)
      have hcase : (¬ (k : Int) < s.size) ∨ (∃ h : k < s.size, ((s[k].toNat : Int) == 32) = false ∧ ((s[k].toNat : Int) == 9) = false) := by
        by_cases hlt : k < s.size
        · refine .inr ⟨hlt, byte_ne (c := 32) fun h => hw ⟨hlt, by rw [h]; rfl⟩, byte_ne (c := 9) fun h => hw ⟨hlt, by rw [h]; rfl⟩⟩
        · exact .inl (by omega)
      clear hw
      rcases hcase with hcase | ⟨hlt, n1, n2⟩
      all_goals
        go_wp2
        go_loop [4] (fun i => ∃ j : Nat, k ≤ j ∧ j ≤ s.size ∧ i = .int .i64 j ∧ Hid (trimL s.data.toList = rtrimL ((s.data.toList.take j).drop k))) (fun i => (intOf i).toNat)
        case atStart => exact ⟨s.size, by omega, by omega, rfl, by unfold trimL; rw [HD.out, take_all s (Nat.le_refl _)]; rfl⟩
        case round =>
          obtain ⟨j, hj, hj2, rfl, HT⟩ := hrel
          by_cases hgt : k < j
          · obtain ⟨x, rfl⟩ : ∃ x, j = x + 1 := ⟨j - 1, by omega⟩
            have hx : x < s.size := by omega
            have hx2 : ((x : Int) + 1 - 1).toNat = x := by omega
            have i1 : (0 : Int) ≤ x ∧ (x : Int) < s.size := by omega
            have HT' := Lib.hid (show trimL s.data.toList = rtrimL ((s.data.toList.take x).drop k ++ [s[x]]) by rw [HT.out, win_snoc (by omega) hx])
            clear HT
            by_cases e32 : s[x] = 32
            · have HT2 := Lib.hid (show trimL s.data.toList = rtrimL ((s.data.toList.take x).drop k) by rw [HT'.out, rtrim_ws (by simp [wsB, e32])])
              have e : ((s[x].toNat : Int) == 32) = true := byte_eq (c := 32) e32
              clear e32
              go_wp2
              all_goals (go_round; (case rel => exact ⟨x, by omega, by omega, by go_num, HT2⟩); (case measure => simp [intOf] <;> omega))
            · have n : ((s[x].toNat : Int) == 32) = false := byte_ne (c := 32) e32
              by_cases e9 : s[x] = 9
              · have HT2 := Lib.hid (show trimL s.data.toList = rtrimL ((s.data.toList.take x).drop k) by rw [HT'.out, rtrim_ws (by simp [wsB, e9])])
                have e : ((s[x].toNat : Int) == 9) = true := byte_eq (c := 9) e9
                clear e32 e9
                go_wp2
                all_goals (go_round; (case rel => exact ⟨x, by omega, by omega, by go_num, HT2⟩); (case measure => simp [intOf] <;> omega))
              · have HT2 := Lib.hid (show trimL s.data.toList = (s.data.toList.take (x + 1)).drop k by rw [HT'.out, rtrim_no (ws_no e9 e32), win_snoc (by omega) hx])
                have n2 : ((s[x].toNat : Int) == 9) = false := byte_ne (c := 9) e9
                clear e32 e9
                go_wp2
                all_goals go_ret
                all_goals exact ⟨ret_str (lst_inj (by rw [lst_mk, HT2.out, lst_ext])), rfl⟩
          · have hjk : j = k := by omega
            have HT2 := Lib.hid (show trimL s.data.toList = (s.data.toList.take j).drop k by
              rw [HT.out, hjk, List.drop_eq_nil_of_le (by rw [List.length_take]; omega)]; rfl)
            clear HT hjk
            go_wp2
            go_ret
            exact ⟨ret_str (lst_inj (by rw [lst_mk, HT2.out, lst_ext])), rfl⟩

def vSize : Value → Nat | .string t => t.size | _ => 0
theorem ext_tail (t : ByteArray) (h : 0 < t.size) : (t.extract 1 t.size).data.toList = t.data.toList.drop 1 := Lib.extract_to_end t 1
theorem size_ext (t : ByteArray) (a b : Nat) (h : a ≤ b) (hb : b ≤ t.size) : (t.extract a b).size = b - a := by
  rw [← lst_len, lst_ext, List.length_drop, List.length_take, lst_len]; omega

set_option maxHeartbeats 1000000 in
theorem Trim_any (s : ByteArray) (w : World) (hs : s.size ≤ 140737488355328) :
    Calls Tryd.prog 38 #[.string s] w fun e w' => e = .returned (.string (str (trimL s.data.toList))) ∧ w = w' := by
  go_enter Tryd.func38, Tryd.ntmps38
  go_wp2
  go_loop [0] (fun v => ∃ t : ByteArray, t.size ≤ s.size ∧ v = .string t ∧ Hid (ltrimL s.data.toList = ltrimL t.data.toList)) (fun v => vSize v)
  case atStart => exact ⟨s, by omega, rfl, rfl⟩
  case round =>
    obtain ⟨t, ht, rfl, HE⟩ := hrel
    by_cases hw : ∃ h : 0 < t.size, wsB t[0] = true
    · obtain ⟨h0, hw⟩ := hw
      have HN := Lib.hid (show ltrimL s.data.toList = ltrimL (t.extract 1 t.size).data.toList by
        rw [HE.out, ext_tail t h0]
        have := drop_cons t 0 h0
        rw [List.drop_zero] at this
        rw [this, ltrim_ws hw]; rfl)
      have hsz := size_ext t 1 t.size (by omega) (by omega)
      have hle : (t.extract 1 t.size).size + 1 ≤ t.size := by omega
      clear hsz
      have i1 : (0 : Int) < t.size := by omega
      by_cases e9 : t[0] = 9
      · have e : ((t[0].toNat : Int) == 9) = true := byte_eq (c := 9) e9
        clear e9 hw
        go_wp2
        go_round
        case rel => exact ⟨t.extract 1 t.size, by omega, rfl, HN⟩
        case measure => simp only [vSize]; omega
      · have e32 : t[0] = 32 := by simp [wsB] at hw; rcases hw with h | h; exact absurd h e9; exact h
        have n : ((t[0].toNat : Int) == 9) = false := byte_ne (c := 9) e9
        have e : ((t[0].toNat : Int) == 32) = true := byte_eq (c := 32) e32
        clear e32 hw e9
        go_wp2
        go_round
        case rel => exact ⟨t.extract 1 t.size, by omega, rfl, HN⟩
        case measure => simp only [vSize]; omega
    · have HD := Lib.hid (show ltrimL s.data.toList = t.data.toList by
        rw [HE.out]
        by_cases h0 : 0 < t.size
        · have := drop_cons t 0 h0
          rw [List.drop_zero] at this
          rw [this, ltrim_no (by rw [Bool.eq_false_iff]; exact fun h => hw ⟨h0, h⟩)]
        · have := drop_all t (k := 0) (by omega)
          rw [List.drop_zero] at this
          rw [this]; rfl)
      have hcase : (¬ (0 : Int) < t.size) ∨ (∃ h : 0 < t.size, ((t[0].toNat : Int) == 9) = false ∧ ((t[0].toNat : Int) == 32) = false) := by
        by_cases h0 : 0 < t.size
        · refine .inr ⟨h0, byte_ne (c := 9) fun h => hw ⟨h0, by rw [h]; rfl⟩, byte_ne (c := 32) fun h => hw ⟨h0, by rw [h]; rfl⟩⟩
        · exact .inl (by omega)
      clear hw
      rcases hcase with hcase | ⟨h0, n1, n2⟩
      all_goals
        go_wp2
        go_loop [0] (fun v => ∃ u : ByteArray, u.size ≤ t.size ∧ v = .string u ∧ Hid (trimL s.data.toList = rtrimL u.data.toList)) (fun v => vSize v)
        case atStart => exact ⟨t, by omega, rfl, by unfold trimL; rw [HD.out]; rfl⟩
        case round =>
          obtain ⟨u, hu, rfl, HT⟩ := hrel
          by_cases h0 : 0 < u.size
          · obtain ⟨x, hx⟩ : ∃ x, u.size = x + 1 := ⟨u.size - 1, by omega⟩
            have hxl : x < u.size := by omega
            have HX := Lib.hid hx
            have j1 : ((u.size : Int) - 1).toNat = x := by omega
            have j2 : (0 : Int) ≤ (u.size : Int) - 1 ∧ (u.size : Int) - 1 < u.size := by omega
            have i1 : (0 : Int) < u.size := by omega
            clear hx
            have hl : u.data.toList = u.data.toList.take x ++ [u[x]] := by
              rw [← take_snoc u x hxl, take_all u (by have := HX.out; omega)]
            have HL := Lib.hid hl
            clear hl
            have hsz := size_ext u 0 x (by omega) (by omega)
            have hle : (u.extract 0 x).size + 1 ≤ u.size := by omega
            clear hsz
            have HU := Lib.hid (show (u.extract 0 x).data.toList = u.data.toList.take x by rw [lst_ext]; rfl)
            by_cases e9 : u[x] = 9
            · have HT2 := Lib.hid (show trimL s.data.toList = rtrimL (u.extract 0 x).data.toList by rw [HT.out, HU.out, HL.out, rtrim_ws (by simp [wsB, e9])]; rw [← HL.out])
              have e : ((u[x].toNat : Int) == 9) = true := byte_eq (c := 9) e9
              clear e9
              go_wp2
              all_goals (go_round; (case rel => exact ⟨u.extract 0 x, by omega, rfl, HT2⟩); (case measure => simp only [vSize]; omega))
            · have n : ((u[x].toNat : Int) == 9) = false := byte_ne (c := 9) e9
              by_cases e32 : u[x] = 32
              · have HT2 := Lib.hid (show trimL s.data.toList = rtrimL (u.extract 0 x).data.toList by rw [HT.out, HU.out, HL.out, rtrim_ws (by simp [wsB, e32])]; rw [← HL.out])
                have e : ((u[x].toNat : Int) == 32) = true := byte_eq (c := 32) e32
                clear e9 e32
                go_wp2
                all_goals (go_round; (case rel => exact ⟨u.extract 0 x, by omega, rfl, HT2⟩); (case measure => simp only [vSize]; omega))
              · have HT2 := Lib.hid (show trimL s.data.toList = u.data.toList by rw [HT.out, HL.out, rtrim_no (ws_no e9 e32)])
                have n2 : ((u[x].toNat : Int) == 32) = false := byte_ne (c := 32) e32
                clear e9 e32
                go_wp2
                all_goals go_ret
                all_goals exact ⟨ret_str (by rw [HT2.out]), rfl⟩
          · have HT2 := Lib.hid (show trimL s.data.toList = [] by
              rw [HT.out]
              have := drop_all u (k := 0) (by omega)
              rw [List.drop_zero] at this
              rw [this]; rfl)
            have HU := Lib.hid (show u.data.toList = [] by
              have := drop_all u (k := 0) (by omega)
              rwa [List.drop_zero] at this)
            go_wp2
            go_ret
            exact ⟨ret_str (lst_inj (by rw [HT2.out, HU.out])), rfl⟩
end Go.Proofs.YthfolopnjmkllaaDoor
