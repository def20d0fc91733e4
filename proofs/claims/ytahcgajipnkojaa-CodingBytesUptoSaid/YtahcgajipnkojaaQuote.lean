/- Walks: octet.Quote, wickref.Quote. -/
import Derived.Test.YtahcgajipnkojaaUrlC
import Derived.Test.YtahcgajipnkojaaDec
import Derived.Test.YtahcgajipnkojaaMB
namespace Go.Proofs.Ytahcgajipnkojaa
open Go.RowKit
set_option linter.unusedVariables false
set_option linter.unusedSimpArgs false

def loHex : List UInt8 := [48, 49, 50, 51, 52, 53, 54, 55, 56, 57, 97, 98, 99, 100, 101, 102]
def escL : List UInt8 := [110, 114, 116, 115, 92]
/-- what Quote writes for a byte -/
def quoteB (b : UInt8) : List UInt8 :=
  if b = 10 then [92, 110] else if b = 13 then [92, 114] else if b = 9 then [92, 116] else if b = 32 then [92, 115] else if b = 92 then [92, 92]
  else if b.toNat < 33 ∨ 126 < b.toNat then [92, 120, loHex.getD (b.toNat / 16) 0, loHex.getD (b.toNat % 16) 0] else [b]
def quoteL (l : List UInt8) : List UInt8 := if l = [] then [45] else if l = [45] then [92, 45] else l.flatMap quoteB
theorem quoteB_le : ∀ b : UInt8, (quoteB b).length ≤ 4 := all_bytes (by decide +kernel)
theorem loB_get : ∀ k : Fin 16, ((ByteArray.mk #[48, 49, 50, 51, 52, 53, 54, 55, 56, 57, 97, 98, 99, 100, 101, 102])[k.val]'(by rw [lo_size]; exact k.isLt)) = loHex.getD k.val 0 := by decide +kernel
theorem lo_at' (i : Nat) (h : i < (ByteArray.mk #[48, 49, 50, 51, 52, 53, 54, 55, 56, 57, 97, 98, 99, 100, 101, 102]).size) (j : Nat) (e : i = j) : ((ByteArray.mk #[48, 49, 50, 51, 52, 53, 54, 55, 56, 57, 97, 98, 99, 100, 101, 102])[i]'h) = loHex.getD j 0 := by
  subst e; exact loB_get ⟨i, h⟩
theorem esc_size : (ByteArray.mk #[110, 114, 116, 115, 92]).size = 5 := rfl
theorem esc_fin : ∀ k : Fin 5, ((ByteArray.mk #[110, 114, 116, 115, 92])[k.val]'(by rw [esc_size]; exact k.isLt)) = escL.getD k.val 0 := by decide
theorem esc_at (k : Nat) (h : k < 5) : ((ByteArray.mk #[110, 114, 116, 115, 92])[k]'(by rw [esc_size]; exact h)) = escL.getD k 0 := esc_fin ⟨k, h⟩
/-- the three ways of Quote -/
theorem quote_cases : ∀ b : UInt8, (∃ K : Fin 5, ixb [10, 13, 9, 32, 92] (b.toNat : Int) = (K.val : Int) ∧ quoteB b = [92, escL.getD K.val 0]) ∨
    (ixb [10, 13, 9, 32, 92] (b.toNat : Int) = -1 ∧ b.toNat < 33 ∧ quoteB b = [92, 120, loHex.getD (b.toNat / 16) 0, loHex.getD (b.toNat % 16) 0]) ∨
    (ixb [10, 13, 9, 32, 92] (b.toNat : Int) = -1 ∧ 126 < b.toNat ∧ quoteB b = [92, 120, loHex.getD (b.toNat / 16) 0, loHex.getD (b.toNat % 16) 0]) ∨
    (ixb [10, 13, 9, 32, 92] (b.toNat : Int) = -1 ∧ 33 ≤ b.toNat ∧ b.toNat ≤ 126 ∧ quoteB b = [b]) := all_bytes (by decide +kernel)
theorem index_res (s : ByteArray) (l : List UInt8) (h : s.data.toList = l) (n J : Int) (hJ : ixb l n = J) (w : World) :
    Calls Try.prog 65 #[.string s, .int .u8 n] w fun e w' => e = .returned (.int .i64 J) ∧ w = w' := by
  subst hJ; exact indexByte_any s l h n w
theorem list_one {s : ByteArray} (c : UInt8) : (s.toList == [c]) = decide (s.data.toList = [c]) := by
  rw [Lib.toList_data]; by_cases h : s.data.toList = [c] <;> simp [h]
theorem list_nil {s : ByteArray} : s.toList.isEmpty = decide (s.data.toList = []) := by
  rw [Lib.toList_data]; cases s.data.toList <;> simp

theorem two_lo (b : UInt8) (w : World) : Calls Try.prog 69 #[.int .u8 b.toNat, .string ⟨#[48, 49, 50, 51, 52, 53, 54, 55, 56, 57, 97, 98, 99, 100, 101, 102]⟩] w fun e w' => e = .returned (.string (str [loHex.getD (b.toNat / 16) 0, loHex.getD (b.toNat % 16) 0])) ∧ ∃ q, w' = w.drewN q := by
  obtain ⟨c1, c2⟩ := byte_lt b
  exact two_any (b.toNat : Int) ⟨#[48, 49, 50, 51, 52, 53, 54, 55, 56, 57, 97, 98, 99, 100, 101, 102]⟩ w (by decide) (by decide) c1 c2
theorem cat_two (L M N : List UInt8) : str L ++ (str M ++ str N) = str (L ++ (M ++ N)) := by rw [cat_str, cat_str]

set_option maxHeartbeats 2000000 in
theorem quote_any (s : ByteArray) (w : World) (hs : s.size ≤ 1048576) :
    Calls Try.prog 36 #[.string s] w fun e w' => e = .returned (.string (str (quoteL s.data.toList))) ∧ Below w.heap.size w w' := by
  by_cases h0 : s.data.toList = []
  · have HQ := Lib.hid (show quoteL s.data.toList = [45] by unfold quoteL; rw [if_pos h0])
    have e0 : s.toList = [] := by rw [Lib.toList_data]; exact h0
    have e1 := list_nil.trans (decide_eq_true h0)
    clear h0
    go_enter Try.func36, Try.ntmps36
    go_wp2
    go_ret
    exact ⟨ret_str (by rw [HQ.out]), Below.refl _ _⟩
  · have e1 := list_nil.trans (decide_eq_false h0)
    by_cases h1 : s.data.toList = [45]
    · have HQ := Lib.hid (show quoteL s.data.toList = [92, 45] by unfold quoteL; rw [if_neg h0, if_pos h1])
      have e2 := (list_one 45).trans (decide_eq_true h1)
      clear h0 h1
      go_enter Try.func36, Try.ntmps36
      go_wp2
      go_ret
      exact ⟨ret_str (by rw [HQ.out]), Below.refl _ _⟩
    · have HQ := Lib.hid (show quoteL s.data.toList = s.data.toList.flatMap quoteB by unfold quoteL; rw [if_neg h0, if_neg h1])
      have e2 := (list_one 45).trans (decide_eq_false h1)
      clear h0 h1
      go_enter Try.func36, Try.ntmps36
      go_wp2_with fail
      go_loopw [3, 14] (fun v i wr => ∃ k : Nat, k ≤ s.size ∧ i = .int .i64 k ∧ OB wr w.heap.size v ((s.data.toList.take k).flatMap quoteB) ∧ Below w.heap.size w wr) (fun _ i _ => s.size - (intOf i).toNat)
      case atStart => exact ⟨0, by omega, rfl, OB.nil _ _, Below.refl _ _⟩
      case round =>
        obtain ⟨k, hk, rfl, hown, hbl⟩ := hrel
        have HO := Lib.hid hown
        have hsz := hbl.size
        have HB := Lib.hid hbl
        clear hown hbl
        by_cases hlt : k < s.size
        · have hlen := flat_le quoteB_le (s.data.toList.take k)
          rw [take_len s k hk] at hlen
          obtain ⟨c1, c2⟩ := byte_lt s[k]
          rcases quote_cases s[k] with ⟨⟨K, hK⟩, h, ha⟩ | ⟨h, g, ha⟩ | ⟨h, g, ha⟩ | ⟨h, g, g2, ha⟩
          · have HX := Lib.hid h
            have HA := Lib.hid ha
            have hk1 : (0 : Int) ≤ (K : Int) ∧ (K : Int) < 5 := by omega
            clear h ha
            go_wp2_with (first
              | (go_at_call 65; refine (index_res _ [10, 13, 9, 32, 92] rfl _ _ HX.out _).mono ?_; rintro e w' ⟨rfl, rfl⟩)
              | (at_builtin; go_must (refine wpL_app (w := wr) rfl (.tmp 29) (.tmp 32) rfl HO.out rfl _ [92, escL.getD K 0] (by simp only [List.map_cons, List.map_nil, bv]; rw [← esc_at K hK]; rfl) rfl (by simp only [List.length_cons, List.length_nil]; omega) hsz ?_); intro v' w1 ho1 hb1))
            go_roundw
            case rel => exact ⟨k + 1, by omega, by go_num, by rw [flat_step hlt, HA.out]; exact ho1, HB.out.trans hb1⟩
            case measure => simp [intOf]; omega
          · have HX := Lib.hid h
            have HA := Lib.hid ha
            have g3 : (s[k].toNat : Int) < 33 ∨ 126 < (s[k].toNat : Int) := by omega
            have hq : 0 ≤ (s[k].toNat : Int) / 16 ∧ (s[k].toNat : Int) / 16 < 16 := by omega
            have hr0 : 0 ≤ bits .and .u8 (s[k].toNat : Int) 15 ∧ bits .and .u8 (s[k].toNat : Int) 15 < 16 := by rw [and15]; omega
            have hr : 0 ≤ (s[k].toNat : Int) % 16 ∧ (s[k].toNat : Int) % 16 < 16 := by omega
            have HO2 : Hid (OB wr.drew w.heap.size u3 ((s.data.toList.take k).flatMap quoteB)) := HO.out
            have g4 : (s[k].toNat : Int) < 33 := by omega
            clear h ha g g3
            go_wp2_with (go_at_call 65; refine (index_res _ [10, 13, 9, 32, 92] rfl _ _ HX.out _).mono ?_; rintro e w' ⟨rfl, rfl⟩)
            go_region_law (first | (refine step_app (w := wr.drew) rfl (.tmp 41) (.tmp 48) rfl HO2.out rfl _ [92, 120, loHex.getD (s[k].toNat / 16) 0, loHex.getD (s[k].toNat % 16) 0] (by simp only [List.map_cons, List.map_nil, bv]; rw [lo_at' _ _ (s[k].toNat / 16) (by omega), lo_at' _ _ (s[k].toNat % 16) (by rw [and15]; omega)]; rfl) rfl (by simp only [List.length_cons, List.length_nil]; omega) hsz ?_; intro v' w1 ho1 hb1))
            all_goals go_wp2
            all_goals go_roundw
            all_goals first
              | exact ⟨k + 1, by omega, by go_num, by rw [flat_step hlt, HA.out]; exact ho1, HB.out.drew.trans hb1⟩
              | (simp [intOf]; omega)
          · have HX := Lib.hid h
            have HA := Lib.hid ha
            have g3 : (s[k].toNat : Int) < 33 ∨ 126 < (s[k].toNat : Int) := by omega
            have hq : 0 ≤ (s[k].toNat : Int) / 16 ∧ (s[k].toNat : Int) / 16 < 16 := by omega
            have hr0 : 0 ≤ bits .and .u8 (s[k].toNat : Int) 15 ∧ bits .and .u8 (s[k].toNat : Int) 15 < 16 := by rw [and15]; omega
            have hr : 0 ≤ (s[k].toNat : Int) % 16 ∧ (s[k].toNat : Int) % 16 < 16 := by omega
            have HO2 : Hid (OB wr.drew w.heap.size u3 ((s.data.toList.take k).flatMap quoteB)) := HO.out
            have g4 : 33 ≤ (s[k].toNat : Int) ∧ 126 < (s[k].toNat : Int) := by omega
            clear h ha g g3
            go_wp2_with (go_at_call 65; refine (index_res _ [10, 13, 9, 32, 92] rfl _ _ HX.out _).mono ?_; rintro e w' ⟨rfl, rfl⟩)
            go_region_law (first | (refine step_app (w := wr.drew) rfl (.tmp 41) (.tmp 48) rfl HO2.out rfl _ [92, 120, loHex.getD (s[k].toNat / 16) 0, loHex.getD (s[k].toNat % 16) 0] (by simp only [List.map_cons, List.map_nil, bv]; rw [lo_at' _ _ (s[k].toNat / 16) (by omega), lo_at' _ _ (s[k].toNat % 16) (by rw [and15]; omega)]; rfl) rfl (by simp only [List.length_cons, List.length_nil]; omega) hsz ?_; intro v' w1 ho1 hb1))
            all_goals go_wp2
            all_goals go_roundw
            all_goals first
              | exact ⟨k + 1, by omega, by go_num, by rw [flat_step hlt, HA.out]; exact ho1, HB.out.drew.trans hb1⟩
              | (simp [intOf]; omega)
          · have HX := Lib.hid h
            have HA := Lib.hid ha
            have g3 : (33 : Int) ≤ s[k].toNat ∧ (s[k].toNat : Int) ≤ 126 := by omega
            clear h ha g g2
            go_wp2_with (first
              | (go_at_call 65; refine (index_res _ [10, 13, 9, 32, 92] rfl _ _ HX.out _).mono ?_; rintro e w' ⟨rfl, rfl⟩)
              | (at_builtin; go_must (refine wpL_app (w := wr) rfl (.tmp 22) (.tmp 24) rfl HO.out rfl _ [s[k]] rfl rfl (by simp only [List.length_cons, List.length_nil]; omega) hsz ?_); intro v' w1 ho1 hb1))
            go_roundw
            case rel => exact ⟨k + 1, by omega, by go_num, by rw [flat_step hlt, HA.out]; exact ho1, HB.out.trans hb1⟩
            case measure => simp [intOf]; omega
        · have h := ob_str HO.out
          rw [take_all s (by omega)] at h
          go_wp2
          go_ret
          exact ⟨ret_str (by rw [HQ.out]), HB.out⟩

set_option maxHeartbeats 2000000 in
theorem Quote_any (s : ByteArray) (w : World) (hs : s.size ≤ 1048576) :
    Calls Try.prog 37 #[.string s] w fun e w' => e = .returned (.string (str (quoteL s.data.toList))) ∧ Below w.heap.size w w' := by
  by_cases h0 : s.data.toList = []
  · have HQ := Lib.hid (show quoteL s.data.toList = [45] by unfold quoteL; rw [if_pos h0])
    have e1 := list_nil.trans (decide_eq_true h0)
    clear h0
    go_enter Try.func37, Try.ntmps37
    go_wp2
    go_ret
    exact ⟨ret_str (by rw [HQ.out]), Below.refl _ _⟩
  · have e1 := list_nil.trans (decide_eq_false h0)
    by_cases h1 : s.data.toList = [45]
    · have HQ := Lib.hid (show quoteL s.data.toList = [92, 45] by unfold quoteL; rw [if_neg h0, if_pos h1])
      have e2 := (list_one 45).trans (decide_eq_true h1)
      clear h0 h1
      go_enter Try.func37, Try.ntmps37
      go_wp2
      go_ret
      exact ⟨ret_str (by rw [HQ.out]), Below.refl _ _⟩
    · have HQ := Lib.hid (show quoteL s.data.toList = s.data.toList.flatMap quoteB by unfold quoteL; rw [if_neg h0, if_neg h1])
      have e2 := (list_one 45).trans (decide_eq_false h1)
      clear h0 h1
      go_enter Try.func37, Try.ntmps37
      go_wp2_with fail
      go_loopw [3, 4] (fun v i wr => ∃ k : Nat, k ≤ s.size ∧ i = .int .i64 k ∧ v = .string (str ((s.data.toList.take k).flatMap quoteB)) ∧ Below w.heap.size w wr) (fun _ i _ => s.size - (intOf i).toNat)
      case atStart => exact ⟨0, by omega, rfl, rfl, Below.refl _ _⟩
      case round =>
        obtain ⟨k, hk, rfl, rfl, hbl⟩ := hrel
        have HB := Lib.hid hbl
        clear hbl
        by_cases hlt : k < s.size
        · have hlen := flat_le quoteB_le (s.data.toList.take k)
          rw [take_len s k hk] at hlen
          obtain ⟨L, hL⟩ : ∃ L, L = (s.data.toList.take k).flatMap quoteB := ⟨_, rfl⟩
          rw [← hL] at hlen ⊢
          have HL := Lib.hid hL
          clear hL
          have hLs : (str L).size ≤ 4194304 := by rw [size_str]; omega
          obtain ⟨c1, c2⟩ := byte_lt s[k]
          by_cases h10 : s[k] = 10
          · have HA := Lib.hid (show quoteB s[k] = [92, 110] by unfold quoteB; rw [if_pos h10])
            have e10 : ((s[k].toNat : Int) == 10) = true := byte_eq (c := 10) h10
            clear h10
            go_wp2_with fail
            go_roundw
            case rel => exact ⟨k + 1, by omega, by go_num, ret_s (by rw [flat_step hlt, HA.out, ← HL.out]; exact cat_str L [92, 110]), HB.out⟩
            case measure => simp [intOf]; omega
          by_cases h13 : s[k] = 13
          · have HA := Lib.hid (show quoteB s[k] = [92, 114] by unfold quoteB; rw [if_neg h10, if_pos h13])
            have e13 : ((s[k].toNat : Int) == 13) = true := byte_eq (c := 13) h13
            have e10 : ((s[k].toNat : Int) == 10) = false := byte_ne (c := 10) h10
            clear h10 h13
            go_wp2_with fail
            go_roundw
            case rel => exact ⟨k + 1, by omega, by go_num, ret_s (by rw [flat_step hlt, HA.out, ← HL.out]; exact cat_str L [92, 114]), HB.out⟩
            case measure => simp [intOf]; omega
          by_cases h9 : s[k] = 9
          · have HA := Lib.hid (show quoteB s[k] = [92, 116] by unfold quoteB; rw [if_neg h10, if_neg h13, if_pos h9])
            have e9 : ((s[k].toNat : Int) == 9) = true := byte_eq (c := 9) h9
            have e10 : ((s[k].toNat : Int) == 10) = false := byte_ne (c := 10) h10
            have e13 : ((s[k].toNat : Int) == 13) = false := byte_ne (c := 13) h13
            clear h10 h13 h9
            go_wp2_with fail
            go_roundw
            case rel => exact ⟨k + 1, by omega, by go_num, ret_s (by rw [flat_step hlt, HA.out, ← HL.out]; exact cat_str L [92, 116]), HB.out⟩
            case measure => simp [intOf]; omega
          by_cases h32 : s[k] = 32
          · have HA := Lib.hid (show quoteB s[k] = [92, 115] by unfold quoteB; rw [if_neg h10, if_neg h13, if_neg h9, if_pos h32])
            have e32 : ((s[k].toNat : Int) == 32) = true := byte_eq (c := 32) h32
            have e10 : ((s[k].toNat : Int) == 10) = false := byte_ne (c := 10) h10
            have e13 : ((s[k].toNat : Int) == 13) = false := byte_ne (c := 13) h13
            have e9 : ((s[k].toNat : Int) == 9) = false := byte_ne (c := 9) h9
            clear h10 h13 h9 h32
            go_wp2_with fail
            go_roundw
            case rel => exact ⟨k + 1, by omega, by go_num, ret_s (by rw [flat_step hlt, HA.out, ← HL.out]; exact cat_str L [92, 115]), HB.out⟩
            case measure => simp [intOf]; omega
          by_cases h92 : s[k] = 92
          · have HA := Lib.hid (show quoteB s[k] = [92, 92] by unfold quoteB; rw [if_neg h10, if_neg h13, if_neg h9, if_neg h32, if_pos h92])
            have e92 : ((s[k].toNat : Int) == 92) = true := byte_eq (c := 92) h92
            have e10 : ((s[k].toNat : Int) == 10) = false := byte_ne (c := 10) h10
            have e13 : ((s[k].toNat : Int) == 13) = false := byte_ne (c := 13) h13
            have e9 : ((s[k].toNat : Int) == 9) = false := byte_ne (c := 9) h9
            have e32 : ((s[k].toNat : Int) == 32) = false := byte_ne (c := 32) h32
            clear h10 h13 h9 h32 h92
            go_wp2_with fail
            go_roundw
            case rel => exact ⟨k + 1, by omega, by go_num, ret_s (by rw [flat_step hlt, HA.out, ← HL.out]; exact cat_str L [92, 92]), HB.out⟩
            case measure => simp [intOf]; omega
          have e10 : ((s[k].toNat : Int) == 10) = false := byte_ne (c := 10) h10
          have e13 : ((s[k].toNat : Int) == 13) = false := byte_ne (c := 13) h13
          have e9 : ((s[k].toNat : Int) == 9) = false := byte_ne (c := 9) h9
          have e32 : ((s[k].toNat : Int) == 32) = false := byte_ne (c := 32) h32
          have e92 : ((s[k].toNat : Int) == 92) = false := byte_ne (c := 92) h92
          by_cases hx : s[k].toNat < 33 ∨ 126 < s[k].toNat
          · have HA := Lib.hid (show quoteB s[k] = [92, 120, loHex.getD (s[k].toNat / 16) 0, loHex.getD (s[k].toNat % 16) 0] by unfold quoteB; rw [if_neg h10, if_neg h13, if_neg h9, if_neg h32, if_neg h92, if_pos hx])
            have hx2 : (s[k].toNat : Int) < 33 ∨ (33 ≤ (s[k].toNat : Int) ∧ 126 < (s[k].toNat : Int)) := by omega
            clear h10 h13 h9 h32 h92 hx
            rcases hx2 with hx2 | hx2
            all_goals
              go_wp2_with (go_at_call 69; refine (two_lo s[k] _).mono ?_; rintro e w' ⟨rfl, q, rfl⟩)
            all_goals go_roundw
            all_goals first
              | exact ⟨k + 1, by omega, by go_num, ret_s (by rw [flat_step hlt, HA.out, ← HL.out]; exact cat_two L [92, 120] _), below_drewN HB.out _⟩
              | (simp [intOf]; omega)
          · have HA := Lib.hid (show quoteB s[k] = [s[k]] by unfold quoteB; rw [if_neg h10, if_neg h13, if_neg h9, if_neg h32, if_neg h92, if_neg hx])
            have hx2 : 33 ≤ (s[k].toNat : Int) ∧ (s[k].toNat : Int) ≤ 126 := by omega
            clear h10 h13 h9 h32 h92 hx
            go_wp2_with fail
            go_roundw
            case rel => exact ⟨k + 1, by omega, by go_num, ret_s (by rw [flat_step hlt, HA.out, ← HL.out]; exact cat_ext1 L s k hlt), HB.out⟩
            case measure => simp [intOf]; omega
        · go_wp2
          go_ret
          exact ⟨ret_str (by rw [HQ.out, take_all s (by omega)]), HB.out⟩
end Go.Proofs.Ytahcgajipnkojaa
