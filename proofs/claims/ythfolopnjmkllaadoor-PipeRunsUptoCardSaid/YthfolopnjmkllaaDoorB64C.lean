/- Walk: coding.Base64Decode. -/
import Derived.Test.YthfolopnjmkllaaDoorB64P
import Derived.Test.YthfolopnjmkllaaDoorMB
namespace Go.Proofs.YthfolopnjmkllaaDoor
open Go.RowKit
set_option linter.unusedVariables false
set_option linter.unusedSimpArgs false

def trimE (l : List UInt8) : List UInt8 := Lib.trimSuffix l [61]
def bodyE (l : List UInt8) : List UInt8 := trimE (trimE l)
def sxs (l : List UInt8) : List Nat := l.map fun c => (sx c).toNat
/-- what Base64Decode answers: the text, the error -/
def decB (l : List UInt8) : List UInt8 × Int :=
  if l.length % 4 ≠ 0 then ([], 4)
  else if (bodyE l).any (fun c => decide (sx c < 0)) then ([], 4)
  else if (foldD (0, 0, []) (sxs (bodyE l))).1 ≠ 0 ∨ (foldD (0, 0, []) (sxs (bodyE l))).2.1 = 6 then ([], 4)
  else ((foldD (0, 0, []) (sxs (bodyE l))).2.2, 0)

theorem sxs_len (l : List UInt8) : (sxs l).length = l.length := by simp [sxs]
theorem foldD_snoc (V : List Nat) (v : Nat) : foldD (0, 0, []) (V ++ [v]) = stepD (foldD (0, 0, []) V) v := by simp [foldD]
theorem foldD_bd (V : List Nat) (h : ∀ v ∈ V, v < 64) : ∃ n b A, foldD (0, 0, []) V = (n, b, A) ∧ (b = 0 ∧ n = 0 ∨ b = 2 ∧ n < 4 ∨ b = 4 ∧ n < 16 ∨ b = 6 ∧ n < 64) ∧ A.length ≤ V.length := by
  induction V using snoc_ind with
  | h0 => exact ⟨0, 0, [], rfl, .inl ⟨rfl, rfl⟩, by simp⟩
  | h1 V v ih =>
    obtain ⟨n, b, A, e, hb, hA⟩ := ih fun x hx => h x (by simp [hx])
    have hv := h v (by simp)
    rw [foldD_snoc, e]
    rcases hb with ⟨rfl, rfl⟩ | ⟨rfl, hn⟩ | ⟨rfl, hn⟩ | ⟨rfl, hn⟩
    · exact ⟨_, _, _, stepD0 _ _ _, .inr (.inr (.inr ⟨rfl, by omega⟩)), by rw [List.length_append]; simp; omega⟩
    · exact ⟨_, _, _, stepD2 _ _ _, .inl ⟨rfl, by omega⟩, by simp only [List.length_append, List.length_cons, List.length_nil]; omega⟩
    · exact ⟨_, _, _, stepD4 _ _ _, .inr (.inl ⟨rfl, by omega⟩), by simp only [List.length_append, List.length_cons, List.length_nil]; omega⟩
    · exact ⟨_, _, _, stepD6 _ _ _, .inr (.inr (.inl ⟨rfl, by omega⟩)), by simp only [List.length_append, List.length_cons, List.length_nil]; omega⟩
theorem sx_lt (c : UInt8) : (sx c).toNat < 64 := by rcases sx_facts c with h | h <;> omega
theorem sxs_lt (l : List UInt8) : ∀ v ∈ sxs l, v < 64 := by
  intro v hv; obtain ⟨c, _, rfl⟩ := List.mem_map.1 hv; exact sx_lt c
theorem sxs_snoc (s : ByteArray) (k : Nat) (h : k < s.size) : sxs (s.data.toList.take (k + 1)) = sxs (s.data.toList.take k) ++ [(sx s[k]).toNat] := by
  rw [take_snoc s k h]; simp [sxs]
theorem trimE_le (l : List UInt8) : (trimE l).length ≤ l.length := by unfold trimE Lib.trimSuffix; split <;> simp
theorem bodyE_le (l : List UInt8) : (bodyE l).length ≤ l.length := Nat.le_trans (trimE_le _) (trimE_le _)
theorem trimSfx_any (s : ByteArray) (w : World) (hs : s.size ≤ 9223372036854775807) :
    Calls Tryd.prog 75 #[.string s, .string { data := #[61] }] w fun e w' => e = .returned (.string (str (trimE s.data.toList))) ∧ w = w' :=
  (Tryd.strings_TrimSuffix s _ w hs).mono fun _ _ h => ⟨h.1, h.2.symm⟩
theorem or64 (n v : Nat) (hn : n < 64) (hv : v < 64) : bits .or .u32 ((n : Int) * 64) ((v : Int)) = ((n * 64 + v : Nat) : Int) := by
  have := u32_or_nat (n * 64) v (by omega) (by omega)
  rw [show ((n * 64 : Nat) : Int) = (n : Int) * 64 by omega] at this
  rw [this]
  have h := Nat.two_pow_add_eq_or_of_lt (i := 6) (b := v) (by omega) n
  rw [Nat.mul_comm n 64, h]
theorem sxb_any (c : UInt8) (w : World) :
    Calls Tryd.prog 76 #[.string (ByteArray.mk #[65, 66, 67, 68, 69, 70, 71, 72, 73, 74, 75, 76, 77, 78, 79, 80, 81, 82, 83, 84, 85, 86, 87, 88, 89, 90, 97, 98, 99, 100, 101, 102, 103, 104, 105, 106, 107, 108, 109, 110, 111, 112, 113, 114, 115, 116, 117, 118, 119, 120, 121, 122, 48, 49, 50, 51, 52, 53, 54, 55, 56, 57, 43, 47]), .int .u8 c.toNat] w fun e w' => e = .returned (.int .i64 (sx c)) ∧ w = w' :=
  indexByte_any _ sgL rfl _ _

theorem bvN {x : Int} {y : Nat} (h : x = y) (hy : y < 256) : [Value.int .u8 x] = [UInt8.ofNat y].map bv := by
  rw [List.map_cons, List.map_nil, bv, nat_of hy, h]
theorem andm (n V m i : Nat) (hm : m = 2 ^ i - 1) (h : n * 64 + V < 4294967296) (h2 : m < 4294967296) : bits .and .u32 ((n : Int) * 64 + (V : Int)) (m : Int) = ((n * 64 + V) % 2 ^ i : Nat) := by
  have := u32_and_nat (n * 64 + V) m h h2
  rw [show ((n * 64 + V : Nat) : Int) = (n : Int) * 64 + (V : Int) by omega] at this
  rw [this, hm, Nat.and_two_pow_sub_one_eq_mod]
theorem decB_len {l : List UInt8} (h : l.length % 4 ≠ 0) : decB l = ([], 4) := if_pos h
theorem decB_bad {l : List UInt8} {c : UInt8} (hc : c ∈ bodyE l) (h : sx c < 0) : decB l = ([], 4) := by
  unfold decB
  have : (bodyE l).any (fun c => decide (sx c < 0)) = true := List.any_eq_true.2 ⟨c, hc, by simpa using h⟩
  rw [if_pos this]
  try (split <;> rfl)
theorem decB_wrong {l : List UInt8} {n b : Nat} {A : List UInt8} (h : foldD (0, 0, []) (sxs (bodyE l)) = (n, b, A)) (hb : n ≠ 0 ∨ b = 6) : decB l = ([], 4) := by
  unfold decB
  rw [h]
  rw [if_pos (show n ≠ 0 ∨ b = 6 from hb)]
  split
  · rfl
  · split <;> rfl
theorem decB_good {l : List UInt8} {n b : Nat} {A : List UInt8} (h : foldD (0, 0, []) (sxs (bodyE l)) = (n, b, A)) (hl : l.length % 4 = 0) (hall : ∀ c ∈ bodyE l, 0 ≤ sx c) (hb : ¬ (n ≠ 0 ∨ b = 6)) : decB l = (A, 0) := by
  unfold decB
  rw [h, if_neg (by omega), if_neg (by rw [List.any_eq_true]; rintro ⟨c, hc, h2⟩; exact absurd (hall c hc) (by simpa using h2)), if_neg hb]

set_option maxHeartbeats 4000000 in
theorem b64Decode_any (s : ByteArray) (w : World) (hs : s.size ≤ 140737488355320) :
    Calls Tryd.prog 50 #[.string s] w fun e w' => e = .returned (.tuple #[.string (str (decB s.data.toList).1), .int .i64 (decB s.data.toList).2]) ∧ Below w.heap.size w w' := by
  have ht := trimE_le s.data.toList
  have hb := bodyE_le s.data.toList
  rw [lst_len] at ht hb
  have ht1 := size_str (trimE s.data.toList)
  by_cases h4 : s.size % 4 = 0
  · have q0 : ((s.size : Int) % 4 == 0) = true := by rw [beq_iff_eq]; omega
    have q1 : ((s.size : Int) % 4 != 0) = false := by rw [bne_eq_false_iff_eq]; omega
    have hlt0 := lst_str (trimE s.data.toList)
    obtain ⟨t, et⟩ : ∃ t, t = str (bodyE s.data.toList) := ⟨_, rfl⟩
    have htl : t.data.toList = bodyE s.data.toList := by rw [et]
    have hts : t.size ≤ s.size := by rw [et, size_str]; exact hb
    have HT := Lib.hid et
    have HTL := Lib.hid htl
    have T1 : Calls Tryd.prog 75 #[.string (str (trimE s.data.toList)), .string { data := #[61] }] w fun e w' => e = .returned (.string t) ∧ w = w' := by
      have := trimSfx_any (str (trimE s.data.toList)) w (by omega)
      rw [show (str (trimE s.data.toList)).data.toList = trimE s.data.toList from lst_str _] at this
      rw [et]; exact this
    have HT1 := Lib.hid T1
    clear et htl T1 hlt0 hb ht1 ht
    go_enter Tryd.func50, Tryd.ntmps50
    go_wp2_with fail
    refine (trimSfx_any s _ (by omega)).mono ?_
    rintro e w' ⟨rfl, rfl⟩
    go_wp2_with fail
    refine HT1.out.mono ?_
    rintro e w' ⟨rfl, rfl⟩
    go_wp2_with fail
    go_loopw [5, 6, 7, 19] (fun v n b i wr => ∃ (k : Nat), k ≤ t.size ∧ i = .int .i64 k ∧ OB wr w.heap.size v (foldD (0, 0, []) (sxs (t.data.toList.take k))).2.2 ∧ n = .int .u32 ((foldD (0, 0, []) (sxs (t.data.toList.take k))).1 : Nat) ∧ b = .int .i64 ((foldD (0, 0, []) (sxs (t.data.toList.take k))).2.1 : Nat) ∧ Hid (∀ c ∈ t.data.toList.take k, 0 ≤ sx c) ∧ Below w.heap.size w wr) (fun _ _ _ i _ => t.size - (intOf i).toNat)
    case atStart => exact ⟨0, by omega, rfl, OB.nil _ _, rfl, rfl, by intro c hc; simp at hc, Below.refl _ _⟩
    case round =>
      obtain ⟨k, hk, rfl, hown, rfl, rfl, HA, hbl⟩ := hrel
      have HO := Lib.hid hown
      have hsz := hbl.size
      have HB := Lib.hid hbl
      clear hown hbl
      obtain ⟨n, b, A, hst, hb, hAl⟩ := foldD_bd (sxs (t.data.toList.take k)) (sxs_lt _)
      rw [sxs_len, take_len t k hk] at hAl
      rw [hst] at HO ⊢
      have HS := Lib.hid hst
      clear hst
      by_cases hlt : k < t.size
      · by_cases hv : sx t[k] < 0
        · have HR : Hid (decB s.data.toList = ([], 4)) := decB_bad (c := t[k]) (by rw [← HTL.out, ← lst_get t k hlt]; exact List.getElem_mem _) hv
          go_wp2_with fail
          refine (sxb_any t[k] _).mono ?_
          rintro e w' ⟨rfl, rfl⟩
          go_wp2_with fail
          go_ret2
          exact ⟨by rw [HR.out]; rfl, HB.out⟩
        · have hv2 := sx_facts t[k]
          obtain ⟨V, hV⟩ : ∃ V : Nat, sx t[k] = V := ⟨(sx t[k]).toNat, by omega⟩
          have hV64 : V < 64 := by omega
          have HN : Hid (foldD (0, 0, []) (sxs (t.data.toList.take (k + 1))) = stepD (n, b, A) V) := by
            show _ = _
            rw [sxs_snoc t k hlt, foldD_snoc, HS.out, hV]; rfl
          have HA2 : Hid (∀ c ∈ t.data.toList.take (k + 1), 0 ≤ sx c) := by
            intro c hc
            rw [take_snoc t k hlt, List.mem_append] at hc
            rcases hc with hc | hc
            · exact HA.out c hc
            · rw [List.mem_singleton] at hc; rw [hc]; omega
          have HX : Hid (Calls Tryd.prog 76 #[.string (ByteArray.mk #[65, 66, 67, 68, 69, 70, 71, 72, 73, 74, 75, 76, 77, 78, 79, 80, 81, 82, 83, 84, 85, 86, 87, 88, 89, 90, 97, 98, 99, 100, 101, 102, 103, 104, 105, 106, 107, 108, 109, 110, 111, 112, 113, 114, 115, 116, 117, 118, 119, 120, 121, 122, 48, 49, 50, 51, 52, 53, 54, 55, 56, 57, 43, 47]), .int .u8 t[k].toNat] wr fun e w' => e = .returned (.int .i64 V) ∧ wr = w') := by
            have := sxb_any t[k] wr
            rw [hV] at this; exact this
          clear hv hv2 hV
          rcases hb with ⟨rfl, rfl⟩ | ⟨rfl, hn⟩ | ⟨rfl, hn⟩ | ⟨rfl, hn⟩
          · have ho1 : bits .or .u32 0 (V : Int) = (V : Int) := by have := or64 0 V (by omega) hV64; simpa using this
            go_wp2_with fail
            refine HX.out.mono ?_
            rintro e w' ⟨rfl, rfl⟩
            go_wp2_with fail
            refine ⟨⟨k + 1, by omega, by go_num, ?_, ?_, ?_, HA2, HB.out⟩, by simp [intOf]; omega⟩
            · rw [HN.out, stepD0]; exact HO.out
            · rw [HN.out, stepD0]; exact vI (by omega)
            · rw [HN.out, stepD0]; rfl
          · have ho1 : bits .or .u32 ((n : Int) * 64) (V : Int) = (n : Int) * 64 + V := by rw [or64 n V (by omega) hV64]; omega
            go_wp2_with fail
            refine HX.out.mono ?_
            rintro e w' ⟨rfl, rfl⟩
            go_wp2_with (at_builtin; refine wpL_app (w := wr) rfl (.tmp 39) (.tmp 44) rfl HO.out rfl _ [UInt8.ofNat ((n * 64 + V) / 1)] (bvN (by omega) (by omega)) rfl (by simp only [List.length_cons, List.length_nil]; omega) hsz ?_; intro v' w1 hown1 hb1)
            refine ⟨⟨k + 1, by omega, by go_num, ?_, ?_, ?_, HA2, HB.out.trans hb1⟩, by simp [intOf]; omega⟩
            · rw [HN.out, stepD2]; exact hown1
            · rw [HN.out, stepD2]; exact vI (andm n V 0 0 (by decide) (by omega) (by decide))
            · rw [HN.out, stepD2]; rfl
          · have ho1 : bits .or .u32 ((n : Int) * 64) (V : Int) = (n : Int) * 64 + V := by rw [or64 n V (by omega) hV64]; omega
            go_wp2_with fail
            refine HX.out.mono ?_
            rintro e w' ⟨rfl, rfl⟩
            go_wp2_with (at_builtin; refine wpL_app (w := wr) rfl (.tmp 39) (.tmp 44) rfl HO.out rfl _ [UInt8.ofNat ((n * 64 + V) / 4)] (bvN (by omega) (by omega)) rfl (by simp only [List.length_cons, List.length_nil]; omega) hsz ?_; intro v' w1 hown1 hb1)
            refine ⟨⟨k + 1, by omega, by go_num, ?_, ?_, ?_, HA2, HB.out.trans hb1⟩, by simp [intOf]; omega⟩
            · rw [HN.out, stepD4]; exact hown1
            · rw [HN.out, stepD4]; exact vI (andm n V 3 2 (by decide) (by omega) (by decide))
            · rw [HN.out, stepD4]; rfl
          · have ho1 : bits .or .u32 ((n : Int) * 64) (V : Int) = (n : Int) * 64 + V := by rw [or64 n V (by omega) hV64]; omega
            go_wp2_with fail
            refine HX.out.mono ?_
            rintro e w' ⟨rfl, rfl⟩
            go_wp2_with (at_builtin; refine wpL_app (w := wr) rfl (.tmp 39) (.tmp 44) rfl HO.out rfl _ [UInt8.ofNat ((n * 64 + V) / 16)] (bvN (by omega) (by omega)) rfl (by simp only [List.length_cons, List.length_nil]; omega) hsz ?_; intro v' w1 hown1 hb1)
            refine ⟨⟨k + 1, by omega, by go_num, ?_, ?_, ?_, HA2, HB.out.trans hb1⟩, by simp [intOf]; omega⟩
            · rw [HN.out, stepD6]; exact hown1
            · rw [HN.out, stepD6]; exact vI (andm n V 15 4 (by decide) (by omega) (by decide))
            · rw [HN.out, stepD6]; rfl
      · have hk2 : k = t.size := by omega
        have hz : decide (k < t.size) = false := decide_eq_false hlt
        have HF : Hid (foldD (0, 0, []) (sxs (bodyE s.data.toList)) = (n, b, A)) := by
          show _ = _
          rw [← HTL.out, ← take_all t (show t.size ≤ k by omega)]; exact HS.out
        have HAA : Hid (∀ c ∈ bodyE s.data.toList, 0 ≤ sx c) := by
          show ∀ c ∈ bodyE s.data.toList, 0 ≤ sx c
          rw [← HTL.out, ← take_all t (show t.size ≤ k by omega)]; exact HA.out
        have HW : Hid ((n ≠ 0 ∨ b = 6) → decB s.data.toList = ([], 4)) := fun h => decB_wrong HF.out h
        have HG : Hid (¬ (n ≠ 0 ∨ b = 6) → decB s.data.toList = (A, 0)) := fun h => decB_good HF.out (by rw [lst_len]; exact h4) HAA.out h
        have hos := ob_str HO.out
        by_cases hn0 : n = 0
        · subst hn0
          by_cases hb6 : b = 6
          · have HR := Lib.hid (HW.out (.inr hb6))
            subst hb6
            clear hb
            go_wp2_with fail
            go_ret2
            exact ⟨by rw [HR.out]; rfl, HB.out⟩
          · have HR := Lib.hid (HG.out (by omega))
            have b6 : ((b : Int) == 6) = false := by rw [beq_eq_false_iff_ne]; omega
            clear hb
            go_wp2_with fail
            go_ret2
            exact ⟨by rw [HR.out]; rfl, HB.out⟩
        · have HR := Lib.hid (HW.out (.inl hn0))
          have n0 : ((n : Int) != 0) = true := by rw [bne_iff_ne]; omega
          have n1 : ((n : Int) == 0) = false := by rw [beq_eq_false_iff_ne]; omega
          clear hb
          go_wp2_with fail
          go_ret2
          exact ⟨by rw [HR.out]; rfl, HB.out⟩
  · have HR := Lib.hid (decB_len (l := s.data.toList) (by rw [lst_len]; exact h4))
    have q0 : ((s.size : Int) % 4 == 0) = false := by rw [beq_eq_false_iff_ne]; omega
    have q1 : ((s.size : Int) % 4 != 0) = true := by rw [bne_iff_ne]; omega
    go_enter Tryd.func50, Tryd.ntmps50
    go_wp2_with fail
    go_ret2
    exact ⟨by rw [HR.out]; rfl, Below.refl _ _⟩
end Go.Proofs.YthfolopnjmkllaaDoor
