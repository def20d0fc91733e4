/- Walk: coding.Base64Encode. -/
import Derived.Test.YtahcgajipnkojaaB64A
import Derived.Test.YtahcgajipnkojaaUrlB
import Derived.Laws.BitsAllLaws
namespace Go.Proofs.Ytahcgajipnkojaa
open Go.RowKit
set_option linter.unusedVariables false
set_option linter.unusedSimpArgs false

/-- the number of the first bytes of a group -/
def accB (l : List UInt8) : Nat → Nat
  | 0 => 0
  | j + 1 => accB l j * 256 + (l.getD j 0).toNat
theorem accB_lt (l : List UInt8) : ∀ j, accB l j < 256 ^ j
  | 0 => by simp [accB]
  | j + 1 => by
    have := accB_lt l j
    have h2 := (l.getD j 0).toNat_lt
    rw [accB, Nat.pow_succ]; omega
theorem getD_none {l : List UInt8} {j : Nat} (h : l.length ≤ j) : l.getD j 0 = 0 := by rw [List.getD, List.getElem?_eq_none h]; rfl
theorem str_getD {l : List UInt8} {j : Nat} (h : j < (str l).size) : l.getD j 0 = (str l)[j] := by
  have h2 : j < l.length := by rw [size_str] at h; exact h
  rw [List.getD, List.getElem?_eq_getElem h2]; rfl
/-- sign j of a group of k bytes whose number is N -/
def gB (N k j : Nat) : UInt8 := if j ≤ k then sg (N / 64 ^ (3 - j) % 64) else 61
theorem encB_grp (l : List UInt8) (k : Nat) (h1 : 1 ≤ k) (h2 : k ≤ 3) (h3 : k ≤ l.length) (h4 : k < 3 → k = l.length) : encB l = (List.range 4).map (gB (accB l 3) k) ++ encB (l.drop k) := by
  match l, h3, h4 with
  | [], h3, h4 => simp at h3; omega
  | [a], h3, h4 =>
    obtain rfl : k = 1 := by simp at h3; omega
    have ha := a.toNat_lt
    simp [encB, gB, accB, List.range, List.range.loop]
    constructor
    · congr 1; omega
    · congr 1; omega
  | [a, b], h3, h4 =>
    obtain rfl : k = 2 := by simp at h3 h4; omega
    have ha := a.toNat_lt
    have hb := b.toNat_lt
    simp [encB, gB, accB, List.range, List.range.loop]
    refine ⟨?_, ?_, ?_⟩
    · congr 1; omega
    · congr 1; omega
    · congr 1; omega
  | a :: b :: c :: r, h3, h4 =>
    obtain rfl : k = 3 := by simp at h4; omega
    have ha := a.toNat_lt
    have hb := b.toNat_lt
    have hc := c.toNat_lt
    simp [encB, gB, accB, List.range, List.range.loop]
    refine ⟨?_, ?_, ?_, ?_⟩
    · congr 1; omega
    · congr 1; omega
    · congr 1; omega
    · congr 1; omega
theorem vI {k : IntKind} {a b : Int} (h : a = b) : Value.int k a = .int k b := by rw [h]
theorem or32 (a b : Nat) (ha : a < 65536) (hb : b < 256) : bits .or .u32 ((a : Int) * 256) ((b : Int)) = ((a * 256 + b : Nat) : Int) := by
  have := u32_or_nat (a * 256) b (by omega) (by omega)
  rw [show ((a * 256 : Nat) : Int) = (a : Int) * 256 by omega] at this
  rw [this]
  have h := Nat.two_pow_add_eq_or_of_lt (i := 8) (b := b) (by omega) a
  rw [Nat.mul_comm a 256, h]
theorem signs_size : (ByteArray.mk #[65, 66, 67, 68, 69, 70, 71, 72, 73, 74, 75, 76, 77, 78, 79, 80, 81, 82, 83, 84, 85, 86, 87, 88, 89, 90, 97, 98, 99, 100, 101, 102, 103, 104, 105, 106, 107, 108, 109, 110, 111, 112, 113, 114, 115, 116, 117, 118, 119, 120, 121, 122, 48, 49, 50, 51, 52, 53, 54, 55, 56, 57, 43, 47]).size = 64 := rfl
set_option maxRecDepth 10000 in
theorem signs_get : ∀ k : Fin 64, ((ByteArray.mk #[65, 66, 67, 68, 69, 70, 71, 72, 73, 74, 75, 76, 77, 78, 79, 80, 81, 82, 83, 84, 85, 86, 87, 88, 89, 90, 97, 98, 99, 100, 101, 102, 103, 104, 105, 106, 107, 108, 109, 110, 111, 112, 113, 114, 115, 116, 117, 118, 119, 120, 121, 122, 48, 49, 50, 51, 52, 53, 54, 55, 56, 57, 43, 47])[k.val]'(by rw [signs_size]; exact k.isLt)) = sg k.val := by decide +kernel
theorem signs_at (i : Nat) (h : i < (ByteArray.mk #[65, 66, 67, 68, 69, 70, 71, 72, 73, 74, 75, 76, 77, 78, 79, 80, 81, 82, 83, 84, 85, 86, 87, 88, 89, 90, 97, 98, 99, 100, 101, 102, 103, 104, 105, 106, 107, 108, 109, 110, 111, 112, 113, 114, 115, 116, 117, 118, 119, 120, 121, 122, 48, 49, 50, 51, 52, 53, 54, 55, 56, 57, 43, 47]).size) (j : Nat) (e : i = j) : ((ByteArray.mk #[65, 66, 67, 68, 69, 70, 71, 72, 73, 74, 75, 76, 77, 78, 79, 80, 81, 82, 83, 84, 85, 86, 87, 88, 89, 90, 97, 98, 99, 100, 101, 102, 103, 104, 105, 106, 107, 108, 109, 110, 111, 112, 113, 114, 115, 116, 117, 118, 119, 120, 121, 122, 48, 49, 50, 51, 52, 53, 54, 55, 56, 57, 43, 47])[i]'h) = sg j := by
  subst e; exact signs_get ⟨i, h⟩

theorem and63 (N d : Nat) (h : N < 4294967296) : (bits .and .u32 ((N : Int) / (d : Int)) 63).toNat = N / d % 64 := by
  have h2 : N / d < 4294967296 := Nat.lt_of_le_of_lt (Nat.div_le_self _ _) h
  have := u32_and_nat (N / d) 63 h2 (by decide)
  rw [show ((N / d : Nat) : Int) = (N : Int) / (d : Int) from rfl] at this
  rw [show ((63 : Nat) : Int) = 63 from rfl] at this
  rw [this, Int.toNat_natCast]
  exact Nat.and_two_pow_sub_one_eq_mod _ 6
theorem and63' (N : Nat) (h : N < 4294967296) : (bits .and .u32 (N : Int) 63).toNat = N % 64 := by
  have := u32_and_nat N 63 h (by decide)
  rw [show ((63 : Nat) : Int) = 63 from rfl] at this
  rw [this, Int.toNat_natCast]
  exact Nat.and_two_pow_sub_one_eq_mod _ 6
theorem and63b (x : Int) (h0 : 0 ≤ x) (h : x < 4294967296) : 0 ≤ bits .and .u32 x 63 ∧ bits .and .u32 x 63 < 64 := by
  obtain ⟨n, rfl⟩ := Int.eq_ofNat_of_zero_le h0
  have := and63' n (by omega)
  have h2 := u32_and_nat n 63 (by omega) (by decide)
  rw [show ((63 : Nat) : Int) = 63 from rfl] at h2
  constructor
  · rw [h2]; omega
  · omega
def slen (v : Value) : Nat := match v with | .string x => x.size | _ => 0
theorem ext_drop (l : List UInt8) (k m : Nat) (hm : m = l.length) : (str l).extract k m = str (l.drop k) := by
  apply lst_inj
  rw [lst_ext, lst_mk, lst_mk, hm, List.take_length]
set_option maxHeartbeats 4000000 in
theorem b64Encode_any (s : ByteArray) (w : World) (hs : s.size ≤ 1048576) :
    Calls Try.prog 30 #[.string s] w fun e w' => e = .returned (.string (str (encB s.data.toList))) ∧ Below w.heap.size w w' := by
  go_enter Try.func30, Try.ntmps30
  go_wp2
  go_loopw [0, 3] (fun t v wr => ∃ (p : Nat) (A : List UInt8), p ≤ s.size ∧ A.length ≤ 4 * p ∧ t = .string (str (s.data.toList.drop p)) ∧ OB wr w.heap.size v A ∧ Hid (A ++ encB (s.data.toList.drop p) = encB s.data.toList) ∧ Below w.heap.size w wr) (fun t _ _ => slen t)
  case atStart => exact ⟨0, [], by omega, by simp, by simp, OB.nil _ _, rfl, Below.refl _ _⟩
  case round =>
    obtain ⟨p, A, hp, hA, rfl, hown, HE, hbl⟩ := hrel
    have HO := Lib.hid hown
    have hsz := hbl.size
    have HB := Lib.hid hbl
    clear hown hbl
    obtain ⟨l, hl⟩ : ∃ l, l = s.data.toList.drop p := ⟨_, rfl⟩
    have hll : l.length = s.size - p := by rw [hl, List.length_drop, lst_len]
    rw [← hl] at HE ⊢
    have HL := Lib.hid hl
    clear hl
    obtain ⟨m, hm⟩ : ∃ m, m = l.length := ⟨_, rfl⟩
    have hls := size_str l
    rw [← hm] at hls hll
    by_cases hlt : 0 < m
    · have hd0 : decide (0 < m) = true := by simpa using hlt
      obtain ⟨k, hk, hk1, hk2, hk3, hk4⟩ : ∃ k : Nat, min 3 (m : Int) = k ∧ 1 ≤ k ∧ k ≤ 3 ∧ k ≤ m ∧ (k < 3 → k = m) := ⟨min 3 m, by omega, by omega, by omega, by omega, by omega⟩
      have HM := Lib.hid hm
      have HLL := Lib.hid hll
      clear hm hll
      go_wp2
      go_loop [5, 14] (fun n i => ∃ j : Nat, j ≤ 3 ∧ i = .int .i64 j ∧ n = .int .u32 (accB l j)) (fun _ i => 3 - (intOf i).toNat)
      case atStart => exact ⟨0, by omega, rfl, rfl⟩
      case round =>
        obtain ⟨j, hj, rfl, rfl⟩ := hrel
        have ha : accB l j < 256 ^ j := accB_lt l j
        by_cases hj3 : j < 3
        · have ha2 : accB l j < 65536 := Nat.lt_of_lt_of_le ha (Nat.pow_le_pow_right (by decide) (show j ≤ 2 by omega))
          clear ha
          by_cases hjk : j < k
          · have hjs : j < (str l).size := by omega
            have e1 : ((str l)[j].toNat : Int) % 4294967296 = ((str l)[j].toNat : Int) := by have := (str l)[j].toNat_lt; omega
            have HV := Lib.hid (show bits .or .u32 ((accB l j : Int) * 256) ((str l)[j].toNat : Int) = ((accB l (j + 1) : Nat) : Int) by rw [or32 _ _ ha2 (by exact (str l)[j].toNat_lt), accB, str_getD hjs])
            go_wp2
            exact ⟨⟨j + 1, by omega, by go_num, by rw [HV.out]⟩, by simp [intOf]; omega⟩
          · have HV := Lib.hid (show accB l (j + 1) = accB l j * 256 by rw [accB, show l.getD j 0 = 0 from getD_none (by rw [← HM.out]; omega), show (0 : UInt8).toNat = 0 from rfl, Nat.add_zero])
            go_wp2
            exact ⟨⟨j + 1, by omega, by go_num, by rw [HV.out]; exact vI (by omega)⟩, by simp [intOf]; omega⟩
        · have hN0 : decide ((3 : Int) < 3) = false := rfl
          obtain rfl : j = 3 := by omega
          obtain ⟨N, hN⟩ : ∃ N, N = accB l 3 := ⟨_, rfl⟩
          rw [← hN] at ha ⊢
          have HN := Lib.hid hN
          clear hN
          go_wp2
          go_loopw [3, 29] (fun v i wr => ∃ j : Nat, j ≤ 4 ∧ i = .int .i64 j ∧ OB wr w.heap.size v (A ++ (List.range j).map (gB N k)) ∧ Below w.heap.size w wr) (fun _ i _ => 4 - (intOf i).toNat)
          case atStart => exact ⟨0, by omega, rfl, by simpa using HO.out, HB.out⟩
          case round =>
            obtain ⟨j, hj, rfl, hown, hbl⟩ := hrel
            clear HO HB hsz
            have HO := Lib.hid hown
            have hsz := hbl.size
            have HB := Lib.hid hbl
            clear hown hbl
            by_cases hj4 : j < 4
            · rcases (show j = 0 ∨ j = 1 ∨ j = 2 ∨ j = 3 by omega) with rfl | rfl | rfl | rfl
              · have q := and63b ((N : Int) / 262144) (by omega) (by omega)
                go_wp2_with (at_builtin; refine wpL_app (w := wr) rfl (.tmp 35) (.tmp 43) rfl HO.out rfl _ [gB N k 0] (by simp only [List.map_cons, List.map_nil, bv]; rw [signs_at _ _ (N / 262144 % 64) (show (bits .and .u32 ((N : Int) / 262144) 63).toNat = N / 262144 % 64 from and63 N 262144 (by omega))]; rw [gB, if_pos (by omega)]) rfl (by simp only [List.length_append, List.length_map, List.length_range, List.length_cons, List.length_nil]; omega) hsz ?_; intro v' w1 ho1 hb1)
                exact ⟨⟨1, by omega, rfl, by rw [List.range_succ, List.map_append, ← List.append_assoc]; exact ho1, HB.out.trans hb1⟩, by simp [intOf]⟩
              · have q := and63b ((N : Int) / 4096) (by omega) (by omega)
                go_wp2_with (at_builtin; refine wpL_app (w := wr) rfl (.tmp 35) (.tmp 43) rfl HO.out rfl _ [gB N k 1] (by simp only [List.map_cons, List.map_nil, bv]; rw [signs_at _ _ (N / 4096 % 64) (show (bits .and .u32 ((N : Int) / 4096) 63).toNat = N / 4096 % 64 from and63 N 4096 (by omega))]; rw [gB, if_pos (by omega)]) rfl (by simp only [List.length_append, List.length_map, List.length_range, List.length_cons, List.length_nil]; omega) hsz ?_; intro v' w1 ho1 hb1)
                exact ⟨⟨2, by omega, rfl, by rw [List.range_succ, List.map_append, ← List.append_assoc]; exact ho1, HB.out.trans hb1⟩, by simp [intOf]⟩
              · by_cases h : 2 ≤ k
                · have q := and63b ((N : Int) / 64) (by omega) (by omega)
                  go_wp2_with (at_builtin; refine wpL_app (w := wr) rfl (.tmp 35) (.tmp 43) rfl HO.out rfl _ [gB N k 2] (by simp only [List.map_cons, List.map_nil, bv]; rw [signs_at _ _ (N / 64 % 64) (show (bits .and .u32 ((N : Int) / 64) 63).toNat = N / 64 % 64 from and63 N 64 (by omega))]; rw [gB, if_pos (by omega)]) rfl (by simp only [List.length_append, List.length_map, List.length_range, List.length_cons, List.length_nil]; omega) hsz ?_; intro v' w1 ho1 hb1)
                  exact ⟨⟨3, by omega, rfl, by rw [List.range_succ, List.map_append, ← List.append_assoc]; exact ho1, HB.out.trans hb1⟩, by simp [intOf]⟩
                · have h2 : decide ((2 : Int) ≤ (k : Int)) = false := decide_eq_false (by omega)
                  go_wp2_with (at_builtin; refine wpL_app (w := wr) rfl (.tmp 45) (.tmp 46) rfl HO.out rfl _ [gB N k 2] (by rw [gB, if_neg (by omega)]; rfl) rfl (by simp only [List.length_append, List.length_map, List.length_range, List.length_cons, List.length_nil]; omega) hsz ?_; intro v' w1 ho1 hb1)
                  exact ⟨⟨3, by omega, rfl, by rw [List.range_succ, List.map_append, ← List.append_assoc]; exact ho1, HB.out.trans hb1⟩, by simp [intOf]⟩
              · by_cases h : 3 ≤ k
                · have q := and63b ((N : Int)) (by omega) (by omega)
                  go_wp2_with (at_builtin; refine wpL_app (w := wr) rfl (.tmp 35) (.tmp 43) rfl HO.out rfl _ [gB N k 3] (by simp only [List.map_cons, List.map_nil, bv]; rw [signs_at _ _ (N % 64) (and63' N (by omega))]; rw [gB, if_pos (by omega), Nat.pow_zero, Nat.div_one]) rfl (by simp only [List.length_append, List.length_map, List.length_range, List.length_cons, List.length_nil]; omega) hsz ?_; intro v' w1 ho1 hb1)
                  exact ⟨⟨4, by omega, rfl, by rw [List.range_succ, List.map_append, ← List.append_assoc]; exact ho1, HB.out.trans hb1⟩, by simp [intOf]⟩
                · have h2 : decide ((3 : Int) ≤ (k : Int)) = false := decide_eq_false (by omega)
                  go_wp2_with (at_builtin; refine wpL_app (w := wr) rfl (.tmp 45) (.tmp 46) rfl HO.out rfl _ [gB N k 3] (by rw [gB, if_neg (by omega)]; rfl) rfl (by simp only [List.length_append, List.length_map, List.length_range, List.length_cons, List.length_nil]; omega) hsz ?_; intro v' w1 ho1 hb1)
                  exact ⟨⟨4, by omega, rfl, by rw [List.range_succ, List.map_append, ← List.append_assoc]; exact ho1, HB.out.trans hb1⟩, by simp [intOf]⟩
            · obtain rfl : j = 4 := by omega
              have hj0 : decide ((4 : Int) < 4) = false := rfl
              have HX := Lib.hid (ext_drop l k m HM.out)
              have HD : Hid (l.drop k = List.drop (p + k) s.data.toList) := by show _ = _; rw [HL.out, List.drop_drop]
              have HE2 : Hid (A ++ (List.range 4).map (gB N k) ++ encB (List.drop (p + k) s.data.toList) = encB s.data.toList) := by
                show _ = _
                rw [List.append_assoc, ← HD.out, HN.out, ← encB_grp l k hk1 hk2 (by rw [← HM.out]; omega) (by rw [← HM.out]; exact hk4)]
                exact HE.out
              go_wp2
              refine ⟨⟨p + k, A ++ (List.range 4).map (gB N k), by have := HLL.out; omega, by simp only [List.length_append, List.length_map, List.length_range]; omega, ?_, HO.out, HE2, HB.out⟩, ?_⟩
              · rw [HX.out, HD.out]
              · rw [HX.out]; show (str _).size < (str _).size; rw [size_str, size_str, List.length_drop, ← HM.out]; omega
    · have h := ob_str HO.out
      have hl0 : l = [] := List.eq_nil_of_length_eq_zero (by omega)
      have hAe : A = encB s.data.toList := by have := HE.out; rw [hl0, encB, List.append_nil] at this; exact this
      rw [hAe] at h
      have hz : decide (0 < m) = false := decide_eq_false hlt
      have hz2 : m = 0 := by omega
      clear hAe hl0 HE HL hlt hm hll
      subst hz2
      go_wp2
      go_ret
      exact ⟨rfl, HB.out⟩
end Go.Proofs.Ytahcgajipnkojaa
