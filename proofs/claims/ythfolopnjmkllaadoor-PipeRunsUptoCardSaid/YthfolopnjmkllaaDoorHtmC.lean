/- Walks: coding.HtmlDecode. -/
import Derived.Test.YthfolopnjmkllaaDoorHtmB
namespace Go.Proofs.YthfolopnjmkllaaDoor
open Go.RowKit
set_option linter.unusedVariables false
set_option linter.unusedSimpArgs false

/-- the front of a text in HtmlDecode -/
def htmF (l : List UInt8) : UInt8 × Nat := if (entF l).2 = 0 then (l.getD 0 0, 1) else (UInt8.ofNat (entF l).1.toNat, (entF l).2.toNat)
theorem hp_len : ∀ {p t : List UInt8}, hp t p = true → p.length ≤ t.length
  | [], _, _ => by simp
  | _ :: _, [], h => by simp [hp_nil] at h
  | _ :: _, _ :: _, h => by
    rw [hp_cons, Bool.and_eq_true] at h
    have := hp_len h.2
    simp only [List.length_cons]; omega
theorem entT_bd (t : List UInt8) (e : Int) (he : e < t.length) : 0 ≤ (entT t e).1 ∧ (entT t e).1 ≤ 255 ∧ 0 ≤ (entT t e).2 ∧ (entT t e).2 ≤ t.length := by
  have hg : ∀ (base : Int) (m : Nat) (l : List UInt8), 2 ≤ base → base ≤ 16 → numG base m l = true → 0 ≤ numv base l ∧ numv base l ≤ 255 := by
    intro base m l h1 h2 h
    unfold numG at h
    rw [Bool.and_eq_true, Bool.and_eq_true, Bool.and_eq_true] at h
    exact ⟨(numv_bd h1 h2 l h.1.1.1).1, of_decide_eq_true h.2⟩
  unfold entT
  split
  · exact ⟨by decide, by decide, by decide, by simp⟩
  · split
    · split
      · split
        · next h => have := hg _ _ _ (by decide) (by decide) h; exact ⟨this.1, this.2, by simp only []; omega, by simp only []; omega⟩
        · exact ⟨by decide, by decide, by decide, by simp⟩
      · split
        · next h => have := hg _ _ _ (by decide) (by decide) h; exact ⟨this.1, this.2, by simp only []; omega, by simp only []; omega⟩
        · exact ⟨by decide, by decide, by decide, by simp⟩
    · exact ⟨by decide, by decide, by decide, by simp⟩
theorem entF_bd (t : List UInt8) : 0 ≤ (entF t).1 ∧ (entF t).1 ≤ 255 ∧ 0 ≤ (entF t).2 ∧ (entF t).2 ≤ t.length := by
  unfold entF
  split
  · next h => have := hp_len h; simp only [List.length_cons, List.length_nil] at this; exact ⟨by decide, by decide, by decide, by simp only []; omega⟩
  · split
    · next h => have := hp_len h; simp only [List.length_cons, List.length_nil] at this; exact ⟨by decide, by decide, by decide, by simp only []; omega⟩
    · split
      · next h => have := hp_len h; simp only [List.length_cons, List.length_nil] at this; exact ⟨by decide, by decide, by decide, by simp only []; omega⟩
      · split
        · next h => have := hp_len h; simp only [List.length_cons, List.length_nil] at this; exact ⟨by decide, by decide, by decide, by simp only []; omega⟩
        · apply entT_bd
          have h1 := (ixb_bd (t.take 7)).2
          rw [List.length_take] at h1; omega
theorem ent_off {b : UInt8} {r : List UInt8} (h : ¬ b = 38) : entF (b :: r) = (0, 0) := by
  have n : ∀ p, hp (b :: r) (38 :: p) = false := by intro p; simp [hp_cons, Ne.symm h]
  simp [entF, entT, n]
theorem entity_res (t : ByteArray) (l : List UInt8) (x n : Int) (hl : t.data.toList = l) (h1 : (entF l).1 = x) (h2 : (entF l).2 = n) (w : World) (ht : t.size ≤ 140737488355328) :
    Calls Tryd.prog 77 #[.string t] w fun e w' => e = .returned (.tuple #[.int .u8 x, .int .i64 n]) ∧ Below w.heap.size w w' := by
  subst hl; subst h1; subst h2; exact entity_any t w ht

set_option maxHeartbeats 1000000 in
theorem htmlDecode_any (s : ByteArray) (w : World) (hs : s.size ≤ 140737488355320) :
    Calls Tryd.prog 51 #[.string s] w fun e w' => e = .returned (.string (str (decL htmF s.data.toList))) ∧ Below w.heap.size w w' := by
  go_enter Tryd.func51, Tryd.ntmps51
  go_wp2
  go_loopw [3, 4] (fun v i wr => ∃ (k : Nat) (A : List UInt8), k ≤ s.size ∧ A.length ≤ k ∧ i = .int .i64 k ∧ OB wr w.heap.size v A ∧ Hid (A ++ decL htmF (s.data.toList.drop k) = decL htmF s.data.toList) ∧ Below w.heap.size w wr) (fun _ i _ => s.size - (intOf i).toNat)
  case atStart => exact ⟨0, [], by omega, by simp, rfl, OB.nil _ _, rfl, Below.refl _ _⟩
  case round =>
    obtain ⟨k, A, hk, hA, rfl, hown, HE, hbl⟩ := hrel
    have HO := Lib.hid hown
    have hsz := hbl.size
    have HB := Lib.hid hbl
    clear hown hbl
    by_cases hlt : k < s.size
    · obtain ⟨c1, c2⟩ := byte_lt s[k]
      have hd := drop_cons s k hlt
      obtain ⟨x, hx⟩ : ∃ x, (entF (s.data.toList.drop k)).1 = x := ⟨_, rfl⟩
      obtain ⟨n, hn⟩ : ∃ n, (entF (s.data.toList.drop k)).2 = n := ⟨_, rfl⟩
      obtain ⟨b1, b2, b3, b4⟩ := entF_bd (s.data.toList.drop k)
      rw [hx] at b1 b2
      rw [hn, List.length_drop, lst_len] at b4
      rw [hn] at b3
      have HS := Lib.hid (fun (b : UInt8) (n : Nat) (h1 : 1 ≤ n) (h : htmF (s.data.toList.drop k) = (b, n)) => decL_step hlt h1 h)
      have HX := Lib.hid hx
      have HN := Lib.hid hn
      have hl : (s.extract k s.size).data.toList = s.data.toList.drop k := Lib.extract_to_end s k
      have hz := size_ext s k s.size (by omega) (by omega)
      have hz2 : (s.extract k s.size).size ≤ 140737488355328 := by omega
      have HZ := Lib.hid hl
      clear hl
      by_cases h38 : s[k] = 38
      · have y38 : ((s[k].toNat : Int) == 38) = true := by rw [h38]; rfl
        by_cases hp : n = 0
        · have HG := Lib.hid (HS.out s[k] 1 (by omega) (by unfold htmF; rw [if_pos (hn.trans hp), hd]; rfl))
          have q0 : decide (0 < n) = false := decide_eq_false (by omega)
          clear h38 hx hn hd
          go_wp2_with fail
          refine (entity_res _ _ x n HZ.out HX.out HN.out _ hz2).mono ?_
          rintro e w2 ⟨rfl, hb2⟩
          have HO2 := Lib.hid (HO.out.kept hb2)
          have HB2 := Lib.hid (HB.out.trans (hb2.mono hsz))
          have hsz2 := HB2.out.size
          clear hb2
          go_wp2_with (at_builtin; refine wpL_app rfl (.tmp 29) (.tmp 31) rfl HO2.out rfl _ [s[k]] rfl rfl (by simp only [List.length_cons, List.length_nil]; omega) hsz2 ?_; intro v' w1 ho1 hb1)
          go_roundw
          case rel => exact ⟨k + 1, A ++ [s[k]], by omega, by rw [List.length_append]; simp; omega, by go_num, ho1, dec_keep HE HG, HB2.out.trans hb1⟩
          case measure => simp [intOf]; omega
        · obtain ⟨m, rfl⟩ := Int.eq_ofNat_of_zero_le b3
          have HG := Lib.hid (HS.out (UInt8.ofNat x.toNat) m (by omega) (by unfold htmF; rw [if_neg (fun h => hp (hn.symm.trans h)), hx, hn]; rfl))
          have q0 : decide (0 < (m : Int)) = true := decide_eq_true (by omega)
          have j1 : IntKind.i64.wrap ((k : Int) + m) = (k : Int) + m := IntWalk.i64_in _ (by omega)
          clear h38 hx hn hd
          go_wp2_with fail
          refine (entity_res _ _ x m HZ.out HX.out HN.out _ hz2).mono ?_
          rintro e w2 ⟨rfl, hb2⟩
          have HO2 := Lib.hid (HO.out.kept hb2)
          have HB2 := Lib.hid (HB.out.trans (hb2.mono hsz))
          have hsz2 := HB2.out.size
          clear hb2
          go_wp2_with (at_builtin; refine wpL_app rfl (.tmp 29) (.tmp 31) rfl HO2.out rfl _ [UInt8.ofNat x.toNat] (by rw [List.map_cons, ← bv_of (by omega) (by omega)]; rfl) rfl (by simp only [List.length_cons, List.length_nil]; omega) hsz2 ?_; intro v' w1 ho1 hb1)
          go_roundw
          case rel => exact ⟨k + m, A ++ [UInt8.ofNat x.toNat], by omega, by rw [List.length_append]; simp; omega, by go_num, ho1, dec_keep HE HG, HB2.out.trans hb1⟩
          case measure => simp [intOf]; omega
      · have n38 : ((s[k].toNat : Int) == 38) = false := byte_ne (c := 38) h38
        have HG := Lib.hid (HS.out s[k] 1 (by omega) (by unfold htmF; rw [hd, ent_off h38]; rfl))
        clear h38 hx hn hd
        go_wp2_with (at_builtin; refine wpL_app rfl (.tmp 29) (.tmp 31) rfl HO.out rfl _ [s[k]] rfl rfl (by simp only [List.length_cons, List.length_nil]; omega) hsz ?_; intro v' w1 ho1 hb1)
        go_roundw
        case rel => exact ⟨k + 1, A ++ [s[k]], by omega, by rw [List.length_append]; simp; omega, by go_num, ho1, dec_keep HE HG, HB.out.trans hb1⟩
        case measure => simp [intOf]; omega
    · have h := ob_str HO.out
      rw [dec_end HE (by omega)] at h
      go_wp2
      go_ret
      exact ⟨rfl, HB.out⟩
end Go.Proofs.YthfolopnjmkllaaDoor
