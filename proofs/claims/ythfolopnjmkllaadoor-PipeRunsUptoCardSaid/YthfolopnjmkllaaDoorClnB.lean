/- Walks: clean.without, clean.NoNull, wickref.Without. -/
import Derived.Test.YthfolopnjmkllaaDoorClnA
import Derived.Lib.IndexLaws
namespace Go.Proofs.YthfolopnjmkllaaDoor
open Go.RowKit
set_option linter.unusedVariables false
set_option linter.unusedSimpArgs false

theorem ib_cases (l : List UInt8) (b : UInt8) : (hasb (b.toNat : Int) l = false ∧ Lib.indexByte l b = -1) ∨ (hasb (b.toNat : Int) l = true ∧ 0 ≤ Lib.indexByte l b) := by
  have hge := Lib.indexByte_ge l b
  by_cases h : Lib.indexByte l b = -1
  · refine .inl ⟨?_, h⟩
    rw [Bool.eq_false_iff]; intro hh
    unfold hasb at hh
    rw [List.any_eq_true] at hh
    obtain ⟨c, hc, e⟩ := hh
    obtain ⟨k, hk⟩ := List.getElem?_of_mem hc
    have e2 : (b.toNat : Int) = c.toNat := of_decide_eq_true e
    have e3 : b = c := UInt8.toNat_inj.1 (by omega)
    exact Lib.indexByte_none h k (by rw [hk, e3])
  · refine .inr ⟨?_, by omega⟩
    obtain ⟨h1, _⟩ := Lib.indexByte_some (l := l) (c := b) (o := (Lib.indexByte l b).toNat) (by omega)
    unfold hasb
    rw [List.any_eq_true]
    exact ⟨b, List.mem_of_getElem? h1, by simp⟩
theorem ib_any (t : ByteArray) (b : UInt8) (x : Int) (hx : Lib.indexByte t.data.toList b = x) (w : World) :
    Calls Tryd.prog 76 #[.string t, .int .u8 (b.toNat : Int)] w fun e w' => e = .returned (.int .i64 x) ∧ w = w' :=
  (Tryd.strings_IndexByte t (b.toNat : Int) w).mono fun _ _ hh => ⟨by rw [hh.1, ← hx]; simp, hh.2.symm⟩

/-- without the bytes of t: of the first k -/
def wo (t l : List UInt8) : Nat → List UInt8
  | 0 => []
  | k + 1 => wo t l k ++ (if hasb ((l.getD k 0).toNat : Int) t then [] else [l.getD k 0])
theorem wo_le (t l : List UInt8) : ∀ k, (wo t l k).length ≤ k
  | 0 => Nat.le_refl _
  | k + 1 => by
    have := wo_le t l k
    rw [wo, List.length_append]
    split <;> simp <;> omega
theorem wo_keep {t : List UInt8} {s : ByteArray} {k : Nat} (h : k < s.size) (hw : hasb (s[k].toNat : Int) t = false) : wo t s.data.toList (k + 1) = wo t s.data.toList k ++ [s[k]] := by
  rw [wo, getD_s s k h, hw]; rfl
theorem wo_drop {t : List UInt8} {s : ByteArray} {k : Nat} (h : k < s.size) (hw : hasb (s[k].toNat : Int) t = true) : wo t s.data.toList (k + 1) = wo t s.data.toList k := by
  rw [wo, getD_s s k h, hw]; simp

set_option maxHeartbeats 1000000 in
theorem without_any (s t : ByteArray) (w : World) (hs : s.size ≤ 140737488355320) :
    Calls Tryd.prog 81 #[.string s, .string t] w fun e w' => e = .returned (.string (str (wo t.data.toList s.data.toList s.size))) ∧ Below w.heap.size w w' := by
  go_enter Tryd.func81, Tryd.ntmps81
  go_wp2_with fail
  go_loopw [5, 9] (fun v i wr => ∃ k : Nat, k ≤ s.size ∧ i = .int .i64 k ∧ OB wr w.heap.size v (wo t.data.toList s.data.toList k) ∧ Below w.heap.size w wr) (fun _ i _ => s.size - (intOf i).toNat)
  case atStart => exact ⟨0, by omega, rfl, OB.nil _ _, Below.refl _ _⟩
  case round =>
    obtain ⟨k, hk, rfl, ho, hb⟩ := hrel
    have HO := Lib.hid ho
    have HB := Lib.hid hb
    have hsz : w.heap.size ≤ wr.heap.size := hb.size
    have hlen := wo_le t.data.toList s.data.toList k
    clear ho hb
    by_cases hlt : k < s.size
    · obtain ⟨c1, c2⟩ := byte_lt s[k]
      obtain ⟨x, hx⟩ : ∃ x, Lib.indexByte t.data.toList s[k] = x := ⟨_, rfl⟩
      have CI := Lib.hid (ib_any t s[k] x hx)
      rcases ib_cases t.data.toList s[k] with ⟨h1, h2⟩ | ⟨h1, h2⟩
      · obtain rfl : x = -1 := by rw [← hx, h2]
        have HA := Lib.hid (wo_keep hlt h1)
        clear hx h1 h2
        go_wp2_with fail
        refine (CI.out _).mono ?_
        rintro e w' ⟨rfl, rfl⟩
        go_wp2_with (at_builtin; refine wpL_app rfl (.tmp 18) (.tmp 22) rfl HO.out rfl [.int .u8 s[k].toNat] [s[k]] rfl rfl (by simp only [List.length_cons, List.length_nil]; omega) hsz ?_; intro v' w1 ho1 hb1)
        go_roundw
        case rel => exact ⟨k + 1, by omega, by go_num, by rw [HA.out]; exact ho1, HB.out.trans hb1⟩
        case measure => simp [intOf]; omega
      · have hx0 : 0 ≤ x := by omega
        have HA := Lib.hid (wo_drop hlt h1)
        clear hx h1 h2
        go_wp2_with fail
        refine (CI.out _).mono ?_
        rintro e w' ⟨rfl, rfl⟩
        go_wp2_with fail
        go_roundw
        case rel => exact ⟨k + 1, by omega, by go_num, by rw [HA.out]; exact HO.out, HB.out⟩
        case measure => simp [intOf]; omega
    · obtain rfl : k = s.size := by omega
      have HS := Lib.hid (ob_str HO.out)
      have hS := HS.out
      go_wp2_with fail
      go_ret
      exact ⟨rfl, HB.out⟩

theorem noNull_any (s : ByteArray) (w : World) (hs : s.size ≤ 140737488355320) :
    Calls Tryd.prog 54 #[.string s] w fun e w' => e = .returned (.string (str (wo [0] s.data.toList s.size))) ∧ Below w.heap.size w w' := by
  go_enter Tryd.func54, Tryd.ntmps54
  go_wp2_with fail
  refine (without_any s ⟨#[0]⟩ _ hs).mono ?_
  rintro e w1 ⟨rfl, hb⟩
  have HB := Lib.hid hb
  clear hb
  go_wp2_with fail
  go_ret
  exact ⟨rfl, HB.out⟩

set_option maxHeartbeats 1000000 in
theorem Without_any (s t : ByteArray) (w : World) (hs : s.size ≤ 140737488355320) (ht : t.size ≤ maxLen) :
    Calls Tryd.prog 37 #[.string s, .string t] w fun e w' => e = .returned (.string (str (wo t.data.toList s.data.toList s.size))) ∧ w = w' := by
  go_enter Tryd.func37, Tryd.ntmps37
  go_wp2_with fail
  go_loop [5, 6] (fun v i => ∃ k : Nat, k ≤ s.size ∧ i = .int .i64 k ∧ v = .string (str (wo t.data.toList s.data.toList k))) (fun _ i => s.size - (intOf i).toNat)
  case atStart => exact ⟨0, by omega, rfl, rfl⟩
  case round =>
    obtain ⟨k, hk, rfl, rfl⟩ := hrel
    have hlen := wo_le t.data.toList s.data.toList k
    obtain ⟨L, hL⟩ : ∃ L, L = wo t.data.toList s.data.toList k := ⟨_, rfl⟩
    rw [← hL] at hlen ⊢
    have hls : (str L).size ≤ k := by rw [size_str]; exact hlen
    have HL := Lib.hid hL
    clear hL
    by_cases hlt : k < s.size
    · obtain ⟨c1, c2⟩ := byte_lt s[k]
      have i1 : (0 : Int) ≤ k ∧ (k : Int) < s.size := by omega
      cases hw : hasb (s[k].toNat : Int) t.data.toList with
      | true =>
        have CW := Lib.hid (fun w => in_res (s[k].toNat : Int) t true hw w ht c1 c2)
        have HA := Lib.hid (wo_drop hlt hw)
        clear hw
        go_wp2_with fail
        refine (CW.out _).mono ?_
        rintro e w' ⟨rfl, rfl⟩
        go_wp2_with fail
        go_round
        case rel => exact ⟨k + 1, by omega, by go_num, by rw [HA.out, HL.out]⟩
        case measure => simp [intOf]; omega
      | false =>
        have CW := Lib.hid (fun w => in_res (s[k].toNat : Int) t false hw w ht c1 c2)
        have HA := Lib.hid (wo_keep hlt hw)
        clear hw
        go_wp2_with fail
        refine (CW.out _).mono ?_
        rintro e w' ⟨rfl, rfl⟩
        go_wp2_with fail
        go_round
        case rel => exact ⟨k + 1, by omega, by go_num, ret_s (by rw [HA.out, ← HL.out]; exact cat_ext1 L s k hlt)⟩
        case measure => simp [intOf]; omega
    · obtain rfl : k = s.size := by omega
      go_wp2_with fail
      go_ret
      exact ⟨ret_str (by rw [HL.out]), rfl⟩
end Go.Proofs.YthfolopnjmkllaaDoor
