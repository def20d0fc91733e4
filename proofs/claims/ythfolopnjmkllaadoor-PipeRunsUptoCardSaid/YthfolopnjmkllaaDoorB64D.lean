/- Walks: wickref.bits at both of its closures, wickref.numbers. -/
import Derived.Test.YthfolopnjmkllaaDoorB64C
import Derived.Test.YthfolopnjmkllaaDoorIntA
import Derived.Test.YthfolopnjmkllaaDoorTxtB
import Derived.Test.YthfolopnjmkllaaDoorUrlE
namespace Go.Proofs.YthfolopnjmkllaaDoor
open Go.RowKit
set_option linter.unusedVariables false
set_option linter.unusedSimpArgs false

theorem enc1_any (n : Int) (w : World) (h0 : 0 ≤ n) (h1 : n ≤ 255) :
    Calls Tryd.prog 82 #[.int .u8 n] w fun e w' => e = .returned (.int .i64 n) ∧ w = w' := by
  go_enter Tryd.func82, Tryd.ntmps82
  go_wp2
  go_ret
  exact ⟨rfl, rfl⟩

/-- ints of bits -/
def ibits (l : List Nat) : List Int := l.map fun (b : Nat) => (b : Int)
def bit8s (l : List UInt8) : List Nat := l.flatMap fun b => bitsL 8 b.toNat
theorem bit8s_len (l : List UInt8) : (bit8s l).length = 8 * l.length := by
  induction l with
  | nil => rfl
  | cons b l ih => unfold bit8s at *; rw [List.flatMap_cons, List.length_append, ih, bitsL_len, List.length_cons]; omega
theorem bit8s_step (s : ByteArray) (k : Nat) (h : k < s.size) : bit8s (s.data.toList.take (k + 1)) = bit8s (s.data.toList.take k) ++ bitsL 8 s[k].toNat := by
  rw [take_snoc s k h]; simp [bit8s]
theorem bit_cast (V n : Nat) : (V : Int) / 2 ^ n % 2 = ((V / 2 ^ n % 2 : Nat) : Int) := by push_cast; rfl
theorem ibits_len (l : List Nat) : (ibits l).length = l.length := by simp [ibits]
theorem ibits_app (a b : List Nat) : ibits (a ++ b) = ibits a ++ ibits b := by simp [ibits]

set_option maxHeartbeats 1000000 in
theorem bits8_any (s : ByteArray) (w : World) (hs : s.size ≤ 1048576000) :
    Calls Tryd.prog 59 #[.string s, .func (.func 82) #[] #[], .int .i64 8] w fun e w' => ∃ v, e = .returned (.tuple #[v, .bool true]) ∧ OI w' w.heap.size v (ibits (bit8s s.data.toList)) ∧ Below w.heap.size w w' := by
  go_enter Tryd.func59, Tryd.ntmps59
  go_wp2
  go_loopw [8, 9] (fun v i wr => ∃ k : Nat, k ≤ s.size ∧ i = .int .i64 k ∧ OI wr w.heap.size v (ibits (bit8s (s.data.toList.take k))) ∧ Below w.heap.size w wr) (fun _ i _ => s.size - (intOf i).toNat)
  case atStart => exact ⟨0, by omega, rfl, OI.nil _ _, Below.refl _ _⟩
  case round =>
    obtain ⟨k, hk, rfl, hown, hbl⟩ := hrel
    have HO := Lib.hid hown
    have hsz := hbl.size
    have HB := Lib.hid hbl
    clear hown hbl
    have hl := bit8s_len (s.data.toList.take k)
    rw [take_len s k hk] at hl
    by_cases hlt : k < s.size
    · obtain ⟨c1, c2⟩ := byte_lt s[k]
      obtain ⟨V, hV⟩ : ∃ V, V = s[k].toNat := ⟨_, rfl⟩
      have HV := Lib.hid hV
      go_wp2_with (go_at_call 82; refine (enc1_any _ _ (by omega) (by omega)).mono ?_; rintro e w' ⟨rfl, rfl⟩)
      obtain ⟨L, hL⟩ : ∃ L, L = bit8s (s.data.toList.take k) := ⟨_, rfl⟩
      rw [← hL] at hl HO
      have HL := Lib.hid hL
      clear hL
      go_loopw [8, 11] (fun v i wr => ∃ j : Nat, j ≤ 8 ∧ i = .int .i64 (7 - j) ∧ OI wr w.heap.size v (ibits (L ++ (List.range j).map fun i => V / 2 ^ (7 - i) % 2)) ∧ Below w.heap.size w wr) (fun _ i _ => (intOf i + 1).toNat)
      case atStart => exact ⟨0, by omega, rfl, by simpa using HO.out, HB.out⟩
      case round =>
        obtain ⟨j, hj, rfl, hown, hbl⟩ := hrel
        clear HO HB hsz
        have HO := Lib.hid hown
        have hsz := hbl.size
        have HB := Lib.hid hbl
        clear hown hbl
        by_cases hj8 : j < 8
        · have hq : 0 ≤ (s[k].toNat : Int) / 2 ^ (7 - j) := Int.ediv_nonneg c1 (Int.le_of_lt (Int.pow_pos (by decide)))
          have hq2 := bit_cast s[k].toNat (7 - j)
          have HQ := Lib.hid hq2
          clear hq2
          go_wp2_with (at_builtin; refine wpL_appI (w := wr) rfl (.tmp 31) (.tmp 36) rfl HO.out rfl _ (ibits [V / 2 ^ (7 - j) % 2]) (by rw [HV.out]; simp only [ibits, List.map_cons, List.map_nil, iv]; rw [HQ.out]) rfl (by rw [ibits_len, ibits_len, List.length_append, List.length_map, List.length_range, List.length_cons, List.length_nil]; omega) hsz ?_; intro v' w1 ho1 hb1)
          exact ⟨⟨j + 1, by omega, vI (by omega), by rw [List.range_succ, List.map_append, ← List.append_assoc, ibits_app]; exact ho1, HB.out.trans hb1⟩, by simp [intOf]; omega⟩
        · obtain rfl : j = 8 := by omega
          go_wp2
          exact ⟨⟨k + 1, by omega, by go_num, by rw [bit8s_step s k hlt, ← HL.out, ← HV.out]; exact HO.out, HB.out⟩, by simp [intOf]; omega⟩
    · have HT := Lib.hid (take_all s (show s.size ≤ k by omega))
      rw [HT.out] at HO
      go_wp2
      go_ret2
      exact ⟨_, rfl, HO.out, HB.out⟩
end Go.Proofs.YthfolopnjmkllaaDoor
