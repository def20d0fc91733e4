/- Walks: octet.Utf8. -/
import Derived.Test.YtahcgajipnkojaaUtfA
namespace Go.Proofs.Ytahcgajipnkojaa
open Go.RowKit
set_option linter.unusedVariables false
set_option linter.unusedSimpArgs false

/-- the first place at which no sequence begins; none: the text is right -/
def u8scan : List UInt8 → Option Nat
  | [] => none
  | c :: r => if u8size (c :: r) = 0 then some 0 else (u8scan (r.drop (u8size (c :: r) - 1))).map (· + u8size (c :: r))
termination_by l => l.length
decreasing_by simp; omega
theorem u8scan_nil : u8scan [] = none := by rw [u8scan]
theorem u8scan_step {s : ByteArray} {k n : Nat} (hk : k < s.size) (h : u8size (s.data.toList.drop k) = n) (hn : ¬ n = 0) : u8scan (s.data.toList.drop k) = (u8scan (s.data.toList.drop (k + n))).map (· + n) := by
  rw [drop_cons s k hk] at h ⊢
  rw [u8scan, h, if_neg hn, List.drop_drop, show k + 1 + (n - 1) = k + n from by omega]
theorem u8scan_bad {s : ByteArray} {k : Nat} (hk : k < s.size) (h : u8size (s.data.toList.drop k) = 0) : u8scan (s.data.toList.drop k) = some 0 := by
  rw [drop_cons s k hk] at h ⊢
  rw [u8scan, if_pos h]
theorem u8_keep {s : ByteArray} {k n : Nat} (hk : k < s.size) (h : u8size (s.data.toList.drop k) = n) (hn : ¬ n = 0) (HE : Hid (u8scan s.data.toList = (u8scan (s.data.toList.drop k)).map (· + k))) :
    Hid (u8scan s.data.toList = (u8scan (s.data.toList.drop (k + n))).map (· + (k + n))) := by
  show u8scan s.data.toList = _
  rw [HE.out, u8scan_step hk h hn]
  cases u8scan (s.data.toList.drop (k + n)) <;> simp; omega
theorem u8_start (s : ByteArray) : Hid (u8scan s.data.toList = (u8scan (s.data.toList.drop 0)).map (· + 0)) := by
  show u8scan s.data.toList = _
  rw [List.drop_zero]; cases u8scan s.data.toList <;> simp
theorem u8_hit {s : ByteArray} {k : Nat} (hk : k < s.size) (h : u8size (s.data.toList.drop k) = 0) (HE : Hid (u8scan s.data.toList = (u8scan (s.data.toList.drop k)).map (· + k))) : u8scan s.data.toList = some k := by
  rw [HE.out, u8scan_bad hk h]; simp
theorem u8_fin {s : ByteArray} {k : Nat} (hk : s.size ≤ k) (HE : Hid (u8scan s.data.toList = (u8scan (s.data.toList.drop k)).map (· + k))) : u8scan s.data.toList = none := by
  rw [HE.out, drop_all s hk, u8scan_nil]; rfl
def u8ok (l : List UInt8) : Bool := (u8scan l).isNone
def u8at (l : List UInt8) : Int := ((u8scan l).getD 0 : Nat)
theorem u8_none {l : List UInt8} (h : u8scan l = none) : u8ok l = true ∧ u8at l = 0 := by simp [u8ok, u8at, h]
theorem u8_some {l : List UInt8} {k : Nat} (h : u8scan l = some k) : u8ok l = false ∧ u8at l = k := by simp [u8ok, u8at, h]

theorem size_res (t : ByteArray) (l : List UInt8) (n : Nat) (hl : t.data.toList = l) (hn : u8size l = n) (w : World) (hs : t.size ≤ 140737488355328) (h0 : 0 < t.size) :
    Calls Try.prog 71 #[.string t] w fun e w' => e = .returned (.int .i64 (n : Int)) ∧ Below w.heap.size w w' := by
  subst hl; subst hn; exact size_any t w hs h0

set_option maxHeartbeats 1000000 in
theorem utf8_any (s : ByteArray) (w : World) (hs : s.size ≤ 140737488355320) :
    Calls Try.prog 32 #[.string s] w fun e w' => e = .returned (.tuple #[.bool (u8ok s.data.toList), .int .i64 (u8at s.data.toList)]) ∧ Below w.heap.size w w' := by
  go_enter Try.func32, Try.ntmps32
  go_wp2
  go_loopw [4] (fun i wr => ∃ k : Nat, k ≤ s.size ∧ i = .int .i64 k ∧ Hid (u8scan s.data.toList = (u8scan (s.data.toList.drop k)).map (· + k)) ∧ Below w.heap.size w wr) (fun i _ => s.size - (intOf i).toNat)
  case atStart => exact ⟨0, by omega, rfl, u8_start s, Below.refl _ _⟩
  case round =>
    obtain ⟨k, hk, rfl, HE, hbl⟩ := hrel
    have hsz := hbl.size
    have HB := Lib.hid hbl
    clear hbl
    by_cases hlt : k < s.size
    · have hl : (s.extract k s.size).data.toList = s.data.toList.drop k := Lib.extract_to_end s k
      have hz := size_ext s k s.size (by omega) (by omega)
      have hz1 : 0 < (s.extract k s.size).size := by omega
      have hz2 : (s.extract k s.size).size ≤ s.size := by omega
      obtain ⟨n, hn⟩ : ∃ n, u8size (s.data.toList.drop k) = n := ⟨_, rfl⟩
      have hle := (u8size_le (s.data.toList.drop k)).1
      rw [hn, List.length_drop, lst_len] at hle
      have HL := Lib.hid hl
      have HN := Lib.hid hn
      clear hl hz hn
      by_cases h0 : n = 0
      · have HD := Lib.hid (u8_some (u8_hit hlt (HN.out.trans h0) HE))
        have en : ((n : Int) == 0) = true := beq_iff_eq.2 (by omega)
        clear h0
        go_wp2_with (go_at_call 71; refine (size_res _ _ n HL.out HN.out _ (by omega) hz1).mono ?_; rintro e w1 ⟨rfl, hb1⟩)
        go_ret2
        exact ⟨by rw [HD.out.1, HD.out.2]; rfl, HB.out.trans (hb1.mono hsz)⟩
      · have HD := Lib.hid (u8_keep hlt HN.out h0 HE)
        have en : ((n : Int) == 0) = false := beq_eq_false_iff_ne.2 (by omega)
        go_wp2_with (go_at_call 71; refine (size_res _ _ n HL.out HN.out _ (by omega) hz1).mono ?_; rintro e w1 ⟨rfl, hb1⟩)
        go_roundw
        case rel => exact ⟨k + n, by omega, by go_num, HD.out, HB.out.trans (hb1.mono hsz)⟩
        case measure => simp [intOf]; omega
    · have HD := Lib.hid (u8_none (u8_fin (by omega) HE))
      go_wp2
      go_ret2
      exact ⟨by rw [HD.out.1, HD.out.2]; rfl, HB.out⟩
end Go.Proofs.Ytahcgajipnkojaa
