/- Walks: coding.HexDecode. -/
import Derived.Test.YthfolopnjmkllaaDoorLoHex
import Derived.Test.YthfolopnjmkllaaDoorUrlD
namespace Go.Proofs.YthfolopnjmkllaaDoor
open Go.RowKit
set_option linter.unusedVariables false
set_option linter.unusedSimpArgs false

def hexD : List UInt8 → Option (List UInt8)
  | [] => some []
  | [_] => none
  | a :: b :: r => if 0 ≤ pairL (a :: b :: r) then (hexD r).map (UInt8.ofNat (pairL (a :: b :: r)).toNat :: ·) else none
def hexDS (l : List UInt8) : List UInt8 := (hexD l).getD []
def hexDE (l : List UInt8) : Int := if (hexD l).isSome then 0 else 4
theorem hexD_bad {l : List UInt8} (h0 : 0 < l.length) (h : pairL l < 0) : hexD l = none := by
  match l with
  | [] => simp at h0
  | [_] => rw [hexD]
  | a :: b :: r => rw [hexD, if_neg (by omega)]
theorem hexD_good {l : List UInt8} (h : 0 ≤ pairL l) : hexD l = (hexD (l.drop 2)).map (UInt8.ofNat (pairL l).toNat :: ·) := by
  match l with
  | [] => simp [pairL] at h
  | [_] => simp [pairL] at h
  | a :: b :: r => rw [hexD, if_pos h]; rfl
theorem hexD_keep {s : ByteArray} {k : Nat} {A : List UInt8} {P : Int} (HE : Hid (hexD s.data.toList = (hexD (s.data.toList.drop k)).map (A ++ ·))) (hP : pairL (s.data.toList.drop k) = P) (h : 0 ≤ P) :
    Hid (hexD s.data.toList = (hexD (s.data.toList.drop (k + 2))).map ((A ++ [UInt8.ofNat P.toNat]) ++ ·)) := by
  show hexD s.data.toList = _
  rw [HE.out, hexD_good (l := s.data.toList.drop k) (by omega), hP, List.drop_drop, Option.map_map]
  congr 1
  funext x; simp
theorem hexD_fail {s : ByteArray} {k : Nat} {A : List UInt8} {P : Int} (HE : Hid (hexD s.data.toList = (hexD (s.data.toList.drop k)).map (A ++ ·))) (hk : k < s.size) (hP : pairL (s.data.toList.drop k) = P) (h : P < 0) :
    hexDS s.data.toList = [] ∧ hexDE s.data.toList = 4 := by
  have : hexD s.data.toList = none := by
    rw [HE.out, hexD_bad (by rw [List.length_drop, lst_len]; omega) (by omega)]; rfl
  simp [hexDS, hexDE, this]
theorem hexD_fin {s : ByteArray} {k : Nat} {A : List UInt8} (HE : Hid (hexD s.data.toList = (hexD (s.data.toList.drop k)).map (A ++ ·))) (hk : s.size ≤ k) :
    hexDS s.data.toList = A ∧ hexDE s.data.toList = 0 := by
  have : hexD s.data.toList = some A := by
    rw [HE.out, drop_all s hk, hexD]; simp
  simp [hexDS, hexDE, this]

set_option maxHeartbeats 1000000 in
theorem hexDecode_any (s : ByteArray) (w : World) (hs : s.size ≤ 140737488355320) :
    Calls Tryd.prog 49 #[.string s] w fun e w' => e = .returned (.tuple #[.string (str (hexDS s.data.toList)), .int .i64 (hexDE s.data.toList)]) ∧ Below w.heap.size w w' := by
  go_enter Tryd.func49, Tryd.ntmps49
  go_wp2
  go_loopw [4, 5] (fun v i wr => ∃ (k : Nat) (A : List UInt8), k ≤ s.size + 1 ∧ A.length ≤ k ∧ i = .int .i64 k ∧ OB wr w.heap.size v A ∧ Hid (hexD s.data.toList = (hexD (s.data.toList.drop k)).map (A ++ ·)) ∧ Below w.heap.size w wr) (fun _ i _ => s.size + 1 - (intOf i).toNat)
  case atStart => exact ⟨0, [], by omega, by simp, rfl, OB.nil _ _, by show hexD s.data.toList = _; simp, Below.refl _ _⟩
  case round =>
    obtain ⟨k, A, hk, hA, rfl, hown, HE, hbl⟩ := hrel
    have HO := Lib.hid hown
    have hsz := hbl.size
    have HB := Lib.hid hbl
    clear hown hbl
    by_cases hlt : k < s.size
    · obtain ⟨P, hP⟩ : ∃ P, pairL (s.data.toList.drop k) = P := ⟨_, rfl⟩
      have hP1 := pairL_bd (s.data.toList.drop k)
      rw [hP] at hP1
      have HP := Lib.hid (show pairL (s.data.toList.drop (k : Int).toNat) = P by rw [show (k : Int).toNat = k from by omega]; exact hP)
      by_cases hp : P < 0
      · have HD := Lib.hid (hexD_fail HE hlt hP hp)
        clear hP
        have q0 : decide (P < 0) = true := decide_eq_true hp
        go_wp2_with fail
        refine (pair_int s (k : Int) _ (by omega) (by omega) (by omega) P HP.out).mono ?_
        rintro e w' ⟨rfl, q, rfl⟩
        go_wp2_with fail
        go_ret2
        exact ⟨by rw [HD.out.1, HD.out.2]; rfl, below_drewN HB.out q⟩
      · have HG := hexD_keep HE hP (by omega)
        clear hP
        have q0 : decide (P < 0) = false := decide_eq_false hp
        have j1 : IntKind.i64.wrap ((k : Int) + 2) = (k : Int) + 2 := IntWalk.i64_in _ (by omega)
        go_wp2_with fail
        refine (pair_int s (k : Int) _ (by omega) (by omega) (by omega) P HP.out).mono ?_
        rintro e w' ⟨rfl, q, rfl⟩
        go_wp2_with (at_builtin; refine wpL_app rfl (.tmp 18) (.tmp 21) rfl (HO.out.drewN q) rfl _ [UInt8.ofNat P.toNat] (by rw [List.map_cons, ← bv_of (by omega) (by omega)]; rfl) rfl (by simp only [List.length_cons, List.length_nil]; omega) hsz ?_; intro v' w1 ho1 hb1)
        go_roundw
        case rel => exact ⟨k + 2, A ++ [UInt8.ofNat P.toNat], by omega, by rw [List.length_append]; simp; omega, by go_num, ho1, HG, (below_drewN HB.out q).trans hb1⟩
        case measure => simp [intOf]; omega
    · have h := ob_str HO.out
      have HD := Lib.hid (hexD_fin HE (by omega))
      go_wp2
      go_ret2
      exact ⟨by rw [HD.out.1, HD.out.2]; rfl, HB.out⟩
end Go.Proofs.YthfolopnjmkllaaDoor
