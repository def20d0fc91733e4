/- Walks: rex.ends at a byte. -/
import Derived.Test.YtckinkapbfaceaaEndA
import Derived.Deep.RegionLaw
namespace Go.Proofs.Ytckinkapbfaceaa
open Go.RowKit
set_option linter.unusedVariables false
set_option linter.unusedSimpArgs false

def stepB (s : ByteArray) (q : Q4) (f : Nat → Bool) (j : Nat) : Bool := f j && setB q (s.data.toList.getD j 0).toNat
/-- the first k bytes seen -/
def goneB (s : ByteArray) (q : Q4) (f : Nat → Bool) (k j : Nat) : Bool := decide (1 ≤ j ∧ j ≤ k) && stepB s q f (j - 1)
theorem goneB_set {s : ByteArray} {q : Q4} {f : Nat → Bool} {k : Nat} {v : Bool} (hv : v = stepB s q f k) (j : Nat) : (if j = k + 1 then v else goneB s q f k j) = goneB s q f (k + 1) j := by
  unfold goneB
  by_cases h : j = k + 1
  · subst h; rw [if_pos rfl, hv]; simp
  · rw [if_neg h]
    congr 1
    rw [Bool.eq_iff_iff, decide_eq_true_eq, decide_eq_true_eq]; omega
theorem getD_at {s : ByteArray} {k : Nat} (h : k < s.size) : s.data.toList.getD k 0 = s[k] := by
  rw [List.getD, List.getElem?_eq_getElem (by rw [lst_len]; exact h)]
  simp [lst_get s k h]

set_option maxRecDepth 100000 in
set_option maxHeartbeats 2000000 in
theorem ends_byte_any (s : ByteArray) (q : Q4) (f : Nat → Bool) (b cap : Nat) (w : World) (A : Option Addr) (c : Nat) (hq : q.ok) (hs : s.size ≤ 300) (hf : BoR w b (s.size + 1) f) :
    Calls Try.prog 56 #[.agg #[.int .i64 3, .int .u64 (q.a : Int), .int .u64 (q.b : Int), .int .u64 (q.c : Int), .int .u64 (q.d : Int), .slice A 0 c], .string s, .slice (some ⟨b, 0, none⟩) (s.size + 1) cap] w (EndsRes s (.byte q) f w) := by
  have hmk := make_bools' s.size (by omega)
  obtain ⟨W, hW⟩ : ∃ W, W = (w.alloc (.cells #[.int .i64 3, .int .u64 (q.a : Int), .int .u64 (q.b : Int), .int .u64 (q.c : Int), .int .u64 (q.d : Int), .slice A 0 c] 27)).alloc (.cells (madeCells #[.bool false] (s.size + 1)) 4) := ⟨_, rfl⟩
  have hm : BoR W (w.heap.size + 1) (s.size + 1) (fun _ => false) := by
    have := BoR.made (w.alloc (.cells #[.int .i64 3, .int .u64 (q.a : Int), .int .u64 (q.b : Int), .int .u64 (q.c : Int), .int .u64 (q.d : Int), .slice A 0 c] 27)) (s.size + 1)
    rw [hW]; simpa using this
  have hK : Blk W w.heap.size 27 #[.int .i64 3, .int .u64 (q.a : Int), .int .u64 (q.b : Int), .int .u64 (q.c : Int), .int .u64 (q.d : Int), .slice A 0 c] := by rw [hW]; exact (Blk.new _ _ _).alloc _
  have hWb : Below w.heap.size w W := by rw [hW]; exact ((Below.refl _ _).alloc (Nat.le_refl _) _).alloc (by simp) _
  have hWs : W.heap.size = w.heap.size + 1 + 1 := by rw [hW]; simp
  have HWs := Lib.hid hWs
  have hlt := hf.lt
  have HM := Lib.hid (hm.congr (g := goneB s q f 0) fun i _ => by
    unfold goneB
    rw [decide_eq_false (by omega)]; rfl)
  have HF := Lib.hid (hf.kept hWb)
  have HK := Lib.hid hK
  have HW := Lib.hid hW
  have HWB := Lib.hid hWb
  clear hW hm hWb hf hK hWs
  go_enter Try.func56, Try.ntmps56
  go_wp2_with fail
  rw [← HW.out]
  clear hmk
  go_loopw [44] (fun i wr => ∃ k : Nat, k ≤ s.size ∧ i = .int .i64 k ∧ BoR wr (w.heap.size + 1) (s.size + 1) (goneB s q f k) ∧ Below (w.heap.size + 1) W wr) (fun i _ => s.size - (intOf i).toNat)
  case atStart => exact ⟨0, by omega, rfl, HM.out, Below.refl _ _⟩
  case round =>
    obtain ⟨k, hk, rfl, hm, hb⟩ := hrel
    have HB := Lib.hid hb
    have HM1 := Lib.hid hm
    have hz : w.heap.size + 1 < wr.heap.size := hm.lt
    by_cases hlk : k < s.size
    · have hK1 := HK.out.below hb (by omega)
      have x1 : wr.cell? ⟨w.heap.size, 1, none⟩ = some (.int .u64 (q.a : Int)) := hK1.cell 1
      have x2 : wr.cell? ⟨w.heap.size, 2, none⟩ = some (.int .u64 (q.b : Int)) := hK1.cell 2
      have x3 : wr.cell? ⟨w.heap.size, 3, none⟩ = some (.int .u64 (q.c : Int)) := hK1.cell 3
      have x4 : wr.cell? ⟨w.heap.size, 4, none⟩ = some (.int .u64 (q.d : Int)) := hK1.cell 4
      have y0 : wr.cell? ⟨b, k, none⟩ = some (.bool (f k)) := (HF.out.below hb (by omega)).cell k (by omega)
      have hsk : stepB s q f k = (f k && setB q s[k].toNat) := by unfold stepB; rw [getD_at hlk]
      have HSK := Lib.hid hsk
      obtain ⟨cb1, cb2⟩ := byte_lt s[k]
      have i0 : (0 : Int) ≤ (k : Int) := by omega
      have i1 : (k : Int) < (s.size : Int) + 1 := by omega
      have i2 : (k : Int) < (s.size : Int) := by omega
      have i3 : (k : Int) + 1 < (s.size : Int) + 1 := by omega
      have i4 : (0 : Int) ≤ (k : Int) + 1 := by omega
      have i6 : IntKind.i64.wrap ((k : Int) + 1) = (k : Int) + 1 := IntWalk.i64_in _ (by omega)
      have i5 : ((k : Int) + 1).toNat = k + 1 := by omega
      have CH := Lib.hid fun w' => has_any q s[k].toNat hq (by omega) w'
      clear hK1 hm hb hsk
      cases hfk : f k with
      | false =>
        rw [hfk] at y0
        have z0 := HM1.out.drew.cell (k + 1) (by omega)
        have z1 := HM1.out.drew.frozen (k + 1) (by omega)
        have HN := Lib.hid (HM1.out.drew.set_ (k := k + 1) (by omega) false)
        have HE : Hid (false = stepB s q f k) := by show _ = _; rw [HSK.out, hfk]; rfl
        clear hfk
        go_wp2_with fail
        go_region
        go_wp2_with fail
        go_roundw
        case rel => exact ⟨k + 1, by omega, by go_num, HN.out.congr fun j _ => goneB_set HE.out j, HB.out.drew.setCell (by exact Nat.le_refl _) _⟩
        case measure => simp [intOf]; omega
      | true =>
        rw [hfk] at y0
        have HE : Hid (setB q s[k].toNat = stepB s q f k) := by show _ = _; rw [HSK.out, hfk]; rfl
        obtain ⟨v, hv⟩ : ∃ v, v = setB q s[k].toNat := ⟨_, rfl⟩
        rw [← hv] at CH HE
        clear hfk hv
        go_wp2_with fail
        go_region_law (first | (go_simp; go_at_call 79; refine (CH.out _).mono ?_; rintro e w2 ⟨rfl, hb2⟩; have HM2 := Lib.hid (HM1.out.drew.kept hb2); have HB2 := Lib.hid (HB.out.drew.trans (hb2.mono (by exact Nat.le_of_lt hz))); have z0 := HM2.out.cell (k + 1) (by omega); have z1 := HM2.out.frozen (k + 1) (by omega); clear hb2))
        all_goals go_wp2_with fail
        all_goals first
          | exact ⟨⟨k + 1, by omega, by go_num, (HM2.out.set_ (k := k + 1) (by omega) v).congr fun j _ => goneB_set HE.out j, HB2.out.setCell (by exact Nat.le_refl _) _⟩, by simp [intOf]; omega⟩
          | (go_roundw
             case rel => exact ⟨k + 1, by omega, by go_num, (HM2.out.set_ (k := k + 1) (by omega) v).congr fun j _ => goneB_set HE.out j, HB2.out.setCell (by exact Nat.le_refl _) _⟩
             case measure => simp [intOf]; omega)
    · obtain rfl : k = s.size := by omega
      clear hm hb
      go_wp2_with fail
      go_ret
      refine ⟨w.heap.size + 1, s.size + 1, _, rfl, HM1.out, by omega, HWB.out.trans (HB.out.mono (by omega)), ends_byte ?_ fun i hi => ?_⟩
      · unfold goneB; rfl
      · rw [lst_len] at hi
        unfold goneB stepB
        rw [decide_eq_true (by omega), Bool.true_and, Nat.add_sub_cancel, getD_at hi, lst_get s i hi]
end Go.Proofs.Ytckinkapbfaceaa
