/- Walks: wickref.Spans, wickref.First. -/
import Derived.Test.YtckinkapbfaceaaSpnB
import Derived.Test.YtckinkapbfaceaaSpnD
import Derived.Test.YtckinkapbfaceaaFindA
namespace Go.Proofs.Ytckinkapbfaceaa
open Go.RowKit
set_option linter.unusedVariables false
set_option linter.unusedSimpArgs false

theorem spans_ok (s : ByteArray) (hs : s.size ≤ 60) : ∀ q : Re, SpansOk s q
  | .none => by rintro cs D w ⟨A, c, rfl⟩ hD; exact spans_none s w A c hs
  | .empty => by rintro cs D w ⟨A, c, rfl⟩ hD; exact spans_empty s w A c hs
  | .byte q => by rintro cs D w ⟨hq, hz, A, c, rfl⟩ hD; exact spans_byte s q w A c hs
  | .beg => by rintro cs D w ⟨A, c, rfl⟩ hD; exact spans_beg s w A c hs
  | .fin => by rintro cs D w ⟨A, c, rfl⟩ hD; exact spans_fin s w A c hs
  | .cat a c => by rintro cs D w ⟨A, cp, ca, cb, rfl, h1, h2, h3, h4, h5, h6⟩ hD; exact spans_cat s a c ca cb (spans_ok s hs a) (spans_ok s hs c) D w A cp hs hD h3 h4 h5 h6 h1 h2
  | .alt a c => by rintro cs D w ⟨A, cp, ca, cb, rfl, h1, h2, h3, h4, h5, h6⟩ hD; exact spans_alt s a c ca cb (spans_ok s hs a) (spans_ok s hs c) D w A cp hs hD h3 h4 h5 h6 h1 h2
  | .star a => by rintro cs D w ⟨A, cp, ca, rfl, h1, h2, h3, h4⟩ hD; exact spans_star s a ca (spans_ok s hs a) D w A cp hs hD h3 h4 h1 h2

theorem Spans_any (s : ByteArray) (hs : s.size ≤ 60) (q : Re) (cs : List Value) (D : Nat) (w : World) (h : ReC w D q cs) (hD : D ≤ w.heap.size) :
    Calls Try.prog 27 #[.agg cs.toArray, .string s] w (SpansRes s q w) := by
  obtain ⟨a0, a1, a2, a3, a4, A5, l5, cap5, rfl⟩ := re_cs h
  obtain ⟨W, hW⟩ : ∃ W, W = w.alloc (.cells #[.int .i64 a0, .int .u64 a1, .int .u64 a2, .int .u64 a3, .int .u64 a4, .slice A5 l5 cap5] 27) := ⟨_, rfl⟩
  have hWb : Below w.heap.size w W := by rw [hW]; exact (Below.refl _ _).alloc (Nat.le_refl _) _
  have C := Lib.hid (spans_ok s hs q _ D W (h.below (hWb.mono hD)) (Nat.le_trans hD hWb.size))
  have HW := Lib.hid hW
  have HWB := Lib.hid hWb
  clear hW hWb h
  go_enter Try.func27, Try.ntmps27
  go_wp2_with fail
  rw [← HW.out]
  refine C.out.mono ?_
  rintro e w1 ⟨g, T, rfl, hT, hg, hb, hS⟩
  have HT := Lib.hid hT
  have HB := Lib.hid (HWB.out.trans (hb.mono HWB.out.size))
  have HS := Lib.hid hS
  have hz : w.heap.size ≤ g := Nat.le_trans HWB.out.size hg
  clear hT hb hS
  go_wp2_with fail
  go_ret
  exact ⟨g, T, rfl, HT.out, hz, HB.out, HS.out⟩

/-- the first place of a table -/
def FirstT (T : Nat → Nat → Bool) (n i j : Nat) (b : Bool) : Prop :=
  (b = true ∧ i ≤ j ∧ j ≤ n ∧ T i j = true ∧ (∀ i' j', i' < i → i' ≤ j' → j' ≤ n → T i' j' = false) ∧ ∀ j', j < j' → j' ≤ n → T i j' = false) ∨ (b = false ∧ i = 0 ∧ j = 0 ∧ ∀ i' j', i' ≤ j' → j' ≤ n → T i' j' = false)
theorem FirstT.first {s : List UInt8} {q : Re} {T : Nat → Nat → Bool} {i j : Nat} {b : Bool} (h : FirstT T s.length i j b) (hs : SpT s q T) : FirstP s q i j b := by
  have hno : ∀ i' j', (i' ≤ j' → j' ≤ s.length → T i' j' = false) → ¬ Sp s q i' j' := fun i' j' h hsp => by
    have hl := sp_le _ _ _ _ hsp
    have := (hs i' j' (by omega) hl.2).2 hsp
    rw [h hl.1 hl.2] at this; cases this
  rcases h with ⟨rfl, h1, h2, h3, h4, h5⟩ | ⟨rfl, rfl, rfl, h1⟩
  · refine .inl ⟨rfl, (hs i j (by omega) h2).1 h3, fun i' j' hi => hno i' j' (h4 i' j' hi), fun j' hsp => ?_⟩
    rcases Nat.lt_or_ge j j' with h | h
    · exact absurd hsp (hno i j' fun _ h6 => h5 j' h h6)
    · exact h
  · exact .inr ⟨rfl, rfl, rfl, fun i' j' => hno i' j' (h1 i' j')⟩

def FirstRes (T : Nat → Nat → Bool) (n : Nat) (w : World) (e : Ending) (w' : World) : Prop := (∃ (i j : Nat) (b : Bool), e = .returned (.tuple #[.agg #[.int .i64 i, .int .i64 j], .bool b]) ∧ FirstT T n i j b) ∧ Below w.heap.size w w'
set_option maxHeartbeats 2000000 in
theorem First_any (n g : Nat) (hn : n ≤ 1000) (T : Nat → Nat → Bool) (w : World) (hT : Tab w g (n + 1) T) :
    Calls Try.prog 24 #[.slice (some ⟨g, 0, none⟩) (n + 1) (n + 1)] w (FirstRes T n w) := by
  obtain ⟨W, hW⟩ : ∃ W, W = w.alloc (.cells #[.int .i64 0, .int .i64 0] 52) := ⟨_, rfl⟩
  have hWb : Below w.heap.size w W := by rw [hW]; exact (Below.refl _ _).alloc (Nat.le_refl _) _
  have hR : Blk W w.heap.size 52 #[.int .i64 0, .int .i64 0] := by rw [hW]; exact Blk.new _ _ _
  have HT := Lib.hid (hT.kept (by omega) hWb)
  have r0 : W.cell? ⟨w.heap.size, 0, none⟩ = some (.int .i64 0) := hR.cell 0
  have r1 : W.cell? ⟨w.heap.size, 1, none⟩ = some (.int .i64 0) := hR.cell 1
  have f0 : W.frozen? ⟨w.heap.size, 0, none⟩ = false := hR.frozen 0
  have f1 : W.frozen? ⟨w.heap.size, 1, none⟩ = false := hR.frozen 1
  have HR := Lib.hid hR
  have HW := Lib.hid hW
  have HWB := Lib.hid hWb
  clear hW hWb hT hR
  go_enter Try.func24, Try.ntmps24
  go_wp2_with fail
  rw [← HW.out]
  go_loop [4] (fun i => ∃ k : Nat, k ≤ n + 1 ∧ i = .int .i64 k ∧ Hid (∀ i' j', i' < k → i' ≤ j' → j' ≤ n → T i' j' = false)) (fun i => n + 1 - (intOf i).toNat)
  case atStart => exact ⟨0, by omega, rfl, fun i' j' h => absurd h (by omega)⟩
  case round =>
    obtain ⟨k, hk, rfl, HN⟩ := hrel
    by_cases hlt : k < n + 1
    · have i1 : (k : Int) < (n : Int) + 1 := by omega
      go_wp2_with fail
      go_loop [5] (fun i => ∃ m : Nat, k ≤ m ∧ m ≤ n + 1 ∧ i = .int .i64 ((m : Int) - 1) ∧ Hid (∀ j', m ≤ j' → j' ≤ n → T k j' = false)) (fun i => (intOf i + 1).toNat)
      case atStart => exact ⟨n + 1, by omega, by omega, by go_num, fun j' h h2 => absurd h (by omega)⟩
      case round =>
        obtain ⟨m, hkm, hm, rfl, HM⟩ := hrel
        by_cases hlm : k < m
        · obtain ⟨j, rfl⟩ : ∃ j, m = j + 1 := ⟨m - 1, by omega⟩
          have e1 : (((j + 1 : Nat) : Int) - 1) = (j : Int) := by omega
          rw [e1]
          have j1 : (j : Int) < (n : Int) + 1 := by omega
          have j2 : (k : Int) ≤ (j : Int) := by omega
          obtain ⟨x0, x1, _⟩ := HT.out.facts (i := k) (j := j) hlt (by omega)
          cases hv : T k j with
          | true =>
            rw [hv] at x1
            have HF : Hid (FirstT T n k j true) := .inl ⟨rfl, by omega, by omega, hv, HN.out, fun j' h1 h2 => HM.out j' (by omega) h2⟩
            clear hv e1
            go_wp2_with fail
            obtain ⟨wz, hwz, hz, z0, z1⟩ := span_put (B := w.heap.size) HR.out (Nat.le_refl _) (k : Int) (j : Int)
            rw [← hwz]
            refine bodyPost_ret (v := .tuple #[.agg #[.int .i64 (k : Int), .int .i64 (j : Int)], .bool true]) (by simp [results, Try.results24, go_sem, z0, z1]) rfl ⟨⟨k, j, true, rfl, HF.out⟩, HWB.out.trans hz⟩
          | false =>
            rw [hv] at x1
            have HM2 : Hid (∀ j', j ≤ j' → j' ≤ n → T k j' = false) := fun j' h1 h2 => by
              by_cases e : j' = j
              · rw [e]; exact hv
              · exact HM.out j' (by omega) h2
            clear hv e1
            go_wp2_with fail
            go_round
            case rel => exact ⟨j, by omega, by omega, by go_num, HM2⟩
            case measure => simp [intOf]
        · obtain rfl : m = k := by omega
          have j2 : ¬ (m : Int) ≤ (m : Int) - 1 := by omega
          have HN2 : Hid (∀ i' j', i' < m + 1 → i' ≤ j' → j' ≤ n → T i' j' = false) := fun i' j' h1 h2 h3 => by
            by_cases e : i' = m
            · subst e; exact HM.out j' h2 h3
            · exact HN.out i' j' (by omega) h2 h3
          go_wp2_with fail
          go_round
          case rel => exact ⟨m + 1, by omega, by go_num, HN2⟩
          case measure => simp [intOf]; omega
    · obtain rfl : k = n + 1 := by omega
      have HF : Hid (FirstT T n 0 0 false) := .inr ⟨rfl, rfl, rfl, fun i' j' h1 h2 => HN.out i' j' (by omega) h1 h2⟩
      go_wp2_with fail
      obtain ⟨wz, hwz, hz, z0, z1⟩ := span_put (B := w.heap.size) HR.out (Nat.le_refl _) 0 0
      rw [← hwz]
      refine bodyPost_ret (v := .tuple #[.agg #[.int .i64 0, .int .i64 0], .bool false]) (by simp [results, Try.results24, go_sem, z0, z1]) rfl ⟨⟨0, 0, false, rfl, HF.out⟩, HWB.out.trans hz⟩
end Go.Proofs.Ytckinkapbfaceaa
