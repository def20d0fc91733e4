/- Walks: phrase.Check$1, slices.IndexFunc and slices.ContainsFunc over []int with it. -/
import Derived.Test.YtckinkapbfaceaaNod
import Derived.LoopTactic
import Derived.Lib.Hide
import Derived.Deep.QuietTactic
import Derived.BigQuiet
namespace Go.Proofs.Ytckinkapbfaceaa
open Go.RowKit
set_option linter.unusedVariables false
set_option linter.unusedSimpArgs false

def badE (n e : Int) : Bool := decide (e < 0 ∨ n ≤ e)
theorem bade_any (k n : Int) (g : Nat) (w : World) (h : w.cell? ⟨g, 0, none⟩ = some (.int .i64 n)) :
    Calls Try.prog 47 #[.int .i64 k, .pointer (some ⟨g, 0, none⟩)] w fun e w' => e = .returned (.bool (badE n k)) ∧ Below w.heap.size w w' := by
  by_cases h1 : k < 0
  · go_enter Try.func47, Try.ntmps47
    go_wp2_with fail
    go_ret
    exact ⟨ret_bool (by unfold badE; rw [decide_eq_true (.inl h1)]), Below.refl _ _⟩
  · by_cases h2 : n ≤ k
    · go_enter Try.func47, Try.ntmps47
      go_wp2_with fail
      go_ret
      exact ⟨ret_bool (by unfold badE; rw [decide_eq_true (.inr h2)]), Below.refl _ _⟩
    · go_enter Try.func47, Try.ntmps47
      go_wp2_with fail
      go_ret
      exact ⟨ret_bool (by unfold badE; rw [decide_eq_false (by omega)]), Below.refl _ _⟩
section
variable (n : Int) (zs : List Int) (E : Option Addr) (ce B g : Nat) (w : World)
def IdxRes (n : Int) (zs : List Int) (w : World) (e : Ending) (w' : World) : Prop := ∃ r : Int, e = .returned (.int .i64 r) ∧ ((r < 0 ∧ ∀ z ∈ zs, badE n z = false) ∨ (0 ≤ r ∧ ∃ z ∈ zs, badE n z = true)) ∧ Below w.heap.size w w'
set_option maxHeartbeats 1000000 in
theorem idxE_any (hr : Reads w B 1 E zs.length (zs.map (Value.int .i64))) (hB : B ≤ w.heap.size) (hl : zs.length ≤ ce ∧ ce ≤ maxLen) (hg : g < w.heap.size) (h : w.cell? ⟨g, 0, none⟩ = some (.int .i64 n)) :
    Calls Try.prog 77 #[.slice E zs.length ce, .func (.func 47) #[] #[.pointer (some ⟨g, 0, none⟩)]] w (IdxRes n zs w) := by
  unfold maxLen at hl
  have CE := Lib.hid fun k w' (hb : Below w.heap.size w w') => bade_any k n g w' ((hb.cell (p := ⟨g, 0, none⟩) hg).trans h)
  have HR := Lib.hid fun w' (hb : Below w.heap.size w w') => hr.below (hb.mono hB)
  clear hr h
  go_enter Try.func77, Try.ntmps77
  go_wp2_with fail
  go_loopw [8] (fun u wr => ∃ k : Nat, u = .int .i64 (k : Int) ∧ k ≤ zs.length ∧ Below w.heap.size w wr ∧ Hid (∀ j (hj : j < zs.length), j < k → badE n zs[j] = false)) (fun u _ => zs.length - (intOf u).toNat)
  case atStart => exact ⟨0, rfl, by omega, Below.refl _ _, fun j hj h => absurd h (by omega)⟩
  case round =>
    obtain ⟨k, rfl, hk, hB1, HN⟩ := hrel
    have HB := Lib.hid hB1
    by_cases hlt : k < zs.length
    · have i1 : (k : Int) < (zs.length : Int) := by omega
      obtain ⟨ad, u, rfl, hb, hu, hc⟩ := (HR.out wr hB1).at_ hlt
      rw [List.getElem?_map, List.getElem?_eq_getElem hlt] at hu
      obtain rfl : Value.int .i64 zs[k] = u := by simpa using hu
      have C := CE.out zs[k] wr hB1
      clear hB1 hu
      cases hv : badE n zs[k] with
      | true =>
        rw [hv] at C
        have C := Lib.hid C
        have HV : Hid (∃ z ∈ zs, badE n z = true) := ⟨_, List.getElem_mem hlt, hv⟩
        clear hv
        go_wp2_with fail
        refine C.out.mono ?_
        rintro e w1 ⟨rfl, b1⟩
        have HB2 := Lib.hid (HB.out.trans (b1.mono HB.out.size))
        clear b1 C
        go_wp2_with fail
        go_ret
        exact ⟨(k : Int), rfl, .inr ⟨by omega, HV.out⟩, HB2.out⟩
      | false =>
        rw [hv] at C
        have C := Lib.hid C
        have HN2 : Hid (∀ j (hj : j < zs.length), j < k + 1 → badE n zs[j] = false) := fun j hj h => by
          by_cases e : j = k
          · subst e; exact hv
          · exact HN.out j hj (by omega)
        clear hv
        go_wp2_with fail
        refine C.out.mono ?_
        rintro e w1 ⟨rfl, b1⟩
        have HB2 := Lib.hid (HB.out.trans (b1.mono HB.out.size))
        clear b1 C
        go_wp2_with fail
        go_roundw
        case rel => exact ⟨k + 1, by go_num, by omega, HB2.out, HN2⟩
        case measure => simp [intOf]; omega
    · obtain rfl : k = zs.length := by omega
      clear hlt hB1
      go_wp2_with fail
      go_ret
      exact ⟨-1, rfl, .inl ⟨by omega, fun z hz => by
        obtain ⟨i, hi, rfl⟩ := List.mem_iff_getElem.1 hz
        exact HN.out i hi hi⟩, HB.out⟩
theorem conE_any (hr : Reads w B 1 E zs.length (zs.map (Value.int .i64))) (hB : B ≤ w.heap.size) (hl : zs.length ≤ ce ∧ ce ≤ maxLen) (hg : g < w.heap.size) (h : w.cell? ⟨g, 0, none⟩ = some (.int .i64 n)) :
    Calls Try.prog 46 #[.slice E zs.length ce, .func (.func 47) #[] #[.pointer (some ⟨g, 0, none⟩)]] w fun e w' => e = .returned (.bool (zs.any (badE n))) ∧ Below w.heap.size w w' := by
  have C := Lib.hid (idxE_any n zs E ce B g w hr hB hl hg h)
  clear hr h hl
  go_enter Try.func46, Try.ntmps46
  go_wp2_with fail
  refine C.out.mono ?_
  rintro e w1 ⟨r, rfl, hc, b1⟩
  have HB := Lib.hid b1
  clear b1 C
  rcases hc with ⟨h1, h2⟩ | ⟨h1, h2⟩
  · have HT : Hid (zs.any (badE n) = false) := by
      show _ = _
      rw [List.any_eq_false]; intro z hz; rw [h2 z hz]; simp
    have e1 : ¬ (0 : Int) ≤ r := by omega
    clear h1 h2
    go_wp2_with fail
    go_ret
    exact ⟨ret_bool (by rw [HT.out]; exact decide_eq_false (by omega)), HB.out⟩
  · have HT : Hid (zs.any (badE n) = true) := List.any_eq_true.2 h2
    clear h2
    go_wp2_with fail
    go_ret
    exact ⟨ret_bool (by rw [HT.out]), HB.out⟩
end
end Go.Proofs.Ytckinkapbfaceaa
