/- Walks: frame.Of$1; slices.IndexFunc, ContainsFunc of strings with it. -/
import Derived.Test.YtkcncgdgicffhaaDoorGu
import Derived.LoopTactic
namespace Go.Proofs.YtkcncgdgicffhaaDoor
open Go.RowKit
set_option linter.unusedVariables false
set_option linter.unusedSimpArgs false

def neS (a0 x : ByteArray) : Bool := !(x.data.toList == a0.data.toList)
theorem any_all (a0 : ByteArray) : ∀ L : List ByteArray, L.any (neS a0) = !allS L a0
  | [] => rfl
  | x :: L => by
    have ih := any_all a0 L
    unfold allS at ih ⊢
    rw [List.any_cons, List.all_cons, ih]
    unfold neS
    cases (x.data.toList == a0.data.toList) <;> simp
section
variable (g g2 c : Nat) (L : List ByteArray) (a0 : ByteArray) (w : World)
theorem of1_any (x : ByteArray) (hc : w.cell? ⟨g, 0, none⟩ = some (.slice (some ⟨g2, 0, none⟩) L.length c)) (h0 : w.cell? ⟨g2, 0, none⟩ = some (.string a0)) (hn : 0 < L.length) :
    Calls Tryd.prog 46 #[.string x, .pointer (some ⟨g, 0, none⟩)] w fun e w' => e = .returned (.bool (neS a0 x)) ∧ w = w' := by
  have i1 : (0 : Int) < (L.length : Int) := by omega
  cases hq : (x.data.toList == a0.data.toList) with
  | true =>
    have q1 : (x.toList == a0.toList) = true := by rw [Lib.toList_data, Lib.toList_data]; exact hq
    have q2 : (x.toList != a0.toList) = false := by rw [bne, q1]; rfl
    have HN : Hid (neS a0 x = false) := Lib.hid (by unfold neS; rw [hq]; rfl)
    clear hq
    go_enter Tryd.func46, Tryd.ntmps46
    go_wp2_with fail
    go_ret
    exact ⟨ret_bool (by rw [HN.out]), rfl⟩
  | false =>
    have q1 : (x.toList == a0.toList) = false := by rw [Lib.toList_data, Lib.toList_data]; exact hq
    have q2 : (x.toList != a0.toList) = true := by rw [bne, q1]; rfl
    have HN : Hid (neS a0 x = true) := Lib.hid (by unfold neS; rw [hq]; rfl)
    clear hq
    go_enter Tryd.func46, Tryd.ntmps46
    go_wp2_with fail
    go_ret
    exact ⟨ret_bool (by rw [HN.out]), rfl⟩
set_option maxHeartbeats 1000000 in
theorem idxF_any (hl : L.length ≤ 1048576) (hlc : L.length ≤ c ∧ c ≤ 9223372036854775807) (hc : w.cell? ⟨g, 0, none⟩ = some (.slice (some ⟨g2, 0, none⟩) L.length c)) (h0 : w.cell? ⟨g2, 0, none⟩ = some (.string a0)) (hk : ∀ k (hk : k < L.length), w.cell? ⟨g2, k, none⟩ = some (.string L[k])) :
    Calls Tryd.prog 89 #[.slice (some ⟨g2, 0, none⟩) L.length c, .func (.func 46) #[] #[.pointer (some ⟨g, 0, none⟩)]] w fun e w' => (∃ r : Int, e = .returned (.int .i64 r) ∧ ((r < 0 ∧ L.any (neS a0) = false) ∨ (0 ≤ r ∧ L.any (neS a0) = true))) ∧ w = w' := by
  have CO := Lib.hid fun x (hn : 0 < L.length) => of1_any g g2 c L a0 w x hc h0 hn
  have HK := Lib.hid hk
  obtain ⟨hlc1, hlc2⟩ := hlc
  clear hc h0 hk
  go_enter Tryd.func89, Tryd.ntmps89
  go_wp2_with fail
  go_loopw [5, 8] (fun _ u wr => ∃ k : Nat, u = .int .i64 (k : Int) ∧ k ≤ L.length ∧ wr = w ∧ Hid (∀ j (hj : j < L.length), j < k → neS a0 L[j] = false)) (fun _ u _ => L.length - (intOf u).toNat)
  case atStart => exact ⟨0, rfl, by omega, rfl, fun j hj h => absurd h (by omega)⟩
  case round =>
    obtain ⟨k, rfl, hk, rfl, HN⟩ := hrel
    by_cases hlt : k < L.length
    · have i1 : (k : Int) < (L.length : Int) := by omega
      have yk := HK.out k hlt
      have C := CO.out L[k] (by omega)
      cases hv : neS a0 L[k] with
      | true =>
        rw [hv] at C
        have C := Lib.hid C
        have HV : Hid (L.any (neS a0) = true) := List.any_eq_true.2 ⟨_, List.getElem_mem hlt, hv⟩
        clear hv
        go_wp2_with fail
        refine C.out.mono ?_
        rintro e w1 ⟨rfl, rfl⟩
        go_wp2_with fail
        go_ret
        exact ⟨⟨(k : Int), rfl, .inr ⟨by omega, HV.out⟩⟩, rfl⟩
      | false =>
        rw [hv] at C
        have C := Lib.hid C
        have HN2 : Hid (∀ j (hj : j < L.length), j < k + 1 → neS a0 L[j] = false) := fun j hj h => by
          by_cases e : j = k
          · subst e; exact hv
          · exact HN.out j hj (by omega)
        clear hv
        go_wp2_with fail
        refine C.out.mono ?_
        rintro e w1 ⟨rfl, rfl⟩
        go_wp2_with fail
        go_roundw
        case rel => exact ⟨k + 1, by go_num, by omega, (by first | rfl | trivial), HN2⟩
        case measure => simp [intOf]; omega
    · obtain rfl : k = L.length := by omega
      have HV : Hid (L.any (neS a0) = false) := by
        show _ = _
        rw [List.any_eq_false]
        intro z hz
        obtain ⟨i, hi, rfl⟩ := List.mem_iff_getElem.1 hz
        rw [HN.out i hi hi]; decide
      clear hlt
      go_wp2_with fail
      go_ret
      exact ⟨⟨-1, rfl, .inl ⟨by omega, HV.out⟩⟩, rfl⟩
theorem conF_any (hl : L.length ≤ 1048576) (hlc : L.length ≤ c ∧ c ≤ 9223372036854775807) (hc : w.cell? ⟨g, 0, none⟩ = some (.slice (some ⟨g2, 0, none⟩) L.length c)) (h0 : w.cell? ⟨g2, 0, none⟩ = some (.string a0)) (hk : ∀ k (hk : k < L.length), w.cell? ⟨g2, k, none⟩ = some (.string L[k])) :
    Calls Tryd.prog 45 #[.slice (some ⟨g2, 0, none⟩) L.length c, .func (.func 46) #[] #[.pointer (some ⟨g, 0, none⟩)]] w fun e w' => e = .returned (.bool (!allS L a0)) ∧ w = w' := by
  have C := Lib.hid (idxF_any g g2 c L a0 w hl hlc hc h0 hk)
  have HA := Lib.hid (any_all a0 L)
  clear hc h0 hk hl hlc
  go_enter Tryd.func45, Tryd.ntmps45
  go_wp2_with fail
  refine C.out.mono ?_
  rintro e w1 ⟨⟨r, rfl, hc⟩, rfl⟩
  clear C
  rcases hc with ⟨h1, h2⟩ | ⟨h1, h2⟩
  · have HT := Lib.hid (HA.out.symm.trans h2)
    have e1 : ¬ (0 : Int) ≤ r := by omega
    clear h1 h2
    go_wp2_with fail
    go_ret
    exact ⟨ret_bool (by rw [HT.out]; exact decide_eq_false (by omega)), rfl⟩
  · have HT := Lib.hid (HA.out.symm.trans h2)
    clear h2
    go_wp2_with fail
    go_ret
    exact ⟨ret_bool (by rw [HT.out]), rfl⟩
end
end Go.Proofs.YtkcncgdgicffhaaDoor
