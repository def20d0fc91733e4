/- Pipes (P11): what is wrong with a pipe. Walks: pipe.Check, wickref.Pipe. -/
import Derived.Test.YthfolopnjmkllaaDoorStr
import Derived.Test.YthfolopnjmkllaaDoorMem
import Derived.LoopTactic
namespace Go.Proofs.YthfolopnjmkllaaDoor
open Go.RowKit
set_option linter.unusedVariables false
set_option linter.unusedSimpArgs false

def okP (z : Int) : Bool := decide (1 ≤ z ∧ z ≤ 11)
def pipE (zs : List Int) : Int := if 8 < zs.length then 2 else if zs.all okP = true then 0 else 1
theorem pipE_bad {zs : List Int} {k : Nat} (h : ¬ 8 < zs.length) (hk : k < zs.length) (hb : okP zs[k] = false) : pipE zs = 1 := by
  unfold pipE; rw [if_neg h, if_neg]
  intro h2
  rw [List.all_eq_true] at h2
  have := h2 zs[k] (List.getElem_mem hk)
  rw [hb] at this; cases this
theorem pipE_ok {zs : List Int} (h : ¬ 8 < zs.length) (ha : ∀ k (hk : k < zs.length), okP zs[k] = true) : pipE zs = 0 := by
  unfold pipE; rw [if_neg h, if_pos]
  rw [List.all_eq_true]
  intro z hz
  obtain ⟨i, hi, rfl⟩ := List.mem_iff_getElem.1 hz
  exact ha i hi
/-- ints that read -/
def IR (w : World) (A : Option Addr) (zs : List Int) : Prop := Reads w w.heap.size 1 A zs.length (zs.map (Value.int .i64))
theorem IR.at_ {w : World} {A : Option Addr} {zs : List Int} (h : IR w A zs) {k : Nat} (hk : k < zs.length) : ∃ ad, A = some ad ∧ ad.block < w.heap.size ∧ w.cell? (ad.add k) = some (.int .i64 zs[k]) := by
  obtain ⟨ad, u, e, hb, hu, hc⟩ := Reads.at_ h hk
  refine ⟨ad, e, hb, ?_⟩
  rw [hc]
  simp only [List.getElem?_map, List.getElem?_eq_getElem hk, Option.map_some] at hu
  exact hu.symm
theorem IR.below {w w' : World} {A : Option Addr} {zs : List Int} (h : IR w A zs) (hb : Below w.heap.size w w') : IR w' A zs := (Reads.below h hb).more hb.size
theorem check1_any (z : Int) (w : World) : Calls Tryd.prog 30 #[.int .i64 z] w fun e w' => e = .returned (.bool (!okP z)) ∧ w = w' := by
  have hc : (z < 1 ∧ okP z = false) ∨ (¬ z < 1 ∧ 11 < z ∧ okP z = false) ∨ (¬ z < 1 ∧ ¬ 11 < z ∧ okP z = true) := by
    unfold okP
    by_cases h1 : z < 1
    · exact .inl ⟨h1, decide_eq_false (by omega)⟩
    · by_cases h2 : 11 < z
      · exact .inr (.inl ⟨h1, h2, decide_eq_false (by omega)⟩)
      · exact .inr (.inr ⟨h1, h2, decide_eq_true (by omega)⟩)
  obtain ⟨o, ho⟩ : ∃ o, o = okP z := ⟨_, rfl⟩
  rw [← ho] at hc ⊢
  clear ho
  rcases hc with ⟨h1, rfl⟩ | ⟨h1, h2, rfl⟩ | ⟨h1, h2, rfl⟩
  all_goals
    go_enter Tryd.func30, Tryd.ntmps30
    go_wp2_with fail
    go_ret
    exact ⟨rfl, rfl⟩
section
variable (zs : List Int) (A : Option Addr) (c : Nat) (w : World)
def IdxRes (zs : List Int) (w : World) (e : Ending) (w' : World) : Prop := ((∃ k : Nat, e = .returned (.int .i64 (k : Int)) ∧ ∃ hk : k < zs.length, okP zs[k] = false) ∨ (e = .returned (.int .i64 (-1)) ∧ ∀ k (hk : k < zs.length), okP zs[k] = true)) ∧ w = w'
set_option maxHeartbeats 1000000 in
theorem idxF_any (h : IR w A zs) (hl : zs.length ≤ 9223372036854775807) :
    Calls Tryd.prog 57 #[.slice A zs.length c, .func (.func 30) #[] #[]] w (IdxRes zs w) := by
  have HR := Lib.hid h
  clear h
  go_enter Tryd.func57, Tryd.ntmps57
  go_wp2_with fail
  go_loop [8] (fun u => ∃ k : Nat, u = .int .i64 (k : Int) ∧ k ≤ zs.length ∧ Hid (∀ j (hj : j < zs.length), j < k → okP zs[j] = true)) (fun u => zs.length - (intOf u).toNat)
  case atStart => exact ⟨0, rfl, by omega, fun j hj h => absurd h (by omega)⟩
  case round =>
    obtain ⟨k, rfl, hk, HA⟩ := hrel
    by_cases hlk : k < zs.length
    · have k1 : (k : Int) < (zs.length : Int) := by omega
      have k2 : (0 : Int) ≤ (k : Int) := by omega
      obtain ⟨ad, rfl, _, y0⟩ := HR.out.at_ hlk
      obtain ⟨z, hz⟩ : ∃ z, z = zs[k] := ⟨_, rfl⟩
      rw [← hz] at y0
      have C := check1_any z w
      cases hv : okP z with
      | true =>
        rw [hv] at C
        have C := Lib.hid C
        have HA2 : Hid (∀ j (hj : j < zs.length), j < k + 1 → okP zs[j] = true) := fun j hj h => by
          by_cases e : j = k
          · subst e; rw [← hz]; exact hv
          · exact HA.out j hj (by omega)
        clear hz hv
        go_wp2_with fail
        refine C.out.mono ?_
        rintro e w' ⟨rfl, rfl⟩
        go_wp2_with fail
        go_round
        case rel => exact ⟨k + 1, by go_num, by omega, HA2⟩
        case measure => simp [intOf]; omega
      | false =>
        rw [hv] at C
        have C := Lib.hid C
        have HB : Hid (∃ hk : k < zs.length, okP zs[k] = false) := ⟨hlk, by rw [← hz]; exact hv⟩
        clear hz hv
        go_wp2_with fail
        refine C.out.mono ?_
        rintro e w' ⟨rfl, rfl⟩
        go_wp2_with fail
        go_ret
        exact ⟨.inl ⟨k, rfl, HB.out⟩, rfl⟩
    · obtain rfl : k = zs.length := by omega
      clear hlk
      go_wp2_with fail
      go_ret
      exact ⟨.inr ⟨rfl, fun j hj => HA.out j hj hj⟩, rfl⟩
theorem contF_any (h : IR w A zs) (hl : zs.length ≤ 8) :
    Calls Tryd.prog 29 #[.slice A zs.length c, .func (.func 30) #[] #[]] w fun e w' => e = .returned (.bool (!zs.all okP)) ∧ w = w' := by
  have C := Lib.hid (idxF_any zs A c w h (by omega))
  clear h
  go_enter Tryd.func29, Tryd.ntmps29
  go_wp2_with fail
  refine C.out.mono ?_
  rintro e w' ⟨hr, rfl⟩
  rcases hr with ⟨k, rfl, hk, hb⟩ | ⟨rfl, ha⟩
  · have HE : Hid ((!zs.all okP) = true) := by
      show _ = _
      rw [Bool.not_eq_true', Bool.eq_false_iff]
      intro h2
      rw [List.all_eq_true] at h2
      have := h2 zs[k] (List.getElem_mem hk)
      rw [hb] at this; cases this
    have k1 : (0 : Int) ≤ (k : Int) := by omega
    clear hb
    go_wp2_with fail
    go_ret
    exact ⟨by rw [HE.out]; rfl, rfl⟩
  · have HE : Hid ((!zs.all okP) = false) := by
      show _ = _
      rw [Bool.not_eq_false', List.all_eq_true]
      intro z hz
      obtain ⟨i, hi, rfl⟩ := List.mem_iff_getElem.1 hz
      exact ha i hi
    clear ha
    go_wp2_with fail
    go_ret
    exact ⟨by rw [HE.out]; rfl, rfl⟩
theorem pipeCheck_any (h : IR w A zs) (hl : zs.length ≤ 9223372036854775807) :
    Calls Tryd.prog 12 #[.slice A zs.length c] w fun e w' => e = .returned (.int .i64 (pipE zs)) ∧ w = w' := by
  by_cases h1 : 8 < zs.length
  · have d1 : (8 : Int) < (zs.length : Int) := by omega
    have HE : Hid (pipE zs = 2) := by show _ = _; unfold pipE; rw [if_pos h1]
    clear h
    go_enter Tryd.func12, Tryd.ntmps12
    go_wp2_with fail
    go_ret
    exact ⟨by rw [HE.out]; rfl, rfl⟩
  · have d1 : ¬ (8 : Int) < (zs.length : Int) := by omega
    have C := contF_any zs A c w h (by omega)
    have HE : Hid (pipE zs = if zs.all okP = true then 0 else 1) := by show _ = _; unfold pipE; rw [if_neg h1]
    obtain ⟨b, hb⟩ : ∃ b, b = zs.all okP := ⟨_, rfl⟩
    rw [← hb] at C HE
    clear h hb
    cases b with
    | true =>
      have C := Lib.hid C
      go_enter Tryd.func12, Tryd.ntmps12
      go_wp2_with fail
      refine C.out.mono ?_
      rintro e w' ⟨rfl, rfl⟩
      go_wp2_with fail
      go_ret
      exact ⟨by rw [HE.out]; rfl, rfl⟩
    | false =>
      have C := Lib.hid C
      go_enter Tryd.func12, Tryd.ntmps12
      go_wp2_with fail
      refine C.out.mono ?_
      rintro e w' ⟨rfl, rfl⟩
      go_wp2_with fail
      go_ret
      exact ⟨by rw [HE.out]; rfl, rfl⟩
set_option maxHeartbeats 1000000 in
theorem refPipe_any (h : IR w A zs) (hl : zs.length ≤ 9223372036854775807) :
    Calls Tryd.prog 10 #[.slice A zs.length c] w fun e w' => e = .returned (.int .i64 (pipE zs)) ∧ w = w' := by
  by_cases h1 : 8 < zs.length
  · have d1 : (8 : Int) < (zs.length : Int) := by omega
    have HE : Hid (pipE zs = 2) := by show _ = _; unfold pipE; rw [if_pos h1]
    clear h
    go_enter Tryd.func10, Tryd.ntmps10
    go_wp2_with fail
    go_ret
    exact ⟨by rw [HE.out]; rfl, rfl⟩
  · have d1 : ¬ (8 : Int) < (zs.length : Int) := by omega
    have HR := Lib.hid h
    clear h
    go_enter Tryd.func10, Tryd.ntmps10
    go_wp2_with fail
    go_loop [3] (fun u => ∃ k : Nat, u = .int .i64 (k : Int) ∧ k ≤ zs.length ∧ Hid (∀ j (hj : j < zs.length), j < k → okP zs[j] = true)) (fun u => zs.length - (intOf u).toNat)
    case atStart => exact ⟨0, rfl, by omega, fun j hj h => absurd h (by omega)⟩
    case round =>
      obtain ⟨k, rfl, hk, HA⟩ := hrel
      by_cases hlk : k < zs.length
      · have k1 : (k : Int) < (zs.length : Int) := by omega
        have k2 : (0 : Int) ≤ (k : Int) := by omega
        obtain ⟨ad, rfl, _, y0⟩ := HR.out.at_ hlk
        obtain ⟨z, hz⟩ : ∃ z, z = zs[k] := ⟨_, rfl⟩
        rw [← hz] at y0
        by_cases hok : 1 ≤ z ∧ z ≤ 11
        · have HA2 : Hid (∀ j (hj : j < zs.length), j < k + 1 → okP zs[j] = true) := fun j hj h => by
            by_cases e : j = k
            · subst e; rw [← hz]; exact decide_eq_true hok
            · exact HA.out j hj (by omega)
          have g1 : ¬ z < 1 := by omega
          have g2 : ¬ 11 < z := by omega
          clear hz hok
          go_wp2_with fail
          go_round
          case rel => exact ⟨k + 1, by go_num, by omega, HA2⟩
          case measure => simp [intOf]; omega
        · have HB : Hid (pipE zs = 1) := pipE_bad h1 hlk (by rw [← hz]; exact decide_eq_false hok)
          have hcs : z < 1 ∨ (¬ z < 1 ∧ 11 < z) := by omega
          clear hz hok
          rcases hcs with g1 | ⟨g1, g2⟩
          all_goals
            go_wp2_with fail
            go_ret
            exact ⟨by rw [HB.out]; rfl, rfl⟩
      · obtain rfl : k = zs.length := by omega
        have HB : Hid (pipE zs = 0) := pipE_ok h1 fun j hj => HA.out j hj hj
        clear hlk
        go_wp2_with fail
        go_ret
        exact ⟨by rw [HB.out]; rfl, rfl⟩
end
end Go.Proofs.YthfolopnjmkllaaDoor
