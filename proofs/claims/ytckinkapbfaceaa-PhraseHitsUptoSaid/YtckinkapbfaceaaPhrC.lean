/- Walk: wickref.RightTrie. (Printed by gen_phrc.py.) -/
import Derived.Test.YtckinkapbfaceaaPhrB
import Derived.RegionTactic
import Derived.BigRegion
namespace Go.Proofs.Ytckinkapbfaceaa
open Go.RowKit
set_option linter.unusedVariables false
set_option linter.unusedSimpArgs false

theorem chN_no {l : List Nd} {k : Nat} {u b : Int} {y : Nd} (h : chN l k u b = none) (hy : l[k]? = some y) (hn : ¬ (y.up = u ∧ y.b = b)) : chN l (k + 1) u b = none := by
  unfold chN
  rw [if_neg fun ⟨_, x, hx, hxx⟩ => by rw [hy] at hx; cases hx; exact hn hxx]
  exact h
theorem chN_yes {l : List Nd} {i k : Nat} {u b : Int} {y : Nd} (hy : l[k]? = some y) (h0 : 0 < k) (hk : k < i) (h : y.up = u ∧ y.b = b) : chN l i u b ≠ none := fun hc => chN_none hc k y h0 hk hy h
section
variable (l : List Nd) (A : Option Addr) (cap B : Nat) (words : Int) (w : World)
set_option maxRecDepth 100000 in
set_option maxHeartbeats 8000000 in
theorem righttrie_any (h : NdR w B A cap l) :
    Calls Try.prog 14 #[.slice A l.length cap, .int .i64 words] w fun e w' => e = .returned (.int .i64 (errT l words)) ∧ Below w.heap.size w w' := by
  have HR0 := Lib.hid h
  obtain ⟨R, hE⟩ : ∃ R, R = errT l words := ⟨_, rfl⟩
  rw [← hE]
  have HE := Lib.hid hE
  have hcap := h.hc
  unfold maxLen at hcap
  clear h hE
  by_cases h1 : 400 < l.length
  · have d1 : (400 : Int) < (l.length : Int) := by omega
    have HX : Hid (R = 2) := by show _ = _; rw [HE.out, errT_large (.inl h1)]
    go_enter Try.func14, Try.ntmps14
    go_wp2_with fail
    go_ret
    exact ⟨by rw [HX.out]; rfl, Below.refl _ _⟩
  have d1 : ¬ (400 : Int) < (l.length : Int) := by omega
  by_cases h2 : 30 < words
  · have HX : Hid (R = 2) := by show _ = _; rw [HE.out, errT_large (.inr h2)]
    go_enter Try.func14, Try.ntmps14
    go_wp2_with fail
    go_ret
    exact ⟨by rw [HX.out]; rfl, Below.refl _ _⟩
  have hnl : ¬ (400 < l.length ∨ 30 < words) := by omega
  by_cases h3 : l.length = 0
  · have d2 : ((l.length : Int) == 0) = true := by rw [beq_iff_eq]; omega
    have HX : Hid (R = 1) := by
      show _ = _
      rw [HE.out, errT_root hnl fun ⟨x, hx, _⟩ => by rw [List.getElem?_eq_none (by omega)] at hx; cases hx]
    clear hnl
    go_enter Try.func14, Try.ntmps14
    go_wp2_with fail
    go_ret
    exact ⟨by rw [HX.out]; rfl, Below.refl _ _⟩
  have d2 : ((l.length : Int) == 0) = false := by rw [beq_eq_false_iff_ne]; omega
  have d3 : (0 : Int) < (l.length : Int) := by omega
  obtain ⟨r, hr⟩ : ∃ r, l[0]? = some r := ⟨l[0], List.getElem?_eq_getElem (by omega)⟩
  obtain ⟨ad, rfl, hbk, x0, x1, x2, x3⟩ := HR0.out.at_ hr
  rw [show ad.add (0 * 4) = ad from by unfold Addr.add; simp] at x0 x1 x2 x3
  by_cases h4 : r.up = 0
  rotate_left
  · have e4 : (r.up != 0) = true := bne_iff_ne.2 h4
    have HX : Hid (R = 1) := by
      show _ = _
      rw [HE.out, errT_root hnl fun ⟨x, hx, h, _⟩ => by rw [hr] at hx; cases hx; exact h4 h]
    clear h4 hr hnl
    go_enter Try.func14, Try.ntmps14
    go_wp2_with fail
    go_ret
    exact ⟨by rw [HX.out]; rfl, Below.refl _ _⟩
  have e4 : (r.up != 0) = false := by rw [h4]; rfl
  by_cases h5 : r.fail = 0
  rotate_left
  · have e5 : (r.fail != 0) = true := bne_iff_ne.2 h5
    have HX : Hid (R = 1) := by
      show _ = _
      rw [HE.out, errT_root hnl fun ⟨x, hx, _, h⟩ => by rw [hr] at hx; cases hx; exact h5 h]
    clear h5 h4 hr hnl
    go_enter Try.func14, Try.ntmps14
    go_wp2_with fail
    go_ret
    exact ⟨by rw [HX.out]; rfl, Below.refl _ _⟩
  have e5 : (r.fail != 0) = false := by rw [h5]; rfl
  have HRoot : Hid (Root0 l) := ⟨r, hr, h4, h5⟩
  have HNL := Lib.hid hnl
  clear h4 h5 hr hnl
  go_enter Try.func14, Try.ntmps14
  go_wp2_with fail
  go_loopw [5] (fun u wr => ∃ i : Nat, u = .int .i64 (i : Int) ∧ i ≤ l.length ∧ Below w.heap.size w wr ∧ Hid (GoodTo l words i)) (fun u _ => l.length - (intOf u).toNat)
  case atStart => exact ⟨0, rfl, by omega, Below.refl _ _, fun i x h => absurd h (by omega)⟩
  case round =>
    obtain ⟨i, rfl, hi, hB, HG⟩ := hrel
    clear x0 x1 x2 x3
    have HB := Lib.hid hB
    by_cases hli : i < l.length
    · obtain ⟨x, hx⟩ : ∃ x, l[i]? = some x := ⟨l[i], List.getElem?_eq_getElem hli⟩
      obtain ⟨ad', e', _, x0, x1, x2, x3⟩ := (HR0.out.kept hB).at_ hx
      obtain rfl : ad = ad' := by cases e'; rfl
      have i1 : (i : Int) < (l.length : Int) := by omega
      have HX := Lib.hid hx
      clear hB e' hx
      have hways : i = 0 ∨ (0 < i ∧ x.up < 0) ∨ (0 < i ∧ ¬ x.up < 0 ∧ (i : Int) ≤ x.up) ∨ (0 < i ∧ ¬ x.up < 0 ∧ ¬ (i : Int) ≤ x.up ∧ x.fail < 0) ∨ (0 < i ∧ ¬ x.up < 0 ∧ ¬ (i : Int) ≤ x.up ∧ ¬ x.fail < 0 ∧ (i : Int) ≤ x.fail) ∨ (0 < i ∧ ¬ x.up < 0 ∧ ¬ (i : Int) ≤ x.up ∧ ¬ x.fail < 0 ∧ ¬ (i : Int) ≤ x.fail) := by omega
      rcases hways with hi0 | ⟨hi0, hw⟩ | ⟨hi0, hw1, hw⟩ | ⟨hi0, hw1, hw2, hw⟩ | ⟨hi0, hw1, hw2, hw3, hw⟩ | ⟨hi0, hw1, hw2, hw3, hw4⟩
      · have i0 : ¬ (0 : Int) < (i : Int) := by omega
        have i2 : ¬ (1 : Int) < (i : Int) := by omega
        have HI0 := Lib.hid hi0
        clear hi0
        go_wp2_with fail
        obtain ⟨wm, rfl⟩ : ∃ wm : World, wm = wr := ⟨_, rfl⟩
        go_loopw [6] (fun u wr => u = .int .i64 1 ∧ Below w.heap.size w wr) (fun u _ => 0)
        case atStart => exact ⟨rfl, HB.out⟩
        case round =>
          obtain ⟨rfl, hB⟩ := hrel
          have HBr := Lib.hid hB
          obtain ⟨ad', e', _, x0, x1, x2, x3⟩ := (HR0.out.kept hB).at_ HX.out
          obtain rfl : ad = ad' := by cases e'; rfl
          clear e' hB
          go_wp2_with fail
          obtain ⟨wm, rfl⟩ : ∃ wm : World, wm = wr := ⟨_, rfl⟩
          clear x0 x1 x2 x3
          go_loopw [7] (fun u wr => ∃ j : Nat, u = .int .i64 (j : Int) ∧ j ≤ x.ends.length ∧ Below w.heap.size w wr ∧ Hid (∀ m (hm : m < x.ends.length), m < j → ¬ (x.ends[m] < 0 ∨ words ≤ x.ends[m]))) (fun u _ => x.ends.length - (intOf u).toNat)
          case atStart => exact ⟨0, rfl, by omega, HBr.out, fun m hm h => absurd h (by omega)⟩
          case round =>
            obtain ⟨j, rfl, hj, hB, HN⟩ := hrel
            have HB2 := Lib.hid hB
            have hRr := HR0.out.kept hB
            obtain ⟨ad', e', _, x0, x1, x2, x3⟩ := hRr.at_ HX.out
            obtain rfl : ad = ad' := by cases e'; rfl
            have hce := (hRr.ok x (List.mem_of_getElem? HX.out)).ce
            unfold maxLen at hce
            clear e'
            by_cases hlj : j < x.ends.length
            · have j1 : (j : Int) < (x.ends.length : Int) := by omega
              obtain ⟨ed, hed, _, z0⟩ := hRr.end_ HX.out hlj
              rw [hed] at x3
              obtain ⟨E, hEE⟩ : ∃ E, E = x.ends[j] := ⟨_, rfl⟩
              rw [← hEE] at z0
              have HEE := Lib.hid hEE
              clear hed hB hRr hEE
              by_cases hb1 : E < 0
              · have HR1 : Hid (R = 1) := by
                  show _ = _
                  rw [HE.out, errT_bad HNL.out HX.out (.inl ⟨x.ends[j], List.getElem_mem hlj, by rw [← HEE.out]; exact .inl hb1⟩)]
                go_wp2_with fail
                go_ret
                exact ⟨by rw [HR1.out]; rfl, HB2.out⟩
              · by_cases hb2 : words ≤ E
                · have HR1 : Hid (R = 1) := by
                    show _ = _
                    rw [HE.out, errT_bad HNL.out HX.out (.inl ⟨x.ends[j], List.getElem_mem hlj, by rw [← HEE.out]; exact .inr hb2⟩)]
                  go_wp2_with fail
                  go_ret
                  exact ⟨by rw [HR1.out]; rfl, HB2.out⟩
                · have HN2 : Hid (∀ m (hm : m < x.ends.length), m < j + 1 → ¬ (x.ends[m] < 0 ∨ words ≤ x.ends[m])) := fun m hm h => by
                    by_cases e : m = j
                    · subst e; rw [← HEE.out]; omega
                    · exact HN.out m hm (by omega)
                  go_wp2_with fail
                  go_roundw
                  case rel => exact ⟨j + 1, by go_num, by omega, HB2.out, HN2⟩
                  case measure => simp [intOf]; omega
            · obtain rfl : j = x.ends.length := by omega
              have HEn : Hid (¬ ∃ e ∈ x.ends, e < 0 ∨ words ≤ e) := fun ⟨z, hz, hb⟩ => by
                obtain ⟨m, hm, rfl⟩ := List.mem_iff_getElem.1 hz
                exact HN.out m hm hm hb
              clear hlj hB hRr
              have HG2 : Hid (GoodTo l words (i + 1)) := HG.out.next HX.out fun hb => by
                rcases hb with hb | ⟨h00, hb | hb | hb | hb | hb⟩
                · exact HEn.out hb
                all_goals (have := HI0.out; omega)
              go_wp2_with fail
              go_roundw
              case rel => exact ⟨i + 1, by go_num, by omega, HB2.out, HG2⟩
              case measure => simp [intOf]; omega
      · have HR1 : Hid (R = 1) := by
          show _ = _
          rw [HE.out, errT_bad HNL.out HX.out (.inr ⟨hi0, .inl hw⟩)]
        have i0 : (0 : Int) < (i : Int) := by omega
        go_wp2_with fail
        go_ret
        exact ⟨by rw [HR1.out]; rfl, HB.out⟩
      · have HR1 : Hid (R = 1) := by
          show _ = _
          rw [HE.out, errT_bad HNL.out HX.out (.inr ⟨hi0, .inr (.inl hw)⟩)]
        have i0 : (0 : Int) < (i : Int) := by omega
        go_wp2_with fail
        go_ret
        exact ⟨by rw [HR1.out]; rfl, HB.out⟩
      · have HR1 : Hid (R = 1) := by
          show _ = _
          rw [HE.out, errT_bad HNL.out HX.out (.inr ⟨hi0, .inr (.inr (.inl hw))⟩)]
        have i0 : (0 : Int) < (i : Int) := by omega
        go_wp2_with fail
        go_ret
        exact ⟨by rw [HR1.out]; rfl, HB.out⟩
      · have HR1 : Hid (R = 1) := by
          show _ = _
          rw [HE.out, errT_bad HNL.out HX.out (.inr ⟨hi0, .inr (.inr (.inr (.inl hw)))⟩)]
        have i0 : (0 : Int) < (i : Int) := by omega
        go_wp2_with fail
        go_ret
        exact ⟨by rw [HR1.out]; rfl, HB.out⟩
      · have i0 : (0 : Int) < (i : Int) := by omega
        have i2 : (0 : Int) ≤ (i : Int) := by omega
        go_wp2_with fail
        obtain ⟨wm, rfl⟩ : ∃ wm : World, wm = wr := ⟨_, rfl⟩
        clear x0 x1 x2 x3
        go_loopw [6] (fun u wr => ∃ k : Nat, u = .int .i64 (k : Int) ∧ 1 ≤ k ∧ k ≤ i ∧ Below w.heap.size w wr ∧ Hid (chN l k x.up x.b = none)) (fun u _ => i - (intOf u).toNat)
        case atStart => exact ⟨1, rfl, by omega, by omega, HB.out, by show chN l (0 + 1) _ _ = none; rw [chN_one]; rfl⟩
        case round =>
          obtain ⟨k, rfl, hk1, hk, hB, HC⟩ := hrel
          have HBr := Lib.hid hB
          have hRr := HR0.out.kept hB
          obtain ⟨ad', e', _, x0, x1, x2, x3⟩ := hRr.at_ HX.out
          obtain rfl : ad = ad' := by cases e'; rfl
          clear e'
          by_cases hlk : k < i
          · have k1 : (k : Int) < (i : Int) := by omega
            have k2 : (k : Int) < (l.length : Int) := by omega
            have k3 : (0 : Int) ≤ (k : Int) := by omega
            obtain ⟨y, hy⟩ : ∃ y, l[k]? = some y := ⟨l[k], List.getElem?_eq_getElem (by omega)⟩
            obtain ⟨ad', e', _, y0, y1, y2, y3⟩ := hRr.at_ hy
            obtain rfl : ad = ad' := by cases e'; rfl
            have HY := Lib.hid hy
            clear e' hB hRr hy
            by_cases hu : y.up = x.up
            · by_cases hbb : y.b = x.b
              · have HR1 : Hid (R = 1) := by
                  show _ = _
                  rw [HE.out, errT_bad HNL.out HX.out (.inr ⟨hi0, .inr (.inr (.inr (.inr (chN_yes HY.out (by omega) hlk ⟨hu, hbb⟩))))⟩)]
                have e1 : (y.up == x.up) = true := by rw [beq_iff_eq]; exact hu
                have e2 : (y.b == x.b) = true := by rw [beq_iff_eq]; exact hbb
                clear hu hbb
                go_wp2_with fail
                go_region
                all_goals go_wp2_with fail
                all_goals go_ret
                exact ⟨by rw [HR1.out]; rfl, HBr.out.drew⟩
              · have HC2 : Hid (chN l (k + 1) x.up x.b = none) := chN_no HC.out HY.out fun h => hbb h.2
                have e1 : (y.up == x.up) = true := by rw [beq_iff_eq]; exact hu
                have e2 : (y.b == x.b) = false := by rw [beq_eq_false_iff_ne]; exact hbb
                clear hu hbb
                go_wp2_with fail
                go_region
                all_goals go_wp2_with fail
                all_goals go_roundw
                case rel => exact ⟨k + 1, by go_num, by omega, by omega, HBr.out.drew, HC2⟩
                case measure => simp [intOf]; omega
            · have HC2 : Hid (chN l (k + 1) x.up x.b = none) := chN_no HC.out HY.out fun h => hu h.1
              have e1 : (y.up == x.up) = false := by rw [beq_eq_false_iff_ne]; exact hu
              clear hu
              go_wp2_with fail
              go_region
              all_goals go_wp2_with fail
              all_goals go_roundw
              case rel => exact ⟨k + 1, by go_num, by omega, by omega, HBr.out.drew, HC2⟩
              case measure => simp [intOf]; omega
          · have HCI : Hid (chN l i x.up x.b = none) := by
              show _ = _
              have : k = i := by omega
              rw [← this]; exact HC.out
            have k1 : ¬ (k : Int) < (i : Int) := by omega
            clear hB hRr
            go_wp2_with fail
            obtain ⟨wm, rfl⟩ : ∃ wm : World, wm = wr := ⟨_, rfl⟩
            clear x0 x1 x2 x3
            go_loopw [7] (fun u wr => ∃ j : Nat, u = .int .i64 (j : Int) ∧ j ≤ x.ends.length ∧ Below w.heap.size w wr ∧ Hid (∀ m (hm : m < x.ends.length), m < j → ¬ (x.ends[m] < 0 ∨ words ≤ x.ends[m]))) (fun u _ => x.ends.length - (intOf u).toNat)
            case atStart => exact ⟨0, rfl, by omega, HBr.out, fun m hm h => absurd h (by omega)⟩
            case round =>
              obtain ⟨j, rfl, hj, hB, HN⟩ := hrel
              have HB2 := Lib.hid hB
              have hRr := HR0.out.kept hB
              obtain ⟨ad', e', _, x0, x1, x2, x3⟩ := hRr.at_ HX.out
              obtain rfl : ad = ad' := by cases e'; rfl
              have hce := (hRr.ok x (List.mem_of_getElem? HX.out)).ce
              unfold maxLen at hce
              clear e'
              by_cases hlj : j < x.ends.length
              · have j1 : (j : Int) < (x.ends.length : Int) := by omega
                obtain ⟨ed, hed, _, z0⟩ := hRr.end_ HX.out hlj
                rw [hed] at x3
                obtain ⟨E, hEE⟩ : ∃ E, E = x.ends[j] := ⟨_, rfl⟩
                rw [← hEE] at z0
                have HEE := Lib.hid hEE
                clear hed hB hRr hEE
                by_cases hb1 : E < 0
                · have HR1 : Hid (R = 1) := by
                    show _ = _
                    rw [HE.out, errT_bad HNL.out HX.out (.inl ⟨x.ends[j], List.getElem_mem hlj, by rw [← HEE.out]; exact .inl hb1⟩)]
                  go_wp2_with fail
                  go_ret
                  exact ⟨by rw [HR1.out]; rfl, HB2.out⟩
                · by_cases hb2 : words ≤ E
                  · have HR1 : Hid (R = 1) := by
                      show _ = _
                      rw [HE.out, errT_bad HNL.out HX.out (.inl ⟨x.ends[j], List.getElem_mem hlj, by rw [← HEE.out]; exact .inr hb2⟩)]
                    go_wp2_with fail
                    go_ret
                    exact ⟨by rw [HR1.out]; rfl, HB2.out⟩
                  · have HN2 : Hid (∀ m (hm : m < x.ends.length), m < j + 1 → ¬ (x.ends[m] < 0 ∨ words ≤ x.ends[m])) := fun m hm h => by
                      by_cases e : m = j
                      · subst e; rw [← HEE.out]; omega
                      · exact HN.out m hm (by omega)
                    go_wp2_with fail
                    go_roundw
                    case rel => exact ⟨j + 1, by go_num, by omega, HB2.out, HN2⟩
                    case measure => simp [intOf]; omega
              · obtain rfl : j = x.ends.length := by omega
                have HEn : Hid (¬ ∃ e ∈ x.ends, e < 0 ∨ words ≤ e) := fun ⟨z, hz, hb⟩ => by
                  obtain ⟨m, hm, rfl⟩ := List.mem_iff_getElem.1 hz
                  exact HN.out m hm hm hb
                clear hlj hB hRr
                have HG2 : Hid (GoodTo l words (i + 1)) := HG.out.next HX.out fun hb => by
                  rcases hb with hb | ⟨h00, hb | hb | hb | hb | hb⟩
                  · exact HEn.out hb
                  all_goals first | omega | exact hb HCI.out
                go_wp2_with fail
                go_roundw
                case rel => exact ⟨i + 1, by go_num, by omega, HB2.out, HG2⟩
                case measure => simp [intOf]; omega
    · obtain rfl : i = l.length := by omega
      have HR1 : Hid (R = 0) := by show _ = _; rw [HE.out, errT_good HNL.out HRoot.out HG.out]
      clear hli hB
      go_wp2_with fail
      go_ret
      exact ⟨by rw [HR1.out]; rfl, HB.out⟩
end
end Go.Proofs.Ytckinkapbfaceaa
