/- Walk: wickref.Prog. -/
import Derived.Test.YtckinkapbfaceaaPrgC
import Derived.Deep.DeepCutAuto
import Derived.Deep.LoopGhost
namespace Go.Proofs.Ytckinkapbfaceaa
open Go.RowKit
set_option linter.unusedVariables false
set_option linter.unusedSimpArgs false

def thB (n : Nat) (a : Int) : Bool := decide (0 ≤ a ∧ a < (n : Int))
theorem thB_true {n : Nat} {a : Int} : thB n a = true ↔ There n a := by unfold thB There; exact decide_eq_true_iff
theorem stat (n : Nat) (a : Int) : (decide (0 ≤ a) = false ∧ thB n a = false) ∨ (decide (0 ≤ a) = true ∧ decide (a < (n : Int)) = false ∧ thB n a = false) ∨ (decide (0 ≤ a) = true ∧ decide (a < (n : Int)) = true ∧ thB n a = true) := by
  unfold thB
  by_cases h : 0 ≤ a
  · by_cases k : a < (n : Int)
    · exact .inr (.inr ⟨decide_eq_true h, decide_eq_true k, decide_eq_true ⟨h, k⟩⟩)
    · exact .inr (.inl ⟨decide_eq_true h, decide_eq_false k, decide_eq_false fun q => k q.2⟩)
  · exact .inl ⟨decide_eq_false h, decide_eq_false fun q => h q.1⟩
theorem kind7 (k : Int) : (k = 1 ∨ k = 4 ∨ k = 5) ∨ k = 2 ∨ k = 3 ∨ k = 6 ∨ ((k == 1) = false ∧ (k == 2) = false ∧ (k == 3) = false ∧ (k == 4) = false ∧ (k == 5) = false ∧ (k == 6) = false ∧ k ≠ 1 ∧ k ≠ 2 ∧ k ≠ 3 ∧ k ≠ 4 ∧ k ≠ 5 ∧ k ≠ 6) := by
  simp only [beq_eq_false_iff_ne]; omega
section
variable (l : List In) (A : Option Addr) (c B : Nat) (w : World)
set_option maxRecDepth 100000 in
set_option maxHeartbeats 8000000 in
theorem refProg_any (h : InR w B A c l) :
    Calls Try.prog 20 #[.slice A l.length c] w fun e w' => e = .returned (.int .i64 (errP l)) ∧ ∃ q, w' = w.drewN q := by
  by_cases h1 : 400 < l.length
  · have d1 : (400 : Int) < (l.length : Int) := by omega
    have eP : errP l = 2 := by unfold errP; rw [if_pos h1]
    rw [eP]
    clear h eP
    go_enter Try.func20, Try.ntmps20
    go_wp2_with fail
    go_ret
    exact ⟨rfl, 0, rfl⟩
  · have d1 : ¬ (400 : Int) < (l.length : Int) := by omega
    have HR := Lib.hid h
    have HE := Lib.hid (rfl : errP l = errP l)
    clear h
    go_enter Try.func20, Try.ntmps20
    go_wp2_with fail
    go_loopg [3] (l.length) (fun g i wr => ∃ k : Nat, k ≤ l.length ∧ i = .int .i64 k ∧ g = l.length - k ∧ Hid (∃ q, wr = w.drewN q) ∧ Hid (∀ i x, i < k → l[i]? = some x → RightI l.length i x))
    case atStart => exact ⟨0, by omega, rfl, rfl, ⟨0, rfl⟩, fun i x h => absurd h (by omega)⟩
    case round =>
      obtain ⟨k, hk, rfl, hg, HW, HI⟩ := hrel
      have HG := Lib.hid hg
      clear hg
      by_cases hlk : k < l.length
      · obtain ⟨x, hx⟩ : ∃ x, l[k]? = some x := ⟨l[k], List.getElem?_eq_getElem hlk⟩
        have hRw : InR wr B A c l := by obtain ⟨q, e⟩ := HW.out; rw [e]; exact HR.out.drewN q
        obtain ⟨ad, rfl, hbk, x0, x1, x2, x3, x4, x5, x6⟩ := hRw.at_ hx
        have i1 : (k : Int) < (l.length : Int) := by omega
        have i2 : (0 : Int) ≤ (k : Int) := by omega
        have i3 : IntKind.i64.wrap ((k : Int) + 1) = (k : Int) + 1 := IntWalk.i64_in _ (by omega)
        have HRw := Lib.hid hRw
        have HX := Lib.hid hx
        clear hRw hx x3 x4 x5 x6
        go_upto_region 6 with fail
        go_cut [4, 5] from 10 to 74 (fun u v wx => u = .bool (thB l.length x.a) ∧ v = .bool (thB l.length x.b) ∧ ∃ q, wr.drewN q = wx)
        case first =>
          rcases stat l.length x.a with ⟨pa, ta⟩ | ⟨pa, la, ta⟩ | ⟨pa, la, ta⟩ <;> rcases stat l.length x.b with ⟨pb, tb⟩ | ⟨pb, lb, tb⟩ | ⟨pb, lb, tb⟩
          all_goals
            have TA := Lib.hid ta
            have TB := Lib.hid tb
            clear ta tb
            go_quiet (fail)
            go_wp2_with fail
            go_meet
            exact ⟨by rw [TA.out], by rw [TB.out], _, rfl⟩
        case rest =>
          obtain ⟨rfl, rfl, q, hq⟩ := hcut
          have hRv : InR wc B (some ad) c l := by rw [← hq]; exact HRw.out.drewN q
          have HWc : Hid (∃ q, wc = w.drewN q) := by
            obtain ⟨q1, e1⟩ := HW.out
            exact ⟨q1 + q, by rw [← hq, e1]; exact World.drewN_drewN _ _ _⟩
          obtain ⟨ad', ea, _, x0, x1, x2, _⟩ := hRv.at_ HX.out
          injection ea with ea
          subst ea
          clear hq hRv i3
          have HRI : RightI l.length k x → Hid (∀ i x, i < k + 1 → l[i]? = some x → RightI l.length i x) := fun hRI i y hi hy => by
            by_cases e : i = k
            · subst e; rw [HX.out] at hy; cases hy; exact hRI
            · exact HI.out i y (by omega) hy
          have HNE : ¬ RightI l.length k x → Hid (errP l = 1) := fun h => errP_wrong h1 HX.out h
          rcases kind7 x.k with c | c | c | c | ⟨n1, n2, n3, n4, n5, n6, m⟩
          · by_cases hl : k + 1 < l.length
            · have HI2 := HRI (by unfold RightI; exact .inr (.inr (.inl ⟨c, hl⟩)))
              have i4 : (k : Int) < (l.length : Int) - 1 := by omega
              clear HRI HNE
              rcases c with c | c | c
              all_goals
                rw [c] at x0
                clear c
                go_wp2_with fail
                go_roundg (l.length - (k + 1))
                case measure => rw [HG.out]; omega
                case rel => exact ⟨k + 1, by omega, by go_num, rfl, HWc, HI2⟩
            · have HE := HNE (by unfold RightI; omega)
              have i4 : ¬ (k : Int) < (l.length : Int) - 1 := by omega
              clear HRI HNE
              rcases c with c | c | c
              all_goals
                rw [c] at x0
                clear c
                go_wp2_with fail
                go_ret
                exact ⟨by show Ending.returned (.int .i64 1) = _; rw [HE.out], HWc.out⟩
          · cases ta : thB l.length x.a with
            | false =>
              have HE := HNE (by have := mt thB_true.2 (by rw [ta]; decide); unfold RightI; unfold There at this ⊢; omega)
              clear HRI HNE
              rw [c] at x0
              clear c
              go_wp2_with fail
              go_ret
              exact ⟨by show Ending.returned (.int .i64 1) = _; rw [HE.out], HWc.out⟩
            | true =>
              cases tb : thB l.length x.b with
              | false =>
                have HE := HNE (by have := mt thB_true.2 (by rw [tb]; decide); unfold RightI; unfold There at this ⊢; omega)
                clear HRI HNE
                rw [c] at x0
                clear c
                go_wp2_with fail
                go_ret
                exact ⟨by show Ending.returned (.int .i64 1) = _; rw [HE.out], HWc.out⟩
              | true =>
                have HI2 := HRI (by unfold RightI; exact .inl ⟨c, thB_true.1 ta, thB_true.1 tb⟩)
                clear HRI HNE
                rw [c] at x0
                clear c
                go_wp2_with fail
                go_roundg (l.length - (k + 1))
                case measure => rw [HG.out]; omega
                case rel => exact ⟨k + 1, by omega, by go_num, rfl, HWc, HI2⟩
          · cases ta : thB l.length x.a with
            | false =>
              have HE := HNE (by have := mt thB_true.2 (by rw [ta]; decide); unfold RightI; unfold There at this ⊢; omega)
              clear HRI HNE
              rw [c] at x0
              clear c
              go_wp2_with fail
              go_ret
              exact ⟨by show Ending.returned (.int .i64 1) = _; rw [HE.out], HWc.out⟩
            | true =>
              have HI2 := HRI (by unfold RightI; exact .inr (.inl ⟨c, thB_true.1 ta⟩))
              clear HRI HNE
              rw [c] at x0
              clear c
              go_wp2_with fail
              go_roundg (l.length - (k + 1))
              case measure => rw [HG.out]; omega
              case rel => exact ⟨k + 1, by omega, by go_num, rfl, HWc, HI2⟩
          · have HI2 := HRI (by unfold RightI; exact .inr (.inr (.inr c)))
            clear HRI HNE
            rw [c] at x0
            clear c
            go_wp2_with fail
            go_roundg (l.length - (k + 1))
            case measure => rw [HG.out]; omega
            case rel => exact ⟨k + 1, by omega, by go_num, rfl, HWc, HI2⟩
          · have HE := HNE (by unfold RightI; omega)
            clear HRI HNE m
            go_wp2_with fail
            go_ret
            exact ⟨by show Ending.returned (.int .i64 1) = _; rw [HE.out], HWc.out⟩
      · obtain rfl : k = l.length := by omega
        have d2 : ¬ (l.length : Int) < (l.length : Int) := by omega
        have HRP : Hid (RightP l) := fun i x hx => HI.out i x (by obtain ⟨h, _⟩ := List.getElem?_eq_some_iff.1 hx; exact h) hx
        by_cases h2 : l.length = 0
        · have d3 : ((l.length : Int) == 0) = true := by rw [beq_iff_eq]; omega
          have eP : Hid (errP l = 1) := by show errP l = 1; unfold errP; rw [if_neg h1, if_pos h2]
          clear h2
          go_wp2_with fail
          go_ret
          exact ⟨by show Ending.returned (.int .i64 1) = _; rw [eP.out], HW.out⟩
        · have d3 : ((l.length : Int) == 0) = false := by rw [beq_eq_false_iff_ne]; omega
          have eP : Hid (errP l = 0) := by show errP l = 0; unfold errP; rw [if_neg h1, if_neg h2, if_pos HRP.out]
          clear h2
          go_wp2_with fail
          go_ret
          exact ⟨by show Ending.returned (.int .i64 0) = _; rw [eP.out], HW.out⟩
end
end Go.Proofs.Ytckinkapbfaceaa
