/- Instructions that came in. Walks: prog.Check, prog.ready. -/
import Derived.Test.YtckinkapbfaceaaPrgA
import Derived.Deep.QuietTactic
import Derived.BigQuiet
namespace Go.Proofs.Ytckinkapbfaceaa
open Go.RowKit
set_option linter.unusedVariables false
set_option linter.unusedSimpArgs false

/-- instructions to be read at A -/
structure InR (w : World) (B : Nat) (A : Option Addr) (cap : Nat) (l : List In) : Prop where
  rd : Reads w B 7 A l.length (inFlat l)
  hB : B ≤ w.heap.size
  hc : l.length ≤ cap
  ok : ∀ x, x ∈ l → x.s.ok
section
variable {w w' : World} {B : Nat} {A : Option Addr} {cap : Nat} {l : List In}
theorem InR.below (h : InR w B A cap l) (hb : Below B w w') : InR w' B A cap l := ⟨h.rd.below hb, Nat.le_trans h.hB hb.size, h.hc, h.ok⟩
theorem InR.kept (h : InR w B A cap l) (hb : Below w.heap.size w w') : InR w' B A cap l := h.below (hb.mono h.hB)
theorem InR.drew (h : InR w B A cap l) : InR w.drew B A cap l := ⟨h.rd.drew, h.hB, h.hc, h.ok⟩
theorem InR.drewN (h : InR w B A cap l) (n : Nat) : InR (w.drewN n) B A cap l := ⟨h.rd.drewN n, h.hB, h.hc, h.ok⟩
theorem InR.at_ (h : InR w B A cap l) {k : Nat} {x : In} (hx : l[k]? = some x) : ∃ ad, A = some ad ∧ ad.block < B ∧ w.cell? (ad.add (k * 7)) = some (.int .i64 x.k) ∧ w.cell? ⟨(ad.add (k * 7)).block, (ad.add (k * 7)).off + 1, none⟩ = some (.int .i64 x.a) ∧ w.cell? ⟨(ad.add (k * 7)).block, (ad.add (k * 7)).off + 2, none⟩ = some (.int .i64 x.b) ∧
    w.cell? ⟨(ad.add (k * 7)).block, (ad.add (k * 7)).off + 3, none⟩ = some (.int .u64 (x.s.a : Int)) ∧ w.cell? ⟨(ad.add (k * 7)).block, (ad.add (k * 7)).off + 4, none⟩ = some (.int .u64 (x.s.b : Int)) ∧ w.cell? ⟨(ad.add (k * 7)).block, (ad.add (k * 7)).off + 5, none⟩ = some (.int .u64 (x.s.c : Int)) ∧ w.cell? ⟨(ad.add (k * 7)).block, (ad.add (k * 7)).off + 6, none⟩ = some (.int .u64 (x.s.d : Int)) := by
  obtain ⟨hk, _⟩ := List.getElem?_eq_some_iff.1 hx
  obtain ⟨ad, e, hb, hc⟩ := h.rd.2 (by omega)
  have key : ∀ j, j < 7 → w.cell? ((ad.add (k * 7)).add j) = x.cs[j]? := fun j hj => by
    rw [add_of_add]
    have h1 := inFlat_get hx hj
    rw [List.getElem?_eq_getElem (show j < x.cs.length by rw [In.cs_len]; exact hj)] at h1 ⊢
    exact hc _ _ h1
  have sp : ∀ j, 0 < j → (ad.add (k * 7)).add j = ⟨(ad.add (k * 7)).block, (ad.add (k * 7)).off + j, none⟩ := fun j hj => by
    generalize ad.add (k * 7) = p
    unfold Addr.add; rw [if_neg (by omega)]
  refine ⟨ad, e, hb, ?_, ?_, ?_, ?_, ?_, ?_, ?_⟩
  · have := key 0 (by omega)
    rw [add_of_add] at this; exact this
  all_goals rw [← sp _ (by omega)]; exact key _ (by omega)
end

set_option maxHeartbeats 1000000 in
theorem there_any (k n : Int) (g : Nat) (w : World) (h : w.cell? ⟨g, 0, none⟩ = some (.int .i64 n)) :
    Calls Try.prog 51 #[.int .i64 k, .pointer (some ⟨g, 0, none⟩)] w fun e w' => e = .returned (.bool (decide (0 ≤ k ∧ k < n))) ∧ Below w.heap.size w w' := by
  by_cases h1 : 0 ≤ k
  · by_cases h2 : k < n
    · go_enter Try.func51, Try.ntmps51
      go_wp2
      go_ret
      exact ⟨ret_bool (by simp [h1, h2]), Below.refl _ _⟩
    · go_enter Try.func51, Try.ntmps51
      go_wp2
      go_ret
      exact ⟨ret_bool (by simp [h1, h2]), Below.refl _ _⟩
  · go_enter Try.func51, Try.ntmps51
    go_wp2
    go_ret
    exact ⟨ret_bool (by rw [decide_eq_false (show ¬ 0 ≤ k by omega), Bool.false_and]), Below.refl _ _⟩
theorem there_as {k n : Int} {b : Bool} (hb : decide (0 ≤ k ∧ k < n) = b) {g : Nat} {w : World} (h : w.cell? ⟨g, 0, none⟩ = some (.int .i64 n)) :
    Calls Try.prog 51 #[.int .i64 k, .pointer (some ⟨g, 0, none⟩)] w fun e w' => e = .returned (.bool b) ∧ Below w.heap.size w w' := by
  subst hb; exact there_any k n g w h

theorem errP_right {l : List In} (h1 : ¬ 400 < l.length) (h2 : ¬ l.length = 0) (h : RightP l) : errP l = 0 := by unfold errP; rw [if_neg h1, if_neg h2, if_pos h]
theorem errP_wrong {l : List In} (h1 : ¬ 400 < l.length) {i : Nat} {x : In} (hx : l[i]? = some x) (h : ¬ RightI l.length i x) : errP l = 1 := by
  unfold errP; rw [if_neg h1]
  by_cases h2 : l.length = 0
  · rw [if_pos h2]
  · rw [if_neg h2, if_neg fun k => h (k i x hx)]
section
variable (l : List In) (A : Option Addr) (cap B : Nat) (w : World)
set_option maxHeartbeats 4000000 in
theorem prgCheck_any (h : InR w B A cap l) :
    Calls Try.prog 23 #[.slice A l.length cap] w fun e w' => e = .returned (.int .i64 (errP l)) ∧ Below w.heap.size w w' := by
  have hB1 : Below w.heap.size w (w.alloc (.cells #[.int .i64 (l.length : Int)] 3)) := (Below.refl _ _).alloc (Nat.le_refl _) _
  have HB1 := Lib.hid hB1
  by_cases h1 : 400 < l.length
  · have d1 : (400 : Int) < (l.length : Int) := by omega
    have eP : errP l = 2 := by unfold errP; rw [if_pos h1]
    rw [eP]
    clear h hB1 eP
    go_enter Try.func23, Try.ntmps23
    go_wp2_with fail
    go_ret
    exact ⟨rfl, HB1.out⟩
  · have d1 : ¬ (400 : Int) < (l.length : Int) := by omega
    by_cases h2 : l.length = 0
    · have d2 : ((l.length : Int) == 0) = true := by rw [beq_iff_eq]; omega
      have eP : errP l = 1 := by unfold errP; rw [if_neg h1, if_pos h2]
      rw [eP]
      clear h hB1 eP h2
      go_enter Try.func23, Try.ntmps23
      go_wp2_with fail
      go_ret
      exact ⟨rfl, HB1.out⟩
    · have d2 : ((l.length : Int) == 0) = false := by rw [beq_eq_false_iff_ne]; omega
      obtain ⟨W, hW⟩ : ∃ W, W = w.alloc (.cells #[.int .i64 (l.length : Int)] 3) := ⟨_, rfl⟩
      rw [← hW] at hB1 HB1
      have hN : Blk W w.heap.size 3 #[.int .i64 (l.length : Int)] := by rw [hW]; exact Blk.new _ _ _
      have HR := Lib.hid (h.kept hB1)
      have n0 : W.cell? ⟨w.heap.size, 0, none⟩ = some (.int .i64 (l.length : Int)) := hN.cell 0
      have HN := Lib.hid hN
      have HW := Lib.hid hW
      have hlt := hN.lt
      clear h hB1 hN hW
      go_enter Try.func23, Try.ntmps23
      go_wp2_with fail
      rw [← HW.out]
      go_wp2_with fail
      go_loopw [17] (fun i wr => ∃ k : Nat, k ≤ l.length ∧ i = .int .i64 k ∧ Below W.heap.size W wr ∧ Hid (∀ i x, i < k → l[i]? = some x → RightI l.length i x)) (fun i _ => l.length - (intOf i).toNat)
      case atStart => exact ⟨0, by omega, rfl, Below.refl _ _, fun i x h => absurd h (by omega)⟩
      case round =>
        obtain ⟨k, hk, rfl, hb, HI⟩ := hrel
        have hz := hb.size
        have hlr : w.heap.size < wr.heap.size := by omega
        by_cases hlk : k < l.length
        · obtain ⟨x, hx⟩ : ∃ x, l[k]? = some x := ⟨l[k], List.getElem?_eq_getElem hlk⟩
          obtain ⟨ad, rfl, hbk, x0, x1, x2, x3, x4, x5, x6⟩ := (HR.out.kept hb).at_ hx
          have i1 : (k : Int) < (l.length : Int) := by omega
          have i3 : IntKind.i64.wrap ((k : Int) + 1) = (k : Int) + 1 := IntWalk.i64_in _ (by omega)
          obtain ⟨V, hV⟩ : ∃ V, V = wr.alloc (.cells #[.int .i64 x.k, .int .i64 x.a, .int .i64 x.b, .int .u64 (x.s.a : Int), .int .u64 (x.s.b : Int), .int .u64 (x.s.c : Int), .int .u64 (x.s.d : Int)] 35) := ⟨_, rfl⟩
          have hVb : Below wr.heap.size wr V := by rw [hV]; exact (Below.refl _ _).alloc (Nat.le_refl _) _
          have hVk : Blk V wr.heap.size 35 #[.int .i64 x.k, .int .i64 x.a, .int .i64 x.b, .int .u64 (x.s.a : Int), .int .u64 (x.s.b : Int), .int .u64 (x.s.c : Int), .int .u64 (x.s.d : Int)] := by rw [hV]; exact Blk.new _ _ _
          have hVl := hVk.lt
          have HBV := Lib.hid (hb.trans (hVb.mono hz))
          have hNV : Blk V w.heap.size 3 #[.int .i64 (l.length : Int)] := (HN.out.below hb hlt).below hVb hlr
          have m00 : wr.cell? ⟨w.heap.size, 0, none⟩ = some (.int .i64 (l.length : Int)) := (HN.out.below hb hlt).cell 0
          have HV := Lib.hid hV
          have HVK := Lib.hid hVk
          have HNV := Lib.hid hNV
          have k0 : V.cell? ⟨wr.heap.size, 0, none⟩ = some (.int .i64 x.k) := hVk.cell 0
          have k1 : V.cell? ⟨wr.heap.size, 1, none⟩ = some (.int .i64 x.a) := hVk.cell 1
          have k2 : V.cell? ⟨wr.heap.size, 2, none⟩ = some (.int .i64 x.b) := hVk.cell 2
          have m0 : V.cell? ⟨w.heap.size, 0, none⟩ = some (.int .i64 (l.length : Int)) := hNV.cell 0
          clear hb hVb hVk hNV hV
          by_cases hRI : RightI l.length k x
          · have HI2 : Hid (∀ i x, i < k + 1 → l[i]? = some x → RightI l.length i x) := fun i y hi hy => by
              by_cases e : i = k
              · subst e; rw [hx] at hy; cases hy; exact hRI
              · exact HI.out i y (by omega) hy
            unfold RightI There at hRI
            rcases hRI with ⟨c, ha, hb⟩ | ⟨c, ha⟩ | ⟨c, hl⟩ | c
            · rw [c] at x0 k0 HVK HV
              have hda : decide (0 ≤ x.a ∧ x.a < (l.length : Int)) = true := decide_eq_true ha
              have hdb : decide (0 ≤ x.b ∧ x.b < (l.length : Int)) = true := decide_eq_true hb
              clear ha hb c hx
              go_wp2_with fail
              rw [← HV.out]
              go_wp2_with fail
              refine (there_as (b := true) (k := x.a) (n := (l.length : Int)) (by exact hda) m0).mono ?_
              rintro e w1 ⟨rfl, b1⟩
              have HB2 := Lib.hid (HBV.out.trans (b1.mono HBV.out.size))
              have k2 : w1.cell? ⟨wr.heap.size, 2, none⟩ = some (.int .i64 x.b) := (HVK.out.below b1 hVl).cell 2
              have m0 : w1.cell? ⟨w.heap.size, 0, none⟩ = some (.int .i64 (l.length : Int)) := (HNV.out.below b1 (by omega)).cell 0
              clear b1
              go_wp2_with fail
              refine (there_as (b := true) (k := x.b) (n := (l.length : Int)) (by exact hdb) m0).mono ?_
              rintro e w2 ⟨rfl, b2⟩
              have HB3 := Lib.hid (HB2.out.trans (b2.mono HB2.out.size))
              clear b2
              go_wp2_with fail
              go_roundw
              case rel => exact ⟨k + 1, by omega, by go_num, HB3.out, HI2⟩
              case measure => simp [intOf]; omega
            · rw [c] at x0 k0 HVK HV
              have hda : decide (0 ≤ x.a ∧ x.a < (l.length : Int)) = true := decide_eq_true ha
              clear ha c hx
              go_wp2_with fail
              rw [← HV.out]
              go_wp2_with fail
              refine (there_as (b := true) (k := x.a) (n := (l.length : Int)) (by exact hda) m0).mono ?_
              rintro e w1 ⟨rfl, b1⟩
              have HB2 := Lib.hid (HBV.out.trans (b1.mono HBV.out.size))
              have k2 : w1.cell? ⟨wr.heap.size, 2, none⟩ = some (.int .i64 x.b) := (HVK.out.below b1 hVl).cell 2
              have m0 : w1.cell? ⟨w.heap.size, 0, none⟩ = some (.int .i64 (l.length : Int)) := (HNV.out.below b1 (by omega)).cell 0
              clear b1
              go_wp2_with fail
              go_roundw
              case rel => exact ⟨k + 1, by omega, by go_num, HB2.out, HI2⟩
              case measure => simp [intOf]; omega
            · have i2 : (k : Int) + 1 < (l.length : Int) := by omega
              rcases c with c | c | c
              · rw [c] at x0 k0 HVK HV
                clear c hx
                go_wp2_with fail
                rw [← HV.out]
                go_wp2_with fail
                go_roundw
                case rel => exact ⟨k + 1, by omega, by go_num, HBV.out, HI2⟩
                case measure => simp [intOf]; omega
              · rw [c] at x0 k0 HVK HV
                clear c hx
                go_wp2_with fail
                rw [← HV.out]
                go_wp2_with fail
                go_roundw
                case rel => exact ⟨k + 1, by omega, by go_num, HBV.out, HI2⟩
                case measure => simp [intOf]; omega
              · rw [c] at x0 k0 HVK HV
                clear c hx
                go_wp2_with fail
                rw [← HV.out]
                go_wp2_with fail
                go_roundw
                case rel => exact ⟨k + 1, by omega, by go_num, HBV.out, HI2⟩
                case measure => simp [intOf]; omega
            · rw [c] at x0 k0 HVK HV
              clear c hx
              go_wp2_with fail
              rw [← HV.out]
              go_wp2_with fail
              go_roundw
              case rel => exact ⟨k + 1, by omega, by go_num, HBV.out, HI2⟩
              case measure => simp [intOf]; omega
          · have HEP := Lib.hid (errP_wrong h1 hx hRI)
            unfold RightI There at hRI
            have hw : (x.k = 2 ∧ ¬ (0 ≤ x.a ∧ x.a < (l.length : Int))) ∨ (x.k = 2 ∧ (0 ≤ x.a ∧ x.a < (l.length : Int)) ∧ ¬ (0 ≤ x.b ∧ x.b < (l.length : Int))) ∨ (x.k = 3 ∧ ¬ (0 ≤ x.a ∧ x.a < (l.length : Int))) ∨ ((x.k = 1 ∨ x.k = 4 ∨ x.k = 5) ∧ ¬ k + 1 < l.length) ∨ (x.k ≠ 1 ∧ x.k ≠ 2 ∧ x.k ≠ 3 ∧ x.k ≠ 4 ∧ x.k ≠ 5 ∧ x.k ≠ 6) := by omega
            clear hRI
            rcases hw with ⟨c, ha⟩ | ⟨c, ha, hb⟩ | ⟨c, ha⟩ | ⟨c, hl⟩ | ⟨c1, c2, c3, c4, c5, c6⟩
            · rw [c] at x0 k0 HVK HV
              have hda : decide (0 ≤ x.a ∧ x.a < (l.length : Int)) = false := decide_eq_false ha
              clear ha c hx
              go_wp2_with fail
              rw [← HV.out]
              go_wp2_with fail
              refine (there_as (b := false) (k := x.a) (n := (l.length : Int)) (by exact hda) m0).mono ?_
              rintro e w1 ⟨rfl, b1⟩
              have HB2 := Lib.hid (HBV.out.trans (b1.mono HBV.out.size))
              have k2 : w1.cell? ⟨wr.heap.size, 2, none⟩ = some (.int .i64 x.b) := (HVK.out.below b1 hVl).cell 2
              have m0 : w1.cell? ⟨w.heap.size, 0, none⟩ = some (.int .i64 (l.length : Int)) := (HNV.out.below b1 (by omega)).cell 0
              clear b1
              go_wp2_with fail
              go_ret
              exact ⟨by show Ending.returned (.int .i64 1) = _; rw [HEP.out], HB1.out.trans (HB2.out.mono HB1.out.size)⟩
            · rw [c] at x0 k0 HVK HV
              have hda : decide (0 ≤ x.a ∧ x.a < (l.length : Int)) = true := decide_eq_true ha
              have hdb : decide (0 ≤ x.b ∧ x.b < (l.length : Int)) = false := decide_eq_false hb
              clear ha hb c hx
              go_wp2_with fail
              rw [← HV.out]
              go_wp2_with fail
              refine (there_as (b := true) (k := x.a) (n := (l.length : Int)) (by exact hda) m0).mono ?_
              rintro e w1 ⟨rfl, b1⟩
              have HB2 := Lib.hid (HBV.out.trans (b1.mono HBV.out.size))
              have k2 : w1.cell? ⟨wr.heap.size, 2, none⟩ = some (.int .i64 x.b) := (HVK.out.below b1 hVl).cell 2
              have m0 : w1.cell? ⟨w.heap.size, 0, none⟩ = some (.int .i64 (l.length : Int)) := (HNV.out.below b1 (by omega)).cell 0
              clear b1
              go_wp2_with fail
              refine (there_as (b := false) (k := x.b) (n := (l.length : Int)) (by exact hdb) m0).mono ?_
              rintro e w2 ⟨rfl, b2⟩
              have HB3 := Lib.hid (HB2.out.trans (b2.mono HB2.out.size))
              clear b2
              go_wp2_with fail
              go_ret
              exact ⟨by show Ending.returned (.int .i64 1) = _; rw [HEP.out], HB1.out.trans (HB3.out.mono HB1.out.size)⟩
            · rw [c] at x0 k0 HVK HV
              have hda : decide (0 ≤ x.a ∧ x.a < (l.length : Int)) = false := decide_eq_false ha
              clear ha c hx
              go_wp2_with fail
              rw [← HV.out]
              go_wp2_with fail
              refine (there_as (b := false) (k := x.a) (n := (l.length : Int)) (by exact hda) m0).mono ?_
              rintro e w1 ⟨rfl, b1⟩
              have HB2 := Lib.hid (HBV.out.trans (b1.mono HBV.out.size))
              have k2 : w1.cell? ⟨wr.heap.size, 2, none⟩ = some (.int .i64 x.b) := (HVK.out.below b1 hVl).cell 2
              have m0 : w1.cell? ⟨w.heap.size, 0, none⟩ = some (.int .i64 (l.length : Int)) := (HNV.out.below b1 (by omega)).cell 0
              clear b1
              go_wp2_with fail
              go_ret
              exact ⟨by show Ending.returned (.int .i64 1) = _; rw [HEP.out], HB1.out.trans (HB2.out.mono HB1.out.size)⟩
            · have i2 : ¬ (k : Int) + 1 < (l.length : Int) := by omega
              rcases c with c | c | c
              · rw [c] at x0 k0 HVK HV
                clear c hx
                go_wp2_with fail
                rw [← HV.out]
                go_wp2_with fail
                go_ret
                exact ⟨by show Ending.returned (.int .i64 1) = _; rw [HEP.out], HB1.out.trans (HBV.out.mono HB1.out.size)⟩
              · rw [c] at x0 k0 HVK HV
                clear c hx
                go_wp2_with fail
                rw [← HV.out]
                go_wp2_with fail
                go_ret
                exact ⟨by show Ending.returned (.int .i64 1) = _; rw [HEP.out], HB1.out.trans (HBV.out.mono HB1.out.size)⟩
              · rw [c] at x0 k0 HVK HV
                clear c hx
                go_wp2_with fail
                rw [← HV.out]
                go_wp2_with fail
                go_ret
                exact ⟨by show Ending.returned (.int .i64 1) = _; rw [HEP.out], HB1.out.trans (HBV.out.mono HB1.out.size)⟩
            · have q1 : (x.k == 1) = false := beq_eq_false_iff_ne.2 c1
              have q2 : (x.k == 2) = false := beq_eq_false_iff_ne.2 c2
              have q3 : (x.k == 3) = false := beq_eq_false_iff_ne.2 c3
              have q4 : (x.k == 4) = false := beq_eq_false_iff_ne.2 c4
              have q5 : (x.k == 5) = false := beq_eq_false_iff_ne.2 c5
              have q6 : (x.k == 6) = false := beq_eq_false_iff_ne.2 c6
              clear hx
              go_wp2_with fail
              rw [← HV.out]
              go_wp2_with fail
              go_ret
              exact ⟨by show Ending.returned (.int .i64 1) = _; rw [HEP.out], HB1.out.trans (HBV.out.mono HB1.out.size)⟩
        · obtain rfl : k = l.length := by omega
          have eP : errP l = 0 := errP_right h1 h2 fun i x hx => HI.out i x (List.getElem?_eq_some_iff.1 hx).1 hx
          have HE := Lib.hid eP
          have HF := Lib.hid ((HB1.out.trans (hb.mono HB1.out.size)))
          clear hb eP
          go_wp2_with fail
          go_ret
          exact ⟨by show Ending.returned (.int .i64 0) = _; rw [HE.out], HF.out⟩
end
end Go.Proofs.Ytckinkapbfaceaa
