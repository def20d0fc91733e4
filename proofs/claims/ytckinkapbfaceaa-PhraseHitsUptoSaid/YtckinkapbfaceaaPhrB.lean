/- Walk: phrase.Check. (Printed by gen_phrb.py.) -/
import Derived.Test.YtckinkapbfaceaaPhrA
import Derived.Test.YtckinkapbfaceaaEdg
namespace Go.Proofs.Ytckinkapbfaceaa
open Go.RowKit
set_option linter.unusedVariables false
set_option linter.unusedSimpArgs false

theorem chN_put {l : List Nd} {k : Nat} {x : Nd} (hx : l[k]? = some x) (hk : 0 < k) : chN l (k + 1) = putF (chN l k) x.up x.b k := by
  funext u b
  unfold putF
  conv => lhs; unfold chN
  by_cases e : u = x.up ∧ b = x.b
  · rw [if_pos e, if_pos ⟨hk, x, hx, e.1.symm, e.2.symm⟩]
  · rw [if_neg e, if_neg fun h => by
      obtain ⟨_, y, hy, h1, h2⟩ := h
      rw [hx] at hy; cases hy
      exact e ⟨h1.symm, h2.symm⟩]
theorem chN_one (l : List Nd) : chN l (0 + 1) = chN l 0 := by
  funext u b
  conv => lhs; unfold chN
  rw [if_neg fun h => absurd h.1 (Nat.lt_irrefl _)]
theorem chN_zero (l : List Nd) : chN l 0 = fun _ _ => none := by funext u b; rfl
theorem wf_nat {k : Nat} (h : k ≤ 400) : (Lit.int .i64 (k : Int)).wf = true := WalkArith.wf_i64 (by omega)
/-- the box of words stays, the map holds the edges of the first k nodes -/
structure CkSt (w wr : World) (g k : Nat) (l : List Nd) (words : Int) : Prop where
  be : Below w.heap.size w wr
  n0 : Blk wr w.heap.size 3 #[.int .i64 words]
  em : EdgeM wr g k (chN l k)
theorem CkSt.kept {w wr w' : World} {g k : Nat} {l : List Nd} {words : Int} (h : CkSt w wr g k l words) (hb : Below wr.heap.size wr w') : CkSt w w' g k l words :=
  ⟨h.be.trans (hb.mono h.be.size), h.n0.below hb h.n0.lt, h.em.kept hb⟩
theorem CkSt.next {w wr w' : World} {g k : Nat} {l : List Nd} {words : Int} {x : Nd} (h : CkSt w wr g k l words) (hx : l[k]? = some x) (hk : 0 < k) (hw : w.heap.size < g) (he : EdgeM w' g (k + 1) (putF (chN l k) x.up x.b k)) (hg : wr.grownBy w' (some g)) : CkSt w w' g (k + 1) l words :=
  ⟨h.be.grown hg h.be.size (fun b hb => by cases hb; omega), h.n0.grown hg (by intro e; cases e; omega), by rw [chN_put hx hk]; exact he⟩
section
variable (l : List Nd) (A : Option Addr) (cap B : Nat) (words : Int) (w : World)
set_option maxRecDepth 100000 in
set_option maxHeartbeats 4000000 in
theorem pcheck_any (h : NdR w B A cap l) :
    Calls Try.prog 17 #[.slice A l.length cap, .int .i64 words] w fun e w' => e = .returned (.int .i64 (errT l words)) ∧ Below w.heap.size w w' := by
  obtain ⟨W, hW⟩ : ∃ W, w.alloc (.cells #[.int .i64 words] 3) = W := ⟨_, rfl⟩
  have hB1 : Below w.heap.size w W := by rw [← hW]; exact (Below.refl _ _).alloc (Nat.le_refl _) _
  have hN : Blk W w.heap.size 3 #[.int .i64 words] := by rw [← hW]; exact Blk.new _ _ _
  have HB1 := Lib.hid hB1
  have hR := h.kept hB1
  have HR := Lib.hid hR
  have HR0 := Lib.hid h
  have n0 : W.cell? ⟨w.heap.size, 0, none⟩ = some (.int .i64 words) := hN.cell 0
  have HN := Lib.hid hN
  have hlt := hN.lt
  obtain ⟨R, hE⟩ : ∃ R, R = errT l words := ⟨_, rfl⟩
  rw [← hE]
  have HE := Lib.hid hE
  have hcap := h.hc
  unfold maxLen at hcap
  clear h hB1 hN hE
  have hmm := @run_makeMap Try.prog
  by_cases h1 : 400 < l.length
  · have d1 : (400 : Int) < (l.length : Int) := by omega
    have HX : Hid (R = 2) := by show _ = _; rw [HE.out, errT_large (.inl h1)]
    clear hR
    go_enter Try.func17, Try.ntmps17
    go_wp2_with fail
    go_ret
    exact ⟨by rw [HX.out]; rfl, HB1.out⟩
  have d1 : ¬ (400 : Int) < (l.length : Int) := by omega
  by_cases h2 : 30 < words
  · have HX : Hid (R = 2) := by show _ = _; rw [HE.out, errT_large (.inr h2)]
    clear hR
    go_enter Try.func17, Try.ntmps17
    go_wp2_with fail
    go_ret
    exact ⟨by rw [HX.out]; rfl, HB1.out⟩
  have hnl : ¬ (400 < l.length ∨ 30 < words) := by omega
  by_cases h3 : l.length = 0
  · have d2 : ((l.length : Int) == 0) = true := by rw [beq_iff_eq]; omega
    have HX : Hid (R = 1) := by
      show _ = _
      rw [HE.out, errT_root hnl fun ⟨x, hx, _⟩ => by rw [List.getElem?_eq_none (by omega)] at hx; cases hx]
    clear hR
    go_enter Try.func17, Try.ntmps17
    go_wp2_with fail
    go_ret
    exact ⟨by rw [HX.out]; rfl, HB1.out⟩
  have d2 : ((l.length : Int) == 0) = false := by rw [beq_eq_false_iff_ne]; omega
  have d3 : (0 : Int) < (l.length : Int) := by omega
  obtain ⟨r, hr⟩ : ∃ r, l[0]? = some r := ⟨l[0], List.getElem?_eq_getElem (by omega)⟩
  obtain ⟨ad, rfl, hbk, x0, x1, x2, x3⟩ := hR.at_ hr
  rw [show ad.add (0 * 4) = ad from by unfold Addr.add; simp] at x0 x1 x2 x3
  clear hR
  by_cases h4 : r.up = 0
  rotate_left
  · have e4 : (r.up != 0) = true := bne_iff_ne.2 h4
    have HX : Hid (R = 1) := by
      show _ = _
      rw [HE.out, errT_root hnl fun ⟨x, hx, h, _⟩ => by rw [hr] at hx; cases hx; exact h4 h]
    clear h4 hr hnl
    go_enter Try.func17, Try.ntmps17
    go_wp2_with fail
    go_ret
    exact ⟨by rw [HX.out]; rfl, HB1.out⟩
  have e4 : (r.up != 0) = false := by rw [h4]; rfl
  by_cases h5 : r.fail = 0
  rotate_left
  · have e5 : (r.fail != 0) = true := bne_iff_ne.2 h5
    have HX : Hid (R = 1) := by
      show _ = _
      rw [HE.out, errT_root hnl fun ⟨x, hx, _, h⟩ => by rw [hr] at hx; cases hx; exact h5 h]
    clear h5 h4 hr hnl
    go_enter Try.func17, Try.ntmps17
    go_wp2_with fail
    go_ret
    exact ⟨by rw [HX.out]; rfl, HB1.out⟩
  have e5 : (r.fail != 0) = false := by rw [h5]; rfl
  have HRoot : Hid (Root0 l) := ⟨r, hr, h4, h5⟩
  have HNL := Lib.hid hnl
  have hst : CkSt w (W.alloc (.map #[] 0)) W.heap.size 0 l words := ⟨HB1.out.alloc HB1.out.size _, HN.out.alloc _, by rw [chN_zero]; exact EdgeM.made W⟩
  have HST := Lib.hid hst
  clear h4 h5 hr hst
  go_enter Try.func17, Try.ntmps17
  go_wp2_with fail
  go_loopw [37] (fun u wr => ∃ k : Nat, u = .int .i64 (k : Int) ∧ k ≤ l.length ∧ CkSt w wr W.heap.size k l words ∧ Hid (GoodTo l words k)) (fun u _ => l.length - (intOf u).toNat)
  case atStart => exact ⟨0, rfl, by omega, HST.out, fun i x h => absurd h (by omega)⟩
  case round =>
    obtain ⟨k, rfl, hk, hS, HG⟩ := hrel
    clear x0 x1 x2 x3 n0
    have hR := HR0.out.kept hS.be
    by_cases hlk : k < l.length
    · obtain ⟨x, hx⟩ : ∃ x, l[k]? = some x := ⟨l[k], List.getElem?_eq_getElem hlk⟩
      obtain ⟨ad', e', hbk', x0, x1, x2, x3⟩ := hR.at_ hx
      obtain rfl : ad = ad' := by cases e'; rfl
      have hok := hR.ok x (List.mem_of_getElem? hx)
      have i1 : (k : Int) < (l.length : Int) := by omega
      have i3 : IntKind.i64.wrap ((k : Int) + 1) = (k : Int) + 1 := IntWalk.i64_in _ (by omega)
      obtain ⟨V, hV⟩ : ∃ V, V = wr.alloc (.cells #[.int .u8 x.b, .int .i64 x.up, .int .i64 x.fail, .slice x.E x.ends.length x.ce] 86) := ⟨_, rfl⟩
      have hVb : Below wr.heap.size wr V := by rw [hV]; exact (Below.refl _ _).alloc (Nat.le_refl _) _
      have hVk : Blk V wr.heap.size 86 #[.int .u8 x.b, .int .i64 x.up, .int .i64 x.fail, .slice x.E x.ends.length x.ce] := by rw [hV]; exact Blk.new _ _ _
      have hSV := hS.kept hVb
      have HSV := Lib.hid hSV
      have HV := Lib.hid hV
      have HVK := Lib.hid hVk
      have k3 : V.cell? ⟨wr.heap.size, 3, none⟩ = some (.slice x.E x.ends.length x.ce) := hVk.cell 3
      have C := conE_any words x.ends x.E x.ce B w.heap.size V (hok.rd.below (hVb.mono hR.hB)) (Nat.le_trans hR.hB hVb.size) hok.ce hSV.n0.lt (hSV.n0.cell 0)
      have HUp := Lib.hid hok.up
      have HBw := Lib.hid hok.b
      have HX := Lib.hid hx
      cases hv : x.ends.any (badE words) with
      | true =>
        rw [hv] at C
        have C := Lib.hid C
        have HR1 : Hid (R = 1) := by
          show _ = _
          obtain ⟨z, hz, hbz⟩ := List.any_eq_true.1 hv
          rw [HE.out, errT_bad HNL.out hx (.inl ⟨z, hz, of_decide_eq_true hbz⟩)]
        clear hv hok hx hSV hS hVb hVk hV hR e' hnl
        go_wp2_with fail
        rw [← HV.out]
        go_wp2_with fail
        refine C.out.mono ?_
        rintro e w1 ⟨rfl, b1⟩
        have HS1 := Lib.hid (HSV.out.kept b1)
        clear b1
        go_wp2_with fail
        go_ret
        exact ⟨by rw [HR1.out]; rfl, HS1.out.be⟩
      | false =>
        rw [hv] at C
        have C := Lib.hid C
        have HEn : Hid (¬ ∃ e ∈ x.ends, e < 0 ∨ words ≤ e) := fun ⟨z, hz, hb⟩ => by
          have := List.any_eq_false.1 hv z hz
          unfold badE at this
          rw [decide_eq_true hb] at this
          exact this rfl
        clear hv hok hSV hS hVb hVk hV hR e' hnl
        by_cases hk0 : k = 0
        · have e0 : ((k : Int) == 0) = true := by rw [beq_iff_eq]; omega
          have HG2 : Hid (GoodTo l words (k + 1)) := HG.out.next hx fun hb => by
            rcases hb with hb | ⟨hb, _⟩
            · exact HEn.out hb
            · omega
          clear hx
          have HK := Lib.hid hk0
          clear hk0
          go_wp2_with fail
          rw [← HV.out]
          go_wp2_with fail
          refine C.out.mono ?_
          rintro e w1 ⟨rfl, b1⟩
          have HS1 := Lib.hid (HSV.out.kept b1)
          clear b1
          go_wp2_with fail
          go_roundw
          case rel => exact ⟨k + 1, by go_num, by omega, ⟨HS1.out.be, HS1.out.n0, by
            have h := HS1.out.em
            rw [HK.out] at h ⊢
            rw [chN_one]
            obtain ⟨D, q1, q2⟩ := h
            exact ⟨D, q1.mono (by omega), q2⟩⟩, HG2⟩
          case measure => simp [intOf]; omega
        · have e0 : ((k : Int) == 0) = false := by rw [beq_eq_false_iff_ne]; omega
          have HK : Hid (0 < k) := by show 0 < k; omega
          cases hc : chN l k x.up x.b with
          | some j =>
            have HR1 : Hid (R = 1) := by
              show _ = _
              rw [HE.out, errT_bad HNL.out hx (.inr ⟨HK.out, .inr (.inr (.inr (.inr (by rw [hc]; simp))))⟩)]
            have HC := Lib.hid hc
            clear hc hx hk0
            go_wp2_with fail
            rw [← HV.out]
            go_wp2_with fail
            refine C.out.mono ?_
            rintro e w1 ⟨rfl, b1⟩
            have HS1 := Lib.hid (HSV.out.kept b1)
            have hV1 := HVK.out.below b1 HVK.out.lt
            have k0 : w1.cell? ⟨wr.heap.size, 0, none⟩ = some (.int .u8 x.b) := hV1.cell 0
            have k1 : w1.cell? ⟨wr.heap.size, 1, none⟩ = some (.int .i64 x.up) := hV1.cell 1
            have k2 : w1.cell? ⟨wr.heap.size, 2, none⟩ = some (.int .i64 x.fail) := hV1.cell 2
            clear b1 hV1 k3
            go_wp2_with (first | (at_lookup; refine EdgeM.look HS1.out.em rfl _ _ rfl rfl _ _ rfl HUp.out HBw.out _ HC.out ?_) | fail)
            go_ret
            exact ⟨by rw [HR1.out]; rfl, HS1.out.be⟩
          | none =>
            have HC := Lib.hid hc
            have hways : x.up < 0 ∨ (¬ x.up < 0 ∧ (k : Int) ≤ x.up) ∨ (¬ x.up < 0 ∧ ¬ (k : Int) ≤ x.up ∧ x.fail < 0) ∨ (¬ x.up < 0 ∧ ¬ (k : Int) ≤ x.up ∧ ¬ x.fail < 0 ∧ (k : Int) ≤ x.fail) ∨ (¬ x.up < 0 ∧ ¬ (k : Int) ≤ x.up ∧ ¬ x.fail < 0 ∧ ¬ (k : Int) ≤ x.fail) := by omega
            rcases hways with hw | ⟨hw1, hw⟩ | ⟨hw1, hw2, hw⟩ | ⟨hw1, hw2, hw3, hw⟩ | ⟨hw1, hw2, hw3, hw4⟩
            · have HR1 : Hid (R = 1) := by
                show _ = _
                rw [HE.out, errT_bad HNL.out hx (.inr ⟨HK.out, .inl hw⟩)]
              clear hc hx hk0
              go_wp2_with fail
              rw [← HV.out]
              go_wp2_with fail
              refine C.out.mono ?_
              rintro e w1 ⟨rfl, b1⟩
              have HS1 := Lib.hid (HSV.out.kept b1)
              have hV1 := HVK.out.below b1 HVK.out.lt
              have k0 : w1.cell? ⟨wr.heap.size, 0, none⟩ = some (.int .u8 x.b) := hV1.cell 0
              have k1 : w1.cell? ⟨wr.heap.size, 1, none⟩ = some (.int .i64 x.up) := hV1.cell 1
              have k2 : w1.cell? ⟨wr.heap.size, 2, none⟩ = some (.int .i64 x.fail) := hV1.cell 2
              clear b1 hV1 k3
              go_wp2_with (first | (at_lookup; refine EdgeM.look HS1.out.em rfl _ _ rfl rfl _ _ rfl HUp.out HBw.out _ HC.out ?_) | fail)
              go_ret
              exact ⟨by rw [HR1.out]; rfl, HS1.out.be⟩
            · have HR1 : Hid (R = 1) := by
                show _ = _
                rw [HE.out, errT_bad HNL.out hx (.inr ⟨HK.out, .inr (.inl hw)⟩)]
              clear hc hx hk0
              go_wp2_with fail
              rw [← HV.out]
              go_wp2_with fail
              refine C.out.mono ?_
              rintro e w1 ⟨rfl, b1⟩
              have HS1 := Lib.hid (HSV.out.kept b1)
              have hV1 := HVK.out.below b1 HVK.out.lt
              have k0 : w1.cell? ⟨wr.heap.size, 0, none⟩ = some (.int .u8 x.b) := hV1.cell 0
              have k1 : w1.cell? ⟨wr.heap.size, 1, none⟩ = some (.int .i64 x.up) := hV1.cell 1
              have k2 : w1.cell? ⟨wr.heap.size, 2, none⟩ = some (.int .i64 x.fail) := hV1.cell 2
              clear b1 hV1 k3
              go_wp2_with (first | (at_lookup; refine EdgeM.look HS1.out.em rfl _ _ rfl rfl _ _ rfl HUp.out HBw.out _ HC.out ?_) | fail)
              go_ret
              exact ⟨by rw [HR1.out]; rfl, HS1.out.be⟩
            · have HR1 : Hid (R = 1) := by
                show _ = _
                rw [HE.out, errT_bad HNL.out hx (.inr ⟨HK.out, .inr (.inr (.inl hw))⟩)]
              clear hc hx hk0
              go_wp2_with fail
              rw [← HV.out]
              go_wp2_with fail
              refine C.out.mono ?_
              rintro e w1 ⟨rfl, b1⟩
              have HS1 := Lib.hid (HSV.out.kept b1)
              have hV1 := HVK.out.below b1 HVK.out.lt
              have k0 : w1.cell? ⟨wr.heap.size, 0, none⟩ = some (.int .u8 x.b) := hV1.cell 0
              have k1 : w1.cell? ⟨wr.heap.size, 1, none⟩ = some (.int .i64 x.up) := hV1.cell 1
              have k2 : w1.cell? ⟨wr.heap.size, 2, none⟩ = some (.int .i64 x.fail) := hV1.cell 2
              clear b1 hV1 k3
              go_wp2_with (first | (at_lookup; refine EdgeM.look HS1.out.em rfl _ _ rfl rfl _ _ rfl HUp.out HBw.out _ HC.out ?_) | fail)
              go_ret
              exact ⟨by rw [HR1.out]; rfl, HS1.out.be⟩
            · have HR1 : Hid (R = 1) := by
                show _ = _
                rw [HE.out, errT_bad HNL.out hx (.inr ⟨HK.out, .inr (.inr (.inr (.inl hw)))⟩)]
              clear hc hx hk0
              go_wp2_with fail
              rw [← HV.out]
              go_wp2_with fail
              refine C.out.mono ?_
              rintro e w1 ⟨rfl, b1⟩
              have HS1 := Lib.hid (HSV.out.kept b1)
              have hV1 := HVK.out.below b1 HVK.out.lt
              have k0 : w1.cell? ⟨wr.heap.size, 0, none⟩ = some (.int .u8 x.b) := hV1.cell 0
              have k1 : w1.cell? ⟨wr.heap.size, 1, none⟩ = some (.int .i64 x.up) := hV1.cell 1
              have k2 : w1.cell? ⟨wr.heap.size, 2, none⟩ = some (.int .i64 x.fail) := hV1.cell 2
              clear b1 hV1 k3
              go_wp2_with (first | (at_lookup; refine EdgeM.look HS1.out.em rfl _ _ rfl rfl _ _ rfl HUp.out HBw.out _ HC.out ?_) | fail)
              go_ret
              exact ⟨by rw [HR1.out]; rfl, HS1.out.be⟩
            · have HG2 : Hid (GoodTo l words (k + 1)) := HG.out.next hx fun hb => by
                rcases hb with hb | ⟨_, hb | hb | hb | hb | hb⟩
                · exact HEn.out hb
                all_goals first | omega | exact hb hc
              clear hc hx hk0
              go_wp2_with fail
              rw [← HV.out]
              go_wp2_with fail
              refine C.out.mono ?_
              rintro e w1 ⟨rfl, b1⟩
              have HS1 := Lib.hid (HSV.out.kept b1)
              have hV1 := HVK.out.below b1 HVK.out.lt
              have k0 : w1.cell? ⟨wr.heap.size, 0, none⟩ = some (.int .u8 x.b) := hV1.cell 0
              have k1 : w1.cell? ⟨wr.heap.size, 1, none⟩ = some (.int .i64 x.up) := hV1.cell 1
              have k2 : w1.cell? ⟨wr.heap.size, 2, none⟩ = some (.int .i64 x.fail) := hV1.cell 2
              clear b1 hV1 k3
              go_wp2_with (first | (at_lookup; refine EdgeM.look HS1.out.em rfl _ _ rfl rfl _ _ rfl HUp.out HBw.out _ HC.out ?_) | (at_mapUpdate; refine EdgeM.put HS1.out.em (by unfold maxLen; omega) rfl _ _ _ rfl rfl _ _ _ rfl rfl HUp.out HBw.out (wf_nat (by omega)) ?_; intro w2 hem hgr) | fail)
              have HS2 := Lib.hid (HS1.out.next HX.out HK.out hlt hem hgr)
              clear hem hgr
              go_wp2_with fail
              go_roundw
              case rel => exact ⟨k + 1, by go_num, by omega, HS2.out, HG2⟩
              case measure => simp [intOf]; omega
    · obtain rfl : k = l.length := by omega
      have HR1 : Hid (R = 0) := by show _ = _; rw [HE.out, errT_good HNL.out HRoot.out HG.out]
      have HS := Lib.hid hS
      clear hlk hR hS hnl
      go_wp2_with fail
      go_ret
      exact ⟨by rw [HR1.out]; rfl, HS.out.be⟩
end
end Go.Proofs.Ytckinkapbfaceaa
