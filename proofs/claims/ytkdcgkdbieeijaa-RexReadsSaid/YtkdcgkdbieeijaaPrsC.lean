/- Walks: (*rex.reader).digit, char. (printed by gen_prsc.py) -/
import Derived.Test.YtkdcgkdbieeijaaPrsB
import Derived.Test.YtkdcgkdbieeijaaIdx
import Derived.Lib.IndexLaws
import Derived.Deep.CutBlock
namespace Go.Proofs.Ytkdcgkdbieeijaa
open Go.RowKit
set_option linter.unusedVariables false
set_option linter.unusedSimpArgs false

theorem hx_lo (l : List UInt8) (b : Int) : -1 ≤ ixb l b ∧ ixb l b < l.length := by
  unfold ixb
  have h1 := Lib.indexByte_ge l b.toNat.toUInt8
  have h2 : Lib.indexByte l b.toNat.toUInt8 < l.length := by
    by_cases h : Lib.indexByte l b.toNat.toUInt8 = -1
    · omega
    · obtain ⟨o, ho⟩ : ∃ o : Nat, Lib.indexByte l b.toNat.toUInt8 = o := ⟨(Lib.indexByte l b.toNat.toUInt8).toNat, by omega⟩
      have h3 := (Lib.indexByte_some ho).1
      have := (List.getElem?_eq_some_iff.1 h3).1
      omega
  exact ⟨h1, h2⟩
section
variable (s : ByteArray) (hs : s.size ≤ 200) (x : Sx) (op : Int) (g : Nat) (w : World)
include hs
set_option maxHeartbeats 1000000 in
theorem digit_any (hp : x.p ≤ s.size) (hR : Rd w g s x op) :
    Calls Try.prog 100 #[.pointer (some ⟨g, 0, none⟩)] w fun e w' => e = .returned (.int .i64 (dg s x).1) ∧ Rd w' g s (dg s x).2 op ∧ KeptOff w w' g := by
  have CN := Lib.hid (next_any s x op g w hp hR)
  have H := Lib.hid hR
  have hlo := nx_lo s x
  have CI := Lib.hid fun w' => indexByte_any ⟨#[48, 49, 50, 51, 52, 53, 54, 55, 56, 57, 97, 98, 99, 100, 101, 102]⟩ hxL rfl (nx s x) w'
  have hI : ixb hxL (nx s x) = hxI (nx s x) := rfl
  rw [hI] at CI
  have hdg : dg s x = if nx s x < 0 then (0, x.fl 3) else if hxI (nx s x) < 0 then (0, x.fl 3) else (hxI (nx s x), x.up) := rfl
  have HD := Lib.hid hdg
  clear hR hI hdg
  by_cases h1 : nx s x < 0
  · have HX : Hid (dg s x = (0, x.fl 3)) := Lib.hid (HD.out.trans (if_pos h1))
    go_enter Try.func100, Try.ntmps100
    go_wp2_with fail
    refine CN.out.mono ?_
    rintro e w1 ⟨rfl, q, hq⟩
    have hR1 : Rd w1 g s x op := by rw [hq]; exact H.out.drewN q
    have HK1 : Hid (KeptOff w w1 g) := Lib.hid (by rw [hq]; exact KeptOff.refl.drewN q)
    have H1 := Lib.hid hR1
    clear hq hR1
    go_wp2_with fail
    refine (fail_any s x op g _ 3 H1.out).mono ?_
    rintro e w9 ⟨rfl, hR9, hk9⟩
    have HR9 := Lib.hid hR9
    have HK9 := Lib.hid (HK1.out.tr hk9)
    clear hR9 hk9
    go_wp2_with fail
    go_ret
    exact ⟨by rw [HX.out]; rfl, by rw [HX.out]; exact HR9.out, HK9.out⟩
  · have hps := nx_some (s := s) (x := x) (by omega)
    have hu : IntKind.u8.wrap (nx s x) = nx s x := IntWalk.u8_in _ ⟨by omega, by omega⟩
    by_cases h2 : hxI (nx s x) < 0
    · have HX : Hid (dg s x = (0, x.fl 3)) := Lib.hid (by rw [HD.out, if_neg h1, if_pos h2])
      go_enter Try.func100, Try.ntmps100
      go_wp2_with fail
      refine CN.out.mono ?_
      rintro e w1 ⟨rfl, q, hq⟩
      have hR1 : Rd w1 g s x op := by rw [hq]; exact H.out.drewN q
      have HK1 : Hid (KeptOff w w1 g) := Lib.hid (by rw [hq]; exact KeptOff.refl.drewN q)
      have H1 := Lib.hid hR1
      clear hq hR1
      go_wp2_with fail
      refine (CI.out _).mono ?_
      rintro e w' ⟨rfl, rfl⟩
      go_wp2_with fail
      refine (fail_any s x op g _ 3 H1.out).mono ?_
      rintro e w9 ⟨rfl, hR9, hk9⟩
      have HR9 := Lib.hid hR9
      have HK9 := Lib.hid (HK1.out.tr hk9)
      clear hR9 hk9
      go_wp2_with fail
      go_ret
      exact ⟨by rw [HX.out]; rfl, by rw [HX.out]; exact HR9.out, HK9.out⟩
    · have HX : Hid (dg s x = (hxI (nx s x), x.up)) := Lib.hid (by rw [HD.out, if_neg h1, if_neg h2])
      go_enter Try.func100, Try.ntmps100
      go_wp2_with fail
      refine CN.out.mono ?_
      rintro e w1 ⟨rfl, q, hq⟩
      have hR1 : Rd w1 g s x op := by rw [hq]; exact H.out.drewN q
      have HK1 : Hid (KeptOff w w1 g) := Lib.hid (by rw [hq]; exact KeptOff.refl.drewN q)
      have H1 := Lib.hid hR1
      clear hq hR1
      go_wp2_with fail
      refine (CI.out _).mono ?_
      rintro e w' ⟨rfl, rfl⟩
      obtain ⟨c0, c1, c2, c3⟩ := H1.out.facts
      have hf : w1.frozen? ⟨g, 1, none⟩ = false := Blk.frozen H1.out 1
      have hw : IntKind.i64.wrap ((x.p : Int) + 1) = (x.p : Int) + 1 := IntWalk.i64_in _ (by omega)
      go_wp2_with fail
      go_ret
      exact ⟨by rw [HX.out]; rfl, by rw [HX.out]; exact H1.out.setP (x.p + 1), HK1.out.set_ 1 _⟩
omit hs in
theorem dg_lo (s : ByteArray) (x : Sx) : 0 ≤ (dg s x).1 ∧ (dg s x).1 ≤ 15 := by
  unfold dg
  split
  · dsimp only; omega
  · split
    · dsimp only; omega
    · have h := hx_lo hxL (nx s x)
      have e : ixb hxL (nx s x) = hxI (nx s x) := rfl
      have l : hxL.length = 16 := rfl
      rw [e, l] at h
      dsimp only
      omega
set_option maxRecDepth 100000 in
set_option maxHeartbeats 4000000 in
theorem char_any (hp : x.p ≤ s.size) (hR : Rd w g s x op) :
    Calls Try.prog 88 #[.pointer (some ⟨g, 0, none⟩)] w fun e w' => e = .returned (.int .i64 (ch s x).1) ∧ Rd w' g s (ch s x).2 op ∧ KeptOff w w' g := by
  have CN := Lib.hid (next_any s x op g w hp hR)
  have H := Lib.hid hR
  have hlo := nx_lo s x
  have CI := Lib.hid fun b w' => indexByte_any ⟨#[40, 41, 91, 93, 124, 42, 43, 63, 46, 94, 36, 45, 92]⟩ sgL rfl b w'
  clear hR
  by_cases h92 : nx s x = 92
  · have hch : ch s x = if nx s x.up = 110 then (10, x.up.up) else if nx s x.up = 116 then (9, x.up.up) else if nx s x.up = 114 then (13, x.up.up) else if nx s x.up = 120 then ((dg s x.up.up).1 * 16 + (dg s (dg s x.up.up).2).1, (dg s (dg s x.up.up).2).2) else if 0 ≤ nx s x.up ∧ sgB (nx s x.up) = true then (nx s x.up, x.up.up) else (0, x.up.fl 3) := by unfold ch; rw [if_pos h92]
    have hg1 := up_go (s := s) (x := x) (by omega)
    obtain ⟨y, hy⟩ : ∃ y, y = x.up := ⟨_, rfl⟩
    rw [← hy] at hch hg1
    have hyp : y.p ≤ s.size := hg1.hi
    have HY : Hid ((⟨x.p + 1, x.e⟩ : Sx) = y) := Lib.hid hy.symm
    have HD := Lib.hid hch
    rw [h92] at CN
    have hxp : x.p ≤ 200 := by omega
    have CN2 := Lib.hid fun w' hR => next_any s y op g w' hyp hR
    have hlo2 := nx_lo s y
    clear hch hy h92 hg1
    by_cases h110 : nx s y = 110
    · have HX : Hid (ch s x = (10, y.up)) := Lib.hid (by rw [HD.out, if_pos h110])
      have hys := (nx_some (s := s) (x := y) (by omega)).2
      rw [h110] at CN2
      clear h110
      go_enter Try.func88, Try.ntmps88
      go_wp2_with fail
      refine CN.out.mono ?_
      rintro e w1 ⟨rfl, q, hq⟩
      have hR1 : Rd w1 g s x op := by rw [hq]; exact H.out.drewN q
      have HK1 : Hid (KeptOff w w1 g) := Lib.hid (by rw [hq]; exact KeptOff.refl.drewN q)
      have H1 := Lib.hid hR1
      clear hq hR1
      obtain ⟨c0, c1, c2, c3⟩ := H1.out.facts
      have hf : w1.frozen? ⟨g, 1, none⟩ = false := Blk.frozen H1.out 1
      have hw : IntKind.i64.wrap ((x.p : Int) + 1) = (x.p : Int) + 1 := IntWalk.i64_in _ (by omega)
      have hR2 : Rd (w1.setCell ⟨g, 1, none⟩ (.int .i64 ((x.p : Int) + 1))) g s y op := by rw [← HY.out]; exact H1.out.setP (x.p + 1)
      have hK2 : KeptOff w (w1.setCell ⟨g, 1, none⟩ (.int .i64 ((x.p : Int) + 1))) g := HK1.out.set_ 1 _
      go_upto_region 9 with fail
      obtain ⟨w2, hw2⟩ : ∃ w2, w1.setCell ⟨g, 1, none⟩ (.int .i64 ((x.p : Int) + 1)) = w2 := ⟨_, rfl⟩
      rw [hw2] at hR2 hK2 ⊢
      have H2 := Lib.hid hR2
      have HK2 := Lib.hid hK2
      clear hw2 hR2 hK2 c0 c1 c2 c3 hf hw
      go_wp2_with fail
      refine (CN2.out _ H2.out).mono ?_
      rintro e w3 ⟨rfl, q3, hq3⟩
      have H3 : Hid (Rd w3 g s y op) := Lib.hid (by rw [hq3]; exact H2.out.drewN q3)
      have HK3 : Hid (KeptOff w w3 g) := Lib.hid (by rw [hq3]; exact HK2.out.drewN q3)
      clear hq3
      obtain ⟨c0, c1, c2, c3⟩ := H3.out.facts
      have hf : w3.frozen? ⟨g, 1, none⟩ = false := Blk.frozen H3.out 1
      have hw : IntKind.i64.wrap ((y.p : Int) + 1) = (y.p : Int) + 1 := IntWalk.i64_in _ (by omega)
      go_wp2_with fail
      go_ret
      exact ⟨by rw [HX.out]; rfl, by rw [HX.out]; exact H3.out.setP (y.p + 1), HK3.out.set_ 1 _⟩
    · have f110 : (nx s y == 110) = false := by rw [beq_eq_false_iff_ne]; exact h110
      by_cases h116 : nx s y = 116
      · have HX : Hid (ch s x = (9, y.up)) := Lib.hid (by rw [HD.out, if_neg h110, if_pos h116])
        have hys := (nx_some (s := s) (x := y) (by omega)).2
        rw [h116] at CN2
        clear h116
        go_enter Try.func88, Try.ntmps88
        go_wp2_with fail
        refine CN.out.mono ?_
        rintro e w1 ⟨rfl, q, hq⟩
        have hR1 : Rd w1 g s x op := by rw [hq]; exact H.out.drewN q
        have HK1 : Hid (KeptOff w w1 g) := Lib.hid (by rw [hq]; exact KeptOff.refl.drewN q)
        have H1 := Lib.hid hR1
        clear hq hR1
        obtain ⟨c0, c1, c2, c3⟩ := H1.out.facts
        have hf : w1.frozen? ⟨g, 1, none⟩ = false := Blk.frozen H1.out 1
        have hw : IntKind.i64.wrap ((x.p : Int) + 1) = (x.p : Int) + 1 := IntWalk.i64_in _ (by omega)
        have hR2 : Rd (w1.setCell ⟨g, 1, none⟩ (.int .i64 ((x.p : Int) + 1))) g s y op := by rw [← HY.out]; exact H1.out.setP (x.p + 1)
        have hK2 : KeptOff w (w1.setCell ⟨g, 1, none⟩ (.int .i64 ((x.p : Int) + 1))) g := HK1.out.set_ 1 _
        go_upto_region 9 with fail
        obtain ⟨w2, hw2⟩ : ∃ w2, w1.setCell ⟨g, 1, none⟩ (.int .i64 ((x.p : Int) + 1)) = w2 := ⟨_, rfl⟩
        rw [hw2] at hR2 hK2 ⊢
        have H2 := Lib.hid hR2
        have HK2 := Lib.hid hK2
        clear hw2 hR2 hK2 c0 c1 c2 c3 hf hw
        go_wp2_with fail
        refine (CN2.out _ H2.out).mono ?_
        rintro e w3 ⟨rfl, q3, hq3⟩
        have H3 : Hid (Rd w3 g s y op) := Lib.hid (by rw [hq3]; exact H2.out.drewN q3)
        have HK3 : Hid (KeptOff w w3 g) := Lib.hid (by rw [hq3]; exact HK2.out.drewN q3)
        clear hq3
        obtain ⟨c0, c1, c2, c3⟩ := H3.out.facts
        have hf : w3.frozen? ⟨g, 1, none⟩ = false := Blk.frozen H3.out 1
        have hw : IntKind.i64.wrap ((y.p : Int) + 1) = (y.p : Int) + 1 := IntWalk.i64_in _ (by omega)
        go_wp2_with fail
        go_ret
        exact ⟨by rw [HX.out]; rfl, by rw [HX.out]; exact H3.out.setP (y.p + 1), HK3.out.set_ 1 _⟩
      · have f116 : (nx s y == 116) = false := by rw [beq_eq_false_iff_ne]; exact h116
        by_cases h114 : nx s y = 114
        · have HX : Hid (ch s x = (13, y.up)) := Lib.hid (by rw [HD.out, if_neg h110, if_neg h116, if_pos h114])
          have hys := (nx_some (s := s) (x := y) (by omega)).2
          rw [h114] at CN2
          clear h114
          go_enter Try.func88, Try.ntmps88
          go_wp2_with fail
          refine CN.out.mono ?_
          rintro e w1 ⟨rfl, q, hq⟩
          have hR1 : Rd w1 g s x op := by rw [hq]; exact H.out.drewN q
          have HK1 : Hid (KeptOff w w1 g) := Lib.hid (by rw [hq]; exact KeptOff.refl.drewN q)
          have H1 := Lib.hid hR1
          clear hq hR1
          obtain ⟨c0, c1, c2, c3⟩ := H1.out.facts
          have hf : w1.frozen? ⟨g, 1, none⟩ = false := Blk.frozen H1.out 1
          have hw : IntKind.i64.wrap ((x.p : Int) + 1) = (x.p : Int) + 1 := IntWalk.i64_in _ (by omega)
          have hR2 : Rd (w1.setCell ⟨g, 1, none⟩ (.int .i64 ((x.p : Int) + 1))) g s y op := by rw [← HY.out]; exact H1.out.setP (x.p + 1)
          have hK2 : KeptOff w (w1.setCell ⟨g, 1, none⟩ (.int .i64 ((x.p : Int) + 1))) g := HK1.out.set_ 1 _
          go_upto_region 9 with fail
          obtain ⟨w2, hw2⟩ : ∃ w2, w1.setCell ⟨g, 1, none⟩ (.int .i64 ((x.p : Int) + 1)) = w2 := ⟨_, rfl⟩
          rw [hw2] at hR2 hK2 ⊢
          have H2 := Lib.hid hR2
          have HK2 := Lib.hid hK2
          clear hw2 hR2 hK2 c0 c1 c2 c3 hf hw
          go_wp2_with fail
          refine (CN2.out _ H2.out).mono ?_
          rintro e w3 ⟨rfl, q3, hq3⟩
          have H3 : Hid (Rd w3 g s y op) := Lib.hid (by rw [hq3]; exact H2.out.drewN q3)
          have HK3 : Hid (KeptOff w w3 g) := Lib.hid (by rw [hq3]; exact HK2.out.drewN q3)
          clear hq3
          obtain ⟨c0, c1, c2, c3⟩ := H3.out.facts
          have hf : w3.frozen? ⟨g, 1, none⟩ = false := Blk.frozen H3.out 1
          have hw : IntKind.i64.wrap ((y.p : Int) + 1) = (y.p : Int) + 1 := IntWalk.i64_in _ (by omega)
          go_wp2_with fail
          go_ret
          exact ⟨by rw [HX.out]; rfl, by rw [HX.out]; exact H3.out.setP (y.p + 1), HK3.out.set_ 1 _⟩
        · have f114 : (nx s y == 114) = false := by rw [beq_eq_false_iff_ne]; exact h114
          by_cases h120 : nx s y = 120
          · have HX : Hid (ch s x = ((dg s y.up).1 * 16 + (dg s (dg s y.up).2).1, (dg s (dg s y.up).2).2)) := Lib.hid (by rw [HD.out, if_neg h110, if_neg h116, if_neg h114, if_pos h120])
            have hg2 := up_go (s := s) (x := y) (by omega)
            have hg3 := dg_go s y.up hg2.hi
            have CD1 := Lib.hid fun w' hR => digit_any s hs y.up op g w' hg2.hi hR
            have CD2 := Lib.hid fun w' hR => digit_any s hs (dg s y.up).2 op g w' hg3.hi hR
            have hd1 := dg_lo s y.up
            have hd2 := dg_lo s (dg s y.up).2
            have hw1 : IntKind.i64.wrap ((dg s y.up).1 * 16) = (dg s y.up).1 * 16 := IntWalk.i64_in _ (by omega)
            have hw2' : IntKind.i64.wrap ((dg s y.up).1 * 16 + (dg s (dg s y.up).2).1) = (dg s y.up).1 * 16 + (dg s (dg s y.up).2).1 := IntWalk.i64_in _ (by omega)
            have hys : y.p ≤ 200 := by omega
            rw [h120] at CN2
            clear h120 hg2 hg3
            go_enter Try.func88, Try.ntmps88
            go_wp2_with fail
            refine CN.out.mono ?_
            rintro e w1 ⟨rfl, q, hq⟩
            have hR1 : Rd w1 g s x op := by rw [hq]; exact H.out.drewN q
            have HK1 : Hid (KeptOff w w1 g) := Lib.hid (by rw [hq]; exact KeptOff.refl.drewN q)
            have H1 := Lib.hid hR1
            clear hq hR1
            obtain ⟨c0, c1, c2, c3⟩ := H1.out.facts
            have hf : w1.frozen? ⟨g, 1, none⟩ = false := Blk.frozen H1.out 1
            have hw : IntKind.i64.wrap ((x.p : Int) + 1) = (x.p : Int) + 1 := IntWalk.i64_in _ (by omega)
            have hR2 : Rd (w1.setCell ⟨g, 1, none⟩ (.int .i64 ((x.p : Int) + 1))) g s y op := by rw [← HY.out]; exact H1.out.setP (x.p + 1)
            have hK2 : KeptOff w (w1.setCell ⟨g, 1, none⟩ (.int .i64 ((x.p : Int) + 1))) g := HK1.out.set_ 1 _
            go_upto_region 9 with fail
            obtain ⟨w2, hw2⟩ : ∃ w2, w1.setCell ⟨g, 1, none⟩ (.int .i64 ((x.p : Int) + 1)) = w2 := ⟨_, rfl⟩
            rw [hw2] at hR2 hK2 ⊢
            have H2 := Lib.hid hR2
            have HK2 := Lib.hid hK2
            clear hw2 hR2 hK2 c0 c1 c2 c3 hf hw
            go_wp2_with fail
            refine (CN2.out _ H2.out).mono ?_
            rintro e w3 ⟨rfl, q3, hq3⟩
            have H3 : Hid (Rd w3 g s y op) := Lib.hid (by rw [hq3]; exact H2.out.drewN q3)
            have HK3 : Hid (KeptOff w w3 g) := Lib.hid (by rw [hq3]; exact HK2.out.drewN q3)
            clear hq3
            obtain ⟨c0, c1, c2, c3⟩ := H3.out.facts
            have hf : w3.frozen? ⟨g, 1, none⟩ = false := Blk.frozen H3.out 1
            have hw : IntKind.i64.wrap ((y.p : Int) + 1) = (y.p : Int) + 1 := IntWalk.i64_in _ (by omega)
            have H4 : Hid (Rd (w3.setCell ⟨g, 1, none⟩ (.int .i64 ((y.p : Int) + 1))) g s y.up op) := Lib.hid (H3.out.setP (y.p + 1))
            have HK4 : Hid (KeptOff w (w3.setCell ⟨g, 1, none⟩ (.int .i64 ((y.p : Int) + 1))) g) := Lib.hid (HK3.out.set_ 1 _)
            go_wp2_with fail
            refine (CD1.out _ H4.out).mono ?_
            rintro e w5 ⟨rfl, hR5, hk5⟩
            have H5 := Lib.hid hR5
            have HK5 := Lib.hid (HK4.out.tr hk5)
            clear hR5 hk5
            go_wp2_with fail
            refine (CD2.out _ H5.out).mono ?_
            rintro e w6 ⟨rfl, hR6, hk6⟩
            have H6 := Lib.hid hR6
            have HK6 := Lib.hid (HK5.out.tr hk6)
            clear hR6 hk6
            go_wp2_with fail
            go_ret
            exact ⟨by rw [HX.out]; rfl, by rw [HX.out]; exact H6.out, HK6.out⟩
          · have f120 : (nx s y == 120) = false := by rw [beq_eq_false_iff_ne]; exact h120
            by_cases h0 : 0 ≤ nx s y
            · have hu : IntKind.u8.wrap (nx s y) = nx s y := IntWalk.u8_in _ ⟨by omega, by omega⟩
              have hys := (nx_some (s := s) (x := y) h0).2
              have CJ := CI.out (nx s y)
              obtain ⟨J, hJ⟩ : ∃ J, J = ixb sgL (nx s y) := ⟨_, rfl⟩
              rw [← hJ] at CJ
              have CJ := Lib.hid CJ
              have hsg : sgB (nx s y) = decide (0 ≤ J) := by rw [hJ]; rfl
              clear hJ
              by_cases hj : 0 ≤ J
              · have HX : Hid (ch s x = (nx s y, y.up)) := Lib.hid (by rw [HD.out, if_neg h110, if_neg h116, if_neg h114, if_neg h120, if_pos ⟨h0, by rw [hsg]; exact decide_eq_true hj⟩])
                clear hsg
                go_enter Try.func88, Try.ntmps88
                go_wp2_with fail
                refine CN.out.mono ?_
                rintro e w1 ⟨rfl, q, hq⟩
                have hR1 : Rd w1 g s x op := by rw [hq]; exact H.out.drewN q
                have HK1 : Hid (KeptOff w w1 g) := Lib.hid (by rw [hq]; exact KeptOff.refl.drewN q)
                have H1 := Lib.hid hR1
                clear hq hR1
                obtain ⟨c0, c1, c2, c3⟩ := H1.out.facts
                have hf : w1.frozen? ⟨g, 1, none⟩ = false := Blk.frozen H1.out 1
                have hw : IntKind.i64.wrap ((x.p : Int) + 1) = (x.p : Int) + 1 := IntWalk.i64_in _ (by omega)
                have hR2 : Rd (w1.setCell ⟨g, 1, none⟩ (.int .i64 ((x.p : Int) + 1))) g s y op := by rw [← HY.out]; exact H1.out.setP (x.p + 1)
                have hK2 : KeptOff w (w1.setCell ⟨g, 1, none⟩ (.int .i64 ((x.p : Int) + 1))) g := HK1.out.set_ 1 _
                go_upto_region 9 with fail
                obtain ⟨w2, hw2⟩ : ∃ w2, w1.setCell ⟨g, 1, none⟩ (.int .i64 ((x.p : Int) + 1)) = w2 := ⟨_, rfl⟩
                rw [hw2] at hR2 hK2 ⊢
                have H2 := Lib.hid hR2
                have HK2 := Lib.hid hK2
                clear hw2 hR2 hK2 c0 c1 c2 c3 hf hw
                go_wp2_with fail
                refine (CN2.out _ H2.out).mono ?_
                rintro e w3 ⟨rfl, q3, hq3⟩
                have H3 : Hid (Rd w3 g s y op) := Lib.hid (by rw [hq3]; exact H2.out.drewN q3)
                have HK3 : Hid (KeptOff w w3 g) := Lib.hid (by rw [hq3]; exact HK2.out.drewN q3)
                clear hq3
                go_wp2_with fail
                refine (CJ.out _).mono ?_
                rintro e w' ⟨rfl, rfl⟩
                obtain ⟨c0, c1, c2, c3⟩ := H3.out.facts
                have hf : w3.frozen? ⟨g, 1, none⟩ = false := Blk.frozen H3.out 1
                have hw : IntKind.i64.wrap ((y.p : Int) + 1) = (y.p : Int) + 1 := IntWalk.i64_in _ (by omega)
                go_wp2_with fail
                go_ret
                exact ⟨by rw [HX.out]; rfl, by rw [HX.out]; exact H3.out.setP (y.p + 1), HK3.out.set_ 1 _⟩
              · have HX : Hid (ch s x = (0, y.fl 3)) := Lib.hid (by rw [HD.out, if_neg h110, if_neg h116, if_neg h114, if_neg h120, if_neg fun k => absurd k.2 (by rw [hsg, decide_eq_false hj]; decide)])
                clear hsg
                go_enter Try.func88, Try.ntmps88
                go_wp2_with fail
                refine CN.out.mono ?_
                rintro e w1 ⟨rfl, q, hq⟩
                have hR1 : Rd w1 g s x op := by rw [hq]; exact H.out.drewN q
                have HK1 : Hid (KeptOff w w1 g) := Lib.hid (by rw [hq]; exact KeptOff.refl.drewN q)
                have H1 := Lib.hid hR1
                clear hq hR1
                obtain ⟨c0, c1, c2, c3⟩ := H1.out.facts
                have hf : w1.frozen? ⟨g, 1, none⟩ = false := Blk.frozen H1.out 1
                have hw : IntKind.i64.wrap ((x.p : Int) + 1) = (x.p : Int) + 1 := IntWalk.i64_in _ (by omega)
                have hR2 : Rd (w1.setCell ⟨g, 1, none⟩ (.int .i64 ((x.p : Int) + 1))) g s y op := by rw [← HY.out]; exact H1.out.setP (x.p + 1)
                have hK2 : KeptOff w (w1.setCell ⟨g, 1, none⟩ (.int .i64 ((x.p : Int) + 1))) g := HK1.out.set_ 1 _
                go_upto_region 9 with fail
                obtain ⟨w2, hw2⟩ : ∃ w2, w1.setCell ⟨g, 1, none⟩ (.int .i64 ((x.p : Int) + 1)) = w2 := ⟨_, rfl⟩
                rw [hw2] at hR2 hK2 ⊢
                have H2 := Lib.hid hR2
                have HK2 := Lib.hid hK2
                clear hw2 hR2 hK2 c0 c1 c2 c3 hf hw
                go_wp2_with fail
                refine (CN2.out _ H2.out).mono ?_
                rintro e w3 ⟨rfl, q3, hq3⟩
                have H3 : Hid (Rd w3 g s y op) := Lib.hid (by rw [hq3]; exact H2.out.drewN q3)
                have HK3 : Hid (KeptOff w w3 g) := Lib.hid (by rw [hq3]; exact HK2.out.drewN q3)
                clear hq3
                go_wp2_with fail
                refine (CJ.out _).mono ?_
                rintro e w' ⟨rfl, rfl⟩
                go_wp2_with fail
                refine (fail_any s y op g _ 3 H3.out).mono ?_
                rintro e w9 ⟨rfl, hR9, hk9⟩
                have HR9 := Lib.hid hR9
                have HK9 := Lib.hid (HK3.out.tr hk9)
                clear hR9 hk9
                go_wp2_with fail
                go_ret
                exact ⟨by rw [HX.out]; rfl, by rw [HX.out]; exact HR9.out, HK9.out⟩
            · have HX : Hid (ch s x = (0, y.fl 3)) := Lib.hid (by rw [HD.out, if_neg h110, if_neg h116, if_neg h114, if_neg h120, if_neg fun k => h0 k.1])
              go_enter Try.func88, Try.ntmps88
              go_wp2_with fail
              refine CN.out.mono ?_
              rintro e w1 ⟨rfl, q, hq⟩
              have hR1 : Rd w1 g s x op := by rw [hq]; exact H.out.drewN q
              have HK1 : Hid (KeptOff w w1 g) := Lib.hid (by rw [hq]; exact KeptOff.refl.drewN q)
              have H1 := Lib.hid hR1
              clear hq hR1
              obtain ⟨c0, c1, c2, c3⟩ := H1.out.facts
              have hf : w1.frozen? ⟨g, 1, none⟩ = false := Blk.frozen H1.out 1
              have hw : IntKind.i64.wrap ((x.p : Int) + 1) = (x.p : Int) + 1 := IntWalk.i64_in _ (by omega)
              have hR2 : Rd (w1.setCell ⟨g, 1, none⟩ (.int .i64 ((x.p : Int) + 1))) g s y op := by rw [← HY.out]; exact H1.out.setP (x.p + 1)
              have hK2 : KeptOff w (w1.setCell ⟨g, 1, none⟩ (.int .i64 ((x.p : Int) + 1))) g := HK1.out.set_ 1 _
              go_upto_region 9 with fail
              obtain ⟨w2, hw2⟩ : ∃ w2, w1.setCell ⟨g, 1, none⟩ (.int .i64 ((x.p : Int) + 1)) = w2 := ⟨_, rfl⟩
              rw [hw2] at hR2 hK2 ⊢
              have H2 := Lib.hid hR2
              have HK2 := Lib.hid hK2
              clear hw2 hR2 hK2 c0 c1 c2 c3 hf hw
              go_wp2_with fail
              refine (CN2.out _ H2.out).mono ?_
              rintro e w3 ⟨rfl, q3, hq3⟩
              have H3 : Hid (Rd w3 g s y op) := Lib.hid (by rw [hq3]; exact H2.out.drewN q3)
              have HK3 : Hid (KeptOff w w3 g) := Lib.hid (by rw [hq3]; exact HK2.out.drewN q3)
              clear hq3
              go_wp2_with fail
              refine (fail_any s y op g _ 3 H3.out).mono ?_
              rintro e w9 ⟨rfl, hR9, hk9⟩
              have HR9 := Lib.hid hR9
              have HK9 := Lib.hid (HK3.out.tr hk9)
              clear hR9 hk9
              go_wp2_with fail
              go_ret
              exact ⟨by rw [HX.out]; rfl, by rw [HX.out]; exact HR9.out, HK9.out⟩
  · have hch : ch s x = if nx s x < 33 ∨ 126 < nx s x ∨ sgB (nx s x) = true then (0, x.fl 3) else (nx s x, x.up) := by unfold ch; rw [if_neg h92]
    have f92 : (nx s x != 92) = true := by rw [bne_iff_ne]; exact h92
    have f92' : (nx s x == 92) = false := by rw [beq_eq_false_iff_ne]; exact h92
    have HD := Lib.hid hch
    clear hch h92
    by_cases h33 : nx s x < 33
    · have HX : Hid (ch s x = (0, x.fl 3)) := Lib.hid (by rw [HD.out, if_pos (.inl h33)])
      go_enter Try.func88, Try.ntmps88
      go_wp2_with fail
      refine CN.out.mono ?_
      rintro e w1 ⟨rfl, q, hq⟩
      have hR1 : Rd w1 g s x op := by rw [hq]; exact H.out.drewN q
      have HK1 : Hid (KeptOff w w1 g) := Lib.hid (by rw [hq]; exact KeptOff.refl.drewN q)
      have H1 := Lib.hid hR1
      clear hq hR1
      go_wp2_with fail
      refine (fail_any s x op g _ 3 H1.out).mono ?_
      rintro e w9 ⟨rfl, hR9, hk9⟩
      have HR9 := Lib.hid hR9
      have HK9 := Lib.hid (HK1.out.tr hk9)
      clear hR9 hk9
      go_wp2_with fail
      go_ret
      exact ⟨by rw [HX.out]; rfl, by rw [HX.out]; exact HR9.out, HK9.out⟩
    · have hps := (nx_some (s := s) (x := x) (by omega)).2
      by_cases h126 : 126 < nx s x
      · have HX : Hid (ch s x = (0, x.fl 3)) := Lib.hid (by rw [HD.out, if_pos (.inr (.inl h126))])
        go_enter Try.func88, Try.ntmps88
        go_wp2_with fail
        refine CN.out.mono ?_
        rintro e w1 ⟨rfl, q, hq⟩
        have hR1 : Rd w1 g s x op := by rw [hq]; exact H.out.drewN q
        have HK1 : Hid (KeptOff w w1 g) := Lib.hid (by rw [hq]; exact KeptOff.refl.drewN q)
        have H1 := Lib.hid hR1
        clear hq hR1
        go_wp2_with fail
        refine (fail_any s x op g _ 3 H1.out).mono ?_
        rintro e w9 ⟨rfl, hR9, hk9⟩
        have HR9 := Lib.hid hR9
        have HK9 := Lib.hid (HK1.out.tr hk9)
        clear hR9 hk9
        go_wp2_with fail
        go_ret
        exact ⟨by rw [HX.out]; rfl, by rw [HX.out]; exact HR9.out, HK9.out⟩
      · have hu : IntKind.u8.wrap (nx s x) = nx s x := IntWalk.u8_in _ ⟨by omega, by omega⟩
        have CJ := CI.out (nx s x)
        obtain ⟨J, hJ⟩ : ∃ J, J = ixb sgL (nx s x) := ⟨_, rfl⟩
        rw [← hJ] at CJ
        have CJ := Lib.hid CJ
        have hsg : sgB (nx s x) = decide (0 ≤ J) := by rw [hJ]; rfl
        clear hJ
        by_cases hj : 0 ≤ J
        · have HX : Hid (ch s x = (0, x.fl 3)) := Lib.hid (by rw [HD.out, if_pos (.inr (.inr (by rw [hsg]; exact decide_eq_true hj)))])
          clear hsg
          go_enter Try.func88, Try.ntmps88
          go_wp2_with fail
          refine CN.out.mono ?_
          rintro e w1 ⟨rfl, q, hq⟩
          have hR1 : Rd w1 g s x op := by rw [hq]; exact H.out.drewN q
          have HK1 : Hid (KeptOff w w1 g) := Lib.hid (by rw [hq]; exact KeptOff.refl.drewN q)
          have H1 := Lib.hid hR1
          clear hq hR1
          go_wp2_with fail
          refine (CJ.out _).mono ?_
          rintro e w' ⟨rfl, rfl⟩
          go_wp2_with fail
          refine (fail_any s x op g _ 3 H1.out).mono ?_
          rintro e w9 ⟨rfl, hR9, hk9⟩
          have HR9 := Lib.hid hR9
          have HK9 := Lib.hid (HK1.out.tr hk9)
          clear hR9 hk9
          go_wp2_with fail
          go_ret
          exact ⟨by rw [HX.out]; rfl, by rw [HX.out]; exact HR9.out, HK9.out⟩
        · have HX : Hid (ch s x = (nx s x, x.up)) := Lib.hid (by
            rw [HD.out, if_neg]
            rintro (k | k | k)
            · exact h33 k
            · exact h126 k
            · rw [hsg, decide_eq_false hj] at k; cases k)
          clear hsg
          go_enter Try.func88, Try.ntmps88
          go_wp2_with fail
          refine CN.out.mono ?_
          rintro e w1 ⟨rfl, q, hq⟩
          have hR1 : Rd w1 g s x op := by rw [hq]; exact H.out.drewN q
          have HK1 : Hid (KeptOff w w1 g) := Lib.hid (by rw [hq]; exact KeptOff.refl.drewN q)
          have H1 := Lib.hid hR1
          clear hq hR1
          go_wp2_with fail
          refine (CJ.out _).mono ?_
          rintro e w' ⟨rfl, rfl⟩
          obtain ⟨c0, c1, c2, c3⟩ := H1.out.facts
          have hf : w1.frozen? ⟨g, 1, none⟩ = false := Blk.frozen H1.out 1
          have hw : IntKind.i64.wrap ((x.p : Int) + 1) = (x.p : Int) + 1 := IntWalk.i64_in _ (by omega)
          go_wp2_with fail
          go_ret
          exact ⟨by rw [HX.out]; rfl, by rw [HX.out]; exact H1.out.setP (x.p + 1), HK1.out.set_ 1 _⟩
end
theorem ch_lo (s : ByteArray) (x : Sx) : 0 ≤ (ch s x).1 ∧ (ch s x).1 ≤ 255 := by
  have h1 := nx_lo s x
  have h2 := nx_lo s x.up
  have h3 := dg_lo s x.up.up
  have h4 := dg_lo s (dg s x.up.up).2
  unfold ch
  split
  · split
    · dsimp only; omega
    · split
      · dsimp only; omega
      · split
        · dsimp only; omega
        · split
          · dsimp only; omega
          · split
            · dsimp only; omega
            · dsimp only; omega
  · split
    · dsimp only; omega
    · dsimp only; omega
end Go.Proofs.Ytkdcgkdbieeijaa
