/- Walk: wickref.Runs. -/
import Derived.Test.YtckinkapbfaceaaPrgM
import Derived.Test.YtckinkapbfaceaaPrgG
import Derived.Deep.LoopGhost
import Derived.StillTailTactics
namespace Go.Proofs.Ytckinkapbfaceaa
open Go.RowKit
set_option linter.unusedVariables false
set_option linter.unusedSimpArgs false

def RunsRes (l : List In) (s : ByteArray) (w : World) (e : Ending) (w' : World) : Prop :=
  ∃ (g : Nat) (T : Nat → Nat → Bool), e = .returned (.slice (some ⟨g, 0, none⟩) (s.size + 1) (s.size + 1)) ∧ Tab w' g (s.size + 1) T ∧ w.heap.size ≤ g ∧ Below w.heap.size w w' ∧ ∀ i j, i ≤ s.data.toList.length → j ≤ s.data.toList.length → (T i j = true ↔ SpanP l s.data.toList i j)
section
variable (l : List In) (A : Option Addr) (c B : Nat) (s : ByteArray) (w : World)
set_option maxRecDepth 100000 in
set_option maxHeartbeats 8000000 in
theorem runs_any (hr : RightP l) (h0 : 0 < l.length) (h4 : l.length ≤ 400) (hp : InR w B A c l) (hs : s.size ≤ 40) :
    Calls Try.prog 25 #[.slice A l.length c, .string s] w (RunsRes l s w) := by
  have hmk := make_bools l.length (by omega)
  obtain ⟨x0, hx0⟩ : ∃ x, l[0]? = some x := ⟨l[0], List.getElem?_eq_getElem h0⟩
  obtain ⟨ad, rfl, _⟩ := hp.at_ hx0
  have HP := Lib.hid hp
  have HR := Lib.hid hr
  have HB0 := Lib.hid hp.hB
  have CB := Lib.hid (blank_any s.size (by omega) w)
  clear hp hr hx0
  go_enter Try.func25, Try.ntmps25
  go_wp2_with fail
  refine CB.out.mono ?_
  rintro e w0 ⟨rfl, hT0, hb0, hz0⟩
  have HT0 := Lib.hid hT0
  have HBe0 := Lib.hid hb0
  have HZ0 := Lib.hid hz0
  clear hT0 hb0 hz0 CB
  go_wp2_with fail
  go_loopw [6] (fun u w1 => ∃ (i : Nat) (T : Nat → Nat → Bool), u = .int .i64 (i : Int) ∧ i ≤ s.size + 1 ∧ Tab w1 w.heap.size (s.size + 1) T ∧ Below w.heap.size w w1 ∧ Hid (RowsOk l s.data.toList T i 0)) (fun u _ => s.size + 1 - (intOf u).toNat)
  case atStart => exact ⟨0, _, rfl, by omega, HT0.out, HBe0.out, RowsOk.start _ _⟩
  case round =>
    obtain ⟨i, T, rfl, hi, hT, hb, HRo⟩ := hrel
    by_cases hlt : i ≤ s.size
    · have i1 : (i : Int) ≤ (s.size : Int) := by omega
      have hgl : w.heap.size + (s.size + 1) < wr.heap.size := hT.lt (by omega)
      obtain ⟨W2, hW2⟩ : ∃ W2, (wr.alloc (.cells (madeCells #[.bool false] l.length) 4)).alloc (.cells #[.slice (some ⟨wr.heap.size, 0, none⟩) l.length l.length] 100) = W2 := ⟨_, rfl⟩
      obtain ⟨W3, hW3⟩ : ∃ W3, W2.setCell ⟨wr.heap.size, 0, none⟩ (.bool true) = W3 := ⟨_, rfl⟩
      have hRn2 : RnW w W2 w.heap.size s.size (wr.heap.size + 1) wr.heap.size l.length T (fun _ => false) := by
        have hbl : Below wr.heap.size wr W2 := by rw [← hW2]; exact ((Below.refl _ _).alloc (Nat.le_refl _) _).alloc (by simp) _
        refine ⟨hT.kept (by omega) hbl, ?_, ?_, hb.trans (hbl.mono hb.size), Nat.le_refl _, by omega, by omega, by omega⟩
        · have := Blk.new (wr.alloc (.cells (madeCells #[.bool false] l.length) 4)) 100 #[.slice (some ⟨wr.heap.size, 0, none⟩) l.length l.length]
          rw [hW2] at this
          simpa using this
        · have := (BoR.made wr l.length).alloc (.cells #[.slice (some ⟨wr.heap.size, 0, none⟩) l.length l.length] 100)
          rwa [hW2] at this
      have b0 : W2.cell? ⟨wr.heap.size + 1, 0, none⟩ = some (.slice (some ⟨wr.heap.size, 0, none⟩) l.length l.length) := hRn2.here.cell 0
      have b1 : W2.cell? ⟨wr.heap.size, 0, none⟩ = some (.bool false) := hRn2.row.cell 0 h0
      have b2 : W2.frozen? ⟨wr.heap.size, 0, none⟩ = false := hRn2.row.frozen 0 h0
      have hRn3 := hRn2.mark (q := 0) h0
      rw [hW3] at hRn3
      have HRn3 := Lib.hid hRn3
      have j1 : (0 : Int) < (l.length : Int) := by omega
      clear hT hb hRn2 hRn3
      go_wp2_with fail
      obtain ⟨wm, rfl⟩ : ∃ wm : World, wm = wr := ⟨_, rfl⟩
      clear hW2 hW3 b0 b1 b2
      go_loopw [8] (fun u w2 => ∃ (a hb : Nat) (T : Nat → Nat → Bool) (H : Nat → Bool), u = .int .i64 (a : Int) ∧ i ≤ a ∧ a ≤ s.size + 1 ∧ RnW w w2 w.heap.size s.size (wm.heap.size + 1) hb l.length T H ∧ Hid (RowsOk l s.data.toList T i a) ∧ Hid (HrSt l s.data.toList i a H)) (fun u _ => s.size + 1 - (intOf u).toNat)
      case atStart => exact ⟨i, wm.heap.size, T, _, rfl, by omega, by omega, HRn3.out, HRo.out.enter, HrSt.start _ _ _ h0⟩
      case round =>
        clear HRo HRn3
        obtain ⟨a, hb, T, H, rfl, hia, ha, hRn, HRo, HHr⟩ := hrel
        by_cases hla : a ≤ s.size
        · have a1 : (a : Int) ≤ (s.size : Int) := by omega
          obtain ⟨W4, hW4⟩ : ∃ W4, wr.alloc (.cells #[.bool true] 4) = W4 := ⟨_, rfl⟩
          have hghl := hRn.lt.1
          have hhbl := hRn.lt.2
          have o3 := hRn.o3
          have o4 := hRn.o4
          have hRn4 := hRn.kept (w' := W4) (by rw [← hW4]; exact (Below.refl _ _).alloc (Nat.le_refl _) _)
          have hMo4 : Blk W4 wr.heap.size 4 #[.bool true] := by rw [← hW4]; exact Blk.new _ _ _
          have HRn4 := Lib.hid hRn4
          have HMo4 := Lib.hid hMo4
          clear hRn hRn4 hMo4
          go_wp2_with fail
          obtain ⟨wk, rfl⟩ : ∃ wk : World, wk = wr := ⟨_, rfl⟩
          clear hW4
          go_loopg [9] (2 * cntF H l.length + 1) (fun q u w3 => ∃ (gm : Nat) (H' : Nat → Bool) (M : Bool), u = .pointer (some ⟨gm, 0, none⟩) ∧ RnW w w3 w.heap.size s.size (wm.heap.size + 1) hb l.length T H' ∧ Blk w3 gm 4 #[.bool M] ∧ w.heap.size + (s.size + 1) < gm ∧ gm ≠ wm.heap.size + 1 ∧ gm ≠ hb ∧ Hid (HrSt l s.data.toList i a H') ∧ Hid (M = false → CloB l s.data.toList.length a H') ∧ Hid (q = 2 * cntF H' l.length + if M = true then 1 else 0))
          case atStart => exact ⟨wk.heap.size, H, true, rfl, HRn4.out, HMo4.out, by omega, by omega, by omega, HHr, fun h => (by cases h), rfl⟩
          case round =>
            obtain ⟨gm, H', M, rfl, hRn, hMo, hg1, hg2, hg3, HHr', HCl, HQ⟩ := hrel
            have HRn := Lib.hid hRn
            have HMo := Lib.hid hMo
            have m0 : wr.cell? ⟨gm, 0, none⟩ = some (.bool M) := hMo.cell 0
            have m1 : wr.frozen? ⟨gm, 0, none⟩ = false := hMo.frozen 0
            have hg4 : wm.heap.size + 1 ≠ gm := Ne.symm hg2
            have hg5 : hb ≠ gm := Ne.symm hg3
            cases M with
            | true =>
              obtain ⟨W5, hW5⟩ : ∃ W5, wr.setCell ⟨gm, 0, none⟩ (.bool false) = W5 := ⟨_, rfl⟩
              have hRn5 := hRn.far (p := ⟨gm, 0, none⟩) hg1 hg2 hg3 (.bool false)
              have hMo5 := hMo.set_ 0 (.bool false)
              rw [hW5] at hRn5 hMo5
              have HRn5 := Lib.hid hRn5
              have HMo5 : Hid (Blk W5 gm 4 #[.bool false]) := hMo5
              clear hRn hMo hRn5 hMo5
              go_wp2_with fail
              obtain ⟨wj, rfl⟩ : ∃ wj : World, wj = wr := ⟨_, rfl⟩
              clear HRn HMo m0 m1 hW5
              go_loopw [10] (fun u w4 => ∃ (k : Nat) (H2 : Nat → Bool) (M2 : Bool), u = .int .i64 (k : Int) ∧ k ≤ l.length ∧ RnW w w4 w.heap.size s.size (wm.heap.size + 1) hb l.length T H2 ∧ Blk w4 gm 4 #[.bool M2] ∧ Hid (PaSt l s.data.toList i a H' H2 k M2)) (fun u _ => l.length - (intOf u).toNat)
              case atStart => exact ⟨0, H', false, rfl, by omega, HRn5.out, HMo5.out, PaSt.start HHr'.out⟩
              case round =>
                clear HRn5 HMo5
                obtain ⟨k, H2, M2, rfl, hk, hRn, hMo, HPa⟩ := hrel
                by_cases hlk : k < l.length
                · have k1 : (k : Int) < (l.length : Int) := by omega
                  have k2 : (0 : Int) ≤ (k : Int) := by omega
                  have b0 : wr.cell? ⟨wm.heap.size + 1, 0, none⟩ = some (.slice (some ⟨hb, 0, none⟩) l.length l.length) := hRn.here.cell 0
                  have r0 : wr.cell? ⟨hb, k, none⟩ = some (.bool (H2 k)) := hRn.row.cell k hlk
                  have HRn := Lib.hid hRn
                  have HMo := Lib.hid hMo
                  cases hv : H2 k with
                  | false =>
                    rw [hv] at r0
                    have HPn : Hid (PaSt l s.data.toList i a H' H2 (k + 1) M2) := HPa.out.off hv
                    clear hRn hMo hv
                    go_wp2_with fail
                    go_roundw
                    case rel => exact ⟨k + 1, H2, M2, by go_num, by omega, HRn.out, HMo.out, HPn⟩
                    case measure => simp [intOf]; omega
                  | true =>
                    rw [hv] at r0
                    obtain ⟨x, hx⟩ : ∃ x, l[k]? = some x := ⟨l[k], List.getElem?_eq_getElem hlk⟩
                    obtain ⟨ad', ea, hbk, x0, x1, x2, _⟩ := (HP.out.below (hRn.be.mono HB0.out)).at_ hx
                    injection ea with ea
                    subst ea
                    have HSU : Hid (∀ q, Eps l s.data.toList.length a k q ↔ q ∈ suc l s.size a k) := fun q => by rw [lst_len]; exact (suc_iff HR.out).symm
                    have HK := Lib.hid (kinds (m := s.size) (a := a) HR.out hx)
                    have HX := Lib.hid hx
                    have HV := Lib.hid hv
                    have HLT : Hid (∀ q, q ∈ suc l s.size a k → q < l.length) := fun q hq => eps_lt HR.out ((suc_iff (m := s.size) HR.out).1 hq)
                    clear hx hv
                    rcases HK.out with ⟨kc, b', a', eb, ea', hsu⟩ | ⟨kc, a', ea', hsu⟩ | ⟨kc, t1, hsu⟩ | ⟨kc, t1, hsu⟩ | ⟨kc, t1, hsu⟩ | ⟨kc, t1, hsu⟩ | ⟨kc, hsu⟩ | ⟨kc, hsu⟩
                    · rw [kc] at x0
                      rw [ea'] at x1
                      rw [hsu] at HSU HLT
                      have HEB := Lib.hid eb
                      have G1 := Lib.hid (go1_any w wr w.heap.size s.size (wm.heap.size + 1) hb l.length gm a' T H2 M2 hRn hMo hg1 hg2 hg3 (HLT.out a' (by simp)) (by omega))
                      have HPn : Hid (PaSt l s.data.toList i a H' (upB (upB H2 a') b') (k + 1) (M2 || !H2 a' || !upB H2 a' b')) := HPa.out.two HR.out hlk HV.out HSU.out
                      have HLb := HLT.out b' (by simp)
                      clear hRn hMo kc ea' hsu eb x2 HK
                      go_wp2_with fail
                      refine G1.out.mono ?_
                      rintro e w7 ⟨rfl, hRn7, hMo7⟩
                      obtain ⟨ad', ea, _, _, _, x2, _⟩ := (HP.out.below (hRn7.be.mono HB0.out)).at_ HX.out
                      injection ea with ea
                      subst ea
                      rw [HEB.out] at x2
                      have G2 := Lib.hid (go1_any w w7 w.heap.size s.size (wm.heap.size + 1) hb l.length gm b' T (upB H2 a') (M2 || !H2 a') hRn7 hMo7 hg1 hg2 hg3 HLb (by omega))
                      clear hRn7 hMo7 b0 r0 x0 x1 G1
                      go_wp2_with fail
                      refine G2.out.mono ?_
                      rintro e w8 ⟨rfl, hRn8, hMo8⟩
                      have HRn8 := Lib.hid hRn8
                      have HMo8 := Lib.hid hMo8
                      clear hRn8 hMo8 x2 G2
                      go_wp2_with fail
                      go_roundw
                      case rel => exact ⟨k + 1, _, _, by go_num, by omega, HRn8.out, HMo8.out, HPn⟩
                      case measure => simp [intOf]; omega
                    · rw [kc] at x0
                      rw [ea'] at x1
                      rw [hsu] at HSU HLT
                      have G1 := Lib.hid (go1_any w wr w.heap.size s.size (wm.heap.size + 1) hb l.length gm a' T H2 M2 hRn hMo hg1 hg2 hg3 (HLT.out a' (by simp)) (by omega))
                      have HPn : Hid (PaSt l s.data.toList i a H' (upB H2 a') (k + 1) (M2 || !H2 a')) := HPa.out.one HR.out hlk HV.out HSU.out
                      clear hRn hMo kc ea' hsu x2 HK
                      go_wp2_with fail
                      refine G1.out.mono ?_
                      rintro e w8 ⟨rfl, hRn8, hMo8⟩
                      have HRn8 := Lib.hid hRn8
                      have HMo8 := Lib.hid hMo8
                      clear hRn8 hMo8 b0 r0 x0 x1 G1
                      go_wp2_with fail
                      go_roundw
                      case rel => exact ⟨k + 1, _, _, by go_num, by omega, HRn8.out, HMo8.out, HPn⟩
                      case measure => simp [intOf]; omega
                    · rw [kc] at x0
                      rw [hsu] at HSU HLT
                      have G := go1_any w wr w.heap.size s.size (wm.heap.size + 1) hb l.length gm (k + 1) T H2 M2 hRn hMo hg1 hg2 hg3 (HLT.out (k + 1) (by simp)) (by omega)
                      rw [Int.natCast_succ] at G
                      have G1 := Lib.hid G
                      have HPn : Hid (PaSt l s.data.toList i a H' (upB H2 (k + 1)) (k + 1) (M2 || !H2 (k + 1))) := HPa.out.one HR.out hlk HV.out HSU.out
                      clear hRn hMo kc hsu x2 HK G
                      go_wp2_with fail
                      refine G1.out.mono ?_
                      rintro e w8 ⟨rfl, hRn8, hMo8⟩
                      have HRn8 := Lib.hid hRn8
                      have HMo8 := Lib.hid hMo8
                      clear hRn8 hMo8 b0 r0 x0 x1 G1
                      go_wp2_with fail
                      go_roundw
                      case rel => exact ⟨k + 1, _, _, by go_num, by omega, HRn8.out, HMo8.out, HPn⟩
                      case measure => simp [intOf]; omega
                    · rw [kc] at x0
                      rw [hsu] at HSU HLT
                      have G := go1_any w wr w.heap.size s.size (wm.heap.size + 1) hb l.length gm (k + 1) T H2 M2 hRn hMo hg1 hg2 hg3 (HLT.out (k + 1) (by simp)) (by omega)
                      rw [Int.natCast_succ] at G
                      have G1 := Lib.hid G
                      have HPn : Hid (PaSt l s.data.toList i a H' (upB H2 (k + 1)) (k + 1) (M2 || !H2 (k + 1))) := HPa.out.one HR.out hlk HV.out HSU.out
                      clear hRn hMo kc hsu x2 HK G
                      go_wp2_with fail
                      refine G1.out.mono ?_
                      rintro e w8 ⟨rfl, hRn8, hMo8⟩
                      have HRn8 := Lib.hid hRn8
                      have HMo8 := Lib.hid hMo8
                      clear hRn8 hMo8 b0 r0 x0 x1 G1
                      go_wp2_with fail
                      go_roundw
                      case rel => exact ⟨k + 1, _, _, by go_num, by omega, HRn8.out, HMo8.out, HPn⟩
                      case measure => simp [intOf]; omega
                    · rw [kc] at x0
                      rw [hsu] at HSU
                      have HPn : Hid (PaSt l s.data.toList i a H' H2 (k + 1) M2) := HPa.out.zero HSU.out
                      clear hRn hMo kc hsu x2 HK HLT
                      go_wp2_with fail
                      go_roundw
                      case rel => exact ⟨k + 1, H2, M2, by go_num, by omega, HRn.out, HMo.out, HPn⟩
                      case measure => simp [intOf]; omega
                    · rw [kc] at x0
                      rw [hsu] at HSU
                      have HPn : Hid (PaSt l s.data.toList i a H' H2 (k + 1) M2) := HPa.out.zero HSU.out
                      clear hRn hMo kc hsu x2 HK HLT
                      go_wp2_with fail
                      go_roundw
                      case rel => exact ⟨k + 1, H2, M2, by go_num, by omega, HRn.out, HMo.out, HPn⟩
                      case measure => simp [intOf]; omega
                    · rw [kc] at x0
                      rw [hsu] at HSU
                      have HPn : Hid (PaSt l s.data.toList i a H' H2 (k + 1) M2) := HPa.out.zero HSU.out
                      clear hRn hMo kc hsu x2 HK HLT
                      go_wp2_with fail
                      go_roundw
                      case rel => exact ⟨k + 1, H2, M2, by go_num, by omega, HRn.out, HMo.out, HPn⟩
                      case measure => simp [intOf]; omega
                    · rw [kc] at x0
                      rw [hsu] at HSU
                      have HPn : Hid (PaSt l s.data.toList i a H' H2 (k + 1) M2) := HPa.out.zero HSU.out
                      clear hRn hMo kc hsu x2 HK HLT
                      go_wp2_with fail
                      go_roundw
                      case rel => exact ⟨k + 1, H2, M2, by go_num, by omega, HRn.out, HMo.out, HPn⟩
                      case measure => simp [intOf]; omega
                · obtain rfl : k = l.length := by omega
                  have m0 : wr.cell? ⟨gm, 0, none⟩ = some (.bool M2) := hMo.cell 0
                  obtain ⟨W6, hW6⟩ : ∃ W6, wr.alloc (.cells #[.bool M2] 4) = W6 := ⟨_, rfl⟩
                  have hghl2 := hRn.lt.1
                  have hhbl2 := hRn.lt.2
                  have hRn6 := hRn.kept (w' := W6) (by rw [← hW6]; exact (Below.refl _ _).alloc (Nat.le_refl _) _)
                  have hMo6 : Blk W6 wr.heap.size 4 #[.bool M2] := by rw [← hW6]; exact Blk.new _ _ _
                  have HRn6 := Lib.hid hRn6
                  have HMo6 := Lib.hid hMo6
                  clear hRn hMo hRn6 hMo6
                  go_wp2_with fail
                  go_roundg (2 * cntF H2 l.length + if M2 = true then 1 else 0)
                  case measure =>
                    have h1 := HQ.out
                    have h2 := HPa.out.le
                    simp only [if_true] at h1
                    rw [h1]
                    cases M2 with
                    | true => have := HPa.out.yes rfl; simp; omega
                    | false => simp; omega
                  case rel =>
                    refine ⟨wr.heap.size, H2, M2, rfl, HRn6.out, HMo6.out, by omega, by omega, by omega, HPa.out.st, fun h => ?_, rfl⟩
                    subst h; exact HPa.out.done
            | false =>
              have HA : Hid (∀ p, p < l.length → (H' p = true ↔ Rch l s.data.toList i a p)) := HHr'.out.all HR.out h0 (HCl.out rfl)
              clear hRn hMo HQ
              obtain ⟨W6, hW6⟩ : ∃ W6, wr.alloc (.cells (madeCells #[.bool false] l.length) 4) = W6 := ⟨_, rfl⟩
              have hghl2 := HRn.out.lt.1
              have hhbl2 := HRn.out.lt.2
              have hRn6 := (HRn.out.kept (w' := W6) (by rw [← hW6]; exact (Below.refl _ _).alloc (Nat.le_refl _) _)).congr (upd_false (i := i) (a := a) (HRo.out.now a (Nat.le_refl _)))
              have hX6 : BoR W6 wr.heap.size l.length (fun _ => false) := by rw [← hW6]; exact BoR.made _ _
              have HRn6 := Lib.hid hRn6
              have HX6 := Lib.hid hX6
              clear hRn6 hX6 m1 HMo
              go_wp2_with fail
              obtain ⟨wj, rfl⟩ : ∃ wj : World, wj = wr := ⟨_, rfl⟩
              clear HRn m0 hW6 HCl
              go_loopw [13] (fun u w5 => ∃ (k : Nat) (X : Nat → Bool) (b : Bool), u = .int .i64 (k : Int) ∧ k ≤ l.length ∧ RnW w w5 w.heap.size s.size (wm.heap.size + 1) hb l.length (upd T i a b) H' ∧ BoR w5 wj.heap.size l.length X ∧ Hid (NeSt l s.data.toList i a H' X k b)) (fun u _ => l.length - (intOf u).toNat)
              case atStart => exact ⟨0, _, false, rfl, by omega, HRn6.out, HX6.out, NeSt.start⟩
              case round =>
                clear HRn6 HX6
                obtain ⟨k, X, b, rfl, hk, hRn, hXr, HNe⟩ := hrel
                have HRn := Lib.hid hRn
                have HXr := Lib.hid hXr
                by_cases hlk : k < l.length
                · have k1 : (k : Int) < (l.length : Int) := by omega
                  have k2 : (0 : Int) ≤ (k : Int) := by omega
                  have k3 : (0 : Int) ≤ (a : Int) := by omega
                  have b0 : wr.cell? ⟨wm.heap.size + 1, 0, none⟩ = some (.slice (some ⟨hb, 0, none⟩) l.length l.length) := hRn.here.cell 0
                  have r0 : wr.cell? ⟨hb, k, none⟩ = some (.bool (H' k)) := hRn.row.cell k hlk
                  cases hv : H' k with
                  | false =>
                    rw [hv] at r0
                    have HN : Hid (NeSt l s.data.toList i a H' X (k + 1) b) := HNe.out.next (fun h => by rw [hv] at h; cases h) (fun h => by rw [hv] at h; cases h)
                    clear hRn hXr hv
                    go_wp2_with fail
                    go_quiet (fail)
                    go_wp2_with fail
                    go_roundw
                    case rel => exact ⟨k + 1, X, b, by go_num, by omega, HRn.out.drewN _, HXr.out.drewN _, HN⟩
                    case measure => simp [intOf]; omega
                  | true =>
                    rw [hv] at r0
                    obtain ⟨x, hx⟩ : ∃ x, l[k]? = some x := ⟨l[k], List.getElem?_eq_getElem hlk⟩
                    have hIn := HP.out.below (hRn.be.mono HB0.out)
                    obtain ⟨ad', ea, hbk, x0, x1, x2, x3, x4, x5, x6⟩ := hIn.at_ hx
                    injection ea with ea
                    subst ea
                    have hok := hIn.ok x (List.mem_of_getElem? hx)
                    by_cases h6 : x.k = 6
                    · have HN : Hid (NeSt l s.data.toList i a H' X (k + 1) true) := HNe.out.match_ hv ⟨x, hx, h6⟩ (not_byt hx (.inl (by omega)))
                      obtain ⟨t0, t1, t2⟩ := hRn.tab.facts (i := i) (j := a) (by omega) (by omega)
                      obtain ⟨W8, hW8⟩ : ∃ W8, wr.setCell ⟨w.heap.size + 1 + i, a, none⟩ (.bool true) = W8 := ⟨_, rfl⟩
                      have hRn8 := (hRn.out_ (i := i) (j := a) (by omega) (by omega) true).congr (upd_upd T i a b true)
                      have hX8 := hXr.far (p := ⟨w.heap.size + 1 + i, a, none⟩) (by dsimp only; omega) (.bool true)
                      rw [hW8] at hRn8 hX8
                      have b8 : W8.cell? ⟨wm.heap.size + 1, 0, none⟩ = some (.slice (some ⟨hb, 0, none⟩) l.length l.length) := hRn8.here.cell 0
                      have r8 : W8.cell? ⟨hb, k, none⟩ = some (.bool (H' k)) := hRn8.row.cell k hlk
                      rw [hv] at r8
                      obtain ⟨ad', ea, _, y0, _⟩ := (HP.out.below (hRn8.be.mono HB0.out)).at_ hx
                      injection ea with ea
                      subst ea
                      have HRn8 := Lib.hid hRn8
                      have HX8 := Lib.hid hX8
                      rw [h6] at x0 y0
                      have a2 : (a : Int) < (s.size : Int) + 1 := by omega
                      have a3 : (i : Int) < (s.size : Int) + 1 := by omega
                      clear hRn hXr hv hRn8 hX8 hIn hok hx h6 x1 x2 x3 x4 x5 x6 HRn HXr
                      go_wp2_with fail
                      go_quiet (fail)
                      go_wp2_with fail
                      go_roundw
                      case rel => exact ⟨k + 1, X, true, by go_num, by omega, HRn8.out.drewN _, HX8.out.drewN _, HN⟩
                      case measure => simp [intOf]; omega
                    · have k6 : (x.k == 6) = false := beq_eq_false_iff_ne.2 h6
                      by_cases hgo : x.k = 1 ∧ a < s.size
                      · obtain ⟨h1, hal⟩ := hgo
                        have hpn : k + 1 < l.length := by
                          have := HR.out k x hx
                          unfold RightI at this
                          omega
                        have q2 : (a : Int) < (s.size : Int) := by omega
                        have q3 : decide (a < s.size) = true := decide_eq_true hal
                        obtain ⟨cb1, cb2⟩ := byte_lt s[a]
                        have CH := Lib.hid fun w' => is_any x.s s[a].toNat (by omega) w'
                        cases hs2 : setB x.s s[a].toNat with
                        | false =>
                          have HN : Hid (NeSt l s.data.toList i a H' X (k + 1) b) := HNe.out.next (fun _ => not_mat hx h6) (fun _ => not_byt hx (.inr (.inr ⟨by rw [lst_len]; exact hal, by rw [lst_get s a hal]; exact hs2⟩)))
                          rw [hs2] at CH
                          rw [h1] at x0
                          clear hRn hXr hv hIn hok hx h6 h1 k6 hpn hs2
                          go_wp2_with fail
                          go_still_tail 28, (by kernel_rfl)
                          go_wp2_with fail
                          with_reducible refine (CH.out _).mono ?_
                          rintro e w9 ⟨rfl, hb9⟩
                          have HRn9 := Lib.hid (HRn.out.drew.kept hb9)
                          have HX9 := Lib.hid (HXr.out.drew.kept hb9)
                          clear hb9
                          go_wp2_with fail
                          go_roundw
                          case rel => exact ⟨k + 1, X, b, by go_num, by omega, HRn9.out, HX9.out, HN⟩
                          case measure => simp [intOf]; omega
                        | true =>
                          have HN : Hid (NeSt l s.data.toList i a H' (upB X (k + 1)) (k + 1) b) := HNe.out.byte hv (not_mat hx h6) ⟨x, hx, h1, ⟨by rw [lst_len]; exact hal, by rw [lst_get s a hal]; exact hs2⟩, rfl⟩
                          rw [hs2] at CH
                          rw [h1] at x0
                          have q4 : ((k : Int) + 1) < (l.length : Int) := by omega
                          have q5 : IntKind.i64.wrap ((k : Int) + 1) = (k : Int) + 1 := IntWalk.i64_in _ (by omega)
                          have HPN := Lib.hid hpn
                          clear hRn hXr hv hIn hok hx h6 h1 k6 hpn hs2
                          go_wp2_with fail
                          go_still_tail 28, (by kernel_rfl)
                          go_wp2_with fail
                          with_reducible refine (CH.out _).mono ?_
                          rintro e w9 ⟨rfl, hb9⟩
                          have hRn9 := HRn.out.drew.kept hb9
                          have hX9 := HXr.out.drew.kept hb9
                          have z0 : w9.cell? ⟨wj.heap.size, k + 1, none⟩ = some (.bool (X (k + 1))) := hX9.cell _ HPN.out
                          have z1 : w9.frozen? ⟨wj.heap.size, k + 1, none⟩ = false := hX9.frozen _ HPN.out
                          have HRn9 := Lib.hid (hRn9.far (p := ⟨wj.heap.size, k + 1, none⟩) (by dsimp only; omega) (by dsimp only; omega) (by dsimp only; omega) (.bool true))
                          have HX9 := Lib.hid ((hX9.set_ HPN.out true).congr fun j _ => (rfl : _ = upB X (k + 1) j))
                          clear hb9 hRn9 hX9 q5
                          go_wp2_with fail
                          go_roundw
                          case rel => exact ⟨k + 1, upB X (k + 1), b, by go_num, by omega, HRn9.out, HX9.out, HN⟩
                          case measure => simp [intOf]; omega
                      · have HN : Hid (NeSt l s.data.toList i a H' X (k + 1) b) := HNe.out.next (fun _ => not_mat hx h6) (fun _ => not_byt hx ((Decidable.em (x.k = 1)).elim (fun h => .inr (.inl (by rw [lst_len]; exact Nat.le_of_not_lt fun h2 => hgo ⟨h, h2⟩))) .inl))
                        by_cases h1 : x.k = 1
                        · have q2 : ¬ (a : Int) < (s.size : Int) := by omega
                          have q3 : decide (a < s.size) = false := decide_eq_false (by omega)
                          rw [h1] at x0
                          clear hRn hXr hv hIn hok hx h6 h1 k6 hgo
                          go_wp2_with fail
                          go_quiet (fail)
                          go_wp2_with fail
                          go_roundw
                          case rel => exact ⟨k + 1, X, b, by go_num, by omega, HRn.out.drewN _, HXr.out.drewN _, HN⟩
                          case measure => simp [intOf]; omega
                        · have k1' : (x.k == 1) = false := beq_eq_false_iff_ne.2 h1
                          clear hRn hXr hv hIn hok hx h6 h1 hgo
                          go_wp2_with fail
                          go_quiet (fail)
                          go_wp2_with fail
                          go_roundw
                          case rel => exact ⟨k + 1, X, b, by go_num, by omega, HRn.out.drewN _, HXr.out.drewN _, HN⟩
                          case measure => simp [intOf]; omega
                · obtain rfl : k = l.length := by omega
                  have hRo : Hid (RowsOk l s.data.toList (upd T i a b) i (a + 1)) := HRo.out.hit (HNe.out.span HR.out h0 (by rw [lst_len]; exact hla) HA.out)
                  have hHr2 : Hid (HrSt l s.data.toList i (a + 1) X) := HNe.out.turn HR.out h0 hia HA.out
                  have b0 : wr.cell? ⟨wm.heap.size + 1, 0, none⟩ = some (.slice (some ⟨hb, 0, none⟩) l.length l.length) := hRn.here.cell 0
                  have b1 : wr.frozen? ⟨wm.heap.size + 1, 0, none⟩ = false := hRn.here.frozen 0
                  have HRt := Lib.hid (hRn.turn hXr (by omega) (by omega))
                  clear hRn hXr hlk
                  go_wp2_with fail
                  go_roundw
                  case rel => exact ⟨a + 1, wj.heap.size, upd T i a b, X, by go_num, by omega, by omega, HRt.out, hRo, hHr2⟩
                  case measure => simp [intOf]; omega
        · obtain rfl : a = s.size + 1 := by omega
          have a1 : ¬ ((s.size : Int) + 1) ≤ (s.size : Int) := by omega
          have HRn := Lib.hid hRn
          clear hRn hla
          go_wp2_with fail
          go_roundw
          case rel => exact ⟨i + 1, T, by go_num, by omega, HRn.out.tab, HRn.out.be, HRo.out.done (by rw [lst_len]; omega)⟩
          case measure => simp [intOf]; omega
    · obtain rfl : i = s.size + 1 := by omega
      have i1 : ¬ ((s.size : Int) + 1) ≤ (s.size : Int) := by omega
      have HT := Lib.hid hT
      have HB := Lib.hid hb
      clear hT hb hlt
      go_wp2_with fail
      go_ret
      exact ⟨w.heap.size, T, rfl, HT.out, Nat.le_refl _, HB.out, fun i j hi hj => HRo.out.old i j (by rw [lst_len] at hi; omega) hj⟩
end
end Go.Proofs.Ytckinkapbfaceaa
