/- Walk: serial.Forward. -/
import Derived.Test.YtkcncgdgicffhaaDoorGad
import Derived.Test.YtkcncgdgicffhaaDoorGy
import Derived.Test.YtkcncgdgicffhaaDoorGi
import Derived.Deep.RegionLaw
import Derived.Deep.DeepHandedRow
namespace Go.Proofs.YtkcncgdgicffhaaDoor
open Go.RowKit
set_option linter.unusedVariables false
set_option linter.unusedSimpArgs false

theorem FdR.more {w : World} {B B' : Nat} {A : Option Addr} {cap : Nat} {fs : List Fd} (h : FdR w B A cap fs) (hB : B ≤ B') : FdR w B' A cap fs := ⟨h.1.more hB, h.2⟩
theorem own_lt2 {ty : TypeId} {w : World} {B : Nat} {v : Value} {l : List Fd} (h : OP ty w B v l) : ∀ g, v.ownBlock = some g → g < w.heap.size := fun g hg => (World.ownsRow.lt h g hg).2
theorem fdsText_le : ∀ {fs : List Fd}, (∀ k (h : k < fs.length), fs[k].n.size + fs[k].v.size ≤ 1000) → (fdsText fs).length ≤ fs.length * 1004
  | [], _ => Nat.le_refl _
  | f :: fs, h => by
    have h0 : f.n.size + f.v.size ≤ 1000 := h 0 (by simp)
    have h1 := fdsText_le (fs := fs) fun k hk => h (k + 1) (Nat.succ_lt_succ hk)
    unfold fdsText at h1 ⊢
    rw [List.flatMap_cons, List.length_append, fdText_len, List.length_cons]; omega
theorem hdText_len {m t : ByteArray} {fs : List Fd} (h : hdE ⟨m, t, fs⟩ = 0) : (hdText ⟨m, t, fs⟩).length ≤ 1000000 := by
  obtain ⟨s1, s2, s3, s4⟩ := hdE_small h
  have := fdsText_le s4
  unfold hdText
  rw [List.length_append, List.length_append, hdLine_len]
  show _ + (_ + 2) ≤ _
  dsimp only
  omega
section
variable (m t : ByteArray) (A : Option Addr) (cap : Nat) (fs : List Fd) (body : ByteArray) (mx : Int) (w : World)
set_option maxRecDepth 100000 in
set_option maxHeartbeats 8000000 in
theorem forward_any (hmz : m.size ≤ 1048576) (htz : t.size ≤ 1048576) (hbz : body.size ≤ 1048576) (hf : FdR w w.heap.size A cap fs) (hfl : fs.length ≤ 1048576) (hbk : bulkF fs ≤ 1048576) (hm : w.cell? ⟨1, 0, none⟩ = some (.int .i64 mx)) (hT : ToW w) :
    Calls Tryd.prog 15 #[.agg #[.string m, .string t, .slice A fs.length cap, .string body]] w (FwdRes (fwdR m t fs body) w) := by
  have hmb := World.block_lt_of_cell? _ _ hm
  have HM := Lib.hid fun w' (hb : Below w.heap.size w w') => (hb.cell (p := ⟨1, 0, none⟩) hmb).trans hm
  have CH := Lib.hid fun w' (h : Rq w m t A cap fs body w') => headCheck_any m t fs A cap w.heap.size w' hmz htz h.fds h.be.size
  have CF := Lib.hid fun w' (h : Rq w m t A cap fs body w') => frameOf_any m t A cap fs w' (h.fds.more h.be.size) hfl
  have CS := Lib.hid fun w' (h : Rq w m t A cap fs body w') => strip_any m t A cap fs mx w' (h.fds.more h.be.size) hfl hbk (HM.out w' h.be)
  have CI := Lib.hid fun w' (h : Rq w m t A cap fs body w') => itoa_any body w' hbz (hT.below h.be)
  have hkk := frR_kind (getL fs clB) (getL fs teB)
  have f1 := fwd_bad (m := m) (t := t) (fs := fs) (body := body)
  obtain ⟨⟨K, Sz0, E2⟩, hR2⟩ : ∃ p, p = frR (getL fs clB) (getL fs teB) := ⟨_, rfl⟩
  rw [← hR2] at CF hkk
  have f2 := fun h => fwd_frame (m := m) (t := t) (fs := fs) (body := body) h hR2.symm
  have f3 := fun h => fwd_form (m := m) (t := t) (fs := fs) (body := body) h hR2.symm
  have f4 := fun h => fwd_long (m := m) (t := t) (fs := fs) (body := body) h hR2.symm
  have f5 := fun h => fwd_no (m := m) (t := t) (fs := fs) (body := body) h hR2.symm
  have f6 := fun h => fwd_yes (m := m) (t := t) (fs := fs) (body := body) h hR2.symm
  obtain ⟨E1, hE1⟩ : ∃ E1, E1 = hdE ⟨m, t, fs⟩ := ⟨_, rfl⟩
  rw [← hE1] at CH f1 f2 f3 f4 f5 f6
  obtain ⟨R, hR⟩ : ∃ R, R = fwdR m t fs body := ⟨_, rfl⟩
  rw [← hR] at f1 f2 f3 f4 f5 f6 ⊢
  have hsz := itoS_size body hbz
  have hfz : ∀ f ∈ stripL fs, f.n.size ≤ 1048576 ∧ f.v.size ≤ 1048576 := fun f h => hf.2.2.2 f (strip_mem h)
  have hsl := Nat.le_trans (strip_len fs) hfl
  unfold FrRes at CF
  unfold StripRes at CS
  have hF0 : K = 1 → fwdF fs K body = stripL fs := fun h => by unfold fwdF; rw [if_pos h]
  have hF1 : ¬ K = 1 → fwdF fs K body = stripL fs ++ [⟨clnB, itoS body⟩] := fun h => by unfold fwdF; rw [if_neg h]
  obtain ⟨SL, hSL⟩ : ∃ SL, SL = stripL fs := ⟨_, rfl⟩
  rw [← hSL] at CS hfz hsl hF0 hF1
  obtain ⟨T, hTT⟩ : ∃ T, T = fwdF fs K body := ⟨_, rfl⟩
  rw [← hTT] at f5 f6 hF0 hF1
  obtain ⟨IT, hIT⟩ : ∃ IT, IT = itoS body := ⟨_, rfl⟩
  rw [← hIT] at CI hsz hF1
  have F1 := Lib.hid f1
  have F2 := Lib.hid f2
  have F3 := Lib.hid f3
  have F4 := Lib.hid f4
  have F5 := Lib.hid f5
  have F6 := Lib.hid f6
  have HFZ := Lib.hid hfz
  have HF0 := Lib.hid hF0
  have HF1 := Lib.hid hF1
  have HKK := Lib.hid hkk
  obtain ⟨W, hW⟩ : ∃ W, w.alloc (.cells #[.string m, .string t, .slice A fs.length cap, .string body] 36) = W := ⟨_, rfl⟩
  have hQ : Rq w m t A cap fs body W := by rw [← hW]; exact Rq.start hf
  have HQ := Lib.hid hQ
  obtain ⟨r0, r1, r2, r3⟩ := hQ.facts
  unfold FwdRes
  clear hQ hf hm hmb hR hR2 hE1 hSL hTT hIT hF0 hF1 hfz hkk f1 f2 f3 f4 f5 f6 hT
  go_enter Tryd.func15, Tryd.ntmps15
  go_wp2_with fail
  refine (CH.out _ HQ.out).mono ?_
  rintro e w1 ⟨rfl, b1⟩
  have HQ1 := Lib.hid (HQ.out.step b1)
  clear b1 r0 r1 r2 r3 hW
  by_cases e1 : E1 = 0
  · have n1 : ¬ E1 ≠ 0 := fun h => h e1
    have G2 := Lib.hid (F2.out n1)
    have G3 := Lib.hid (F3.out n1)
    have G4 := Lib.hid (F4.out n1)
    have G5 := Lib.hid (F5.out n1)
    have G6 := Lib.hid (F6.out n1)
    clear F1 F2 F3 F4 F5 F6
    subst e1
    clear n1
    obtain ⟨r0, r1, r2, r3⟩ := HQ1.out.facts
    go_wp2_with fail
    refine (CF.out _ HQ1.out).mono ?_
    rintro e w2 ⟨rfl, b2⟩
    have HQ2 := Lib.hid (HQ1.out.step b2)
    clear b2 r0 r1 r2 r3
    by_cases e2 : E2 = 0
    · have n1 : ¬ E2 ≠ 0 := fun h => h e2
      have H3 := Lib.hid (G3.out n1)
      have H4 := Lib.hid (G4.out n1)
      have H5 := Lib.hid (G5.out n1)
      have H6 := Lib.hid (G6.out n1)
      clear G2 G3 G4 G5 G6
      subst e2
      clear n1
      have hQ3 := HQ2.out.step ((Below.refl _ _).alloc (Nat.le_refl _) (.cells #[.int .i64 K, .int .i64 Sz0] 27))
      have hB3 := Blk.new w2 27 #[.int .i64 K, .int .i64 Sz0]
      obtain ⟨r0, r1, r2, r3⟩ := hQ3.facts
      have g0 : (w2.alloc (.cells #[.int .i64 K, .int .i64 Sz0] 27)).cell? ⟨w2.heap.size, 0, none⟩ = some (.int .i64 K) := hB3.cell 0
      have HQ3 := Lib.hid hQ3
      have HB3 := Lib.hid hB3
      clear hQ3 hB3
      by_cases ek : K = 1
      · by_cases eb : body.size = 0
        · have z0 := empty_is eb
          have hK1 : K = 1 := ek
          have HT := HF0.out ek
          have i1 : ¬ (4096 : Int) < (body.size : Int) := by omega
          have J5 := Lib.hid (H5.out (fun h => h.2 eb) (by omega))
          have J6 := Lib.hid (H6.out (fun h => h.2 eb) (by omega))
          clear ek HF0 HF1 H3 H4 H5 H6
          subst hK1
          subst HT
          have HTZ : Hid (∀ f ∈ T, f.n.size ≤ 1048576 ∧ f.v.size ≤ 1048576) := Lib.hid HFZ.out
          go_wp2_with fail
          refine (CS.out _ HQ3.out).mono ?_
          rintro e w4 ⟨v, rfl, ho4, b4⟩
          obtain ⟨A5, c5, rfl⟩ := ho4.form
          have HQ4 := Lib.hid (HQ3.out.step b4)
          have HB4 := Lib.hid (HB3.out.below b4 HB3.out.lt)
          have hge : w2.heap.size < w4.heap.size := HB4.out.lt
          have hge2 : w.heap.size + 1 ≤ w4.heap.size := HQ4.out.blk.lt
          have hbA : Below w4.heap.size w4 (w4.alloc (.cells #[.string m, .string t, .slice A5 T.length c5] 24)) := (Below.refl _ _).alloc (Nat.le_refl _) _
          have hFw : Fws w m t A cap fs body w4.heap.size (.slice A5 T.length c5) (.slice A5 T.length c5) T (w4.alloc (.cells #[.string m, .string t, .slice A5 T.length c5] 24)) :=
            ⟨HQ4.out.step hbA, Blk.new _ _ _, (ho4.mono (by have := HQ3.out.blk.lt; simp at this; simp; omega)).alloc _, fun e => by have := (own_lt2 ho4 _ e); omega, hge2⟩
          have HB5 := Lib.hid (HB4.out.below hbA HB4.out.lt)
          have g0 : (w4.alloc (.cells #[.string m, .string t, .slice A5 T.length c5] 24)).cell? ⟨w2.heap.size, 0, none⟩ = some (.int .i64 1) := HB5.out.cell 0
          have HFw := Lib.hid hFw
          clear b4 ho4 r0 r1 r2 r3
          obtain ⟨gH, hgH⟩ : ∃ gH, gH = w4.heap.size := ⟨_, rfl⟩
          obtain ⟨wc, hw5⟩ : ∃ wc, wc = w4.alloc (.cells #[.string m, .string t, .slice A5 T.length c5] 24) := ⟨_, rfl⟩
          rw [← hgH, ← hw5] at HFw
          rw [← hw5] at g0
          clear hbA HB5 hFw HFZ
          go_upto_region 12 with fail
          rw [← hgH, ← hw5]
          clear hgH hw5
          have HFd := Lib.hid (HFw.out.ho.fdR HTZ.out)
          obtain ⟨q0, q1, q2, q3⟩ := HFw.out.rq.facts
          obtain ⟨h0, h1, h2, h3⟩ := HFw.out.facts
          by_cases e3 : hdE ⟨m, t, T⟩ = 0
          · have HF := Lib.hid (J6.out (fun h => h e3))
            have CP := Lib.hid (print_ok m t T A5 c5 wc.heap.size wc hmz htz HFd.out (Nat.le_refl _) e3)
            obtain ⟨X, hX⟩ : ∃ X, X = str (hdText ⟨m, t, T⟩) := ⟨_, rfl⟩
            rw [← hX] at CP HF
            have hXz : X.size ≤ 1000000 := by rw [hX, size_str]; exact hdText_len e3
            clear e3 hX
            go_wp2_with fail
            (with_reducible refine CP.out.mono ?_)
            rintro e w7 ⟨rfl, b7⟩
            have HQ7 := Lib.hid (HFw.out.rq.step b7)
            clear b7 q0 q1 q2 q3 h0 h1 h2 h3
            obtain ⟨q0, q1, q2, q3⟩ := HQ7.out.facts
            go_wp2_with fail
            go_ret2
            exact ⟨by rw [HF.out]; rfl, HQ7.out.be⟩
          · have HF := Lib.hid (J5.out e3)
            have CP := Lib.hid (print_bad m t T A5 c5 wc.heap.size wc hmz htz HFd.out (Nat.le_refl _) e3)
            obtain ⟨E3, hE3⟩ : ∃ E3, E3 = hdE ⟨m, t, T⟩ := ⟨_, rfl⟩
            rw [← hE3] at CP HF e3
            have d3 : (E3 != 0) = true := bne_iff_ne.2 e3
            clear e3 hE3
            go_wp2_with fail
            (with_reducible refine CP.out.mono ?_)
            rintro e w7 ⟨rfl, b7⟩
            have HQ7 := Lib.hid (HFw.out.rq.step b7)
            clear b7 q0 q1 q2 q3 h0 h1 h2 h3
            go_wp2_with fail
            go_ret2
            exact ⟨by rw [HF.out]; rfl, HQ7.out.be⟩
        · have z0 := empty_no eb
          have HF := Lib.hid (H3.out ⟨ek, eb⟩)
          subst ek
          go_wp2_with fail
          go_ret2
          exact ⟨by rw [HF.out]; rfl, HQ3.out.be⟩
      · have dk : (K == 1) = false := beq_eq_false_iff_ne.2 ek
        have dk2 : (K != 1) = true := bne_iff_ne.2 ek
        have H4 := Lib.hid (H4.out fun h => ek h.1)
        have H5 := Lib.hid (H5.out fun h => ek h.1)
        have H6 := Lib.hid (H6.out fun h => ek h.1)
        by_cases eb : 4096 < body.size
        · have HF := Lib.hid (H4.out eb)
          have i1 : (4096 : Int) < (body.size : Int) := by omega
          clear ek
          go_wp2_with fail
          go_ret2
          exact ⟨by rw [HF.out]; rfl, HQ3.out.be⟩
        · have i1 : ¬ (4096 : Int) < (body.size : Int) := by omega
          have HT := HF1.out ek
          have H5 := Lib.hid (H5.out eb)
          have H6 := Lib.hid (H6.out eb)
          clear ek eb
          go_wp2_with fail
          refine (CS.out _ HQ3.out).mono ?_
          rintro e w4 ⟨v, rfl, ho4, b4⟩
          have HQ4 := Lib.hid (HQ3.out.step b4)
          have HB4 := Lib.hid (HB3.out.below b4 HB3.out.lt)
          obtain ⟨A4, c4, rfl⟩ := ho4.form
          have hge : w2.heap.size < w4.heap.size := HB4.out.lt
          have hge2 : w.heap.size + 1 ≤ w4.heap.size := HQ4.out.blk.lt
          have hbA : Below w4.heap.size w4 (w4.alloc (.cells #[.string m, .string t, .slice A4 SL.length c4] 24)) := (Below.refl _ _).alloc (Nat.le_refl _) _
          have hFw : Fws w m t A cap fs body w4.heap.size (.slice A4 SL.length c4) (.slice A4 SL.length c4) SL (w4.alloc (.cells #[.string m, .string t, .slice A4 SL.length c4] 24)) :=
            ⟨HQ4.out.step hbA, Blk.new _ _ _, (ho4.mono (by have := HQ3.out.blk.lt; simp at this; simp; omega)).alloc _, fun e => by have := (own_lt2 ho4 _ e); omega, hge2⟩
          have HFw := Lib.hid hFw
          have HB5 := Lib.hid (HB4.out.below hbA HB4.out.lt)
          have g0 : (w4.alloc (.cells #[.string m, .string t, .slice A4 SL.length c4] 24)).cell? ⟨w2.heap.size, 0, none⟩ = some (.int .i64 K) := HB5.out.cell 0
          obtain ⟨q0, q1, q2, q3⟩ := hFw.rq.facts
          obtain ⟨h0, h1, h2, h3⟩ := hFw.facts
          clear b4 ho4 r0 r1 r2 r3
          go_wp2_with fail
          obtain ⟨gH, hgH⟩ : ∃ gH, gH = w4.heap.size := ⟨_, rfl⟩
          obtain ⟨w5, hw5⟩ : ∃ w5, w5 = w4.alloc (.cells #[.string m, .string t, .slice A4 SL.length c4] 24) := ⟨_, rfl⟩
          rw [← hgH, ← hw5] at hFw h0 h1 h2 h3
          rw [← hw5] at q0 q1 q2 q3 g0
          rw [← hgH, ← hw5]
          clear hgH hw5 HFw hbA HB5
          have HTZ : Hid (∀ f ∈ T, f.n.size ≤ 1048576 ∧ f.v.size ≤ 1048576) := Lib.hid (by
            rw [HT]; intro f hf2
            rcases List.mem_append.1 hf2 with h | h
            · exact HFZ.out f h
            · rw [List.mem_singleton] at h; subst h
              exact ⟨(by decide : clnB.size ≤ 1048576), by show IT.size ≤ 1048576; omega⟩)
          have HT2 := Lib.hid HT
          clear HT
          have hHd := hFw.drew
          have hgl := hFw.hb.lt
          have hgl2 := hFw.rq.blk.lt
          go_upto_if 44 with fail
          go_cut [54] from 45 to 54 (fun _ wx => ∃ A5 c5, Hid (Fws w m t A cap fs body gH (.slice A5 T.length c5) (.slice A5 T.length c5) T wx))
          case first =>
            go_wp2_with fail
            go_region_law (first
              | (go_simp; go_at_call 58; (with_reducible refine (CI.out _ hHd.rq).mono ?_); rintro e w' ⟨rfl, hb'⟩; have hs' := hHd.kept hb'; obtain ⟨kk0, kk1, kk2, kk3⟩ := hs'.facts; have hgl' := hs'.hb.lt; clear hb')
              | (refine step_fws rfl (.tmp 46) (.tmp 52) rfl hs' (by rfl) ⟨#[67, 111, 110, 116, 101, 110, 116, 45, 76, 101, 110, 103, 116, 104]⟩ IT (by rfl) (by omega) ?_; intro A1 c1' w6 hH6; obtain ⟨kk50, kk51, kk5, ff5⟩ := hH6.facts))
            all_goals go_wp2_with fail
            all_goals go_meet
            all_goals exact ⟨A1, c1', Lib.hid (by have := hH6.set (.slice A1 (SL.length + 1) c1'); rw [HT2.out, List.length_append, List.length_singleton]; exact this)⟩
          case rest =>
            obtain ⟨A5, c5, HFw⟩ := hcut
            clear q0 q1 q2 q3 h0 h1 h2 h3 hFw hHd hgl hgl2 g0
            have HFd := Lib.hid (HFw.out.ho.fdR HTZ.out)
            obtain ⟨q0, q1, q2, q3⟩ := HFw.out.rq.facts
            obtain ⟨h0, h1, h2, h3⟩ := HFw.out.facts
            by_cases e3 : hdE ⟨m, t, T⟩ = 0
            · have HF := Lib.hid (H6.out (fun h => h e3))
              have CP := Lib.hid (print_ok m t T A5 c5 wc.heap.size wc hmz htz HFd.out (Nat.le_refl _) e3)
              obtain ⟨X, hX⟩ : ∃ X, X = str (hdText ⟨m, t, T⟩) := ⟨_, rfl⟩
              rw [← hX] at CP HF
              have hXz : X.size ≤ 1000000 := by rw [hX, size_str]; exact hdText_len e3
              clear e3 hX
              go_wp2_with fail
              (with_reducible refine CP.out.mono ?_)
              rintro e w7 ⟨rfl, b7⟩
              have HQ7 := Lib.hid (HFw.out.rq.step b7)
              clear b7 q0 q1 q2 q3 h0 h1 h2 h3
              obtain ⟨q0, q1, q2, q3⟩ := HQ7.out.facts
              go_wp2_with fail
              go_ret2
              exact ⟨by rw [HF.out]; rfl, HQ7.out.be⟩
            · have HF := Lib.hid (H5.out e3)
              have CP := Lib.hid (print_bad m t T A5 c5 wc.heap.size wc hmz htz HFd.out (Nat.le_refl _) e3)
              obtain ⟨E3, hE3⟩ : ∃ E3, E3 = hdE ⟨m, t, T⟩ := ⟨_, rfl⟩
              rw [← hE3] at CP HF e3
              have d3 : (E3 != 0) = true := bne_iff_ne.2 e3
              clear e3 hE3
              go_wp2_with fail
              (with_reducible refine CP.out.mono ?_)
              rintro e w7 ⟨rfl, b7⟩
              have HQ7 := Lib.hid (HFw.out.rq.step b7)
              clear b7 q0 q1 q2 q3 h0 h1 h2 h3
              go_wp2_with fail
              go_ret2
              exact ⟨by rw [HF.out]; rfl, HQ7.out.be⟩
    · have d2 : (E2 != 0) = true := bne_iff_ne.2 e2
      have HF := Lib.hid (G2.out e2)
      clear e2
      go_wp2_with fail
      go_ret2
      exact ⟨by rw [HF.out]; rfl, HQ2.out.be.alloc HQ2.out.be.size _⟩
  · have d1 : (E1 != 0) = true := bne_iff_ne.2 e1
    have HF := Lib.hid (F1.out e1)
    clear e1
    go_wp2_with fail
    go_ret2
    exact ⟨by rw [HF.out]; rfl, HQ1.out.be⟩
end
end Go.Proofs.YtkcncgdgicffhaaDoor
