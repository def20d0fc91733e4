/- Walk: wickref.Args. -/
import Derived.Test.YtaepbpdcfmklpaaDoorVofC
namespace Go.Proofs.YtaepbpdcfmklpaaDoor
open Go.RowKit
set_option linter.unusedVariables false
set_option linter.unusedSimpArgs false

theorem wf_small {x : Int} (h : -1048577 ≤ x ∧ x ≤ 20) : (Lit.int .i64 x).wf = true := by
  have h1 : (-9223372036854775808 : Int) ≤ x := by omega
  have h2 : x ≤ (9223372036854775807 : Int) := by omega
  show (decide _ && decide _) = true
  rw [Bool.and_eq_true, decide_eq_true_eq, decide_eq_true_eq]
  exact ⟨h1, h2⟩
section
variable (m t : ByteArray) (A : Option Addr) (cap : Nat) (fs : List Fd) (body : ByteArray) (most : Int) (w : World)
set_option maxRecDepth 100000 in
set_option maxHeartbeats 16000000 in
theorem rargs_any (hmo : (Lit.int .i64 most).wf = true) (htz : t.size ≤ 1048576) (hbz : body.size ≤ 1048576) (hf : FdR w w.heap.size A cap fs) (hfl : fs.length ≤ 1048576) (hsv : sumV fs ≤ 1048576) :
    Calls Tryd.prog 7 #[.agg #[.string m, .string t, .slice A fs.length cap, .string body], .int .i64 most] w (VoRes (argsR fs t body (max most 0)) w) := by
  obtain ⟨b1, b2⟩ := i64_of_wf hmo
  obtain ⟨M, hM⟩ : ∃ M, max most 0 = M := ⟨_, rfl⟩
  have hM0 : 0 ≤ M ∧ M ≤ 9223372036854775807 := by omega
  rw [hM]
  have hqz := queS_size t
  have CQ := Lib.hid fun w' => rquery_any t w' htz
  obtain ⟨qs, hqs⟩ : ∃ q, q = queS t := ⟨_, rfl⟩
  rw [← hqs] at hqz CQ
  have CF := fun w' => rform_any qs M w' (by omega)
  have hFl := formA_len (s := qs) (by omega)
  have hlc := lim_cases M (formA qs)
  have hva := vo_form (fs := fs) (t := t) (body := body) (M := M)
  have hvb := fun h E h2 h3 => vo_body (fs := fs) (t := t) (body := body) (M := M) h (E := E) h2 h3
  have hvc := vo_cook (fs := fs) (t := t) (body := body) (M := M)
  have hvd := vo_ok (fs := fs) (t := t) (body := body) (M := M)
  unfold LimRes at CF
  rw [show (pcs qs ⟨#[38]⟩).flatMap keepF = formA qs from rfl] at CF
  rw [← hqs] at hva hvb hvc hvd
  obtain ⟨F, hF⟩ : ∃ F, F = formA qs := ⟨_, rfl⟩
  rw [← hF] at CF hFl hlc hva hvb hvc hvd
  obtain ⟨D, hD⟩ : ∃ D, M - (F.length : Int) = D := ⟨_, rfl⟩
  rw [hD] at hvb hvc hvd
  have CG1 := fun w' (h : Rq w m t A cap fs body w') => Get_any m t ⟨#[67, 111, 110, 116, 101, 110, 116, 45, 84, 121, 112, 101]⟩ fs A cap w.heap.size w' (by decide) h.fds hfl h.be.size
  have CG2 := fun w' (h : Rq w m t A cap fs body w') => Get_any m t ⟨#[67, 111, 111, 107, 105, 101]⟩ fs A cap w.heap.size w' (by decide) h.fds hfl h.be.size
  rw [ct_up] at CG1
  rw [ck_up] at CG2
  have hvz : ∀ x ∈ getL fs ctB, x.size ≤ 1048576 := fun x hx => by
    obtain ⟨f, hf1, rfl⟩ := getL_mem hx
    exact (hf.2.2.2 f hf1).2
  have hBl := bodyR_len (ct := getL fs ctB) (body := body) (most := D) hbz
  obtain ⟨L, hL⟩ : ∃ L, L = getL fs ctB := ⟨_, rfl⟩
  rw [← hL] at CG1 hvz hvb hvc hvd hBl
  obtain ⟨Bd, hBd⟩ : ∃ Bd, Bd = bodyR L body D := ⟨_, rfl⟩
  rw [← hBd] at hvb hvc hvd hBl
  have hgs := Nat.le_trans (getL_sum ckB fs) hsv
  obtain ⟨G, hG⟩ : ∃ G, G = getL fs ckB := ⟨_, rfl⟩
  rw [← hG] at CG2 hgs hvc hvd
  have CC := fun Ag cg w' (h : StR w' w'.heap.size Ag cg G) => rcookies_any G Ag cg M w' h
  have hcc := lim_cases M (G.flatMap cookV)
  unfold LimRes at CC
  obtain ⟨K, hK⟩ : ∃ K, K = G.flatMap cookV := ⟨_, rfl⟩
  rw [← hK] at hcc hvc hvd
  simp only [← hK] at CC
  obtain ⟨W, hW⟩ : ∃ W, w.alloc (.cells #[.string m, .string t, .slice A fs.length cap, .string body] 26) = W := ⟨_, rfl⟩
  have hQ : Rq w m t A cap fs body W := by rw [← hW]; exact Rq.start hf
  have HQ := Lib.hid hQ
  obtain ⟨r0, r1, r2, r3⟩ := hQ.facts
  unfold VoRes
  obtain ⟨RR, hRR⟩ : ∃ RR, RR = argsR fs t body M := ⟨_, rfl⟩
  rw [← hRR] at hva hvb hvc hvd ⊢
  have hD1 : -1048577 ≤ D ∧ D ≤ 9223372036854775807 := by omega
  have w2 : IntKind.i64.wrap (M - (F.length : Int)) = D := by rw [IntWalk.i64_in _ (by omega)]; exact hD
  have HVA := Lib.hid hva
  have HVB := Lib.hid hvb
  have HVC := Lib.hid hvc
  have HVD := Lib.hid hvd
  have HLC := Lib.hid hlc
  have HCC := Lib.hid hcc
  have CF := Lib.hid CF
  have CG1 := Lib.hid CG1
  have CG2 := Lib.hid CG2
  have CC := Lib.hid CC
  have HGS := Lib.hid hgs
  have HBd := Lib.hid hBd
  have HVZ := Lib.hid hvz
  clear hva hvb hvc hvd hlc hcc hqs hF hBd hG hK hRR hQ hf hgs hL hvz hD
  go_enter Tryd.func7, Tryd.ntmps7
  go_wp2_with fail
  refine (CQ.out _).mono ?_
  rintro e w1 ⟨rfl, b1'⟩
  have HQ1 := Lib.hid (HQ.out.step b1')
  clear b1' hW r0 r1 r2 r3
  obtain ⟨r0, r1, r2, r3⟩ := HQ1.out.facts
  go_wp2_with fail
  refine (CF.out _).mono ?_
  rintro e w2' ⟨v1, rfl, ho1, b2'⟩
  have HQ2 := Lib.hid (HQ1.out.step b2')
  have HO1 := Lib.hid (ho1.mono (Nat.succ_le_of_lt HQ1.out.blk.lt))
  clear b2' ho1 r0 r1 r2 r3
  obtain ⟨r0, r1, r2, r3⟩ := HQ2.out.facts
  rcases HLC.out with ⟨h1, h2⟩ | ⟨h1, h2, h3⟩
  · have HF := Lib.hid (HVA.out h1)
    rw [h1]
    clear h1 h2
    go_wp2_with fail
    go_ret3
    exact ⟨.slice none 0 0, .slice none 0 0, by rw [HF.out]; rfl, by rw [HF.out]; exact OP.nil _ _ _, by rw [HF.out]; exact OP.nil _ _ _, HQ2.out.be⟩
  · rw [h2] at HO1
    have H1F := Lib.hid h1
    obtain ⟨A1, c1, rfl⟩ := HO1.out.form
    rw [h1]
    clear h1 h2 h3
    go_wp2_with fail
    refine (CG1.out _ HQ2.out).mono ?_
    rintro e w3 ⟨vL, rfl, hoL, b3⟩
    obtain ⟨AL, cL, rfl⟩ := hoL.form
    have HQ3 := Lib.hid (HQ2.out.step b3)
    have HO3 := Lib.hid (HO1.out.kept b3)
    clear b3 r0 r1 r2 r3
    obtain ⟨r0, r1, r2, r3⟩ := HQ3.out.facts
    cases L with
    | nil =>
      have HBD : Hid (Bd = ([], 0)) := Lib.hid (by rw [HBd.out]; rfl)
      clear hoL
      have HC2 := Lib.hid (HVC.out H1F.out (by rw [HBD.out]))
      have HD2 := Lib.hid (HVD.out H1F.out (by rw [HBD.out]))
      try go_wp2_with fail
      refine (CG2.out _ HQ3.out).mono ?_
      rintro e x4 ⟨v4, rfl, ho4, b4⟩
      obtain ⟨Ag, cg, rfl⟩ := ho4.form
      have HQ4 := Lib.hid (HQ3.out.step b4)
      have HO1c := Lib.hid (HO3.out.kept b4)
      have HST := Lib.hid (str_of_own ho4 HGS.out)
      clear b4 ho4
      go_wp2_with fail
      refine (CC.out _ _ _ HST.out).mono ?_
      rintro e x5 ⟨v5, rfl, ho5, b5⟩
      have HQ5 := Lib.hid (HQ4.out.step b5)
      have HO1d := Lib.hid (HO1c.out.kept b5)
      have HO5 := Lib.hid (ho5.mono HQ4.out.be.size)
      clear b5 ho5
      rcases HCC.out with ⟨h1, h2⟩ | ⟨h1, h2, h3⟩
      · have HF := Lib.hid (HC2.out h1)
        rw [h1]
        clear h1 h2
        go_wp2_with fail
        go_ret3
        exact ⟨.slice none 0 0, .slice none 0 0, by rw [HF.out]; rfl, by rw [HF.out]; exact OP.nil _ _ _, by rw [HF.out]; exact OP.nil _ _ _, HQ5.out.be⟩
      · have HF := Lib.hid (HD2.out h1)
        rw [h2] at HO5
        rw [h1]
        clear h1 h2 h3
        go_wp2_with fail
        go_ret3
        exact ⟨.slice A1 F.length c1, v5, by rw [HF.out]; rfl, by rw [HF.out, HBD.out]; exact (show OP 35 x5 w.heap.size (.slice A1 F.length c1) (F ++ []) by rw [List.append_nil]; exact HO1d.out.mono (Nat.le_succ _)), by rw [HF.out]; exact HO5.out, HQ5.out.be⟩
    | cons v0 L =>
      obtain ⟨g, eA, hg1, hg2, hg3, hcell⟩ := hoL.at_ (by simp)
      subst eA
      have x0 : w3.cell? ⟨g, 0, none⟩ = some (.string v0) := hcell 0 (by simp)
      have HX := Lib.hid fun w' (hb : Below w3.heap.size w3 w') => (hb.cell (p := ⟨g, 0, none⟩) hg2).trans x0
      have hvz := HVZ.out v0 (by simp)
      have i0 : (0 : Int) < (L.length : Int) + 1 := by omega
      have i1 : ((L.length : Int) + 1 == 0) = false := beq_eq_false_iff_ne.2 (by omega)
      have C1 := Lib.hid fun w' => rsplit_any v0 ⟨#[59]⟩ w' (by omega) (by decide)
      have hcs := (cutS_size v0 ⟨#[59]⟩).1
      obtain ⟨k0, hk0⟩ : ∃ k, k = (cutS v0 ⟨#[59]⟩).1 := ⟨_, rfl⟩
      obtain ⟨k1, hk1⟩ : ∃ k, k = (cutS v0 ⟨#[59]⟩).2.1 := ⟨_, rfl⟩
      obtain ⟨k2, hk2⟩ : ∃ k, k = (cutS v0 ⟨#[59]⟩).2.2 := ⟨_, rfl⟩
      rw [← hk0, ← hk1, ← hk2] at C1
      rw [← hk0] at hcs
      have C2 := fun w' => Trim_any k0 w' (by omega)
      have htl := trimL_len k0.data.toList
      rw [lst_len] at htl
      obtain ⟨z, hz⟩ : ∃ z, z = str (trimL k0.data.toList) := ⟨_, rfl⟩
      have hzz : z.size ≤ 1048576 := by rw [hz, size_str]; omega
      rw [← hz] at C2
      have C3 := fun w' => Low_any z w' (by omega)
      obtain ⟨Z, hZ⟩ : ∃ Z, Z = z.data.toList.map lowB := ⟨_, rfl⟩
      rw [← hZ] at C3
      have hU : urlK v0 = (Z == ueB.data.toList) := by unfold urlK; rw [← hk0, ← hz, ← hZ]
      have HU := Lib.hid hU
      have C2 := Lib.hid C2
      have C3 := Lib.hid C3
      clear hk0 hk1 hk2 hz hZ hU hoL hcell htl
      go_wp2_with fail
      refine (C1.out _).mono ?_
      rintro e w4 ⟨rfl, q4, hw4⟩
      have HB4 : Hid (Below w3.heap.size w3 w4) := Lib.hid (by rw [hw4]; exact below_drewN (Below.refl _ _) q4)
      clear hw4
      go_wp2_with fail
      refine (C2.out _).mono ?_
      rintro e w' ⟨rfl, rfl⟩
      go_wp2_with fail
      refine (C3.out _).mono ?_
      rintro e w5 ⟨rfl, q5, hw5⟩
      have HB5 : Hid (Below w3.heap.size w3 w5) := Lib.hid (by rw [hw5]; exact below_drewN HB4.out q5)
      have HQ5' := Lib.hid (HQ3.out.step HB5.out)
      have HO5' := Lib.hid (HO3.out.kept HB5.out)
      clear hw5 r0 r1 r2 r3 x0
      obtain ⟨r0, r1, r2, r3⟩ := HQ5'.out.facts
      have x0 := HX.out _ HB5.out
      cases hq : (Z == ueB.data.toList) with
      | true =>
        have q1 : (Z == [97, 112, 112, 108, 105, 99, 97, 116, 105, 111, 110, 47, 120, 45, 119, 119, 119, 45, 102, 111, 114, 109, 45, 117, 114, 108, 101, 110, 99, 111, 100, 101, 100]) = true := hq
        have hbd := HBd.out.trans (body_url (HU.out.trans hq))
        have C4 := rform_any body D w5 hbz
        unfold LimRes at C4
        rw [show (pcs body ⟨#[38]⟩).flatMap keepF = formA body from rfl] at C4
        have hl2 := lim_cases D (formA body)
        have hfb := formA_len hbz
        obtain ⟨FB, hFB⟩ : ∃ FB, FB = formA body := ⟨_, rfl⟩
        rw [← hFB] at C4 hbd hl2 hfb
        have HL2 := Lib.hid hl2
        have HBE := Lib.hid hbd
        have C4 := Lib.hid C4
        clear hq hFB hl2 hbd
        go_wp2_with fail
        refine C4.out.mono ?_
        rintro e w6 ⟨v6, rfl, ho6, b6⟩
        have HQ6 := Lib.hid (HQ5'.out.step b6)
        have HO6 := Lib.hid (HO5'.out.kept b6)
        have HOM := Lib.hid (ho6.mono HQ5'.out.be.size)
        clear b6 ho6 r0 r1 r2 r3 x0
        obtain ⟨r0, r1, r2, r3⟩ := HQ6.out.facts
        rcases HL2.out with ⟨h1, h2⟩ | ⟨h1, h2, h3⟩
        · have HF := Lib.hid (HVB.out H1F.out 2 (by rw [HBE.out]; exact h1) (by decide))
          rw [h1]
          clear h1 h2
          go_wp2_with fail
          go_ret3
          exact ⟨.slice none 0 0, .slice none 0 0, by rw [HF.out]; rfl, by rw [HF.out]; exact OP.nil _ _ _, by rw [HF.out]; exact OP.nil _ _ _, HQ6.out.be⟩
        · have HBD : Hid (Bd = (FB, 0)) := Lib.hid (by rw [HBE.out, h1, h2])
          rw [h2] at HOM
          rw [h1]
          clear h1 h2 h3
          obtain ⟨A6, c6, rfl⟩ := HOM.out.form
          have hbl2 : F.length + FB.length ≤ 1000000000 := by omega
          go_wp2_with (at_builtin; refine wpL_appPP infoArg Tryd.underlying28 rfl (.tmp 85) (.tmp 86) rfl HO6.out rfl HOM.out rfl hbl2 (Nat.succ_le_of_lt HQ6.out.blk.lt) ?_; intro v7 w7 ho7 _ b7; obtain ⟨t0, t1, t2, t3⟩ := (HQ6.out.grow b7).facts)
          have HO7 := Lib.hid ho7
          have HQ7 := Lib.hid (HQ6.out.grow b7)
          clear ho7 b7 r0 r1 r2 r3
          have HC2 := Lib.hid (HVC.out H1F.out (by rw [HBD.out]))
          have HD2 := Lib.hid (HVD.out H1F.out (by rw [HBD.out]))
          try go_wp2_with fail
          refine (CG2.out _ HQ7.out).mono ?_
          rintro e x4 ⟨v4, rfl, ho4, b4⟩
          obtain ⟨Ag, cg, rfl⟩ := ho4.form
          have HQ4 := Lib.hid (HQ7.out.step b4)
          have HO1c := Lib.hid (HO7.out.kept b4)
          have HST := Lib.hid (str_of_own ho4 HGS.out)
          clear b4 ho4
          go_wp2_with fail
          refine (CC.out _ _ _ HST.out).mono ?_
          rintro e x5 ⟨v5, rfl, ho5, b5⟩
          have HQ5 := Lib.hid (HQ4.out.step b5)
          have HO1d := Lib.hid (HO1c.out.kept b5)
          have HO5 := Lib.hid (ho5.mono HQ4.out.be.size)
          clear b5 ho5
          rcases HCC.out with ⟨h1, h2⟩ | ⟨h1, h2, h3⟩
          · have HF := Lib.hid (HC2.out h1)
            rw [h1]
            clear h1 h2
            go_wp2_with fail
            go_ret3
            exact ⟨.slice none 0 0, .slice none 0 0, by rw [HF.out]; rfl, by rw [HF.out]; exact OP.nil _ _ _, by rw [HF.out]; exact OP.nil _ _ _, HQ5.out.be⟩
          · have HF := Lib.hid (HD2.out h1)
            rw [h2] at HO5
            rw [h1]
            clear h1 h2 h3
            go_wp2_with fail
            go_ret3
            exact ⟨v7, v5, by rw [HF.out]; rfl, by rw [HF.out, HBD.out]; exact HO1d.out.mono (Nat.le_succ _), by rw [HF.out]; exact HO5.out, HQ5.out.be⟩
      | false =>
        have q1 : (Z == [97, 112, 112, 108, 105, 99, 97, 116, 105, 111, 110, 47, 120, 45, 119, 119, 119, 45, 102, 111, 114, 109, 45, 117, 114, 108, 101, 110, 99, 111, 100, 101, 100]) = false := hq
        have hu := HU.out.trans hq
        have C4 := rboundary_any v0 w5 hvz
        have hbr := body_no (v := v0) (l := L) (body := body) (most := D) hu
        have hbm := body_multi (v := v0) (l := L) (body := body) (most := D) hu
        have hbk := bndR_ok (v := v0)
        obtain ⟨b, hb⟩ : ∃ b, b = (bndR v0).1 := ⟨_, rfl⟩
        obtain ⟨o, ho⟩ : ∃ o, o = (bndR v0).2 := ⟨_, rfl⟩
        rw [← hb, ← ho] at C4 hbm hbk
        rw [← ho] at hbr
        rw [← HBd.out] at hbr hbm
        have C4 := Lib.hid C4
        have HBR := Lib.hid hbr
        have HBM := Lib.hid hbm
        clear hq hu hb ho hbr hbm
        go_wp2_with fail
        refine C4.out.mono ?_
        rintro e w6 ⟨rfl, q6, hw6⟩
        have HB6 : Hid (Below w5.heap.size w5 w6) := Lib.hid (by rw [hw6]; exact below_drewN (Below.refl _ _) q6)
        have HQ6 := Lib.hid (HQ5'.out.step HB6.out)
        have HO6 := Lib.hid (HO5'.out.kept HB6.out)
        clear hw6 r0 r1 r2 r3 x0
        obtain ⟨r0, r1, r2, r3⟩ := HQ6.out.facts
        cases o with
        | false =>
          have HBD := Lib.hid (HBR.out rfl)
          go_wp2_with (at_builtin; refine wpL_appPP infoArg Tryd.underlying28 rfl (.tmp 85) (.tmp 86) rfl HO6.out rfl (OP.nil _ _ 0) rfl (by simp; omega) (Nat.succ_le_of_lt HQ6.out.blk.lt) ?_; intro v7 w7 ho7 _ b7; obtain ⟨t0, t1, t2, t3⟩ := (HQ6.out.grow b7).facts)
          have HO7 := Lib.hid ho7
          have HQ7 := Lib.hid (HQ6.out.grow b7)
          clear ho7 b7 r0 r1 r2 r3
          have HC2 := Lib.hid (HVC.out H1F.out (by rw [HBD.out]))
          have HD2 := Lib.hid (HVD.out H1F.out (by rw [HBD.out]))
          try go_wp2_with fail
          refine (CG2.out _ HQ7.out).mono ?_
          rintro e x4 ⟨v4, rfl, ho4, b4⟩
          obtain ⟨Ag, cg, rfl⟩ := ho4.form
          have HQ4 := Lib.hid (HQ7.out.step b4)
          have HO1c := Lib.hid (HO7.out.kept b4)
          have HST := Lib.hid (str_of_own ho4 HGS.out)
          clear b4 ho4
          go_wp2_with fail
          refine (CC.out _ _ _ HST.out).mono ?_
          rintro e x5 ⟨v5, rfl, ho5, b5⟩
          have HQ5 := Lib.hid (HQ4.out.step b5)
          have HO1d := Lib.hid (HO1c.out.kept b5)
          have HO5 := Lib.hid (ho5.mono HQ4.out.be.size)
          clear b5 ho5
          rcases HCC.out with ⟨h1, h2⟩ | ⟨h1, h2, h3⟩
          · have HF := Lib.hid (HC2.out h1)
            rw [h1]
            clear h1 h2
            go_wp2_with fail
            go_ret3
            exact ⟨.slice none 0 0, .slice none 0 0, by rw [HF.out]; rfl, by rw [HF.out]; exact OP.nil _ _ _, by rw [HF.out]; exact OP.nil _ _ _, HQ5.out.be⟩
          · have HF := Lib.hid (HD2.out h1)
            rw [h2] at HO5
            rw [h1]
            clear h1 h2 h3
            go_wp2_with fail
            go_ret3
            exact ⟨v7, v5, by rw [HF.out]; rfl, by rw [HF.out, HBD.out]; exact HO1d.out.mono (Nat.le_succ _), by rw [HF.out]; exact HO5.out, HQ5.out.be⟩
        | true =>
          have hbz2 := hbk rfl
          obtain ⟨M2, hM2⟩ : ∃ M2, min D 20 = M2 := ⟨_, rfl⟩
          have hM2b : -1048577 ≤ M2 ∧ M2 ≤ 20 := by omega
          have HF0 := HBM.out rfl
          rw [hM2] at HF0
          have C5 := readMulti_any b body M2 w6 (by omega) (wf_small hM2b)
          unfold PsRes at C5
          have hrl := readR_le b body M2
          obtain ⟨RR', hRR⟩ : ∃ RR, RR = readR b body M2 := ⟨_, rfl⟩
          rw [← hRR] at C5 HF0 hrl
          have C5 := Lib.hid C5
          obtain ⟨rl, re⟩ := RR'
          have HBE : Hid (Bd = (rl, errM re)) := Lib.hid HF0
          dsimp only at hrl
          clear hRR HF0 hbk
          go_wp2_with fail
          refine C5.out.mono ?_
          rintro e w7 ⟨v7, rfl, ho7, b7⟩
          have HQ7' := Lib.hid (HQ6.out.step b7)
          have HO7' := Lib.hid (HO6.out.kept b7)
          have HOM : Hid (OP 35 w7 w.heap.size v7 rl) := Lib.hid (ho7.mono HQ6.out.be.size)
          clear ho7 b7 r0 r1 r2 r3
          obtain ⟨r0, r1, r2, r3⟩ := HQ7'.out.facts
          obtain ⟨A8, c8, rfl⟩ := HOM.out.form
          by_cases e0 : re = 0
          · subst e0
            have HBD : Hid (Bd = (rl, 0)) := Lib.hid HBE.out
            go_wp2_with (at_builtin; refine wpL_appPP infoArg Tryd.underlying28 rfl (.tmp 85) (.tmp 86) rfl HO7'.out rfl HOM.out rfl (by omega) (Nat.succ_le_of_lt HQ7'.out.blk.lt) ?_; intro v9 w9 ho9 _ b9; obtain ⟨t0, t1, t2, t3⟩ := (HQ7'.out.grow b9).facts)
            have HO7 := Lib.hid ho9
            have HQ7 := Lib.hid (HQ7'.out.grow b9)
            clear ho9 b9 r0 r1 r2 r3
            have HC2 := Lib.hid (HVC.out H1F.out (by rw [HBD.out]))
            have HD2 := Lib.hid (HVD.out H1F.out (by rw [HBD.out]))
            try go_wp2_with fail
            refine (CG2.out _ HQ7.out).mono ?_
            rintro e x4 ⟨v4, rfl, ho4, b4⟩
            obtain ⟨Ag, cg, rfl⟩ := ho4.form
            have HQ4 := Lib.hid (HQ7.out.step b4)
            have HO1c := Lib.hid (HO7.out.kept b4)
            have HST := Lib.hid (str_of_own ho4 HGS.out)
            clear b4 ho4
            go_wp2_with fail
            refine (CC.out _ _ _ HST.out).mono ?_
            rintro e x5 ⟨v5, rfl, ho5, b5⟩
            have HQ5 := Lib.hid (HQ4.out.step b5)
            have HO1d := Lib.hid (HO1c.out.kept b5)
            have HO5 := Lib.hid (ho5.mono HQ4.out.be.size)
            clear b5 ho5
            rcases HCC.out with ⟨h1, h2⟩ | ⟨h1, h2, h3⟩
            · have HF := Lib.hid (HC2.out h1)
              rw [h1]
              clear h1 h2
              go_wp2_with fail
              go_ret3
              exact ⟨.slice none 0 0, .slice none 0 0, by rw [HF.out]; rfl, by rw [HF.out]; exact OP.nil _ _ _, by rw [HF.out]; exact OP.nil _ _ _, HQ5.out.be⟩
            · have HF := Lib.hid (HD2.out h1)
              rw [h2] at HO5
              rw [h1]
              clear h1 h2 h3
              go_wp2_with fail
              go_ret3
              exact ⟨v9, v5, by rw [HF.out]; rfl, by rw [HF.out, HBD.out]; exact HO1d.out.mono (Nat.le_succ _), by rw [HF.out]; exact HO5.out, HQ5.out.be⟩
          · by_cases e2 : re = 2
            · subst e2
              have HF := Lib.hid (HVB.out H1F.out 2 (by rw [HBE.out]; rfl) (by decide))
              go_wp2_with fail
              go_ret3
              exact ⟨.slice none 0 0, .slice none 0 0, by rw [HF.out]; rfl, by rw [HF.out]; exact OP.nil _ _ _, by rw [HF.out]; exact OP.nil _ _ _, HQ7'.out.be⟩
            · have d0 : (re != 0) = true := bne_iff_ne.2 e0
              have d2 : (re != 2) = true := bne_iff_ne.2 e2
              have HF := Lib.hid (HVB.out H1F.out 4 (by rw [HBE.out]; unfold errM; rw [if_neg (fun h => h.elim e0 e2)]) (by decide))
              clear e0 e2
              go_wp2_with fail
              go_ret3
              exact ⟨.slice none 0 0, .slice none 0 0, by rw [HF.out]; rfl, by rw [HF.out]; exact OP.nil _ _ _, by rw [HF.out]; exact OP.nil _ _ _, HQ7'.out.be⟩
end
end Go.Proofs.YtaepbpdcfmklpaaDoor
