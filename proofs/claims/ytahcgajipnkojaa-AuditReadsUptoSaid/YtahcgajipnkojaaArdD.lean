/- Walk: audit.Decode. -/
import Derived.Test.YtahcgajipnkojaaArdC
import Derived.Deep.Cut
import Derived.Deep.RegionLaw
import Derived.Deep.Onto
namespace Go.Proofs.Ytahcgajipnkojaa
open Go.RowKit
set_option linter.unusedVariables false
set_option linter.unusedSimpArgs false

theorem decode_empty (s : ByteArray) (w : World) (hs : s.size = 0) :
    Calls Try.prog 18 #[.string s] w (DecRes s.data.toList w) := by
  have hl : s.data.toList = [] := List.eq_nil_of_length_eq_zero (by rw [lst_len]; exact hs)
  have hd : decF s.data.toList = (7, Rc.zero, 0) := by rw [hl]; rfl
  have HD := Lib.hid hd
  have e1 : s.toList = [] := by rw [Lib.toList_data]; exact hl
  have e2 : s.toList.isEmpty = true := by rw [e1]; rfl
  clear hd hl hs
  go_enter Try.func18, Try.ntmps18
  go_wp2_with fail
  refine bodyPost_ret (v := .tuple #[.agg zrec, .int .i64 0, .int .i64 7]) (by simp [results, Try.results18, go_sem, zrec]) rfl ⟨(Below.refl _ _).alloc (Nat.le_refl _) _, .inl ⟨7, by decide, HD.out, rfl⟩⟩

theorem decode_head (s : ByteArray) (w : World) (hs : 0 < s.size) (h : ¬ s[0] = 82) :
    Calls Try.prog 18 #[.string s] w (DecRes s.data.toList w) := by
  have hl : ¬ s.data.toList = [] := by intro h; have := lst_len s; rw [h, List.length_nil] at this; omega
  have hd : decF s.data.toList = (4, Rc.zero, 0) := by
    unfold decF; rw [if_neg hl, if_pos (by rw [List.getD, lst_get? s 0 hs]; exact h)]
  have HD := Lib.hid hd
  have e1 : ¬ s.toList = [] := by rw [Lib.toList_data]; exact hl
  have e2 : s.toList.isEmpty = false := by rw [List.isEmpty_eq_false_iff]; exact e1
  have n82 : ((s[0].toNat : Int) != 82) = true := by rw [bne_iff_ne]; intro h2; exact h (UInt8.toNat_inj.1 (by rw [show (82 : UInt8).toNat = 82 from rfl]; omega))
  have n82' : ((s[0].toNat : Int) == 82) = false := by rw [beq_eq_false_iff_ne]; intro h2; exact h (UInt8.toNat_inj.1 (by rw [show (82 : UInt8).toNat = 82 from rfl]; omega))
  clear hd hl h
  go_enter Try.func18, Try.ntmps18
  go_wp2_with fail
  refine bodyPost_ret (v := .tuple #[.agg zrec, .int .i64 0, .int .i64 4]) (by simp [results, Try.results18, go_sem, zrec]) rfl ⟨(Below.refl _ _).alloc (Nat.le_refl _) _, .inl ⟨4, by decide, HD.out, rfl⟩⟩

set_option maxRecDepth 100000 in
set_option maxHeartbeats 4000000 in
theorem decode_go (s : ByteArray) (w : World) (hs : s.size ≤ 1048576) (h0 : 0 < s.size) (h82 : s[0] = 82) :
    Calls Try.prog 18 #[.string s] w (DecRes s.data.toList w) := by
  have hl : ¬ s.data.toList = [] := by intro h; have := lst_len s; rw [h, List.length_nil] at this; omega
  have hh : s.data.toList.getD 0 0 = 82 := by rw [List.getD, lst_get? s 0 h0]; exact h82
  have e1 : ¬ s.toList = [] := by rw [Lib.toList_data]; exact hl
  have e2 : s.toList.isEmpty = false := by rw [List.isEmpty_eq_false_iff]; exact e1
  have n82 : ((s[0].toNat : Int) != 82) = false := by rw [h82]; rfl
  have n82' : ((s[0].toNat : Int) == 82) = true := by rw [h82]; rfl
  have HL := Lib.hid hl
  have HH := Lib.hid hh
  clear hl hh h82
  obtain ⟨x1, a1, e1', h1⟩ : ∃ x a e, rd s.data.toList (-1) (1, 0) = (x, a, e) := ⟨_, _, _, rfl⟩
  obtain ⟨x2, a2, e2', h2⟩ : ∃ x a e, rd s.data.toList (-1) (a1, e1') = (x, a, e) := ⟨_, _, _, rfl⟩
  obtain ⟨x3, a3, e3', h3⟩ : ∃ x a e, rd s.data.toList (-1) (a2, e2') = (x, a, e) := ⟨_, _, _, rfl⟩
  obtain ⟨x4, a4, e4', h4⟩ : ∃ x a e, rd s.data.toList (-1) (a3, e3') = (x, a, e) := ⟨_, _, _, rfl⟩
  obtain ⟨x5, a5, e5', h5⟩ : ∃ x a e, rd s.data.toList 40 (a4, e4') = (x, a, e) := ⟨_, _, _, rfl⟩
  have A1 := rd_ats h1 (by rw [lst_len]; omega)
  have A2 := rd_ats h2 A1.1
  have A3 := rd_ats h3 A2.1
  have A4 := rd_ats h4 A3.1
  have A5 := rd_ats h5 A4.1
  have B5 := rd_bds h5
  rw [lst_len] at A1 A2 A3 A4 A5
  have H1 := Lib.hid ((rd_far _ _).trans h1)
  have H2 := Lib.hid ((rd_far _ _).trans h2)
  have H3 := Lib.hid ((rd_far _ _).trans h3)
  have H4 := Lib.hid ((rd_far _ _).trans h4)
  have H5 := Lib.hid h5
  have G1 := Lib.hid h1
  have G2 := Lib.hid h2
  have G3 := Lib.hid h3
  have G4 := Lib.hid h4
  clear h1 h2 h3 h4 h5
  go_enter Try.func18, Try.ntmps18
  go_wp2_with fail
  obtain ⟨w1, hw1⟩ : ∃ w1, w1 = ((w.alloc (.cells zrec 32)).alloc (.cells #[.string s, .int .i64 1, .int .i64 0] 60)).alloc (.cells zrec 32) := ⟨_, rfl⟩
  have hw1' := hw1
  unfold zrec at hw1'
  have D0 : Dst w w1 s 1 0 zrec zrec := by
    rw [hw1]
    exact ⟨((Blk.new w _ _).alloc _).alloc _, (show Blk (((w.alloc (.cells zrec 32)).alloc (.cells (rdrV s 1 0) 60)).alloc (.cells zrec 32)) (w.heap.size + 1) 60 (rdrV s 1 0) by have := (Blk.new (w.alloc (.cells zrec 32)) 60 (rdrV s 1 0)).alloc (.cells zrec 32); simpa using this), by have := Blk.new ((w.alloc (.cells zrec 32)).alloc (.cells #[.string s, .int .i64 1, .int .i64 0] 60)) 32 zrec; simpa using this, (((Below.refl _ _).alloc (Nat.le_refl _) _).alloc (by simp) _).alloc (by simp; omega) _⟩
  have HD0 := Lib.hid D0
  have C0 := Lib.hid (rdA_any s 1 0 4294967296 (w.heap.size + 1) w1 (by omega) D0.hk (by omega) (by omega) H1.out)
  clear D0 hw1
  rw [← hw1']
  clear hw1'
  refine C0.out.mono ?_
  rintro e wa ⟨rfl, hka, hqa⟩
  have Da := Lib.hid (HD0.out.read hka hqa)
  clear hka hqa
  go_wp2_with fail
  have Ca := Lib.hid (rdA_any s a1 e1' 4294967296 (w.heap.size + 1) wa (by omega) Da.out.hk (by omega) (by omega) H2.out)
  refine Ca.out.mono ?_
  rintro e wb ⟨rfl, hkb, hqb⟩
  have Db := Lib.hid (Da.out.read hkb hqb)
  clear hkb hqb
  go_wp2_with fail
  have Cb := Lib.hid (rdA_any s a2 e2' 4294967296 (w.heap.size + 1) wb (by omega) Db.out.hk (by omega) (by omega) H3.out)
  refine Cb.out.mono ?_
  rintro e wc ⟨rfl, hkc, hqc⟩
  have Dc := Lib.hid (Db.out.read hkc hqc)
  clear hkc hqc
  go_wp2_with fail
  have Cc := Lib.hid (rdA_any s a3 e3' 4294967296 (w.heap.size + 1) wc (by omega) Dc.out.hk (by omega) (by omega) H4.out)
  refine Cc.out.mono ?_
  rintro e wd ⟨rfl, hkd, hqd⟩
  have Dd := Lib.hid (Dc.out.read hkd hqd)
  clear hkd hqd C0 Ca Cb Cc HD0 Da Db Dc
  have ko0 : wd.cell? ⟨w.heap.size + 1 + 1, 0, none⟩ = some (.int .i64 0) := Dd.out.ho.cell 0
  have ko1 : wd.cell? ⟨w.heap.size + 1 + 1, 1, none⟩ = some (.int .i64 0) := Dd.out.ho.cell 1
  have ko2 : wd.cell? ⟨w.heap.size + 1 + 1, 2, none⟩ = some (.int .i64 0) := Dd.out.ho.cell 2
  have ko3 : wd.cell? ⟨w.heap.size + 1 + 1, 3, none⟩ = some (.int .i64 0) := Dd.out.ho.cell 3
  have fo0 : wd.frozen? ⟨w.heap.size + 1 + 1, 0, none⟩ = false := Dd.out.ho.frozen 0
  have fo1 : wd.frozen? ⟨w.heap.size + 1 + 1, 1, none⟩ = false := Dd.out.ho.frozen 1
  have fo2 : wd.frozen? ⟨w.heap.size + 1 + 1, 2, none⟩ = false := Dd.out.ho.frozen 2
  have fo3 : wd.frozen? ⟨w.heap.size + 1 + 1, 3, none⟩ = false := Dd.out.ho.frozen 3
  have De : Hid (Dst w ((((wd.setCell ⟨w.heap.size + 1 + 1, 0, none⟩ (.int .i64 x1)).setCell ⟨w.heap.size + 1 + 1, 1, none⟩ (.int .i64 x2)).setCell ⟨w.heap.size + 1 + 1, 2, none⟩ (.int .i64 x3)).setCell ⟨w.heap.size + 1 + 1, 3, none⟩ (.int .i64 x4)) s a4 e4' zrec #[.int .i64 x1, .int .i64 x2, .int .i64 x3, .int .i64 x4, .slice none 0 0, .string { data := #[] }]) :=
    (((Dd.out.outSet 0 (.int .i64 x1)).outSet 1 (.int .i64 x2)).outSet 2 (.int .i64 x3)).outSet 3 (.int .i64 x4)
  go_wp2_with fail
  obtain ⟨we, hwe⟩ : ∃ we, we = ((((wd.setCell ⟨w.heap.size + 1 + 1, 0, none⟩ (.int .i64 x1)).setCell ⟨w.heap.size + 1 + 1, 1, none⟩ (.int .i64 x2)).setCell ⟨w.heap.size + 1 + 1, 2, none⟩ (.int .i64 x3)).setCell ⟨w.heap.size + 1 + 1, 3, none⟩ (.int .i64 x4)) := ⟨_, rfl⟩
  rw [← hwe] at De ⊢
  clear hwe ko0 ko1 ko2 ko3 fo0 fo1 fo2 fo3 Dd
  have C4 := Lib.hid (rdA_any s a4 e4' 40 (w.heap.size + 1) we (by omega) De.out.hk (by omega) (by omega) H5.out)
  refine C4.out.mono ?_
  rintro e wf ⟨rfl, hkf, hqf⟩
  have Df := Lib.hid (De.out.read hkf hqf)
  clear hkf hqf C4 De
  obtain ⟨K, hK⟩ : ∃ K : Nat, x5 = K := ⟨x5.toNat, by omega⟩
  subst hK
  have hK40 : K ≤ 40 := by omega
  go_wp2_with fail
  go_loopw [33] (fun i wr => ∃ (j aj : Nat) (ej : Int) (mv : Value) (L : List Int), j ≤ K ∧ i = .int .i64 j ∧ Hid (rdMany s.data.toList j (a5, e5') = (L, aj, ej)) ∧ Dst w wr s aj ej zrec #[.int .i64 x1, .int .i64 x2, .int .i64 x3, .int .i64 x4, mv, .string { data := #[] }] ∧ OI wr (w.heap.size + 1 + 1 + 1) mv L) (fun i _ => K - (intOf i).toNat)
  case atStart => exact ⟨0, a5, e5', .slice none 0 0, [], by omega, rfl, rfl, Df.out, OI.nil _ _⟩
  case round =>
    obtain ⟨j, aj, ej, mv, L, hj, rfl, HM, hD, ho⟩ := hrel
    have hat := rdMany_at s.data.toList j a5 e5' (by rw [lst_len]; omega)
    rw [HM.out, lst_len] at hat
    obtain ⟨hat1, hat2, hat3⟩ := hat
    have hat1' : aj ≤ s.size := hat1
    have hat2b : a5 ≤ aj := hat2
    have hat3' : L.length = j := hat3
    have hat3a : L.length ≤ j := by omega
    have hat3b : j ≤ L.length := by omega
    clear hat1 hat2 hat3 hat3'
    have HD := Lib.hid hD
    have HO := Lib.hid ho
    clear hD ho
    by_cases hlt : j < K
    · obtain ⟨x, a', e', hr⟩ : ∃ x a e, rd s.data.toList (-1) (aj, ej) = (x, a, e) := ⟨_, _, _, rfl⟩
      have HR := Lib.hid ((rd_far _ _).trans hr)
      have HM2 : Hid (rdMany s.data.toList (j + 1) (a5, e5') = (L ++ [x], a', e')) := by
        show _ = _
        simp only [rdMany, HM.out, hr]
      clear hr
      have HS : Hid (∀ w' a e, Dst w w' s a e zrec #[.int .i64 x1, .int .i64 x2, .int .i64 x3, .int .i64 x4, mv, .string { data := #[] }] → w'.cell? ⟨w.heap.size + 1 + 1, 4, none⟩ = some mv ∧ w'.frozen? ⟨w.heap.size + 1 + 1, 4, none⟩ = false) := fun w' a e h => ⟨h.ho.cell 4, h.ho.frozen 4⟩
      have hDd := HD.out.drew
      have hOd := HO.out.drew
      obtain ⟨kk, ff⟩ := HS.out _ _ _ hDd
      go_wp2_with fail
      have hzd : w.heap.size + 1 + 1 < wr.heap.size := HD.out.ho.lt
      go_region_law (first
        | (refine step_dst rfl (.tmp 36) (.tmp 39) rfl (by assumption) (by assumption) (by rfl) (by rfl) (by omega) ?_; intro A1 c1 w1 ho1 hD1; obtain ⟨kk1, ff1⟩ := HS.out _ _ _ hD1)
        | (go_simp; go_at_call 60; refine (rdA_dst (by omega) (by assumption) (by assumption) (by omega) (by omega) HR.out).mono ?_; rintro e w' ⟨rfl, hD1, ho1⟩; obtain ⟨kk1, ff1⟩ := HS.out _ _ _ hD1; have hz1 := hD1.ho.lt))
      all_goals
        have hD3 := hD1.outSet 4 (.slice A1 (L.length + 1) c1)
        have ho3 := ownsRow_setCell_below (a := ⟨w.heap.size + 1 + 1, 4, none⟩) ho1 (by show w.heap.size + 1 + 1 < w.heap.size + 1 + 1 + 1; omega) (.slice A1 (L.length + 1) c1)
        have HD3 := Lib.hid hD3
        have HO3 := Lib.hid ho3
        clear hD3 ho3 hD1 ho1
        go_wp2_with fail
        go_roundw
        case rel => exact ⟨j + 1, a', e', _, L ++ [x], by omega, by go_num, HM2, HD3.out, HO3.out⟩
        case measure => simp [intOf]; omega
    · obtain rfl : j = K := by omega
      obtain ⟨x6, a6, e6, h6⟩ : ∃ x a e, rd s.data.toList 1000 (aj, ej) = (x, a, e) := ⟨_, _, _, rfl⟩
      have A6 := rd_ats h6 (by rw [lst_len]; omega)
      have B6 := rd_bds h6
      rw [lst_len] at A6
      have H6 := Lib.hid h6
      have HDF : Hid (decF s.data.toList = if e6 ≠ 0 then (e6, Rc.zero, 0) else if (s.size : Int) - a6 < x6 then (7, Rc.zero, 0) else if recE x1 x2 x3 x4 L x6.toNat ≠ 0 then (recE x1 x2 x3 x4 L x6.toNat, Rc.zero, 0)
        else (0, ⟨x1, x2, x3, x4, L, (s.data.toList.drop a6).take x6.toNat⟩, a6 + x6.toNat)) := by
        have := decF_eq HL.out HH.out G1.out G2.out G3.out G4.out H5.out (by rw [Int.toNat_natCast]; exact HM.out) h6
        rw [lst_len] at this; exact this
      clear h6
      have C6 := Lib.hid (rdA_dst (m := 1000) (by omega) HD.out HO.out (by omega) (by omega) H6.out)
      go_wp2_with fail
      refine C6.out.mono ?_
      rintro e wg ⟨rfl, hDg, hOg⟩
      have HDg := Lib.hid hDg
      have HOg := Lib.hid hOg
      clear hDg hOg C6 HD HO Df
      obtain ⟨X, hX⟩ : ∃ X : Nat, x6 = X := ⟨x6.toNat, by omega⟩
      subst hX
      have hX1 : X ≤ 1000 := by omega
      have r0 : wg.cell? ⟨w.heap.size + 1, 0, none⟩ = some (.string s) := HDg.out.hk.cell 0
      have r1 : wg.cell? ⟨w.heap.size + 1, 1, none⟩ = some (.int .i64 a6) := HDg.out.hk.cell 1
      have r2 : wg.cell? ⟨w.heap.size + 1, 2, none⟩ = some (.int .i64 e6) := HDg.out.hk.cell 2
      have q0 : wg.cell? ⟨w.heap.size, 0, none⟩ = some (.int .i64 0) := HDg.out.hr.cell 0
      have p0 : wg.frozen? ⟨w.heap.size, 0, none⟩ = false := HDg.out.hr.frozen 0
      have q1 : wg.cell? ⟨w.heap.size, 1, none⟩ = some (.int .i64 0) := HDg.out.hr.cell 1
      have p1 : wg.frozen? ⟨w.heap.size, 1, none⟩ = false := HDg.out.hr.frozen 1
      have q2 : wg.cell? ⟨w.heap.size, 2, none⟩ = some (.int .i64 0) := HDg.out.hr.cell 2
      have p2 : wg.frozen? ⟨w.heap.size, 2, none⟩ = false := HDg.out.hr.frozen 2
      have q3 : wg.cell? ⟨w.heap.size, 3, none⟩ = some (.int .i64 0) := HDg.out.hr.cell 3
      have p3 : wg.frozen? ⟨w.heap.size, 3, none⟩ = false := HDg.out.hr.frozen 3
      have q4 : wg.cell? ⟨w.heap.size, 4, none⟩ = some (.slice none 0 0) := HDg.out.hr.cell 4
      have p4 : wg.frozen? ⟨w.heap.size, 4, none⟩ = false := HDg.out.hr.frozen 4
      have q5 : wg.cell? ⟨w.heap.size, 5, none⟩ = some (.string { data := #[] }) := HDg.out.hr.cell 5
      have p5 : wg.frozen? ⟨w.heap.size, 5, none⟩ = false := HDg.out.hr.frozen 5
      by_cases he6 : e6 = 0
      · subst he6
        obtain ⟨A, cap, rfl⟩ := HOg.out.form
        have j1 : IntKind.i64.wrap ((s.size : Int) - (a6 : Int)) = (s.size : Int) - (a6 : Int) := IntWalk.i64_in _ (by omega)
        by_cases hmore : (s.size : Int) - (a6 : Int) < (X : Int)
        · have hd := HDF.out
          rw [if_neg (by simp), if_pos hmore] at hd
          have HR := Lib.hid hd
          clear hd HDF
          go_wp2_with fail
          obtain ⟨wz, hwz⟩ : ∃ wz, wz = ((((((wg.setCell ⟨w.heap.size, 0, none⟩ (.int .i64 0)).setCell ⟨w.heap.size, 1, none⟩ (.int .i64 0)).setCell ⟨w.heap.size, 2, none⟩ (.int .i64 0)).setCell ⟨w.heap.size, 3, none⟩ (.int .i64 0)).setCell ⟨w.heap.size, 4, none⟩ (.slice none 0 0)).setCell ⟨w.heap.size, 5, none⟩ (.string { data := #[] })) := ⟨_, rfl⟩
          rw [← hwz]
          have HZ : Hid (Dst w wz s a6 0 zrec #[.int .i64 x1, .int .i64 x2, .int .i64 x3, .int .i64 x4, .slice A L.length cap, .string { data := #[] }]) := by rw [hwz]; exact ((((((HDg.out.resSet 0 (.int .i64 0)).resSet 1 (.int .i64 0)).resSet 2 (.int .i64 0)).resSet 3 (.int .i64 0)).resSet 4 (.slice none 0 0)).resSet 5 (.string { data := #[] }))
          clear hwz
          have z0 : wz.cell? ⟨w.heap.size, 0, none⟩ = some (.int .i64 0) := HZ.out.hr.cell 0
          have z1 : wz.cell? ⟨w.heap.size, 1, none⟩ = some (.int .i64 0) := HZ.out.hr.cell 1
          have z2 : wz.cell? ⟨w.heap.size, 2, none⟩ = some (.int .i64 0) := HZ.out.hr.cell 2
          have z3 : wz.cell? ⟨w.heap.size, 3, none⟩ = some (.int .i64 0) := HZ.out.hr.cell 3
          have z4 : wz.cell? ⟨w.heap.size, 4, none⟩ = some (.slice none 0 0) := HZ.out.hr.cell 4
          have z5 : wz.cell? ⟨w.heap.size, 5, none⟩ = some (.string { data := #[] }) := HZ.out.hr.cell 5
          refine bodyPost_ret (v := .tuple #[.agg zrec, .int .i64 0, .int .i64 7]) (by simp [results, Try.results18, go_sem, zrec, z0, z1, z2, z3, z4, z5]) rfl ⟨HZ.out.hb, .inl ⟨7, by decide, HR.out, rfl⟩⟩
        · obtain ⟨T, hT⟩ : ∃ T, T = s.extract a6 (a6 + X) := ⟨_, rfl⟩
          have hTl : T.data.toList = (s.data.toList.drop a6).take X := by rw [hT, Lib.extract_data]; simp
          have hTs : T.size = X := by rw [← lst_len, hTl, List.length_take, List.length_drop, lst_len]; omega
          have HT := Lib.hid hT
          have HTL := Lib.hid hTl
          obtain ⟨E, hE⟩ : ∃ E, recE x1 x2 x3 x4 L X = E := ⟨_, rfl⟩
          have hd := HDF.out
          rw [if_neg (by simp), if_neg hmore, Int.toNat_natCast, hE] at hd
          have HDE := Lib.hid hd
          have HE := Lib.hid hE
          clear hd HDF hE hTl
          have o5 : wg.cell? ⟨w.heap.size + 1 + 1, 5, none⟩ = some (.string { data := #[] }) := HDg.out.ho.cell 5
          have g5 : wg.frozen? ⟨w.heap.size + 1 + 1, 5, none⟩ = false := HDg.out.ho.frozen 5
          have i1 : (0 : Int) ≤ (a6 : Int) := by omega
          have i2 : (a6 : Int) ≤ (a6 : Int) + (X : Int) := by omega
          have i3 : (a6 : Int) + (X : Int) ≤ (s.size : Int) := by omega
          have j2 : IntKind.i64.wrap ((a6 : Int) + (X : Int)) = (a6 : Int) + (X : Int) := IntWalk.i64_in _ (by omega)
          have j3 : ((a6 : Int) + (X : Int)).toNat = a6 + X := by omega
          go_wp2_with fail
          go_region_held (fun w' => w'.cell? ⟨w.heap.size + 1, 1, none⟩ = some (.int .i64 a6)) (go_keep) (fail)
          rw [← hT]
          obtain ⟨wh, hwh⟩ : ∃ wh, wh = (wg.setCell ⟨w.heap.size + 1 + 1, 5, none⟩ (.string T)).drew := ⟨_, rfl⟩
          rw [← hwh]
          have HDh : Hid (Dst w wh s a6 0 zrec #[.int .i64 x1, .int .i64 x2, .int .i64 x3, .int .i64 x4, .slice A L.length cap, .string T]) := by rw [hwh]; exact (HDg.out.outSet 5 (.string T)).drew
          have HOh : Hid (OI wh (w.heap.size + 1 + 1 + 1) (.slice A L.length cap) L) := by rw [hwh]; exact ownsRow_setCell_below (a := ⟨w.heap.size + 1 + 1, 5, none⟩) HOg.out (by show w.heap.size + 1 + 1 < w.heap.size + 1 + 1 + 1; omega) (.string T)
          clear hwh hT i1 i2 i3 j1 j2 j3 o5 g5 r0 r1 r2 q0 q1 q2 q3 q4 q5 p0 p1 p2 p3 p4 p5
          have o0 : wh.cell? ⟨w.heap.size + 1 + 1, 0, none⟩ = some (.int .i64 x1) := HDh.out.ho.cell 0
          have o1 : wh.cell? ⟨w.heap.size + 1 + 1, 1, none⟩ = some (.int .i64 x2) := HDh.out.ho.cell 1
          have o2 : wh.cell? ⟨w.heap.size + 1 + 1, 2, none⟩ = some (.int .i64 x3) := HDh.out.ho.cell 2
          have o3 : wh.cell? ⟨w.heap.size + 1 + 1, 3, none⟩ = some (.int .i64 x4) := HDh.out.ho.cell 3
          have o4 : wh.cell? ⟨w.heap.size + 1 + 1, 4, none⟩ = some (.slice A L.length cap) := HDh.out.ho.cell 4
          have o5 : wh.cell? ⟨w.heap.size + 1 + 1, 5, none⟩ = some (.string T) := HDh.out.ho.cell 5
          have CK := Lib.hid (check_any x1 x2 x3 x4 A cap L T wh.heap.size wh (by omega) (by omega) (Reads.of_own HOh.out) (Nat.le_refl _))
          rw [hTs] at CK
          go_wp2_with fail
          ((with_reducible refine CK.out.mono ?_); rintro e wk ⟨rfl, hbk⟩)
          rw [HE.out]
          have HDk := Lib.hid (HDh.out.below hbk)
          have HOk := Lib.hid (OI.kept HOh.out hbk)
          clear hbk CK o0 o1 o2 o3 o4 o5
          have q0 : wk.cell? ⟨w.heap.size, 0, none⟩ = some (.int .i64 0) := HDk.out.hr.cell 0
          have p0 : wk.frozen? ⟨w.heap.size, 0, none⟩ = false := HDk.out.hr.frozen 0
          have q1 : wk.cell? ⟨w.heap.size, 1, none⟩ = some (.int .i64 0) := HDk.out.hr.cell 1
          have p1 : wk.frozen? ⟨w.heap.size, 1, none⟩ = false := HDk.out.hr.frozen 1
          have q2 : wk.cell? ⟨w.heap.size, 2, none⟩ = some (.int .i64 0) := HDk.out.hr.cell 2
          have p2 : wk.frozen? ⟨w.heap.size, 2, none⟩ = false := HDk.out.hr.frozen 2
          have q3 : wk.cell? ⟨w.heap.size, 3, none⟩ = some (.int .i64 0) := HDk.out.hr.cell 3
          have p3 : wk.frozen? ⟨w.heap.size, 3, none⟩ = false := HDk.out.hr.frozen 3
          have q4 : wk.cell? ⟨w.heap.size, 4, none⟩ = some (.slice none 0 0) := HDk.out.hr.cell 4
          have p4 : wk.frozen? ⟨w.heap.size, 4, none⟩ = false := HDk.out.hr.frozen 4
          have q5 : wk.cell? ⟨w.heap.size, 5, none⟩ = some (.string { data := #[] }) := HDk.out.hr.cell 5
          have p5 : wk.frozen? ⟨w.heap.size, 5, none⟩ = false := HDk.out.hr.frozen 5
          by_cases hE0 : E = 0
          · subst hE0
            have hd := HDE.out
            rw [if_neg (by simp)] at hd
            have HR := Lib.hid hd
            clear hd HDE
            have o0 : wk.cell? ⟨w.heap.size + 1 + 1, 0, none⟩ = some (.int .i64 x1) := HDk.out.ho.cell 0
            have o1 : wk.cell? ⟨w.heap.size + 1 + 1, 1, none⟩ = some (.int .i64 x2) := HDk.out.ho.cell 1
            have o2 : wk.cell? ⟨w.heap.size + 1 + 1, 2, none⟩ = some (.int .i64 x3) := HDk.out.ho.cell 2
            have o3 : wk.cell? ⟨w.heap.size + 1 + 1, 3, none⟩ = some (.int .i64 x4) := HDk.out.ho.cell 3
            have o4 : wk.cell? ⟨w.heap.size + 1 + 1, 4, none⟩ = some (.slice A L.length cap) := HDk.out.ho.cell 4
            have o5 : wk.cell? ⟨w.heap.size + 1 + 1, 5, none⟩ = some (.string T) := HDk.out.ho.cell 5
            have r1 : wk.cell? ⟨w.heap.size + 1, 1, none⟩ = some (.int .i64 a6) := HDk.out.hk.cell 1
            have j2 : IntKind.i64.wrap ((a6 : Int) + (X : Int)) = (a6 : Int) + (X : Int) := IntWalk.i64_in _ (by omega)
            go_wp2_with fail
            have h1n : 1 ≤ a6 := by omega
            clear H1 H2 H3 H4 H5 G1 G2 G3 G4 HM H6 HE HDh HOh HDg HOg hat1' hat2b hat3a hat3b B5 B6 A1 A2 A3 A4 A5 A6
            obtain ⟨wz, hwz⟩ : ∃ wz, wz = ((((((wk.setCell ⟨w.heap.size, 0, none⟩ (.int .i64 x1)).setCell ⟨w.heap.size, 1, none⟩ (.int .i64 x2)).setCell ⟨w.heap.size, 2, none⟩ (.int .i64 x3)).setCell ⟨w.heap.size, 3, none⟩ (.int .i64 x4)).setCell ⟨w.heap.size, 4, none⟩ (.slice A L.length cap)).setCell ⟨w.heap.size, 5, none⟩ (.string T)).drew := ⟨_, rfl⟩
            have HZ : Hid (Dst w wz s a6 0 #[.int .i64 x1, .int .i64 x2, .int .i64 x3, .int .i64 x4, .slice A L.length cap, .string T] #[.int .i64 x1, .int .i64 x2, .int .i64 x3, .int .i64 x4, .slice A L.length cap, .string T]) := by rw [hwz]; exact ((((((HDk.out.resSet 0 (.int .i64 x1)).resSet 1 (.int .i64 x2)).resSet 2 (.int .i64 x3)).resSet 3 (.int .i64 x4)).resSet 4 (.slice A L.length cap)).resSet 5 (.string T)).drew
            have HOz : Hid (OI wz (w.heap.size + 1 + 1 + 1) (.slice A L.length cap) L) := by
              rw [hwz]
              exact (ownsRow_setCell_below (a := ⟨w.heap.size, 5, none⟩) (ownsRow_setCell_below (a := ⟨w.heap.size, 4, none⟩) (ownsRow_setCell_below (a := ⟨w.heap.size, 3, none⟩) (ownsRow_setCell_below (a := ⟨w.heap.size, 2, none⟩) (ownsRow_setCell_below (a := ⟨w.heap.size, 1, none⟩) (ownsRow_setCell_below (a := ⟨w.heap.size, 0, none⟩) HOk.out (by show w.heap.size < _; omega) (.int .i64 x1)) (by show w.heap.size < _; omega) (.int .i64 x2)) (by show w.heap.size < _; omega) (.int .i64 x3)) (by show w.heap.size < _; omega) (.int .i64 x4)) (by show w.heap.size < _; omega) (.slice A L.length cap)) (by show w.heap.size < _; omega) (.string T))
            have HWZ := Lib.hid hwz
            have HEND : Hid (DecRes s.data.toList w (.returned (.tuple #[recV x1 x2 x3 x4 A L.length cap T, .int .i64 ((a6 : Int) + (X : Int)), .int .i64 0])) wz) := by
              have hTT : T = str ((s.data.toList.drop a6).take X) := lst_inj (by rw [HTL.out, lst_mk])
              exact ⟨HZ.out.hb, .inr ⟨⟨x1, x2, x3, x4, L, (s.data.toList.drop a6).take X⟩, a6 + X, A, cap, HR.out, by rw [hTT]; rfl, World.ownsRow.mono HOz.out (by omega), by rw [lst_len]; omega, by omega⟩⟩
            clear hwz HDk HOk HR HTL HOz h1n hmore
            go_region_law (fail)
            all_goals go_wp2_with fail
            all_goals
              rw [← HWZ.out]
              clear HWZ q0 q1 q2 q3 q4 q5 p0 p1 p2 p3 p4 p5 o0 o1 o2 o3 o4 o5 r1
              have z0 : wz.cell? ⟨w.heap.size, 0, none⟩ = some (.int .i64 x1) := HZ.out.hr.cell 0
              have z1 : wz.cell? ⟨w.heap.size, 1, none⟩ = some (.int .i64 x2) := HZ.out.hr.cell 1
              have z2 : wz.cell? ⟨w.heap.size, 2, none⟩ = some (.int .i64 x3) := HZ.out.hr.cell 2
              have z3 : wz.cell? ⟨w.heap.size, 3, none⟩ = some (.int .i64 x4) := HZ.out.hr.cell 3
              have z4 : wz.cell? ⟨w.heap.size, 4, none⟩ = some (.slice A L.length cap) := HZ.out.hr.cell 4
              have z5 : wz.cell? ⟨w.heap.size, 5, none⟩ = some (.string T) := HZ.out.hr.cell 5
              refine bodyPost_ret (v := .tuple #[recV x1 x2 x3 x4 A L.length cap T, .int .i64 ((a6 : Int) + (X : Int)), .int .i64 0]) (by simp [results, Try.results18, go_sem, z0, z1, z2, z3, z4, z5]) rfl HEND.out
          · have hd := HDE.out
            rw [if_pos hE0] at hd
            have HR := Lib.hid hd
            have n1 : (E != 0) = true := by rw [bne_iff_ne]; exact hE0
            have n2 : (E == 0) = false := by rw [beq_eq_false_iff_ne]; exact hE0
            clear hd HDE
            go_wp2_with fail
            obtain ⟨wz, hwz⟩ : ∃ wz, wz = ((((((wk.setCell ⟨w.heap.size, 0, none⟩ (.int .i64 0)).setCell ⟨w.heap.size, 1, none⟩ (.int .i64 0)).setCell ⟨w.heap.size, 2, none⟩ (.int .i64 0)).setCell ⟨w.heap.size, 3, none⟩ (.int .i64 0)).setCell ⟨w.heap.size, 4, none⟩ (.slice none 0 0)).setCell ⟨w.heap.size, 5, none⟩ (.string { data := #[] })) := ⟨_, rfl⟩
            rw [← hwz]
            have HZ : Hid (Dst w wz s a6 0 zrec #[.int .i64 x1, .int .i64 x2, .int .i64 x3, .int .i64 x4, .slice A L.length cap, .string T]) := by rw [hwz]; exact ((((((HDk.out.resSet 0 (.int .i64 0)).resSet 1 (.int .i64 0)).resSet 2 (.int .i64 0)).resSet 3 (.int .i64 0)).resSet 4 (.slice none 0 0)).resSet 5 (.string { data := #[] }))
            have HOz : Hid (OI wz (w.heap.size + 1 + 1 + 1) (.slice A L.length cap) L) := by
              rw [hwz]
              exact (ownsRow_setCell_below (a := ⟨w.heap.size, 5, none⟩) (ownsRow_setCell_below (a := ⟨w.heap.size, 4, none⟩) (ownsRow_setCell_below (a := ⟨w.heap.size, 3, none⟩) (ownsRow_setCell_below (a := ⟨w.heap.size, 2, none⟩) (ownsRow_setCell_below (a := ⟨w.heap.size, 1, none⟩) (ownsRow_setCell_below (a := ⟨w.heap.size, 0, none⟩) HOk.out (by show w.heap.size < _; omega) (.int .i64 0)) (by show w.heap.size < _; omega) (.int .i64 0)) (by show w.heap.size < _; omega) (.int .i64 0)) (by show w.heap.size < _; omega) (.int .i64 0)) (by show w.heap.size < _; omega) (.slice none 0 0)) (by show w.heap.size < _; omega) (.string { data := #[] }))
            clear hwz
            have z0 : wz.cell? ⟨w.heap.size, 0, none⟩ = some (.int .i64 0) := HZ.out.hr.cell 0
            have z1 : wz.cell? ⟨w.heap.size, 1, none⟩ = some (.int .i64 0) := HZ.out.hr.cell 1
            have z2 : wz.cell? ⟨w.heap.size, 2, none⟩ = some (.int .i64 0) := HZ.out.hr.cell 2
            have z3 : wz.cell? ⟨w.heap.size, 3, none⟩ = some (.int .i64 0) := HZ.out.hr.cell 3
            have z4 : wz.cell? ⟨w.heap.size, 4, none⟩ = some (.slice none 0 0) := HZ.out.hr.cell 4
            have z5 : wz.cell? ⟨w.heap.size, 5, none⟩ = some (.string { data := #[] }) := HZ.out.hr.cell 5
            refine bodyPost_ret (v := .tuple #[.agg zrec, .int .i64 0, .int .i64 E]) (by simp [results, Try.results18, go_sem, zrec, z0, z1, z2, z3, z4, z5]) rfl ⟨HZ.out.hb, .inl ⟨E, hE0, HR.out, rfl⟩⟩
      · have hd := HDF.out
        rw [if_pos he6] at hd
        have HR := Lib.hid hd
        have n1 : (e6 != 0) = true := by rw [bne_iff_ne]; exact he6
        have n2 : (e6 == 0) = false := by rw [beq_eq_false_iff_ne]; exact he6
        clear hd HDF
        go_wp2_with fail
        go_region_held (fun w' => w'.cell? ⟨w.heap.size + 1, 2, none⟩ = some (.int .i64 e6)) (go_keep) (fail)
        go_wp2_with fail
        obtain ⟨wz, hwz⟩ : ∃ wz, wz = ((((((wg.setCell ⟨w.heap.size, 0, none⟩ (.int .i64 0)).setCell ⟨w.heap.size, 1, none⟩ (.int .i64 0)).setCell ⟨w.heap.size, 2, none⟩ (.int .i64 0)).setCell ⟨w.heap.size, 3, none⟩ (.int .i64 0)).setCell ⟨w.heap.size, 4, none⟩ (.slice none 0 0)).setCell ⟨w.heap.size, 5, none⟩ (.string { data := #[] })).drew := ⟨_, rfl⟩
        rw [← hwz]
        have HZ : Hid (Dst w wz s a6 e6 zrec #[.int .i64 x1, .int .i64 x2, .int .i64 x3, .int .i64 x4, mv, .string { data := #[] }]) := by rw [hwz]; exact ((((((HDg.out.resSet 0 (.int .i64 0)).resSet 1 (.int .i64 0)).resSet 2 (.int .i64 0)).resSet 3 (.int .i64 0)).resSet 4 (.slice none 0 0)).resSet 5 (.string { data := #[] })).drew
        clear hwz
        have z0 : wz.cell? ⟨w.heap.size, 0, none⟩ = some (.int .i64 0) := HZ.out.hr.cell 0
        have z1 : wz.cell? ⟨w.heap.size, 1, none⟩ = some (.int .i64 0) := HZ.out.hr.cell 1
        have z2 : wz.cell? ⟨w.heap.size, 2, none⟩ = some (.int .i64 0) := HZ.out.hr.cell 2
        have z3 : wz.cell? ⟨w.heap.size, 3, none⟩ = some (.int .i64 0) := HZ.out.hr.cell 3
        have z4 : wz.cell? ⟨w.heap.size, 4, none⟩ = some (.slice none 0 0) := HZ.out.hr.cell 4
        have z5 : wz.cell? ⟨w.heap.size, 5, none⟩ = some (.string { data := #[] }) := HZ.out.hr.cell 5
        refine bodyPost_ret (v := .tuple #[.agg zrec, .int .i64 0, .int .i64 e6]) (by simp [results, Try.results18, go_sem, zrec, z0, z1, z2, z3, z4, z5]) rfl ⟨HZ.out.hb, .inl ⟨e6, he6, HR.out, rfl⟩⟩
end Go.Proofs.Ytahcgajipnkojaa
