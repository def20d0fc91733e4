/- Walk: wickref.ReadRecord. -/
import Derived.Test.YtahcgajipnkojaaArdF
import Derived.Deep.Cut
import Derived.Deep.RegionLaw
import Derived.Deep.Onto
namespace Go.Proofs.Ytahcgajipnkojaa
open Go.RowKit
set_option linter.unusedVariables false
set_option linter.unusedSimpArgs false

theorem read_empty (s : ByteArray) (w : World) (hs : s.size = 0) :
    Calls Try.prog 19 #[.string s] w (DecRes s.data.toList w) := by
  have hl : s.data.toList = [] := List.eq_nil_of_length_eq_zero (by rw [lst_len]; exact hs)
  have hd : decF s.data.toList = (7, Rc.zero, 0) := by rw [hl]; rfl
  have HD := Lib.hid hd
  have e1 : s.toList = [] := by rw [Lib.toList_data]; exact hl
  have e2 : s.toList.isEmpty = true := by rw [e1]; rfl
  clear hd hl hs
  go_enter Try.func19, Try.ntmps19
  go_wp2_with fail
  refine bodyPost_ret (v := .tuple #[.agg zrec, .int .i64 0, .int .i64 7]) (by simp [results, Try.results19, go_sem, zrec]) rfl ⟨((Below.refl _ _).alloc (Nat.le_refl _) _).alloc (by simp) _, .inl ⟨7, by decide, HD.out, rfl⟩⟩

theorem read_head (s : ByteArray) (w : World) (hs : 0 < s.size) (h : ¬ s[0] = 82) :
    Calls Try.prog 19 #[.string s] w (DecRes s.data.toList w) := by
  have hl : ¬ s.data.toList = [] := by intro h; have := lst_len s; rw [h, List.length_nil] at this; omega
  have hd : decF s.data.toList = (4, Rc.zero, 0) := by
    unfold decF; rw [if_neg hl, if_pos (by rw [List.getD, lst_get? s 0 hs]; exact h)]
  have HD := Lib.hid hd
  have e1 : ¬ s.toList = [] := by rw [Lib.toList_data]; exact hl
  have e2 : s.toList.isEmpty = false := by rw [List.isEmpty_eq_false_iff]; exact e1
  have n82 : ((s[0].toNat : Int) != 82) = true := by rw [bne_iff_ne]; intro h2; exact h (UInt8.toNat_inj.1 (by rw [show (82 : UInt8).toNat = 82 from rfl]; omega))
  have n82' : ((s[0].toNat : Int) == 82) = false := by rw [beq_eq_false_iff_ne]; intro h2; exact h (UInt8.toNat_inj.1 (by rw [show (82 : UInt8).toNat = 82 from rfl]; omega))
  clear hd hl h
  go_enter Try.func19, Try.ntmps19
  go_wp2_with fail
  refine bodyPost_ret (v := .tuple #[.agg zrec, .int .i64 0, .int .i64 4]) (by simp [results, Try.results19, go_sem, zrec]) rfl ⟨((Below.refl _ _).alloc (Nat.le_refl _) _).alloc (by simp) _, .inl ⟨4, by decide, HD.out, rfl⟩⟩

set_option maxRecDepth 100000 in
set_option maxHeartbeats 4000000 in
theorem read_go (s : ByteArray) (w : World) (hs : s.size ≤ 1048576) (h0 : 0 < s.size) (h82 : s[0] = 82) :
    Calls Try.prog 19 #[.string s] w (DecRes s.data.toList w) := by
  have hl : ¬ s.data.toList = [] := by intro h; have := lst_len s; rw [h, List.length_nil] at this; omega
  have hh : s.data.toList.getD 0 0 = 82 := by rw [List.getD, lst_get? s 0 h0]; exact h82
  have e1 : ¬ s.toList = [] := by rw [Lib.toList_data]; exact hl
  have e2 : s.toList.isEmpty = false := by rw [List.isEmpty_eq_false_iff]; exact e1
  have n82 : ((s[0].toNat : Int) != 82) = false := by rw [h82]; rfl
  have n82' : ((s[0].toNat : Int) == 82) = true := by rw [h82]; rfl
  have HL := Lib.hid hl
  have HH := Lib.hid hh
  clear hl hh h82
  obtain ⟨x1, a1, e1', h1⟩ : ∃ x a e, rd s.data.toList (-1) (1, 0) = (x, a, e) := ⟨_, _, _, rfl⟩
  obtain ⟨x2, a2, e2', h2⟩ : ∃ x a e, rd s.data.toList (-1) (a1, e1') = (x, a, e) := ⟨_, _, _, rfl⟩
  obtain ⟨x3, a3, e3', h3⟩ : ∃ x a e, rd s.data.toList (-1) (a2, e2') = (x, a, e) := ⟨_, _, _, rfl⟩
  obtain ⟨x4, a4, e4', h4⟩ : ∃ x a e, rd s.data.toList (-1) (a3, e3') = (x, a, e) := ⟨_, _, _, rfl⟩
  obtain ⟨x5, a5, e5', h5⟩ : ∃ x a e, rd s.data.toList 40 (a4, e4') = (x, a, e) := ⟨_, _, _, rfl⟩
  have A1 := rd_ats h1 (by rw [lst_len]; omega)
  have A2 := rd_ats h2 A1.1
  have A3 := rd_ats h3 A2.1
  have A4 := rd_ats h4 A3.1
  have A5 := rd_ats h5 A4.1
  have B5 := rd_bds h5
  rw [lst_len] at A1 A2 A3 A4 A5
  have G1 := Lib.hid h1
  have G2 := Lib.hid h2
  have G3 := Lib.hid h3
  have G4 := Lib.hid h4
  have H5 := Lib.hid h5
  clear h1 h2 h3 h4 h5
  go_enter Try.func19, Try.ntmps19
  go_wp2_with fail
  obtain ⟨w1, hw1⟩ : ∃ w1, w1 = ((((w.alloc (.cells #[.string s] 9)).alloc (.cells zrec 32)).alloc (.cells #[.int .i64 1] 3)).alloc (.cells #[.int .i64 0] 22)).alloc (.cells zrec 32) := ⟨_, rfl⟩
  have hw1' := hw1
  unfold zrec at hw1'
  have D0 : Rst w w1 s 1 0 zrec zrec := by
    rw [hw1]
    refine ⟨⟨?_, ?_, ?_, by omega, by omega, by omega⟩, ?_, ?_, ?_⟩
    · have := (Blk.new (((w.alloc (.cells #[.string s] 9)).alloc (.cells zrec 32)).alloc (.cells #[.int .i64 1] 3)) 22 #[.int .i64 0]).alloc (.cells zrec 32); simpa using this
    · exact ((((Blk.new w _ _).alloc _).alloc _).alloc _).alloc _
    · have := ((Blk.new ((w.alloc (.cells #[.string s] 9)).alloc (.cells zrec 32)) 3 #[.int .i64 1]).alloc (.cells #[.int .i64 0] 22)).alloc (.cells zrec 32); simpa using this
    · have := (((Blk.new (w.alloc (.cells #[.string s] 9)) 32 zrec).alloc (.cells #[.int .i64 1] 3)).alloc (.cells #[.int .i64 0] 22)).alloc (.cells zrec 32); simpa using this
    · have := Blk.new ((((w.alloc (.cells #[.string s] 9)).alloc (.cells zrec 32)).alloc (.cells #[.int .i64 1] 3)).alloc (.cells #[.int .i64 0] 22)) 32 zrec; simpa using this
    · exact (((((Below.refl _ _).alloc (Nat.le_refl _) _).alloc (by simp) _).alloc (by simp <;> omega) _).alloc (by simp <;> omega) _).alloc (by simp <;> omega) _
  have HD0 := Lib.hid D0
  clear D0 hw1
  rw [← hw1']
  clear hw1'
  have C1 := Lib.hid (rdR_any s (1) (0) (-1) w1 (w.heap.size + 1 + 1 + 1) w.heap.size (w.heap.size + 1 + 1) HD0.out.sn (by omega) (by omega) G1.out)
  refine C1.out.mono ?_
  rintro e v1 ⟨rfl, hk1, hq1⟩
  have E1 : Hid (Rst w v1 s a1 e1' zrec (zrec)) := HD0.out.read hk1 hq1
  clear hk1 hq1 C1 HD0
  have ko : v1.cell? ⟨w.heap.size + 1 + 1 + 1 + 1, 0, none⟩ = some (.int .i64 0) := E1.out.ho.cell 0
  have fo : v1.frozen? ⟨w.heap.size + 1 + 1 + 1 + 1, 0, none⟩ = false := E1.out.ho.frozen 0
  go_wp2_with fail
  obtain ⟨u1, hu1⟩ : ∃ u, u = v1.setCell ⟨w.heap.size + 1 + 1 + 1 + 1, 0, none⟩ (.int .i64 x1) := ⟨_, rfl⟩
  have F1 : Hid (Rst w u1 s a1 e1' zrec (#[.int .i64 x1, .int .i64 0, .int .i64 0, .int .i64 0, .slice none 0 0, .string { data := #[] }])) := by rw [hu1]; exact E1.out.outSet 0 (.int .i64 x1)
  rw [← hu1]
  clear hu1 ko fo E1
  have C2 := Lib.hid (rdR_any s (a1) (e1') (-1) u1 (w.heap.size + 1 + 1 + 1) w.heap.size (w.heap.size + 1 + 1) F1.out.sn (by omega) (by omega) G2.out)
  refine C2.out.mono ?_
  rintro e v2 ⟨rfl, hk2, hq2⟩
  have E2 : Hid (Rst w v2 s a2 e2' zrec (#[.int .i64 x1, .int .i64 0, .int .i64 0, .int .i64 0, .slice none 0 0, .string { data := #[] }])) := F1.out.read hk2 hq2
  clear hk2 hq2 C2 F1
  have ko : v2.cell? ⟨w.heap.size + 1 + 1 + 1 + 1, 1, none⟩ = some (.int .i64 0) := E2.out.ho.cell 1
  have fo : v2.frozen? ⟨w.heap.size + 1 + 1 + 1 + 1, 1, none⟩ = false := E2.out.ho.frozen 1
  go_wp2_with fail
  obtain ⟨u2, hu2⟩ : ∃ u, u = v2.setCell ⟨w.heap.size + 1 + 1 + 1 + 1, 1, none⟩ (.int .i64 x2) := ⟨_, rfl⟩
  have F2 : Hid (Rst w u2 s a2 e2' zrec (#[.int .i64 x1, .int .i64 x2, .int .i64 0, .int .i64 0, .slice none 0 0, .string { data := #[] }])) := by rw [hu2]; exact E2.out.outSet 1 (.int .i64 x2)
  rw [← hu2]
  clear hu2 ko fo E2
  have C3 := Lib.hid (rdR_any s (a2) (e2') (-1) u2 (w.heap.size + 1 + 1 + 1) w.heap.size (w.heap.size + 1 + 1) F2.out.sn (by omega) (by omega) G3.out)
  refine C3.out.mono ?_
  rintro e v3 ⟨rfl, hk3, hq3⟩
  have E3 : Hid (Rst w v3 s a3 e3' zrec (#[.int .i64 x1, .int .i64 x2, .int .i64 0, .int .i64 0, .slice none 0 0, .string { data := #[] }])) := F2.out.read hk3 hq3
  clear hk3 hq3 C3 F2
  have ko : v3.cell? ⟨w.heap.size + 1 + 1 + 1 + 1, 2, none⟩ = some (.int .i64 0) := E3.out.ho.cell 2
  have fo : v3.frozen? ⟨w.heap.size + 1 + 1 + 1 + 1, 2, none⟩ = false := E3.out.ho.frozen 2
  go_wp2_with fail
  obtain ⟨u3, hu3⟩ : ∃ u, u = v3.setCell ⟨w.heap.size + 1 + 1 + 1 + 1, 2, none⟩ (.int .i64 x3) := ⟨_, rfl⟩
  have F3 : Hid (Rst w u3 s a3 e3' zrec (#[.int .i64 x1, .int .i64 x2, .int .i64 x3, .int .i64 0, .slice none 0 0, .string { data := #[] }])) := by rw [hu3]; exact E3.out.outSet 2 (.int .i64 x3)
  rw [← hu3]
  clear hu3 ko fo E3
  have C4 := Lib.hid (rdR_any s (a3) (e3') (-1) u3 (w.heap.size + 1 + 1 + 1) w.heap.size (w.heap.size + 1 + 1) F3.out.sn (by omega) (by omega) G4.out)
  refine C4.out.mono ?_
  rintro e v4 ⟨rfl, hk4, hq4⟩
  have E4 : Hid (Rst w v4 s a4 e4' zrec (#[.int .i64 x1, .int .i64 x2, .int .i64 x3, .int .i64 0, .slice none 0 0, .string { data := #[] }])) := F3.out.read hk4 hq4
  clear hk4 hq4 C4 F3
  have ko : v4.cell? ⟨w.heap.size + 1 + 1 + 1 + 1, 3, none⟩ = some (.int .i64 0) := E4.out.ho.cell 3
  have fo : v4.frozen? ⟨w.heap.size + 1 + 1 + 1 + 1, 3, none⟩ = false := E4.out.ho.frozen 3
  go_wp2_with fail
  obtain ⟨u4, hu4⟩ : ∃ u, u = v4.setCell ⟨w.heap.size + 1 + 1 + 1 + 1, 3, none⟩ (.int .i64 x4) := ⟨_, rfl⟩
  have F4 : Hid (Rst w u4 s a4 e4' zrec (#[.int .i64 x1, .int .i64 x2, .int .i64 x3, .int .i64 x4, .slice none 0 0, .string { data := #[] }])) := by rw [hu4]; exact E4.out.outSet 3 (.int .i64 x4)
  rw [← hu4]
  clear hu4 ko fo E4
  have C5 := Lib.hid (rdR_any s a4 e4' 40 u4 (w.heap.size + 1 + 1 + 1) w.heap.size (w.heap.size + 1 + 1) F4.out.sn (by omega) (by omega) H5.out)
  refine C5.out.mono ?_
  rintro e wf ⟨rfl, hkf, hqf⟩
  have Df : Hid (Rst w wf s a5 e5' zrec (#[.int .i64 x1, .int .i64 x2, .int .i64 x3, .int .i64 x4, .slice none 0 0, .string { data := #[] }])) := F4.out.read hkf hqf
  clear hkf hqf C5 F4
  obtain ⟨K, hK⟩ : ∃ K : Nat, x5 = K := ⟨x5.toNat, by omega⟩
  subst hK
  have hK40 : K ≤ 40 := by omega
  go_wp2_with fail
  go_loopw [10] (fun i wr => ∃ (j aj : Nat) (ej : Int) (mv : Value) (L : List Int), j ≤ K ∧ i = .int .i64 j ∧ Hid (rdMany s.data.toList j (a5, e5') = (L, aj, ej)) ∧ Rst w wr s aj ej zrec #[.int .i64 x1, .int .i64 x2, .int .i64 x3, .int .i64 x4, mv, .string { data := #[] }] ∧ OI wr (w.heap.size + 5) mv L) (fun i _ => K - (intOf i).toNat)
  case atStart => exact ⟨0, a5, e5', .slice none 0 0, [], by omega, rfl, rfl, Df.out, OI.nil _ _⟩
  case round =>
    obtain ⟨j, aj, ej, mv, L, hj, rfl, HM, hD, ho⟩ := hrel
    have hat := rdMany_at s.data.toList j a5 e5' (by rw [lst_len]; omega)
    rw [HM.out, lst_len] at hat
    obtain ⟨hat1, hat2, hat3⟩ := hat
    have hat1' : aj ≤ s.size := hat1
    have hat2b : a5 ≤ aj := hat2
    have hat3' : L.length = j := hat3
    have hat3a : L.length ≤ j := by omega
    have hat3b : j ≤ L.length := by omega
    clear hat1 hat2 hat3 hat3'
    have HD := Lib.hid hD
    have HO := Lib.hid ho
    clear hD ho
    by_cases hlt : j < K
    · obtain ⟨x, a', e', hr⟩ : ∃ x a e, rd s.data.toList (-1) (aj, ej) = (x, a, e) := ⟨_, _, _, rfl⟩
      have HR := Lib.hid hr
      have HM2 : Hid (rdMany s.data.toList (j + 1) (a5, e5') = (L ++ [x], a', e')) := by
        show _ = _
        simp only [rdMany, HM.out, hr]
      clear hr
      have HS : Hid (∀ w' a e, Rst w w' s a e zrec #[.int .i64 x1, .int .i64 x2, .int .i64 x3, .int .i64 x4, mv, .string { data := #[] }] → w'.cell? ⟨w.heap.size + 1 + 1 + 1 + 1, 4, none⟩ = some mv ∧ w'.frozen? ⟨w.heap.size + 1 + 1 + 1 + 1, 4, none⟩ = false) := fun w' a e h => ⟨h.ho.cell 4, h.ho.frozen 4⟩
      have hDd := HD.out.drew
      have hOd := HO.out.drew
      obtain ⟨kk, ff⟩ := HS.out _ _ _ hDd
      go_wp2_with fail
      have hzd : w.heap.size + 1 + 1 + 1 + 1 < wr.heap.size := HD.out.ho.lt
      go_region_law (first
        | (refine step_rst rfl (.tmp 39) (.tmp 42) rfl (by assumption) (by assumption) (by rfl) (by rfl) (by omega) ?_; intro A1 c1 w1 ho1 hD1; obtain ⟨kk1, ff1⟩ := HS.out _ _ _ hD1)
        | (go_simp; go_at_call 61; refine (rdR_rst (by assumption) (by assumption) (by omega) (by omega) HR.out).mono ?_; rintro e w' ⟨rfl, hD1, ho1⟩; obtain ⟨kk1, ff1⟩ := HS.out _ _ _ hD1; have hz1 := hD1.ho.lt))
      all_goals
        have hD3 := hD1.outSet 4 (.slice A1 (L.length + 1) c1)
        have ho3 := ownsRow_setCell_below (a := ⟨w.heap.size + 1 + 1 + 1 + 1, 4, none⟩) ho1 (by show w.heap.size + 1 + 1 + 1 + 1 < w.heap.size + 5; omega) (.slice A1 (L.length + 1) c1)
        have HD3 := Lib.hid hD3
        have HO3 := Lib.hid ho3
        clear hD3 ho3 hD1 ho1
        go_wp2_with fail
        go_roundw
        case rel => exact ⟨j + 1, a', e', _, L ++ [x], by omega, by go_num, HM2, HD3.out, HO3.out⟩
        case measure => simp [intOf]; omega
    · obtain rfl : j = K := by omega
      obtain ⟨x6, a6, e6, h6⟩ : ∃ x a e, rd s.data.toList 1000 (aj, ej) = (x, a, e) := ⟨_, _, _, rfl⟩
      have A6 := rd_ats h6 (by rw [lst_len]; omega)
      have B6 := rd_bds h6
      rw [lst_len] at A6
      have H6 := Lib.hid h6
      have HDF : Hid (decF s.data.toList = if e6 ≠ 0 then (e6, Rc.zero, 0) else if (s.size : Int) - a6 < x6 then (7, Rc.zero, 0) else if recE x1 x2 x3 x4 L x6.toNat ≠ 0 then (recE x1 x2 x3 x4 L x6.toNat, Rc.zero, 0)
        else (0, ⟨x1, x2, x3, x4, L, (s.data.toList.drop a6).take x6.toNat⟩, a6 + x6.toNat)) := by
        have := decF_eq HL.out HH.out G1.out G2.out G3.out G4.out H5.out (by rw [Int.toNat_natCast]; exact HM.out) h6
        rw [lst_len] at this; exact this
      clear h6
      have C6 := Lib.hid (rdR_rst (m := 1000) HD.out HO.out (by omega) (by omega) H6.out)
      go_wp2_with fail
      refine C6.out.mono ?_
      rintro e wg ⟨rfl, hDg, hOg⟩
      have HDg := Lib.hid hDg
      have HOg := Lib.hid hOg
      have h1n : 1 ≤ a6 := by omega
      clear hDg hOg C6 HD HO H5 H6 HL HH G1 G2 G3 G4 HM hat1' hat2b hat3b A1 A2 A3 A4 A5 B5
      obtain ⟨X, hX⟩ : ∃ X : Nat, x6 = X := ⟨x6.toNat, by omega⟩
      subst hX
      have hX1 : X ≤ 1000 := by omega
      have r0 : wg.cell? ⟨w.heap.size, 0, none⟩ = some (.string s) := HDg.out.sn.hs.cell 0
      have r1 : wg.cell? ⟨w.heap.size + 1 + 1, 0, none⟩ = some (.int .i64 a6) := HDg.out.sn.ha.cell 0
      by_cases he6 : e6 = 0
      · subst he6
        have r2 : wg.cell? ⟨w.heap.size + 1 + 1 + 1, 0, none⟩ = some (.int .i64 0) := HDg.out.sn.he.cell 0
        have r3 : wg.frozen? ⟨w.heap.size + 1 + 1 + 1, 0, none⟩ = false := HDg.out.sn.he.frozen 0
        obtain ⟨A, cap, rfl⟩ := HOg.out.form
        have j1 : IntKind.i64.wrap ((s.size : Int) - (a6 : Int)) = (s.size : Int) - (a6 : Int) := IntWalk.i64_in _ (by omega)
        by_cases hmore : (s.size : Int) - (a6 : Int) < (X : Int)
        · have hd := HDF.out
          rw [if_neg (by simp), if_pos hmore] at hd
          have HR := Lib.hid hd
          have HNE : Hid ((7 : Int) ≠ 0) := by show _ ≠ _; decide
          have hlt7 : decide ((s.size : Int) - (a6 : Int) < (X : Int)) = true := decide_eq_true hmore
          clear hd HDF
          go_wp2_with fail
          obtain ⟨wv, hwv⟩ : ∃ wv, wv = wg.setCell ⟨w.heap.size + 1 + 1 + 1, 0, none⟩ (.int .i64 7) := ⟨_, rfl⟩
          rw [← hwv]
          have HV : Hid (Rst w wv s a6 7 zrec #[.int .i64 x1, .int .i64 x2, .int .i64 x3, .int .i64 x4, .slice A L.length cap, .string { data := #[] }]) := by rw [hwv]; exact HDg.out.errSet 7
          clear hwv r0 r1 r2 r3 j1 hlt7 hmore
          have he0 : wv.cell? ⟨w.heap.size + 1 + 1 + 1, 0, none⟩ = some (.int .i64 7) := HV.out.sn.he.cell 0
          clear he0
          have q0 : wv.cell? ⟨w.heap.size + 1, 0, none⟩ = some (.int .i64 0) := HV.out.hr.cell 0
          have q1 : wv.cell? ⟨w.heap.size + 1, 1, none⟩ = some (.int .i64 0) := HV.out.hr.cell 1
          have q2 : wv.cell? ⟨w.heap.size + 1, 2, none⟩ = some (.int .i64 0) := HV.out.hr.cell 2
          have q3 : wv.cell? ⟨w.heap.size + 1, 3, none⟩ = some (.int .i64 0) := HV.out.hr.cell 3
          have q4 : wv.cell? ⟨w.heap.size + 1, 4, none⟩ = some (.slice none 0 0) := HV.out.hr.cell 4
          have q5 : wv.cell? ⟨w.heap.size + 1, 5, none⟩ = some (.string { data := #[] }) := HV.out.hr.cell 5
          have p0 : wv.frozen? ⟨w.heap.size + 1, 0, none⟩ = false := HV.out.hr.frozen 0
          have p1 : wv.frozen? ⟨w.heap.size + 1, 1, none⟩ = false := HV.out.hr.frozen 1
          have p2 : wv.frozen? ⟨w.heap.size + 1, 2, none⟩ = false := HV.out.hr.frozen 2
          have p3 : wv.frozen? ⟨w.heap.size + 1, 3, none⟩ = false := HV.out.hr.frozen 3
          have p4 : wv.frozen? ⟨w.heap.size + 1, 4, none⟩ = false := HV.out.hr.frozen 4
          have p5 : wv.frozen? ⟨w.heap.size + 1, 5, none⟩ = false := HV.out.hr.frozen 5
          have ee : wv.cell? ⟨w.heap.size + 1 + 1 + 1, 0, none⟩ = some (.int .i64 7) := HV.out.sn.he.cell 0
          go_wp2_with fail
          obtain ⟨wz, hwz⟩ : ∃ wz, wz = ((((((wv.setCell ⟨w.heap.size + 1, 0, none⟩ (.int .i64 0)).setCell ⟨w.heap.size + 1, 1, none⟩ (.int .i64 0)).setCell ⟨w.heap.size + 1, 2, none⟩ (.int .i64 0)).setCell ⟨w.heap.size + 1, 3, none⟩ (.int .i64 0)).setCell ⟨w.heap.size + 1, 4, none⟩ (.slice none 0 0)).setCell ⟨w.heap.size + 1, 5, none⟩ (.string { data := #[] })).drew := ⟨_, rfl⟩
          have HZ : Hid (Rst w wz s a6 7 zrec #[.int .i64 x1, .int .i64 x2, .int .i64 x3, .int .i64 x4, .slice A L.length cap, .string { data := #[] }]) := by rw [hwz]; exact ((((((HV.out.resSet 0 (.int .i64 0)).resSet 1 (.int .i64 0)).resSet 2 (.int .i64 0)).resSet 3 (.int .i64 0)).resSet 4 (.slice none 0 0)).resSet 5 (.string { data := #[] })).drew
          have HWZ := Lib.hid hwz
          clear hwz
          go_region_law (fail)
          all_goals go_wp2_with fail
          all_goals
            rw [← HWZ.out]
            clear HWZ q0 q1 q2 q3 q4 q5 p0 p1 p2 p3 p4 p5 ee
            have z0 : wz.cell? ⟨w.heap.size + 1, 0, none⟩ = some (.int .i64 0) := HZ.out.hr.cell 0
            have z1 : wz.cell? ⟨w.heap.size + 1, 1, none⟩ = some (.int .i64 0) := HZ.out.hr.cell 1
            have z2 : wz.cell? ⟨w.heap.size + 1, 2, none⟩ = some (.int .i64 0) := HZ.out.hr.cell 2
            have z3 : wz.cell? ⟨w.heap.size + 1, 3, none⟩ = some (.int .i64 0) := HZ.out.hr.cell 3
            have z4 : wz.cell? ⟨w.heap.size + 1, 4, none⟩ = some (.slice none 0 0) := HZ.out.hr.cell 4
            have z5 : wz.cell? ⟨w.heap.size + 1, 5, none⟩ = some (.string { data := #[] }) := HZ.out.hr.cell 5
            refine bodyPost_ret (v := .tuple #[.agg zrec, .int .i64 0, .int .i64 7]) (by simp [results, Try.results19, go_sem, zrec, z0, z1, z2, z3, z4, z5]) rfl ⟨HZ.out.hb, .inl ⟨7, HNE.out, HR.out, rfl⟩⟩

        · obtain ⟨T, hT⟩ : ∃ T, T = s.extract a6 (a6 + X) := ⟨_, rfl⟩
          have hTl : T.data.toList = (s.data.toList.drop a6).take X := by rw [hT, Lib.extract_data]; simp
          have hTs : T.size = X := by rw [← lst_len, hTl, List.length_take, List.length_drop, lst_len]; omega
          have HT := Lib.hid hT
          have HTL := Lib.hid hTl
          obtain ⟨E, hE⟩ : ∃ E, recE x1 x2 x3 x4 L X = E := ⟨_, rfl⟩
          have hd := HDF.out
          rw [if_neg (by simp), if_neg hmore, Int.toNat_natCast, hE] at hd
          have HDE := Lib.hid hd
          have HE := Lib.hid hE
          clear hd HDF hE hTl
          have o5 : wg.cell? ⟨w.heap.size + 1 + 1 + 1 + 1, 5, none⟩ = some (.string { data := #[] }) := HDg.out.ho.cell 5
          have g5 : wg.frozen? ⟨w.heap.size + 1 + 1 + 1 + 1, 5, none⟩ = false := HDg.out.ho.frozen 5
          have i1 : (0 : Int) ≤ (a6 : Int) := by omega
          have i2 : (a6 : Int) ≤ (a6 : Int) + (X : Int) := by omega
          have i3 : (a6 : Int) + (X : Int) ≤ (s.size : Int) := by omega
          have j2 : IntKind.i64.wrap ((a6 : Int) + (X : Int)) = (a6 : Int) + (X : Int) := IntWalk.i64_in _ (by omega)
          have j3 : ((a6 : Int) + (X : Int)).toNat = a6 + X := by omega
          have hlt7 : decide ((s.size : Int) - (a6 : Int) < (X : Int)) = false := decide_eq_false hmore
          have hsz : w.heap.size + 1 + 1 + 1 + 1 < wg.heap.size := HDg.out.ho.lt
          have o0 : wg.cell? ⟨w.heap.size + 1 + 1 + 1 + 1, 0, none⟩ = some (.int .i64 x1) := HDg.out.ho.cell 0
          have o1 : wg.cell? ⟨w.heap.size + 1 + 1 + 1 + 1, 1, none⟩ = some (.int .i64 x2) := HDg.out.ho.cell 1
          have o2 : wg.cell? ⟨w.heap.size + 1 + 1 + 1 + 1, 2, none⟩ = some (.int .i64 x3) := HDg.out.ho.cell 2
          have o3 : wg.cell? ⟨w.heap.size + 1 + 1 + 1 + 1, 3, none⟩ = some (.int .i64 x4) := HDg.out.ho.cell 3
          have o4 : wg.cell? ⟨w.heap.size + 1 + 1 + 1 + 1, 4, none⟩ = some (.slice A L.length cap) := HDg.out.ho.cell 4
          go_wp2_with fail
          rw [← HT.out]
          obtain ⟨wh, hwh⟩ : ∃ wh, wh = wg.setCell ⟨w.heap.size + 1 + 1 + 1 + 1, 5, none⟩ (.string T) := ⟨_, rfl⟩
          rw [← hwh]
          have HDh : Hid (Rst w wh s a6 0 zrec #[.int .i64 x1, .int .i64 x2, .int .i64 x3, .int .i64 x4, .slice A L.length cap, .string T]) := by rw [hwh]; exact HDg.out.outSet 5 (.string T)
          have HOh : Hid (OI wh (w.heap.size + 5) (.slice A L.length cap) L) := by rw [hwh]; exact ownsRow_setCell_below (a := ⟨w.heap.size + 1 + 1 + 1 + 1, 5, none⟩) HOg.out (by show w.heap.size + 1 + 1 + 1 + 1 < w.heap.size + 5; omega) (.string T)
          clear hT hwh i1 i2 i3 j1 j2 j3 o0 o1 o2 o3 o4 o5 g5 r0 r1 r2 r3 HDg HOg HT hlt7 hsz
          have CK := Lib.hid (recR_any x1 x2 x3 x4 A cap L T wh.heap.size wh (by omega) (by omega) (Reads.of_own HOh.out) (Nat.le_refl _))
          rw [hTs] at CK
          ((with_reducible refine CK.out.mono ?_); rintro e wk ⟨rfl, hbk⟩)
          rw [HE.out]
          have HDk := Lib.hid (HDh.out.below hbk)
          have HOk := Lib.hid (OI.kept HOh.out hbk)
          clear hbk CK HDh HOh HE
          have hek : wk.cell? ⟨w.heap.size + 1 + 1 + 1, 0, none⟩ = some (.int .i64 0) := HDk.out.sn.he.cell 0
          have hef : wk.frozen? ⟨w.heap.size + 1 + 1 + 1, 0, none⟩ = false := HDk.out.sn.he.frozen 0
          by_cases hE0 : E = 0
          · subst hE0
            have hd := HDE.out
            rw [if_neg (by simp)] at hd
            have HR := Lib.hid hd
            clear hd HDE
            go_wp2_with fail
            obtain ⟨wl, hwl⟩ : ∃ wl, wl = wk.setCell ⟨w.heap.size + 1 + 1 + 1, 0, none⟩ (.int .i64 0) := ⟨_, rfl⟩
            rw [← hwl]
            have HDl : Hid (Rst w wl s a6 0 zrec #[.int .i64 x1, .int .i64 x2, .int .i64 x3, .int .i64 x4, .slice A L.length cap, .string T]) := by rw [hwl]; exact HDk.out.errSet 0
            have HOl : Hid (OI wl (w.heap.size + 5) (.slice A L.length cap) L) := by rw [hwl]; exact ownsRow_setCell_below (a := ⟨w.heap.size + 1 + 1 + 1, 0, none⟩) HOk.out (by show w.heap.size + 1 + 1 + 1 < w.heap.size + 5; omega) _
            clear hwl hek hef HDk HOk
            have q0 : wl.cell? ⟨w.heap.size + 1, 0, none⟩ = some (.int .i64 0) := HDl.out.hr.cell 0
            have q1 : wl.cell? ⟨w.heap.size + 1, 1, none⟩ = some (.int .i64 0) := HDl.out.hr.cell 1
            have q2 : wl.cell? ⟨w.heap.size + 1, 2, none⟩ = some (.int .i64 0) := HDl.out.hr.cell 2
            have q3 : wl.cell? ⟨w.heap.size + 1, 3, none⟩ = some (.int .i64 0) := HDl.out.hr.cell 3
            have q4 : wl.cell? ⟨w.heap.size + 1, 4, none⟩ = some (.slice none 0 0) := HDl.out.hr.cell 4
            have q5 : wl.cell? ⟨w.heap.size + 1, 5, none⟩ = some (.string { data := #[] }) := HDl.out.hr.cell 5
            have p0 : wl.frozen? ⟨w.heap.size + 1, 0, none⟩ = false := HDl.out.hr.frozen 0
            have p1 : wl.frozen? ⟨w.heap.size + 1, 1, none⟩ = false := HDl.out.hr.frozen 1
            have p2 : wl.frozen? ⟨w.heap.size + 1, 2, none⟩ = false := HDl.out.hr.frozen 2
            have p3 : wl.frozen? ⟨w.heap.size + 1, 3, none⟩ = false := HDl.out.hr.frozen 3
            have p4 : wl.frozen? ⟨w.heap.size + 1, 4, none⟩ = false := HDl.out.hr.frozen 4
            have p5 : wl.frozen? ⟨w.heap.size + 1, 5, none⟩ = false := HDl.out.hr.frozen 5
            have o0 : wl.cell? ⟨w.heap.size + 1 + 1 + 1 + 1, 0, none⟩ = some (.int .i64 x1) := HDl.out.ho.cell 0
            have o1 : wl.cell? ⟨w.heap.size + 1 + 1 + 1 + 1, 1, none⟩ = some (.int .i64 x2) := HDl.out.ho.cell 1
            have o2 : wl.cell? ⟨w.heap.size + 1 + 1 + 1 + 1, 2, none⟩ = some (.int .i64 x3) := HDl.out.ho.cell 2
            have o3 : wl.cell? ⟨w.heap.size + 1 + 1 + 1 + 1, 3, none⟩ = some (.int .i64 x4) := HDl.out.ho.cell 3
            have o4 : wl.cell? ⟨w.heap.size + 1 + 1 + 1 + 1, 4, none⟩ = some (.slice A L.length cap) := HDl.out.ho.cell 4
            have o5 : wl.cell? ⟨w.heap.size + 1 + 1 + 1 + 1, 5, none⟩ = some (.string T) := HDl.out.ho.cell 5
            have r1 : wl.cell? ⟨w.heap.size + 1 + 1, 0, none⟩ = some (.int .i64 a6) := HDl.out.sn.ha.cell 0
            have j2 : IntKind.i64.wrap ((a6 : Int) + (X : Int)) = (a6 : Int) + (X : Int) := IntWalk.i64_in _ (by omega)
            obtain ⟨wz, hwz⟩ : ∃ wz, wz = ((((((wl.setCell ⟨w.heap.size + 1, 0, none⟩ (.int .i64 x1)).setCell ⟨w.heap.size + 1, 1, none⟩ (.int .i64 x2)).setCell ⟨w.heap.size + 1, 2, none⟩ (.int .i64 x3)).setCell ⟨w.heap.size + 1, 3, none⟩ (.int .i64 x4)).setCell ⟨w.heap.size + 1, 4, none⟩ (.slice A L.length cap)).setCell ⟨w.heap.size + 1, 5, none⟩ (.string T)).drew := ⟨_, rfl⟩
            have HZ : Hid (Rst w wz s a6 0 #[.int .i64 x1, .int .i64 x2, .int .i64 x3, .int .i64 x4, .slice A L.length cap, .string T] #[.int .i64 x1, .int .i64 x2, .int .i64 x3, .int .i64 x4, .slice A L.length cap, .string T]) := by rw [hwz]; exact ((((((HDl.out.resSet 0 (.int .i64 x1)).resSet 1 (.int .i64 x2)).resSet 2 (.int .i64 x3)).resSet 3 (.int .i64 x4)).resSet 4 (.slice A L.length cap)).resSet 5 (.string T)).drew
            have HOz : Hid (OI wz (w.heap.size + 5) (.slice A L.length cap) L) := by
              rw [hwz]
              exact oi_drew (oi_res (oi_res (oi_res (oi_res (oi_res (oi_res HOl.out 0 (.int .i64 x1)) 1 (.int .i64 x2)) 2 (.int .i64 x3)) 3 (.int .i64 x4)) 4 (.slice A L.length cap)) 5 (.string T))
            have HWZ := Lib.hid hwz
            have HEND : Hid (DecRes s.data.toList w (.returned (.tuple #[recV x1 x2 x3 x4 A L.length cap T, .int .i64 ((a6 : Int) + (X : Int)), .int .i64 0])) wz) := by
              have hTT : T = str ((s.data.toList.drop a6).take X) := lst_inj (by rw [HTL.out, lst_mk])
              exact ⟨HZ.out.hb, .inr ⟨⟨x1, x2, x3, x4, L, (s.data.toList.drop a6).take X⟩, a6 + X, A, cap, HR.out, by rw [hTT]; rfl, World.ownsRow.mono HOz.out (by omega), by rw [lst_len]; omega, by omega⟩⟩
            clear hwz HDl HOl HR HTL HOz h1n hmore
            go_wp2_with fail
            go_region_law (fail)
            all_goals go_wp2_with fail
            all_goals
              rw [← HWZ.out]
              clear HWZ q0 q1 q2 q3 q4 q5 p0 p1 p2 p3 p4 p5 o0 o1 o2 o3 o4 o5 r1
              have z0 : wz.cell? ⟨w.heap.size + 1, 0, none⟩ = some (.int .i64 x1) := HZ.out.hr.cell 0
              have z1 : wz.cell? ⟨w.heap.size + 1, 1, none⟩ = some (.int .i64 x2) := HZ.out.hr.cell 1
              have z2 : wz.cell? ⟨w.heap.size + 1, 2, none⟩ = some (.int .i64 x3) := HZ.out.hr.cell 2
              have z3 : wz.cell? ⟨w.heap.size + 1, 3, none⟩ = some (.int .i64 x4) := HZ.out.hr.cell 3
              have z4 : wz.cell? ⟨w.heap.size + 1, 4, none⟩ = some (.slice A L.length cap) := HZ.out.hr.cell 4
              have z5 : wz.cell? ⟨w.heap.size + 1, 5, none⟩ = some (.string T) := HZ.out.hr.cell 5
              refine bodyPost_ret (v := .tuple #[recV x1 x2 x3 x4 A L.length cap T, .int .i64 ((a6 : Int) + (X : Int)), .int .i64 0]) (by simp [results, Try.results19, go_sem, z0, z1, z2, z3, z4, z5]) rfl HEND.out
          · have hd := HDE.out
            rw [if_pos hE0] at hd
            have HR := Lib.hid hd
            have HNE := Lib.hid hE0
            have n1 : (E != 0) = true := by rw [bne_iff_ne]; exact hE0
            have n2 : (E == 0) = false := by rw [beq_eq_false_iff_ne]; exact hE0
            clear hd HDE hE0
            go_wp2_with fail
            obtain ⟨wl, hwl⟩ : ∃ wl, wl = wk.setCell ⟨w.heap.size + 1 + 1 + 1, 0, none⟩ (.int .i64 E) := ⟨_, rfl⟩
            rw [← hwl]
            have HDl : Hid (Rst w wl s a6 E zrec #[.int .i64 x1, .int .i64 x2, .int .i64 x3, .int .i64 x4, .slice A L.length cap, .string T]) := by rw [hwl]; exact HDk.out.errSet E
            clear hwl hek hef HDk HOk
            have q0 : wl.cell? ⟨w.heap.size + 1, 0, none⟩ = some (.int .i64 0) := HDl.out.hr.cell 0
            have q1 : wl.cell? ⟨w.heap.size + 1, 1, none⟩ = some (.int .i64 0) := HDl.out.hr.cell 1
            have q2 : wl.cell? ⟨w.heap.size + 1, 2, none⟩ = some (.int .i64 0) := HDl.out.hr.cell 2
            have q3 : wl.cell? ⟨w.heap.size + 1, 3, none⟩ = some (.int .i64 0) := HDl.out.hr.cell 3
            have q4 : wl.cell? ⟨w.heap.size + 1, 4, none⟩ = some (.slice none 0 0) := HDl.out.hr.cell 4
            have q5 : wl.cell? ⟨w.heap.size + 1, 5, none⟩ = some (.string { data := #[] }) := HDl.out.hr.cell 5
            have p0 : wl.frozen? ⟨w.heap.size + 1, 0, none⟩ = false := HDl.out.hr.frozen 0
            have p1 : wl.frozen? ⟨w.heap.size + 1, 1, none⟩ = false := HDl.out.hr.frozen 1
            have p2 : wl.frozen? ⟨w.heap.size + 1, 2, none⟩ = false := HDl.out.hr.frozen 2
            have p3 : wl.frozen? ⟨w.heap.size + 1, 3, none⟩ = false := HDl.out.hr.frozen 3
            have p4 : wl.frozen? ⟨w.heap.size + 1, 4, none⟩ = false := HDl.out.hr.frozen 4
            have p5 : wl.frozen? ⟨w.heap.size + 1, 5, none⟩ = false := HDl.out.hr.frozen 5
            have ee : wl.cell? ⟨w.heap.size + 1 + 1 + 1, 0, none⟩ = some (.int .i64 E) := HDl.out.sn.he.cell 0
            go_wp2_with fail
            obtain ⟨wz, hwz⟩ : ∃ wz, wz = ((((((wl.setCell ⟨w.heap.size + 1, 0, none⟩ (.int .i64 0)).setCell ⟨w.heap.size + 1, 1, none⟩ (.int .i64 0)).setCell ⟨w.heap.size + 1, 2, none⟩ (.int .i64 0)).setCell ⟨w.heap.size + 1, 3, none⟩ (.int .i64 0)).setCell ⟨w.heap.size + 1, 4, none⟩ (.slice none 0 0)).setCell ⟨w.heap.size + 1, 5, none⟩ (.string { data := #[] })).drew := ⟨_, rfl⟩
            have HZ : Hid (Rst w wz s a6 E zrec #[.int .i64 x1, .int .i64 x2, .int .i64 x3, .int .i64 x4, .slice A L.length cap, .string T]) := by rw [hwz]; exact ((((((HDl.out.resSet 0 (.int .i64 0)).resSet 1 (.int .i64 0)).resSet 2 (.int .i64 0)).resSet 3 (.int .i64 0)).resSet 4 (.slice none 0 0)).resSet 5 (.string { data := #[] })).drew
            have HWZ := Lib.hid hwz
            clear hwz
            go_region_law (fail)
            all_goals go_wp2_with fail
            all_goals
              rw [← HWZ.out]
              clear HWZ q0 q1 q2 q3 q4 q5 p0 p1 p2 p3 p4 p5 ee
              have z0 : wz.cell? ⟨w.heap.size + 1, 0, none⟩ = some (.int .i64 0) := HZ.out.hr.cell 0
              have z1 : wz.cell? ⟨w.heap.size + 1, 1, none⟩ = some (.int .i64 0) := HZ.out.hr.cell 1
              have z2 : wz.cell? ⟨w.heap.size + 1, 2, none⟩ = some (.int .i64 0) := HZ.out.hr.cell 2
              have z3 : wz.cell? ⟨w.heap.size + 1, 3, none⟩ = some (.int .i64 0) := HZ.out.hr.cell 3
              have z4 : wz.cell? ⟨w.heap.size + 1, 4, none⟩ = some (.slice none 0 0) := HZ.out.hr.cell 4
              have z5 : wz.cell? ⟨w.heap.size + 1, 5, none⟩ = some (.string { data := #[] }) := HZ.out.hr.cell 5
              refine bodyPost_ret (v := .tuple #[.agg zrec, .int .i64 0, .int .i64 E]) (by simp [results, Try.results19, go_sem, zrec, z0, z1, z2, z3, z4, z5]) rfl ⟨HZ.out.hb, .inl ⟨E, HNE.out, HR.out, rfl⟩⟩
      · have hd := HDF.out
        rw [if_pos he6] at hd
        have HR := Lib.hid hd
        have HNE := Lib.hid he6
        have n1 : (e6 != 0) = true := by rw [bne_iff_ne]; exact he6
        have n2 : (e6 == 0) = false := by rw [beq_eq_false_iff_ne]; exact he6
        have r2 : wg.cell? ⟨w.heap.size + 1 + 1 + 1, 0, none⟩ = some (.int .i64 e6) := HDg.out.sn.he.cell 0
        clear hd HDF he6
        have q0 : wg.cell? ⟨w.heap.size + 1, 0, none⟩ = some (.int .i64 0) := HDg.out.hr.cell 0
        have q1 : wg.cell? ⟨w.heap.size + 1, 1, none⟩ = some (.int .i64 0) := HDg.out.hr.cell 1
        have q2 : wg.cell? ⟨w.heap.size + 1, 2, none⟩ = some (.int .i64 0) := HDg.out.hr.cell 2
        have q3 : wg.cell? ⟨w.heap.size + 1, 3, none⟩ = some (.int .i64 0) := HDg.out.hr.cell 3
        have q4 : wg.cell? ⟨w.heap.size + 1, 4, none⟩ = some (.slice none 0 0) := HDg.out.hr.cell 4
        have q5 : wg.cell? ⟨w.heap.size + 1, 5, none⟩ = some (.string { data := #[] }) := HDg.out.hr.cell 5
        have p0 : wg.frozen? ⟨w.heap.size + 1, 0, none⟩ = false := HDg.out.hr.frozen 0
        have p1 : wg.frozen? ⟨w.heap.size + 1, 1, none⟩ = false := HDg.out.hr.frozen 1
        have p2 : wg.frozen? ⟨w.heap.size + 1, 2, none⟩ = false := HDg.out.hr.frozen 2
        have p3 : wg.frozen? ⟨w.heap.size + 1, 3, none⟩ = false := HDg.out.hr.frozen 3
        have p4 : wg.frozen? ⟨w.heap.size + 1, 4, none⟩ = false := HDg.out.hr.frozen 4
        have p5 : wg.frozen? ⟨w.heap.size + 1, 5, none⟩ = false := HDg.out.hr.frozen 5
        have ee : wg.cell? ⟨w.heap.size + 1 + 1 + 1, 0, none⟩ = some (.int .i64 e6) := HDg.out.sn.he.cell 0
        go_wp2_with fail
        obtain ⟨wz, hwz⟩ : ∃ wz, wz = ((((((wg.setCell ⟨w.heap.size + 1, 0, none⟩ (.int .i64 0)).setCell ⟨w.heap.size + 1, 1, none⟩ (.int .i64 0)).setCell ⟨w.heap.size + 1, 2, none⟩ (.int .i64 0)).setCell ⟨w.heap.size + 1, 3, none⟩ (.int .i64 0)).setCell ⟨w.heap.size + 1, 4, none⟩ (.slice none 0 0)).setCell ⟨w.heap.size + 1, 5, none⟩ (.string { data := #[] })).drew := ⟨_, rfl⟩
        have HZ : Hid (Rst w wz s a6 e6 zrec #[.int .i64 x1, .int .i64 x2, .int .i64 x3, .int .i64 x4, mv, .string { data := #[] }]) := by rw [hwz]; exact ((((((HDg.out.resSet 0 (.int .i64 0)).resSet 1 (.int .i64 0)).resSet 2 (.int .i64 0)).resSet 3 (.int .i64 0)).resSet 4 (.slice none 0 0)).resSet 5 (.string { data := #[] })).drew
        have HWZ := Lib.hid hwz
        clear hwz
        go_region_law (fail)
        all_goals go_wp2_with fail
        all_goals
          rw [← HWZ.out]
          clear HWZ q0 q1 q2 q3 q4 q5 p0 p1 p2 p3 p4 p5 ee
          have z0 : wz.cell? ⟨w.heap.size + 1, 0, none⟩ = some (.int .i64 0) := HZ.out.hr.cell 0
          have z1 : wz.cell? ⟨w.heap.size + 1, 1, none⟩ = some (.int .i64 0) := HZ.out.hr.cell 1
          have z2 : wz.cell? ⟨w.heap.size + 1, 2, none⟩ = some (.int .i64 0) := HZ.out.hr.cell 2
          have z3 : wz.cell? ⟨w.heap.size + 1, 3, none⟩ = some (.int .i64 0) := HZ.out.hr.cell 3
          have z4 : wz.cell? ⟨w.heap.size + 1, 4, none⟩ = some (.slice none 0 0) := HZ.out.hr.cell 4
          have z5 : wz.cell? ⟨w.heap.size + 1, 5, none⟩ = some (.string { data := #[] }) := HZ.out.hr.cell 5
          refine bodyPost_ret (v := .tuple #[.agg zrec, .int .i64 0, .int .i64 e6]) (by simp [results, Try.results19, go_sem, zrec, z0, z1, z2, z3, z4, z5]) rfl ⟨HZ.out.hb, .inl ⟨e6, HNE.out, HR.out, rfl⟩⟩
end Go.Proofs.Ytahcgajipnkojaa
