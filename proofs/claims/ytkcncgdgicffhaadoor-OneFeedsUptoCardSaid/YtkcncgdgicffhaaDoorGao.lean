/- Walk: head.Parse. -/
import Derived.Test.YtkcncgdgicffhaaDoorGan
namespace Go.Proofs.YtkcncgdgicffhaaDoor
open Go.RowKit
set_option linter.unusedVariables false
set_option linter.unusedSimpArgs false

theorem sp_three {x a b c : ByteArray} {t : ByteArray} (hP : pcs x t = [a, b, c]) (ht : 1 ≤ t.size) (hx : x.size ≤ 1048576) (m : Int) (w : World) (hm : w.cell? ⟨1, 0, none⟩ = some (.int .i64 m)) :
    Calls Tryd.prog 63 #[.string x, .string t] w fun e w' => e = .returned (.slice (some ⟨w.heap.size, 0, none⟩) 3 3) ∧ (w'.cell? ⟨w.heap.size, 0, none⟩ = some (.string a) ∧ w'.cell? ⟨w.heap.size, 1, none⟩ = some (.string b) ∧ w'.cell? ⟨w.heap.size, 2, none⟩ = some (.string c)) ∧ Below w.heap.size w w' ∧ w.heap.size < w'.heap.size :=
  (sp_any x t m w hx hm ht).mono fun e w' ⟨h1, h2, h3⟩ => by
    rw [hP] at h1 h2
    obtain ⟨g, eg, _, hlt, _, hc⟩ := h2.at_ (by simp)
    injection eg with eg; injection eg with eg
    subst eg
    exact ⟨h1, ⟨hc 0 (by simp), hc 1 (by simp), hc 2 (by simp)⟩, h3, hlt⟩
theorem colon_no {s : ByteArray} {x0 : ByteArray} {T : List ByteArray} (hL : hls s = x0 :: T) {x : ByteArray} (hx : x ∈ T) (h : hasColon x = false) : ¬ RhForm s := fun k => by
  have := k.2.2 x (by rw [hL]; exact hx)
  rw [h] at this; cases this
section
variable (s : ByteArray) (m : Int) (w : World)
set_option maxHeartbeats 1000000 in
theorem hp_large (h : 4096 < s.size) : Calls Tryd.prog 102 #[.string s] w (RhRes s w) := by
  have HE := Lib.hid (rh_large h)
  have d0 : (4096 : Int) < (s.size : Int) := by omega
  clear h
  obtain ⟨W, hW⟩ : ∃ W, w.alloc (.cells #[.string { data := #[] }, .string { data := #[] }, .slice none 0 0] 24) = W := ⟨_, rfl⟩
  have hZ := Hz.start w
  rw [hW] at hZ
  have HZ := Lib.hid hZ
  have hwW : w.heap.size < W.heap.size := hZ.lt
  obtain ⟨r0, r1, r2, f0, f1, f2⟩ := hZ.facts
  clear hZ
  go_enter Tryd.func102, Tryd.ntmps102
  go_wp2_with fail
  obtain ⟨wz, hwz, hbz, z0, z1, z2, _⟩ := HZ.out.put (.string { data := #[] }) (.string { data := #[] }) (.slice none 0 0)
  rw [← hwz]
  refine bodyPost_ret (v := .tuple #[.agg #[.string { data := #[] }, .string { data := #[] }, .slice none 0 0], .int .i64 5]) (by simp [results, Tryd.results102, go_sem, z0, z1, z2]) rfl ⟨_, by rw [HE.out.1], by rw [HE.out.2]; exact HdV.zero _ _, hbz⟩
set_option maxHeartbeats 1000000 in
theorem hp_nolines (hs : ¬ 4096 < s.size) (hl : ¬ LinesOk s) (hm : w.cell? ⟨1, 0, none⟩ = some (.int .i64 m)) : Calls Tryd.prog 102 #[.string s] w (RhRes s w) := by
  have h0 := World.block_lt_of_cell? _ _ hm
  have HE := Lib.hid (rh_form hs fun k => hl k.1)
  have d0 : ¬ (4096 : Int) < (s.size : Int) := by omega
  obtain ⟨W, hW⟩ : ∃ W, w.alloc (.cells #[.string { data := #[] }, .string { data := #[] }, .slice none 0 0] 24) = W := ⟨_, rfl⟩
  have hZ := Hz.start w
  rw [hW] at hZ
  have HZ := Lib.hid hZ
  have hwW : w.heap.size < W.heap.size := hZ.lt
  have C := Lib.hid ((lines_any s m W (by omega) ((hZ.be.cell (p := ⟨1, 0, none⟩) h0).trans hm)).mono fun e w' h => h.elim (fun k => absurd k.1 hl) (fun k => k.2))
  clear hZ hl hm hs h0
  go_enter Tryd.func102, Tryd.ntmps102
  go_wp2_with fail
  refine C.out.mono ?_
  rintro e w1 ⟨rfl, b1⟩
  have hZ1 := HZ.out.kept b1
  have HZ1 := Lib.hid hZ1
  obtain ⟨r0, r1, r2, f0, f1, f2⟩ := hZ1.facts
  clear b1 hZ1 C hW
  go_wp2_with fail
  obtain ⟨wz, hwz, hbz, z0, z1, z2, _⟩ := HZ1.out.put (.string { data := #[] }) (.string { data := #[] }) (.slice none 0 0)
  rw [← hwz]
  refine bodyPost_ret (v := .tuple #[.agg #[.string { data := #[] }, .string { data := #[] }, .slice none 0 0], .int .i64 4]) (by simp [results, Tryd.results102, go_sem, z0, z1, z2]) rfl ⟨_, by rw [HE.out.1], by rw [HE.out.2]; exact HdV.zero _ _, hbz⟩
set_option maxHeartbeats 1000000 in
theorem hp_first (hs : ¬ 4096 < s.size) (hl : LinesOk s) {x0 : ByteArray} {T : List ByteArray} (hL : hls s = x0 :: T) (hf : ¬ Fst3 s) (hm : w.cell? ⟨1, 0, none⟩ = some (.int .i64 m)) : Calls Tryd.prog 102 #[.string s] w (RhRes s w) := by
  have HE := Lib.hid (rh_form hs fun k => hf k.2.1)
  have h0 := World.block_lt_of_cell? _ _ hm
  have d0 : ¬ (4096 : Int) < (s.size : Int) := by omega
  have HM : Hid (∀ w', Below w.heap.size w w' → w'.cell? ⟨1, 0, none⟩ = some (.int .i64 m)) := fun w' hb => (hb.cell (p := ⟨1, 0, none⟩) h0).trans hm
  obtain ⟨W, hW⟩ : ∃ W, w.alloc (.cells #[.string { data := #[] }, .string { data := #[] }, .slice none 0 0] 24) = W := ⟨_, rfl⟩
  have hZ := Hz.start w
  rw [hW] at hZ
  have HZ := Lib.hid hZ
  have hwW : w.heap.size < W.heap.size := hZ.lt
  have C := (lines_any s m W (by omega) (HM.out W hZ.be)).mono fun e w' h => h.elim (fun k => k.2) (fun k => absurd hl k.1)
  rw [hL, List.length_cons] at C
  have hT : T.length ≤ 4097 := by
    have h1 : (hls s).length = T.length + 1 := by rw [hL]; rfl
    have h2 := pcs_le (s := s.extract 0 (s.size - 4)) (t := crlf) (by decide)
    rw [ByteArray.size_extract] at h2
    have h3 : (hls s).length ≤ _ := h2
    omega
  have hx0 : x0.size ≤ 1048576 := by have := hls_mem (s := s) (x := x0) (by rw [hL]; exact List.mem_cons_self); omega
  have C := Lib.hid C
  have hfl : fls s = pcs x0 ⟨#[32]⟩ := by unfold fls; rw [hL]; rfl
  by_cases h3 : (pcs x0 ⟨#[32]⟩).length = 3
  · obtain ⟨a, b, c, hP⟩ : ∃ a b c, pcs x0 ⟨#[32]⟩ = [a, b, c] := by
      generalize pcs x0 ⟨#[32]⟩ = P at h3
      match P, h3 with
      | [a, b, c], _ => exact ⟨a, b, c, rfl⟩
    have hc : ¬ c = http11 := fun k => hf ⟨a, b, by rw [hfl, hP, k]⟩
    have q0 : (c.toList == [72, 84, 84, 80, 47, 49, 46, 49]) = false := by
      rw [beq_eq_false_iff_ne, Lib.toList_data]; intro k; exact hc (lst_inj k)
    have q1 : (c.toList != [72, 84, 84, 80, 47, 49, 46, 49]) = true := by rw [bne, q0]; rfl
    have C3 := Lib.hid fun w1 (hb : Below w.heap.size w w1) => sp_three hP (by decide) hx0 m w1 (HM.out w1 hb)
    clear hZ hl hL hf hm hs h0 hfl h3 hP hc
    go_enter Tryd.func102, Tryd.ntmps102
    go_wp2_with fail
    refine C.out.mono ?_
    rintro e w1 ⟨rfl, ho, b1⟩
    have hZ1 := HZ.out.kept b1
    obtain ⟨g1, eg, hg1, hgl, _, hcell⟩ := ho.at_ (by rw [List.length_cons]; omega)
    injection eg with eg; injection eg with eg
    subst eg
    have y0 : w1.cell? ⟨W.heap.size, 0, none⟩ = some (.string x0) := hcell 0 (by rw [List.length_cons]; omega)
    have HC := Lib.hid hcell
    have hZb := hZ1.be
    have HZ1 := Lib.hid hZ1
    have HZb := Lib.hid hZb
    clear hcell ho b1 hZ1 hZb C hW
    go_wp2_with fail
    refine (C3.out _ HZb.out).mono ?_
    rintro e w2 ⟨rfl, ⟨u0, u1, u2⟩, b2, hl12⟩
    have hZ2 := HZ1.out.kept b2
    have HZ2 := Lib.hid hZ2
    obtain ⟨r0, r1, r2, f0, f1, f2⟩ := hZ2.facts
    clear b2 hZ2 C3 y0
    go_wp2_with fail
    obtain ⟨wz, hwz, hbz, z0, z1, z2, _⟩ := HZ2.out.put (.string { data := #[] }) (.string { data := #[] }) (.slice none 0 0)
    rw [← hwz]
    refine bodyPost_ret (v := .tuple #[.agg #[.string { data := #[] }, .string { data := #[] }, .slice none 0 0], .int .i64 4]) (by simp [results, Tryd.results102, go_sem, z0, z1, z2]) rfl ⟨_, by rw [HE.out.1], by rw [HE.out.2]; exact HdV.zero _ _, hbz⟩
  · have C3 := Lib.hid fun w1 (hb : Below w.heap.size w w1) => sp_any x0 ⟨#[32]⟩ m w1 hx0 (HM.out w1 hb) (by decide)
    have hn := pcs_le (s := x0) (t := ⟨#[32]⟩) (by decide)
    obtain ⟨n, hnn⟩ : ∃ n, n = (pcs x0 ⟨#[32]⟩).length := ⟨_, rfl⟩
    rw [← hnn] at C3 h3 hn
    have q1 : ((n : Int) != 3) = true := by rw [bne_iff_ne]; omega
    clear hZ hl hL hf hm hs h0 hfl h3 hnn
    go_enter Tryd.func102, Tryd.ntmps102
    go_wp2_with fail
    refine C.out.mono ?_
    rintro e w1 ⟨rfl, ho, b1⟩
    have hZ1 := HZ.out.kept b1
    obtain ⟨g1, eg, hg1, hgl, _, hcell⟩ := ho.at_ (by rw [List.length_cons]; omega)
    injection eg with eg; injection eg with eg
    subst eg
    have y0 : w1.cell? ⟨W.heap.size, 0, none⟩ = some (.string x0) := hcell 0 (by rw [List.length_cons]; omega)
    have HC := Lib.hid hcell
    have hZb := hZ1.be
    have HZ1 := Lib.hid hZ1
    have HZb := Lib.hid hZb
    clear hcell ho b1 hZ1 hZb C hW
    go_wp2_with fail
    refine (C3.out _ HZb.out).mono ?_
    rintro e w2 ⟨rfl, _, b2⟩
    have hZ2 := HZ1.out.kept b2
    have HZ2 := Lib.hid hZ2
    obtain ⟨r0, r1, r2, f0, f1, f2⟩ := hZ2.facts
    clear b2 hZ2 C3 y0
    go_wp2_with fail
    obtain ⟨wz, hwz, hbz, z0, z1, z2, _⟩ := HZ2.out.put (.string { data := #[] }) (.string { data := #[] }) (.slice none 0 0)
    rw [← hwz]
    refine bodyPost_ret (v := .tuple #[.agg #[.string { data := #[] }, .string { data := #[] }, .slice none 0 0], .int .i64 4]) (by simp [results, Tryd.results102, go_sem, z0, z1, z2]) rfl ⟨_, by rw [HE.out.1], by rw [HE.out.2]; exact HdV.zero _ _, hbz⟩
set_option maxRecDepth 100000 in
set_option maxHeartbeats 4000000 in
theorem hp_rest0 (hs : ¬ 4096 < s.size) (hl : LinesOk s) {x0 : ByteArray} (hL : hls s = x0 :: []) {a b : ByteArray} (hf : fls s = [a, b, http11]) (hm : w.cell? ⟨1, 0, none⟩ = some (.int .i64 m)) : Calls Tryd.prog 102 #[.string s] w (RhRes s w) := by
  have HNo := Lib.hid fun x (hx : x ∈ ([] : List ByteArray)) (k : hasColon x = false) => rh_form hs (colon_no hL hx k)
  have HYes : Hid ((∀ x ∈ ([] : List ByteArray), hasColon x = true) → RhForm s) := fun h => ⟨hl, ⟨a, b, hf⟩, by rw [hL]; exact h⟩
  have HHd : Hid (rhHd s = ⟨a, b, ([] : List ByteArray).map fdOf⟩) := by show _ = _; rw [fls_3 hf, hL]; rfl
  have HHs := Lib.hid hs
  have h0 := World.block_lt_of_cell? _ _ hm
  have d0 : ¬ (4096 : Int) < (s.size : Int) := by omega
  have HM : Hid (∀ w', Below w.heap.size w w' → w'.cell? ⟨1, 0, none⟩ = some (.int .i64 m)) := fun w' hb => (hb.cell (p := ⟨1, 0, none⟩) h0).trans hm
  obtain ⟨W, hW⟩ : ∃ W, w.alloc (.cells #[.string { data := #[] }, .string { data := #[] }, .slice none 0 0] 24) = W := ⟨_, rfl⟩
  have hZ := Hz.start w
  rw [hW] at hZ
  have HZ := Lib.hid hZ
  have hwW : w.heap.size < W.heap.size := hZ.lt
  have C := (lines_any s m W (by omega) (HM.out W hZ.be)).mono fun e w' h => h.elim (fun k => k.2) (fun k => absurd hl k.1)
  rw [hL, List.length_singleton] at C
  have hx0 : x0.size ≤ 1048576 := by have := hls_mem (s := s) (x := x0) (by rw [hL]; exact List.mem_cons_self); omega
  have C := Lib.hid C
  have hfl : fls s = pcs x0 ⟨#[32]⟩ := by unfold fls; rw [hL]; rfl
  have hP : pcs x0 ⟨#[32]⟩ = [a, b, http11] := by rw [← hfl, hf]
  have HXs : Hid (∀ x ∈ ([] : List ByteArray), x.size ≤ 4096) := fun x hx => by
    have h1 := hls_mem (s := s) (x := x) (by rw [hL]; exact List.mem_cons_of_mem _ hx)
    omega
  have hab : a.size ≤ 1048576 ∧ b.size ≤ 1048576 := by
    have := pcs_mem ⟨#[32]⟩ (by decide) x0.size x0 (Nat.le_refl _)
    have h1 := this a (by rw [hP]; simp)
    have h2 := this b (by rw [hP]; simp)
    omega
  obtain ⟨c, hc⟩ : ∃ c, c = http11 := ⟨_, rfl⟩
  rw [← hc] at hP
  have q0 : (c.toList == [72, 84, 84, 80, 47, 49, 46, 49]) = true := by rw [hc, Lib.toList_data]; rfl
  have q1 : (c.toList != [72, 84, 84, 80, 47, 49, 46, 49]) = false := by rw [bne, q0]; rfl
  have C3 := Lib.hid fun w1 (hb : Below w.heap.size w w1) => sp_three hP (by decide) hx0 m w1 (HM.out w1 hb)
  obtain ⟨hab1, hab2⟩ := hab
  clear hZ hl hL hf hm h0 hfl hP hc
  go_enter Tryd.func102, Tryd.ntmps102
  go_wp2_with fail
  refine C.out.mono ?_
  rintro e w1 ⟨rfl, ho, b1⟩
  have hZ1 := HZ.out.kept b1
  obtain ⟨g1, eg, hg1, hgl, _, hcell⟩ := ho.at_ (by simp)
  injection eg with eg; injection eg with eg
  subst eg
  have y0 : w1.cell? ⟨W.heap.size, 0, none⟩ = some (.string x0) := hcell 0 (by simp)
  have HC := Lib.hid hcell
  have hZb := hZ1.be
  have HZ1 := Lib.hid hZ1
  have HZb := Lib.hid hZb
  have hgl1 := hZ1.lt
  clear hcell ho b1 hZ1 hZb C hW
  go_wp2_with fail
  refine (C3.out _ HZb.out).mono ?_
  rintro e w2 ⟨rfl, ⟨u0, u1, u2⟩, b2, hl12⟩
  have HZ2 := Lib.hid (HZ1.out.kept b2)
  have hgl2 : W.heap.size < w2.heap.size := Nat.lt_of_lt_of_le hgl b2.size
  clear b2 C3 y0 HC
  go_wp2_with fail
  go_region
  obtain ⟨w3, hw3⟩ : ∃ w3, w3 = (w2.alloc (Obj.cells #[.string a, .string b, .slice none 0 0] 24)).drew := ⟨_, rfl⟩
  have hH3 : Hst w2 w3 w2.heap.size a b (.slice none 0 0) (.slice none 0 0) [] := by
    rw [hw3]
    exact ⟨Blk.new _ _ _, Nat.le_refl _, OP.nil _ _ _, below_drewN ((Below.refl _ _).alloc (Nat.le_refl _) _) 1⟩
  rw [← hw3]
  have H3 := Lib.hid hH3
  clear hw3 hH3 u0 u1 u2 q0 q1
  go_wp2_with fail
  go_loopw [50] (fun u wr => ∃ (k : Nat) (v : Value), u = .int .i64 (k : Int) ∧ k ≤ 0 ∧ Hst w2 wr w2.heap.size a b v v ((([] : List ByteArray).take k).map fdOf) ∧ Hid (∀ x ∈ ([] : List ByteArray).take k, hasColon x = true)) (fun u _ => 0 - (intOf u).toNat)
  case atStart => exact ⟨0, .slice none 0 0, rfl, by omega, by simpa using H3.out, fun x hx => absurd hx (by simp)⟩
  case round =>
    obtain ⟨k, v, rfl, hk, hH, HA⟩ := hrel
    have hZr := HZ2.out.kept hH.be
    obtain rfl : k = 0 := by omega
    have HRf := Lib.hid (HYes.out (fun x hx => absurd hx (by simp)))
    obtain ⟨fs, hfs⟩ : ∃ fs, fs = ([] : List ByteArray).map fdOf := ⟨_, rfl⟩
    have hH : Hst w2 wr w2.heap.size a b v v fs := by rw [hfs]; simpa using hH
    have hfz : ∀ f ∈ fs, f.n.size ≤ 1048576 ∧ f.v.size ≤ 1048576 := fun f hf => by
      rw [hfs] at hf
      obtain ⟨x, hx, rfl⟩ := List.mem_map.1 hf
      have h1 := HXs.out x hx
      have h2 := fdOf_size x
      omega
    have HHd2 : Hid (rhHd s = ⟨a, b, fs⟩) := by show _ = _; rw [HHd.out, hfs]
    obtain ⟨A, cp, rfl⟩ := hH.ho.form
    have CK := headCheck_any a b fs A cp wr.heap.size wr hab1 hab2 (hH.ho.fdR hfz) (Nat.le_refl _)
    obtain ⟨E, hE⟩ : ∃ E, E = hdE ⟨a, b, fs⟩ := ⟨_, rfl⟩
    rw [← hE] at CK
    have HEd : Hid (hdE (rhHd s) = E) := by show _ = _; rw [HHd2.out, hE]
    have CK := Lib.hid CK
    obtain ⟨kk0, kk1, kk2, ff⟩ := hH.facts
    have HH := Lib.hid hH
    have HZr := Lib.hid hZr
    clear hH hZr hfz hfs hE
    go_wp2_with fail
    refine CK.out.mono ?_
    rintro e w5 ⟨rfl, b5⟩
    have hH5 := HH.out.kept b5
    have hZ5 := HZr.out.kept b5
    obtain ⟨kk50, kk51, kk52, ff5⟩ := hH5.facts
    obtain ⟨r0, r1, r2, f0, f1, f2⟩ := hZ5.facts
    have HH5 := Lib.hid hH5
    have HZ5 := Lib.hid hZ5
    clear hH5 hZ5 b5 kk0 kk1 kk2 ff CK
    by_cases e0 : E = 0
    · have HE := Lib.hid (rh_ok HHs.out HRf.out (HEd.out.trans e0))
      have e1 : (E != 0) = false := by rw [e0]; rfl
      clear e0
      go_wp2_with fail
      obtain ⟨wz, hwz, hbz, z0, z1, z2, ho⟩ := HZ5.out.put (.string a) (.string b) (.slice A fs.length cp)
      rw [← hwz]
      refine bodyPost_ret (v := .tuple #[.agg #[.string a, .string b, .slice A fs.length cp], .int .i64 0]) (by simp [results, Tryd.results102, go_sem, z0, z1, z2]) rfl ⟨_, by rw [HE.out.1], ?_, hbz⟩
      rw [HE.out.2, HHd2.out]
      exact ⟨A, cp, rfl, (ho _ _ _ _ (by omega) HH5.out.ho).mono (by omega)⟩
    · have HE := Lib.hid (rh_bad HHs.out HRf.out (by rw [HEd.out]; exact e0))
      have e1 : (E != 0) = true := bne_iff_ne.2 e0
      clear e0
      go_wp2_with fail
      obtain ⟨wz, hwz, hbz, z0, z1, z2, _⟩ := HZ5.out.put (.string { data := #[] }) (.string { data := #[] }) (.slice none 0 0)
      rw [← hwz]
      exact bodyPost_ret (v := .tuple #[.agg #[.string { data := #[] }, .string { data := #[] }, .slice none 0 0], .int .i64 E]) (by simp [results, Tryd.results102, go_sem, z0, z1, z2]) rfl ⟨_, by rw [HE.out.1, HEd.out], by rw [HE.out.2]; exact HdV.zero _ _, hbz⟩
set_option maxRecDepth 100000 in
set_option maxHeartbeats 4000000 in
theorem hp_rest1 (hs : ¬ 4096 < s.size) (hl : LinesOk s) {x0 : ByteArray} {T : List ByteArray} (hL : hls s = x0 :: T) (hTn : ¬ T = []) {a b : ByteArray} (hf : fls s = [a, b, http11]) (hm : w.cell? ⟨1, 0, none⟩ = some (.int .i64 m)) : Calls Tryd.prog 102 #[.string s] w (RhRes s w) := by
  have HNo := Lib.hid fun x (hx : x ∈ (T : List ByteArray)) (k : hasColon x = false) => rh_form hs (colon_no hL hx k)
  have HYes : Hid ((∀ x ∈ (T : List ByteArray), hasColon x = true) → RhForm s) := fun h => ⟨hl, ⟨a, b, hf⟩, by rw [hL]; exact h⟩
  have HHd : Hid (rhHd s = ⟨a, b, (T : List ByteArray).map fdOf⟩) := by show _ = _; rw [fls_3 hf, hL]; rfl
  have HHs := Lib.hid hs
  have h0 := World.block_lt_of_cell? _ _ hm
  have d0 : ¬ (4096 : Int) < (s.size : Int) := by omega
  have HM : Hid (∀ w', Below w.heap.size w w' → w'.cell? ⟨1, 0, none⟩ = some (.int .i64 m)) := fun w' hb => (hb.cell (p := ⟨1, 0, none⟩) h0).trans hm
  obtain ⟨W, hW⟩ : ∃ W, w.alloc (.cells #[.string { data := #[] }, .string { data := #[] }, .slice none 0 0] 24) = W := ⟨_, rfl⟩
  have hZ := Hz.start w
  rw [hW] at hZ
  have HZ := Lib.hid hZ
  have hwW : w.heap.size < W.heap.size := hZ.lt
  have C := (lines_any s m W (by omega) (HM.out W hZ.be)).mono fun e w' h => h.elim (fun k => k.2) (fun k => absurd hl k.1)
  rw [hL, List.length_cons] at C
  have hT : T.length ≤ 4097 := by
    have h1 : (hls s).length = T.length + 1 := by rw [hL]; rfl
    have h2 := pcs_le (s := s.extract 0 (s.size - 4)) (t := crlf) (by decide)
    rw [ByteArray.size_extract] at h2
    have h3 : (hls s).length ≤ _ := h2
    omega
  have hx0 : x0.size ≤ 1048576 := by have := hls_mem (s := s) (x := x0) (by rw [hL]; exact List.mem_cons_self); omega
  have C := Lib.hid C
  have hfl : fls s = pcs x0 ⟨#[32]⟩ := by unfold fls; rw [hL]; rfl
  have hP : pcs x0 ⟨#[32]⟩ = [a, b, http11] := by rw [← hfl, hf]
  have HXs : Hid (∀ x ∈ (T : List ByteArray), x.size ≤ 4096) := fun x hx => by
    have h1 := hls_mem (s := s) (x := x) (by rw [hL]; exact List.mem_cons_of_mem _ hx)
    omega
  have hab : a.size ≤ 1048576 ∧ b.size ≤ 1048576 := by
    have := pcs_mem ⟨#[32]⟩ (by decide) x0.size x0 (Nat.le_refl _)
    have h1 := this a (by rw [hP]; simp)
    have h2 := this b (by rw [hP]; simp)
    omega
  obtain ⟨c, hc⟩ : ∃ c, c = http11 := ⟨_, rfl⟩
  rw [← hc] at hP
  have q0 : (c.toList == [72, 84, 84, 80, 47, 49, 46, 49]) = true := by rw [hc, Lib.toList_data]; rfl
  have q1 : (c.toList != [72, 84, 84, 80, 47, 49, 46, 49]) = false := by rw [bne, q0]; rfl
  have C3 := Lib.hid fun w1 (hb : Below w.heap.size w w1) => sp_three hP (by decide) hx0 m w1 (HM.out w1 hb)
  obtain ⟨hab1, hab2⟩ := hab
  clear hZ hl hL hf hm h0 hfl hP hc
  go_enter Tryd.func102, Tryd.ntmps102
  go_wp2_with fail
  refine C.out.mono ?_
  rintro e w1 ⟨rfl, ho, b1⟩
  have hZ1 := HZ.out.kept b1
  obtain ⟨g1, eg, hg1, hgl, _, hcell⟩ := ho.at_ (by rw [List.length_cons]; omega)
  injection eg with eg; injection eg with eg
  subst eg
  have y0 : w1.cell? ⟨W.heap.size, 0, none⟩ = some (.string x0) := hcell 0 (by rw [List.length_cons]; omega)
  have HC := Lib.hid hcell
  have hZb := hZ1.be
  have HZ1 := Lib.hid hZ1
  have HZb := Lib.hid hZb
  have hgl1 := hZ1.lt
  clear hcell ho b1 hZ1 hZb C hW
  go_wp2_with fail
  refine (C3.out _ HZb.out).mono ?_
  rintro e w2 ⟨rfl, ⟨u0, u1, u2⟩, b2, hl12⟩
  have HZ2 := Lib.hid (HZ1.out.kept b2)
  have HC2 : Hid (∀ k (hk : k < T.length), w2.cell? ⟨W.heap.size, k + 1, none⟩ = some (.string T[k])) := fun k hk => (b2.cell (p := ⟨W.heap.size, k + 1, none⟩) hgl).trans (HC.out (k + 1) (by rw [List.length_cons]; omega))
  have hgl2 : W.heap.size < w2.heap.size := Nat.lt_of_lt_of_le hgl b2.size
  clear b2 C3 y0 HC
  go_wp2_with fail
  go_region
  obtain ⟨w3, hw3⟩ : ∃ w3, w3 = (w2.alloc (Obj.cells #[.string a, .string b, .slice none 0 0] 24)).drew := ⟨_, rfl⟩
  have hH3 : Hst w2 w3 w2.heap.size a b (.slice none 0 0) (.slice none 0 0) [] := by
    rw [hw3]
    exact ⟨Blk.new _ _ _, Nat.le_refl _, OP.nil _ _ _, below_drewN ((Below.refl _ _).alloc (Nat.le_refl _) _) 1⟩
  rw [← hw3]
  have H3 := Lib.hid hH3
  clear hw3 hH3 u0 u1 u2 q0 q1
  go_wp2_with fail
  go_loopw [50] (fun u wr => ∃ (k : Nat) (v : Value), u = .int .i64 (k : Int) ∧ k ≤ T.length ∧ Hst w2 wr w2.heap.size a b v v (((T : List ByteArray).take k).map fdOf) ∧ Hid (∀ x ∈ (T : List ByteArray).take k, hasColon x = true)) (fun u _ => T.length - (intOf u).toNat)
  case atStart => exact ⟨0, .slice none 0 0, rfl, by omega, by simpa using H3.out, fun x hx => absurd hx (by simp)⟩
  case round =>
    obtain ⟨k, v, rfl, hk, hH, HA⟩ := hrel
    have hZr := HZ2.out.kept hH.be
    by_cases hlk : k < T.length
    · have k1 : (k : Int) < (T.length : Int) := by omega
      obtain ⟨x, hx⟩ : ∃ x, x = T[k] := ⟨_, rfl⟩
      have y0 : wr.cell? ⟨W.heap.size, k + 1, none⟩ = some (.string x) := by rw [hx, hH.be.cell (p := ⟨W.heap.size, k + 1, none⟩) hgl2]; exact HC2.out k hlk
      have y0' : wr.cell? ⟨W.heap.size, 1 + k, none⟩ = some (.string x) := by rw [Nat.add_comm]; exact y0
      have hXm : x ∈ T := by rw [hx]; exact List.getElem_mem _
      have hxs : x.size ≤ 4096 := HXs.out x hXm
      have HT : Hid (T.take (k + 1) = T.take k ++ [x]) := by show _ = _; rw [List.take_succ_eq_append_getElem hlk, hx]
      have CC := cut_any x ⟨#[58]⟩ m wr (by omega) (HM.out wr hZr.be)
      have hsz := cutS_size x ⟨#[58]⟩
      have HNx := Lib.hid fun k => HNo.out x hXm k
      obtain ⟨c1, hc1⟩ : ∃ c1, c1 = (cutS x ⟨#[58]⟩).1 := ⟨_, rfl⟩
      obtain ⟨c2, hc2⟩ : ∃ c2, c2 = (cutS x ⟨#[58]⟩).2.1 := ⟨_, rfl⟩
      obtain ⟨c3, hc3⟩ : ∃ c3, c3 = hasColon x := ⟨_, rfl⟩
      have CC2 : Calls Tryd.prog 82 #[.string x, .string ⟨#[58]⟩] wr fun e w' => e = .returned (.tuple #[.string c1, .string c2, .bool c3]) ∧ ∃ q, w' = wr.drewN q := by rw [hc1, hc2, hc3]; exact CC
      have HFd : Hid (fdOf x = ⟨c1, str (trimL c2.data.toList)⟩) := by show _ = _; rw [hc1, hc2]; rfl
      have HC3 := Lib.hid hc3
      rw [← hc1, ← hc2] at hsz
      obtain ⟨hz1, hz2⟩ := hsz
      have CC3 := Lib.hid CC2
      have HH := Lib.hid hH
      have HZr := Lib.hid hZr
      obtain ⟨L, hLL⟩ : ∃ L, L = (T.take k).map fdOf := ⟨_, rfl⟩
      have hLn : L.length ≤ 5000 := by rw [hLL, List.length_map, List.length_take]; omega
      have HTL : Hid ((T.take (k + 1)).map fdOf = L ++ [⟨c1, str (trimL c2.data.toList)⟩]) := by show _ = _; rw [HT.out, List.map_append, ← hLL, ← HFd.out]; rfl
      rw [← hLL] at HH
      clear hx hc1 hc2 hc3 hH hZr CC CC2 hXm hLL
      go_wp2_with fail
      refine CC3.out.mono ?_
      rintro e w4 ⟨rfl, q, hq⟩
      have hH4 := HH.out.drewN q
      have hZ4 := HZr.out.drewN q
      rw [← hq] at hH4 hZ4
      clear hq HH HZr CC3 y0 y0'
      cases c3 with
      | false =>
        have HE := Lib.hid (HNx.out HC3.out.symm)
        have HZ4 := Lib.hid hZ4
        obtain ⟨r0, r1, r2, f0, f1, f2⟩ := hZ4.facts
        clear hH4 hZ4
        go_wp2_with fail
        obtain ⟨wz, hwz, hbz, z0, z1, z2, _⟩ := HZ4.out.put (.string { data := #[] }) (.string { data := #[] }) (.slice none 0 0)
        rw [← hwz]
        refine bodyPost_ret (v := .tuple #[.agg #[.string { data := #[] }, .string { data := #[] }, .slice none 0 0], .int .i64 4]) (by simp [results, Tryd.results102, go_sem, z0, z1, z2]) rfl ⟨_, by rw [HE.out.1], by rw [HE.out.2]; exact HdV.zero _ _, hbz⟩
      | true =>
        have HA2 : Hid (∀ y ∈ T.take (k + 1), hasColon y = true) := fun y hy => by
          rw [HT.out, List.mem_append, List.mem_singleton] at hy
          rcases hy with hy | rfl
          · exact HA.out y hy
          · exact HC3.out.symm
        have CT := Lib.hid fun w' => trim_any c2 w' (by omega)
        obtain ⟨u, hu⟩ : ∃ u, u = str (trimL c2.data.toList) := ⟨_, rfl⟩
        rw [← hu] at CT HTL
        have hHd := hH4.drew
        obtain ⟨kk0, kk1, kk, ff⟩ := hH4.facts
        have hzd : w2.heap.size < w4.heap.size := hH4.lt
        clear hZ4 hH4 hu kk0 kk1
        go_wp2_with fail
        go_region_law (first
          | (refine step_hst rfl (.tmp 64) (.tmp 69) rfl hHd (by rfl) c1 u (by rfl) (by omega) ?_; intro A1 c1' w5 hH5; obtain ⟨kk50, kk51, kk5, ff5⟩ := hH5.facts)
          | (go_simp; go_at_call 64; refine (CT.out _).mono ?_; rintro e w' ⟨rfl, rfl⟩))
        all_goals
          have HD3 := Lib.hid (hH5.set (.slice A1 (L.length + 1) c1'))
          clear hH5 hHd
          go_wp2_with fail
          go_roundw
          case rel => exact ⟨k + 1, .slice A1 (L.length + 1) c1', by go_num, by omega, by rw [HTL.out]; exact HD3.out, HA2⟩
          case measure => simp [intOf]; omega
    · obtain rfl : k = T.length := by omega
      rw [List.take_length] at hH HA
      clear hlk
      have HRf := Lib.hid (HYes.out HA.out)
      obtain ⟨fs, hfs⟩ : ∃ fs, fs = (T : List ByteArray).map fdOf := ⟨_, rfl⟩
      rw [← hfs] at hH
      have hfz : ∀ f ∈ fs, f.n.size ≤ 1048576 ∧ f.v.size ≤ 1048576 := fun f hf => by
        rw [hfs] at hf
        obtain ⟨x, hx, rfl⟩ := List.mem_map.1 hf
        have h1 := HXs.out x hx
        have h2 := fdOf_size x
        omega
      have HHd2 : Hid (rhHd s = ⟨a, b, fs⟩) := by show _ = _; rw [HHd.out, hfs]
      obtain ⟨A, cp, rfl⟩ := hH.ho.form
      have CK := headCheck_any a b fs A cp wr.heap.size wr hab1 hab2 (hH.ho.fdR hfz) (Nat.le_refl _)
      obtain ⟨E, hE⟩ : ∃ E, E = hdE ⟨a, b, fs⟩ := ⟨_, rfl⟩
      rw [← hE] at CK
      have HEd : Hid (hdE (rhHd s) = E) := by show _ = _; rw [HHd2.out, hE]
      have CK := Lib.hid CK
      obtain ⟨kk0, kk1, kk2, ff⟩ := hH.facts
      have HH := Lib.hid hH
      have HZr := Lib.hid hZr
      clear hH hZr hfz hfs hE
      go_wp2_with fail
      refine CK.out.mono ?_
      rintro e w5 ⟨rfl, b5⟩
      have hH5 := HH.out.kept b5
      have hZ5 := HZr.out.kept b5
      obtain ⟨kk50, kk51, kk52, ff5⟩ := hH5.facts
      obtain ⟨r0, r1, r2, f0, f1, f2⟩ := hZ5.facts
      have HH5 := Lib.hid hH5
      have HZ5 := Lib.hid hZ5
      clear hH5 hZ5 b5 kk0 kk1 kk2 ff CK
      by_cases e0 : E = 0
      · have HE := Lib.hid (rh_ok HHs.out HRf.out (HEd.out.trans e0))
        have e1 : (E != 0) = false := by rw [e0]; rfl
        clear e0
        go_wp2_with fail
        obtain ⟨wz, hwz, hbz, z0, z1, z2, ho⟩ := HZ5.out.put (.string a) (.string b) (.slice A fs.length cp)
        rw [← hwz]
        refine bodyPost_ret (v := .tuple #[.agg #[.string a, .string b, .slice A fs.length cp], .int .i64 0]) (by simp [results, Tryd.results102, go_sem, z0, z1, z2]) rfl ⟨_, by rw [HE.out.1], ?_, hbz⟩
        rw [HE.out.2, HHd2.out]
        exact ⟨A, cp, rfl, (ho _ _ _ _ (by omega) HH5.out.ho).mono (by omega)⟩
      · have HE := Lib.hid (rh_bad HHs.out HRf.out (by rw [HEd.out]; exact e0))
        have e1 : (E != 0) = true := bne_iff_ne.2 e0
        clear e0
        go_wp2_with fail
        obtain ⟨wz, hwz, hbz, z0, z1, z2, _⟩ := HZ5.out.put (.string { data := #[] }) (.string { data := #[] }) (.slice none 0 0)
        rw [← hwz]
        exact bodyPost_ret (v := .tuple #[.agg #[.string { data := #[] }, .string { data := #[] }, .slice none 0 0], .int .i64 E]) (by simp [results, Tryd.results102, go_sem, z0, z1, z2]) rfl ⟨_, by rw [HE.out.1, HEd.out], by rw [HE.out.2]; exact HdV.zero _ _, hbz⟩
theorem headParse_any (hs : s.size ≤ 1048576) (hm : w.cell? ⟨1, 0, none⟩ = some (.int .i64 m)) : Calls Tryd.prog 102 #[.string s] w (RhRes s w) := by
  by_cases h : 4096 < s.size
  · exact hp_large s w h
  · by_cases hl : LinesOk s
    · have h0 : 0 < (hls s).length := pcs_pos _ _ (by decide)
      obtain ⟨x0, T, hL⟩ : ∃ x0 T, hls s = x0 :: T := by
        generalize hls s = L at h0
        match L, h0 with
        | x :: L, _ => exact ⟨x, L, rfl⟩
      by_cases hf : Fst3 s
      · obtain ⟨a, b, hab⟩ := hf
        cases T with
        | nil => exact hp_rest0 s m w h hl hL hab hm
        | cons y T => exact hp_rest1 s m w h hl hL (by simp) hab hm
      · exact hp_first s m w h hl hL hf hm
    · exact hp_nolines s m w h hl hm
end
end Go.Proofs.YtkcncgdgicffhaaDoor
