/- Walk: serial.Strip. -/
import Derived.Test.YtkcncgdgicffhaaDoorGz
import Derived.Test.YtkcncgdgicffhaaDoorGq
namespace Go.Proofs.YtkcncgdgicffhaaDoor
open Go.RowKit
set_option linter.unusedVariables false
set_option linter.unusedSimpArgs false

def StripRes (m t : ByteArray) (L : List Fd) (w : World) (e : Ending) (w' : World) : Prop := ∃ v, e = .returned (.agg #[.string m, .string t, v]) ∧ OP 108 w' w.heap.size v L ∧ Below w.heap.size w w'
section
variable (m t : ByteArray) (A : Option Addr) (cap : Nat) (fs : List Fd) (mx : Int) (w : World)
set_option maxRecDepth 100000 in
set_option maxHeartbeats 8000000 in
theorem strip_any (hf : FdR w w.heap.size A cap fs) (hfl : fs.length ≤ 1048576) (hbk : bulkF fs ≤ 1048576) (hm : w.cell? ⟨1, 0, none⟩ = some (.int .i64 mx)) :
    Calls Tryd.prog 18 #[.agg #[.string m, .string t, .slice A fs.length cap]] w (StripRes m t (stripL fs) w) := by
  have hmb := World.block_lt_of_cell? _ _ hm
  have HM := Lib.hid fun w' (hb : Below w.heap.size w w') => (hb.cell (p := ⟨1, 0, none⟩) hmb).trans hm
  have CG : ∀ w', Sz w m t A cap fs w' → Calls Tryd.prog 42 #[.agg #[.string m, .string t, .slice A fs.length cap], .string ⟨#[99, 111, 110, 110, 101, 99, 116, 105, 111, 110]⟩] w' fun e w'' => ∃ v, e = .returned v ∧ OS w'' w'.heap.size v (getL fs cnB) ∧ Below w'.heap.size w' w'' := fun w' h => get_any m t cnB fs A cap w.heap.size w' (by decide) h.fds hfl h.be.size
  have CG := Lib.hid CG
  have hvz : ∀ x ∈ getL fs cnB, x.size ≤ 1048576 := fun x hx => by
    unfold getL at hx
    obtain ⟨f, hf1, rfl⟩ := List.mem_map.1 hx
    exact (hf.2.2.2 f (List.mem_filter.1 hf1).1).2
  have hvl : (getL fs cnB).length ≤ 1048576 := Nat.le_trans (getL_len _ _) hfl
  have htot := drop_len fs
  have hstr : stripL fs = fs.filter (keepD (dropL fs)) := rfl
  have hdr : dropL fs = dropC ++ (getL fs cnB).flatMap cnV := rfl
  obtain ⟨DD, hDD⟩ : ∃ DD, DD = dropL fs := ⟨_, rfl⟩
  rw [← hDD] at hdr hstr htot
  obtain ⟨vs, hvs⟩ : ∃ vs, vs = getL fs cnB := ⟨_, rfl⟩
  rw [← hvs] at hvz hvl hdr CG
  have HDD := Lib.hid hdr
  have HVZ := Lib.hid hvz
  obtain ⟨SL, hSL⟩ : ∃ SL, SL = stripL fs := ⟨_, rfl⟩
  rw [← hSL] at hstr ⊢
  have HSL := Lib.hid hstr
  obtain ⟨W, hW⟩ : ∃ W, (w.alloc (.cells #[.string m, .string t, .slice A fs.length cap] 24)).alloc (.cells #[.string ⟨#[]⟩, .string ⟨#[]⟩, .slice none 0 0] 24) = W := ⟨_, rfl⟩
  have hZ : Sz w m t A cap fs W := by rw [← hW]; exact Sz.start hf
  have hO0 : OS (W.alloc (.cells #[.string ⟨#[99, 111, 110, 110, 101, 99, 116, 105, 111, 110]⟩, .string ⟨#[107, 101, 101, 112, 45, 97, 108, 105, 118, 101]⟩, .string ⟨#[112, 114, 111, 120, 121, 45, 99, 111, 110, 110, 101, 99, 116, 105, 111, 110]⟩, .string ⟨#[116, 101]⟩, .string ⟨#[116, 114, 97, 105, 108, 101, 114]⟩, .string ⟨#[116, 114, 97, 110, 115, 102, 101, 114, 45, 101, 110, 99, 111, 100, 105, 110, 103]⟩, .string ⟨#[117, 112, 103, 114, 97, 100, 101]⟩, .string ⟨#[99, 111, 110, 116, 101, 110, 116, 45, 108, 101, 110, 103, 116, 104]⟩] 9)) W.heap.size (.slice (some ⟨W.heap.size, 0, none⟩) 8 8) dropC := OS.lit8 W
  have hZ1 : Sz w m t A cap fs (W.alloc (.cells #[.string ⟨#[99, 111, 110, 110, 101, 99, 116, 105, 111, 110]⟩, .string ⟨#[107, 101, 101, 112, 45, 97, 108, 105, 118, 101]⟩, .string ⟨#[112, 114, 111, 120, 121, 45, 99, 111, 110, 110, 101, 99, 116, 105, 111, 110]⟩, .string ⟨#[116, 101]⟩, .string ⟨#[116, 114, 97, 105, 108, 101, 114]⟩, .string ⟨#[116, 114, 97, 110, 115, 102, 101, 114, 45, 101, 110, 99, 111, 100, 105, 110, 103]⟩, .string ⟨#[117, 112, 103, 114, 97, 100, 101]⟩, .string ⟨#[99, 111, 110, 116, 101, 110, 116, 45, 108, 101, 110, 103, 116, 104]⟩] 9)) := hZ.step ((Below.refl _ _).alloc (Nat.le_refl _) _)
  have hcp := hf.2.1
  have hcp2 := hf.2.2.1
  obtain ⟨r0, r1, r2⟩ := hZ1.facts
  have HZ1 := Lib.hid hZ1
  have HO0 := Lib.hid hO0
  have hWl := hZ.lt
  unfold StripRes
  clear hf hm hmb hvs hvz hDD hSL hdr hstr hO0 hZ hZ1
  go_enter Tryd.func18, Tryd.ntmps18
  go_wp2_with fail
  refine (CG.out _ HZ1.out).mono ?_
  rintro e w1 ⟨v, rfl, ho1, b1⟩
  obtain ⟨A1, c1, rfl⟩ := ho1.form
  have HZ2 := Lib.hid (HZ1.out.step b1)
  have HO1 := Lib.hid (HO0.out.kept b1)
  have HV1 := Lib.hid ho1
  have hge : W.heap.size < w1.heap.size := by have := b1.size; simp at this; omega
  have hsz1 : W.heap.size + 1 ≤ w1.heap.size := hge
  clear b1 ho1 r0 r1 r2 hW HO0 HZ1
  have hSX : SXO vs A1 (.slice (some ⟨W.heap.size, 0, none⟩) 8 8) w1 := fun h0 => by
    obtain ⟨g, eg, hg1, hg2, hg3, hcell⟩ := HV1.out.at_ h0
    exact ⟨g, eg, hg2, hcell, fun e => by
      have e2 : some W.heap.size = some g := e
      injection e2 with e2
      simp at hg1; omega⟩
  have HSX := Lib.hid hSX
  have hO2 := HO1.out.mono (B' := w.heap.size + 2) (by omega)
  have HO2 := Lib.hid hO2
  clear hSX hO2 HO1
  go_wp2_with fail
  go_loopw [3, 15] (fun dv iv wr => ∃ (i : Nat) (D : List ByteArray), iv = .int .i64 i ∧ i ≤ vs.length ∧ Hid (D = dropC ++ (vs.take i).flatMap cnV) ∧ OS wr (w.heap.size + 2) dv D ∧ Hid (SXO vs A1 dv wr) ∧ Hid (Sz w m t A cap fs wr)) (fun _ iv _ => vs.length - (intOf iv).toNat)
  case atStart => exact ⟨0, dropC, rfl, Nat.zero_le _, Lib.hid (by simp), HO2.out, HSX, HZ2⟩
  case round =>
    obtain ⟨i, D, rfl, hi, HD, ho, HX, HZ⟩ := hrel
    obtain ⟨A0, c0, rfl⟩ := ho.form
    have HOD := Lib.hid ho
    clear ho
    by_cases hlt : i < vs.length
    · obtain ⟨gv, rfl, hsx⟩ := HX.out (by omega)
      have x0 := hsx.cell i hlt
      have hvz := HVZ.out vs[i] (List.getElem_mem hlt)
      have hsn := sm_snoc (f := cnV) hlt
      have hle := sm_le (f := cnV) hlt
      have hDDl : 8 + (vs.flatMap cnV).length = DD.length := by rw [HDD.out, List.length_append]; rfl
      obtain ⟨v, hv⟩ : ∃ v, v = vs[i] := ⟨_, rfl⟩
      rw [← hv] at x0 hvz hsn hle
      have C1 := sp_any v ⟨#[44]⟩ mx wr hvz (HM.out wr HZ.out.be) (by decide)
      have hpos := pcs_pos v ⟨#[44]⟩ (by decide)
      have hmem := pcs_mem ⟨#[44]⟩ (by decide) v.size v (Nat.le_refl _)
      have hcv : cnV v = (pcs v ⟨#[44]⟩).map lowT := rfl
      obtain ⟨X, hX⟩ : ∃ X, X = pcs v ⟨#[44]⟩ := ⟨_, rfl⟩
      rw [← hX] at C1 hpos hmem hcv
      rw [hcv] at hsn hle
      rw [List.length_map] at hle
      have hDX : D.length + X.length ≤ 1048584 := by
        have h1 := congrArg List.length HD.out
        rw [List.length_append] at h1
        have h2 : dropC.length = 8 := rfl
        omega
      have HN : Hid (dropC ++ (vs.take (i + 1)).flatMap cnV = D ++ X.map lowT) := Lib.hid (by rw [hsn, ← List.append_assoc, ← HD.out])
      have HXM := Lib.hid hmem
      have C1 := Lib.hid C1
      clear hv hX hmem hsn hle hcv hsx hDDl
      go_wp2_with fail
      refine C1.out.mono ?_
      rintro e w2 ⟨rfl, hOX, hb2⟩
      have hpx : SX X wr.heap.size (.slice A0 D.length c0) w2 := by
        obtain ⟨g, eg, hg1, hg2, hg3, hcell⟩ := hOX.at_ hpos
        injection eg with eg
        injection eg with eg _ _
        subst eg
        exact ⟨hg2, hcell, fun e => by have := (os_lt HOD.out _ e).2; omega⟩
      have HPX := Lib.hid hpx
      have HO3 := Lib.hid (HOD.out.kept hb2)
      have HX3 := Lib.hid (HX.out.below hb2)
      have HZ3 := Lib.hid (HZ.out.step hb2)
      obtain ⟨g, hg⟩ : ∃ g, g = wr.heap.size := ⟨_, rfl⟩
      rw [← hg] at HPX ⊢
      clear hOX hb2 hpx hg
      go_wp2_with fail
      go_loopw [3, 22] (fun dv iv wx => ∃ (k : Nat) (D2 : List ByteArray), iv = .int .i64 k ∧ k ≤ X.length ∧ Hid (D2 = D ++ (X.take k).map lowT) ∧ OS wx (w.heap.size + 2) dv D2 ∧ Hid (SX X g dv wx) ∧ Hid (SXO vs (some ⟨gv, 0, none⟩) dv wx) ∧ Hid (Sz w m t A cap fs wx)) (fun _ iv _ => X.length - (intOf iv).toNat)
      case atStart => exact ⟨0, D, rfl, Nat.zero_le _, Lib.hid (by simp), HO3.out, HPX, HX3, HZ3⟩
      case round =>
        obtain ⟨k, D2, rfl, hk, HD2, ho2, HP2, HX2, HZ4⟩ := hrel
        obtain ⟨A2, c2, rfl⟩ := ho2.form
        have HOD2 := Lib.hid ho2
        clear ho2
        by_cases hlk : k < X.length
        · have y0 := HP2.out.cell k hlk
          have hpm := HXM.out X[k] (List.getElem_mem hlk)
          have hD2l : D2.length ≤ 1048584 := by
            have h1 := congrArg List.length HD2.out
            rw [List.length_append, List.length_map, List.length_take] at h1; omega
          have HN2 : Hid (D2 ++ [lowT X[k]] = D ++ (X.take (k + 1)).map lowT) := Lib.hid (by rw [List.take_succ_eq_append_getElem hlk, List.map_append, ← List.append_assoc, ← HD2.out]; rfl)
          obtain ⟨p, hp⟩ : ∃ p, p = X[k] := ⟨_, rfl⟩
          rw [← hp] at y0 hpm HN2
          have CT := fun w' => trim_any p w' (by omega)
          have htz := lowT_size p
          have hlo : lowT p = str ((str (trimL p.data.toList)).data.toList.map lowB) := rfl
          obtain ⟨x, hx⟩ : ∃ x, x = str (trimL p.data.toList) := ⟨_, rfl⟩
          rw [← hx] at CT htz hlo
          have CL := fun w' => lower_any x w' (by omega)
          rw [← hlo] at CL
          obtain ⟨z, hz⟩ : ∃ z, z = lowT p := ⟨_, rfl⟩
          rw [← hz] at CL HN2
          have CT := Lib.hid CT
          have CL := Lib.hid CL
          clear hp hx hlo hz
          go_wp2_with fail
          refine (CT.out _).mono ?_
          rintro e w' ⟨rfl, rfl⟩
          go_wp2_with fail
          refine (CL.out _).mono ?_
          rintro e w3 ⟨rfl, b3⟩
          have HO4 := Lib.hid (HOD2.out.kept b3)
          have HP4 := Lib.hid (HP2.out.below b3)
          have HX4 := Lib.hid (HX2.out.below b3)
          have HZ5 := Lib.hid (HZ4.out.step b3)
          have hsz3 : w.heap.size + 2 ≤ w3.heap.size := HZ5.out.lt
          clear b3
          go_wp2_with (at_builtin; refine wpL_appS rfl (.tmp 26) (.tmp 30) rfl HO4.out rfl z rfl (by omega) hsz3 ?_; intro v5 w5 ho5 hG5 hb5)
          have HO5 := Lib.hid ho5
          have HP5 := Lib.hid (HP4.out.grew hG5)
          have HX5 := Lib.hid (HX4.out.grew hG5)
          have HZ6 := Lib.hid (HZ5.out.grow hb5)
          clear ho5 hG5 hb5
          go_wp2_with fail
          go_roundw
          case rel => exact ⟨k + 1, D2 ++ [z], by go_num, by omega, HN2, HO5.out, HP5, HX5, HZ6⟩
          case measure => simp [intOf]; omega
        · obtain rfl : k = X.length := by omega
          rw [List.take_length] at HD2
          go_wp2_with fail
          go_roundw
          case rel => exact ⟨i + 1, D2, by go_num, by omega, Lib.hid (by rw [HD2.out, HN.out]), HOD2.out, HX2, HZ4⟩
          case measure => simp [intOf]; omega
    · obtain rfl : i = vs.length := by omega
      rw [List.take_length, ← HDD.out] at HD
      have HD : Hid (D = DD) := HD
      have hD : D = DD := HD.out
      subst hD
      obtain ⟨r0, r1, r2⟩ := HZ.out.facts
      have hzl := HZ.out.lt
      have hZa := HZ.out.step ((Below.refl _ _).alloc (Nat.le_refl _) (.cells #[.string m, .string t, .slice none 0 0] 24))
      obtain ⟨q0, q1, q2⟩ := hZa.facts
      have HZA := Lib.hid hZa
      obtain ⟨gd, rfl, hgd1, hgd2, hgd3, hcell⟩ := HOD.out.at_ (show 0 < D.length by have h1 := congrArg List.length HDD.out; rw [List.length_append] at h1; have h2 : dropC.length = 8 := rfl; omega)
      have HSD : Hid (SX D gd (.slice none 0 0) (wr.alloc (.cells #[.string m, .string t, .slice none 0 0] 24))) := Lib.hid ((⟨hgd2, hcell, fun e => nomatch e⟩ : SX D gd (.slice none 0 0) wr).below ((Below.refl _ _).alloc (Nat.le_refl _) _))
      have HDl : Hid (D.length ≤ 8 + bulkF fs) := Lib.hid htot
      obtain ⟨gO, hgO⟩ : ∃ gO, gO = wr.heap.size := ⟨_, rfl⟩
      have HK : Hid (Blk (wr.alloc (.cells #[.string m, .string t, .slice none 0 0] 24)) gO 24 #[.string m, .string t, .slice none 0 0]) := Lib.hid (by rw [hgO]; exact Blk.new _ _ _)
      have hgO2 : w.heap.size + 1 < gO := by omega
      have hDl : D.length ≤ 1048584 := by omega
      clear hZa hcell hgd1 HOD HX HZ
      go_wp2_with fail
      rw [← hgO]
      obtain ⟨w6, hw6⟩ : ∃ w6, w6 = wr.alloc (.cells #[.string m, .string t, .slice none 0 0] 24) := ⟨_, rfl⟩
      rw [← hw6] at HK HSD HZA ⊢
      obtain ⟨wm, rfl⟩ : ∃ wm : World, wm = wr := ⟨_, rfl⟩
      have HSne : Hid (gO ≠ gd) := Lib.hid (by omega)
      clear hgO r0 r1 r2 q0 q1 q2 hw6 hzl
      go_loopw [42] (fun iv wr => ∃ (k : Nat) (ov : Value) (L : List Fd), iv = .int .i64 k ∧ k ≤ fs.length ∧ Hid (L = (fs.take k).filter (keepD D)) ∧ OP 108 wr (gO + 1) ov L ∧ Hid (Blk wr gO 24 #[.string m, .string t, ov]) ∧ Hid (SX D gd ov wr) ∧ Hid (Sz w m t A cap fs wr)) (fun iv _ => fs.length - (intOf iv).toNat)
      case atStart => exact ⟨0, .slice none 0 0, [], rfl, Nat.zero_le _, Lib.hid rfl, OP.nil _ _ _, HK, HSD, HZA⟩
      case round =>
        obtain ⟨k, ov, L, rfl, hk, HL, ho, HK2, HS2, HZ2⟩ := hrel
        obtain ⟨A7, c7, rfl⟩ := ho.form
        have HOL := Lib.hid ho
        clear ho HK HSD HZA
        have k0 : wr.cell? ⟨gO, 0, none⟩ = some (.string m) := HK2.out.cell 0
        have k1 : wr.cell? ⟨gO, 1, none⟩ = some (.string t) := HK2.out.cell 1
        have k2 : wr.cell? ⟨gO, 2, none⟩ = some (.slice A7 L.length c7) := HK2.out.cell 2
        have k3 := HK2.out.lt
        have hLl : L.length ≤ 1048576 := by rw [HL.out]; exact Nat.le_trans (strip_take D fs k) hfl
        by_cases hlt : k < fs.length
        · obtain ⟨ad, rfl, hab, x0, x1, z0, z1⟩ := fd_cells HZ2.out.fds hlt
          have hyes := strip_yes (D := D) hlt
          have hno := strip_no (D := D) hlt
          rw [← HL.out] at hyes hno
          obtain ⟨f, hfe⟩ : ∃ f, f = fs[k] := ⟨_, rfl⟩
          rw [← hfe] at x0 x1 z0 z1 hyes hno
          have CL := fun w' => lower_any f.n w' (by omega)
          have hkd : keepD D f = !(Lib.containsS D (str (f.n.data.toList.map lowB))) := rfl
          obtain ⟨z, hz⟩ : ∃ z, z = str (f.n.data.toList.map lowB) := ⟨_, rfl⟩
          rw [← hz] at CL hkd
          have CL := Lib.hid CL
          have HY := Lib.hid hyes
          have HNo := Lib.hid hno
          have hBa := (Below.refl wr.heap.size wr).alloc (Nat.le_refl _) (.cells #[.string f.n, .string f.v] 108)
          have HKb := Lib.hid (Blk.new wr 108 #[.string f.n, .string f.v])
          have b0 : (wr.alloc (.cells #[.string f.n, .string f.v] 108)).cell? ⟨wr.heap.size, 0, none⟩ = some (.string f.n) := HKb.out.cell 0
          have b1 : (wr.alloc (.cells #[.string f.n, .string f.v] 108)).cell? ⟨wr.heap.size, 1, none⟩ = some (.string f.v) := HKb.out.cell 1
          have HBa := Lib.hid hBa
          clear hfe hz hyes hno hBa
          have HO8 := Lib.hid (HOL.out.alloc (.cells #[.string f.n, .string f.v] 108))
          have HK8 := Lib.hid (HK2.out.alloc (.cells #[.string f.n, .string f.v] 108))
          have HS8 := Lib.hid (HS2.out.below HBa.out)
          have HZ8 := Lib.hid (HZ2.out.step HBa.out)
          go_wp2_with fail
          refine (CL.out _).mono ?_
          rintro e w8 ⟨rfl, b8⟩
          have HO9 := Lib.hid (HO8.out.kept b8)
          have HK9 := Lib.hid (HK8.out.below b8 HK8.out.lt)
          have HS9 := Lib.hid (HS8.out.below b8)
          have HZ9 := Lib.hid (HZ8.out.step b8)
          have HF9 := Lib.hid (HKb.out.below b8 HKb.out.lt)
          have CC := Lib.hid (contains_any c0 z w8 HS9.out (by omega))
          have l9 : gO < w8.heap.size := HK9.out.lt
          clear b8 HO8 HK8 HS8 HZ8 b0 b1 k0 k1 k2 k3
          have b0 : w8.cell? ⟨wr.heap.size, 0, none⟩ = some (.string f.n) := HF9.out.cell 0
          have b1 : w8.cell? ⟨wr.heap.size, 1, none⟩ = some (.string f.v) := HF9.out.cell 1
          have k0 : w8.cell? ⟨gO, 0, none⟩ = some (.string m) := HK9.out.cell 0
          have k1 : w8.cell? ⟨gO, 1, none⟩ = some (.string t) := HK9.out.cell 1
          have k2 : w8.cell? ⟨gO, 2, none⟩ = some (.slice A7 L.length c7) := HK9.out.cell 2
          obtain ⟨CB, hCB⟩ : ∃ CB, CB = Lib.containsS D z := ⟨_, rfl⟩
          rw [← hCB] at hkd CC
          clear hCB
          cases CB with
          | true =>
            have HN := Lib.hid (HNo.out hkd)
            go_wp2_with fail
            refine CC.out.mono ?_
            rintro e w' ⟨rfl, rfl⟩
            go_wp2_with fail
            go_roundw
            case rel => exact ⟨k + 1, .slice A7 L.length c7, L, by go_num, by omega, Lib.hid (by rw [HN.out]), HO9.out, HK9, HS9, HZ9⟩
            case measure => simp [intOf]; omega
          | false =>
            have HN := Lib.hid (HY.out hkd)
            go_wp2_with fail
            refine CC.out.mono ?_
            rintro e w' ⟨rfl, rfl⟩
            go_wp2_with (at_builtin; refine wpL_appP infoField Tryd.underlying22 rfl (.tmp 53) (.tmp 55) rfl HO9.out rfl f rfl rfl (by omega) l9 ?_; intro v5 w5 ho5 hG5 hb5; have hKA := hG5.blk HK9.out (fun e => by have := own_from HO9.out _ e; omega); have m0 : w5.cell? ⟨gO, 0, none⟩ = some (.string m) := hKA.cell 0; have m1 : w5.cell? ⟨gO, 1, none⟩ = some (.string t) := hKA.cell 1; have m2 : w5.cell? ⟨gO, 2, none⟩ = some (.slice A7 L.length c7) := hKA.cell 2; have m3 := hKA.frozen 2; obtain ⟨A5, c5, rfl⟩ := ho5.form)
            have HO5 := Lib.hid ho5
            have HK5 := Lib.hid hKA
            have HS5 := Lib.hid (HS9.out.grew hG5)
            have HZ5 := Lib.hid (HZ9.out.grow (hb5.mono (by omega)))
            clear ho5 hKA hG5 hb5
            go_wp2_with fail
            have hne : gO ≠ gd := fun e => HSne.out e
            go_roundw
            case rel => exact ⟨k + 1, .slice A5 (L ++ [f]).length c5, L ++ [f], by go_num, by omega, Lib.hid (by rw [HN.out]), HO5.out.store (p := ⟨gO, 2, none⟩) (Nat.lt_succ_self _) _, Lib.hid (by rw [List.length_append, List.length_singleton]; exact HK5.out.set_ 2 _), Lib.hid (HS5.out.store (p := ⟨gO, 2, none⟩) hne _), Lib.hid (HZ5.out.grow ((Below.refl _ _).setCell (p := ⟨gO, 2, none⟩) hgO2 _))⟩
            case measure => simp [intOf]; omega
        · obtain rfl : k = fs.length := by omega
          rw [List.take_length, ← HSL.out] at HL
          have HL : Hid (L = SL) := HL
          obtain ⟨⟨s0, s1, s2⟩, s3, s4, s5⟩ := HZ2.out.rfacts
          obtain ⟨wz, hwz, hbz, ⟨z0, z1, z2⟩, hkeep⟩ := HZ2.out.put (.string m) (.string t) (.slice A7 L.length c7)
          have HO9 := Lib.hid (hkeep (by omega) HOL.out)
          go_wp2_with fail
          rw [← hwz]
          exact bodyPost_ret (v := .agg #[.string m, .string t, .slice A7 L.length c7]) (by simp [results, Tryd.results18, go_sem, z0, z1, z2]) rfl ⟨_, rfl, by rw [← HL.out]; exact HO9.out.mono (by omega), hbz⟩
end
end Go.Proofs.YtkcncgdgicffhaaDoor
