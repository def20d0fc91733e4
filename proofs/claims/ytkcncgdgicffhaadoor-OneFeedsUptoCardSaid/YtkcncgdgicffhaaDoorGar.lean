/- Walk: wickref.Request. (printed by gen_one.py) -/
import Derived.Test.YtkcncgdgicffhaaDoorGap
import Derived.Test.YtkcncgdgicffhaaDoorGaq
import Derived.Test.YtkcncgdgicffhaaDoorGm
namespace Go.Proofs.YtkcncgdgicffhaaDoor
open Go.RowKit
set_option linter.unusedVariables false
set_option linter.unusedSimpArgs false

theorem Find_as (s t : ByteArray) (w : World) (I : Int) (hI : Lib.index s.data.toList t.data.toList = I) (hs : s.size ≤ 140737488355328) (ht : t.size ≤ 140737488355328) :
    Calls Tryd.prog 69 #[.string s, .string t, .int .i64 0] w fun e w' => e = .returned (.int .i64 I) ∧ w = w' := by
  have h := Find_any s t 0 w hs ht (by omega) (by omega)
  rw [show (0 : Int).toNat = 0 from rfl, fnd0, hI] at h
  exact h
section
variable (s : ByteArray) (H B A : Int) (w : World)
set_option maxRecDepth 100000 in
set_option maxHeartbeats 4000000 in
theorem request_nohead (hs : s.size ≤ 1048576) (hH : 0 ≤ H ∧ H ≤ 1048576) (h : sepI s < 0 ∨ H < sepI s + 4) :
    Calls Tryd.prog 24 #[.string s, .agg #[.int .i64 H, .int .i64 B, .int .i64 A]] w (ReqRes (reqR s H B) w) := by
  have hge := sep_ge s
  have hroom := fun h => sep_room (s := s) h
  have HR0 := Lib.hid (req_nohead (B := B) h)
  obtain ⟨I, hI⟩ : ∃ I, I = sepI s := ⟨_, rfl⟩
  have CF := Lib.hid fun w' => Find_as s ⟨#[13, 10, 13, 10]⟩ w' I hI.symm (by omega) (by decide)
  rw [← hI] at h hge hroom
  have hI1 : I ≤ 1048576 := by by_cases c : 0 ≤ I <;> omega
  obtain ⟨W, hW⟩ : ∃ W, (w.alloc (.cells #[.int .i64 H, .int .i64 B, .int .i64 A] 43)).alloc (.cells #[.string { data := #[] }, .string { data := #[] }, .slice none 0 0, .string { data := #[] }] 36) = W := ⟨_, rfl⟩
  have hZ : Qz w W H B A := by rw [← hW]; exact Qz.start
  obtain ⟨b0, b1, r0, r1, r2, r3, f0, f1, f2, f3⟩ := hZ.facts
  have HZ := Lib.hid hZ
  have jn : IntKind.i64.wrap (I + 4) = I + 4 := IntWalk.i64_in _ (by omega)
  obtain ⟨hH0, hH1⟩ := hH
  clear hZ hI hroom
  by_cases c1 : I < 0
  · have d1 : decide (I < 0) = true := decide_eq_true c1
    clear c1 h
    by_cases c : H ≤ (s.size : Int)
    · have HR : Hid (reqR s H B = (5, zHd, ⟨#[]⟩, 0)) := Lib.hid (by rw [HR0.out, if_pos c])
      have d3 : decide (H ≤ (s.size : Int)) = true := decide_eq_true c
      clear c HR0
      go_enter Tryd.func24, Tryd.ntmps24
      go_wp2_with fail
      refine (CF.out _).mono ?_
      rintro e w1 ⟨rfl, rfl⟩
      obtain ⟨wz, hwz, hbz, z0, z1, z2, z3, _⟩ := HZ.out.put (.string { data := #[] }) (.string { data := #[] }) (.slice none 0 0) (.string { data := #[] })
      go_wp2_with fail
      rw [← hwz]
      exact bodyPost_ret (v := .tuple #[.agg #[.string { data := #[] }, .string { data := #[] }, .slice none 0 0, .string { data := #[] }], .int .i64 0, .int .i64 5]) (by simp [results, Tryd.results24, go_sem, z0, z1, z2, z3]) rfl ⟨_, by rw [HR.out]; rfl, by rw [HR.out]; exact RqV.zero _ _, hbz⟩
    · have HR : Hid (reqR s H B = (7, zHd, ⟨#[]⟩, 0)) := Lib.hid (by rw [HR0.out, if_neg c])
      have d3 : decide (H ≤ (s.size : Int)) = false := decide_eq_false c
      clear c HR0
      go_enter Tryd.func24, Tryd.ntmps24
      go_wp2_with fail
      refine (CF.out _).mono ?_
      rintro e w1 ⟨rfl, rfl⟩
      obtain ⟨wz, hwz, hbz, z0, z1, z2, z3, _⟩ := HZ.out.put (.string { data := #[] }) (.string { data := #[] }) (.slice none 0 0) (.string { data := #[] })
      go_wp2_with fail
      rw [← hwz]
      exact bodyPost_ret (v := .tuple #[.agg #[.string { data := #[] }, .string { data := #[] }, .slice none 0 0, .string { data := #[] }], .int .i64 0, .int .i64 7]) (by simp [results, Tryd.results24, go_sem, z0, z1, z2, z3]) rfl ⟨_, by rw [HR.out]; rfl, by rw [HR.out]; exact RqV.zero _ _, hbz⟩
  · have d1 : decide (I < 0) = false := decide_eq_false c1
    have d2 : decide (H < I + 4) = true := decide_eq_true (by omega)
    clear c1 h
    by_cases c : H ≤ (s.size : Int)
    · have HR : Hid (reqR s H B = (5, zHd, ⟨#[]⟩, 0)) := Lib.hid (by rw [HR0.out, if_pos c])
      have d3 : decide (H ≤ (s.size : Int)) = true := decide_eq_true c
      clear c HR0
      go_enter Tryd.func24, Tryd.ntmps24
      go_wp2_with fail
      refine (CF.out _).mono ?_
      rintro e w1 ⟨rfl, rfl⟩
      obtain ⟨wz, hwz, hbz, z0, z1, z2, z3, _⟩ := HZ.out.put (.string { data := #[] }) (.string { data := #[] }) (.slice none 0 0) (.string { data := #[] })
      go_wp2_with fail
      rw [← hwz]
      exact bodyPost_ret (v := .tuple #[.agg #[.string { data := #[] }, .string { data := #[] }, .slice none 0 0, .string { data := #[] }], .int .i64 0, .int .i64 5]) (by simp [results, Tryd.results24, go_sem, z0, z1, z2, z3]) rfl ⟨_, by rw [HR.out]; rfl, by rw [HR.out]; exact RqV.zero _ _, hbz⟩
    · have HR : Hid (reqR s H B = (7, zHd, ⟨#[]⟩, 0)) := Lib.hid (by rw [HR0.out, if_neg c])
      have d3 : decide (H ≤ (s.size : Int)) = false := decide_eq_false c
      clear c HR0
      go_enter Tryd.func24, Tryd.ntmps24
      go_wp2_with fail
      refine (CF.out _).mono ?_
      rintro e w1 ⟨rfl, rfl⟩
      obtain ⟨wz, hwz, hbz, z0, z1, z2, z3, _⟩ := HZ.out.put (.string { data := #[] }) (.string { data := #[] }) (.slice none 0 0) (.string { data := #[] })
      go_wp2_with fail
      rw [← hwz]
      exact bodyPost_ret (v := .tuple #[.agg #[.string { data := #[] }, .string { data := #[] }, .slice none 0 0, .string { data := #[] }], .int .i64 0, .int .i64 7]) (by simp [results, Tryd.results24, go_sem, z0, z1, z2, z3]) rfl ⟨_, by rw [HR.out]; rfl, by rw [HR.out]; exact RqV.zero _ _, hbz⟩
set_option maxRecDepth 100000 in
set_option maxHeartbeats 8000000 in
theorem request_head (hs : s.size ≤ 1048576) (hH : 0 ≤ H ∧ H ≤ 1048576) (hB : -9223372036854775808 ≤ B ∧ B ≤ 9223372036854775807) (n : Nat) (hn : sepI s = n) (h : (n : Int) + 4 ≤ H) :
    Calls Tryd.prog 24 #[.string s, .agg #[.int .i64 H, .int .i64 B, .int .i64 A]] w (ReqRes (reqR s H B) w) := by
  have hroom := sep_room (s := s) (by omega)
  have CF := Lib.hid fun w' => Find_as s ⟨#[13, 10, 13, 10]⟩ w' n hn (by omega) (by decide)
  obtain ⟨W, hW⟩ : ∃ W, (w.alloc (.cells #[.int .i64 H, .int .i64 B, .int .i64 A] 43)).alloc (.cells #[.string { data := #[] }, .string { data := #[] }, .slice none 0 0, .string { data := #[] }] 36) = W := ⟨_, rfl⟩
  have hZ : Qz w W H B A := by rw [← hW]; exact Qz.start
  obtain ⟨b0, b1, r0, r1, r2, r3, f0, f1, f2, f3⟩ := hZ.facts
  have hWz := hZ.lt
  have HZ := Lib.hid hZ
  obtain ⟨hH0, hH1⟩ := hH
  obtain ⟨hB0, hB1⟩ := hB
  have jn : IntKind.i64.wrap ((n : Int) + 4) = (n : Int) + 4 := IntWalk.i64_in _ (by omega)
  have jn2 : ((n : Int) + 4).toNat = n + 4 := by omega
  have i1 : (0 : Int) ≤ (n : Int) + 4 := by omega
  have i2 : (n : Int) + 4 ≤ (s.size : Int) := by omega
  have dn : decide ((n : Int) < 0) = false := decide_eq_false (by omega)
  have dh : decide (H < (n : Int) + 4) = false := decide_eq_false (by omega)
  obtain ⟨p, hp⟩ : ∃ p, s.extract 0 (n + 4) = p := ⟨_, rfl⟩
  have CP := readHead_any p W
  obtain ⟨mm, tt, ff, hRR⟩ : ∃ mm tt ff, rhR p = ⟨mm, tt, ff⟩ := ⟨_, _, _, rfl⟩
  have HRR := Lib.hid hRR
  obtain ⟨E, hE⟩ : ∃ E, rhE p = E := ⟨_, rfl⟩
  unfold RhRes at CP
  rw [hE, hRR] at CP
  have CP := Lib.hid CP
  have HP := Lib.hid hp
  have HN := Lib.hid hn
  have HH := Lib.hid h
  have HE := Lib.hid hE
  clear hZ hRR hE hn h
  by_cases e0 : E = 0
  · have hsm := rh_small (p := p) (HE.out.trans e0)
    rw [HRR.out] at hsm
    dsimp only at hsm
    obtain ⟨sm1, sm2, sm3, sm4⟩ := hsm
    obtain ⟨r, hr⟩ : ∃ r, s.extract (n + 4) s.size = r := ⟨_, rfl⟩
    have hrz : r.size ≤ 1048576 := by rw [← hr, ByteArray.size_extract]; omega
    have hrl : r.size + n + 4 ≤ s.size := by rw [← hr, ByteArray.size_extract]; omega
    have hcs := fr_cases (getL ff clB) (getL ff teB)
    obtain ⟨F, hF⟩ : ∃ F, frR (getL ff clB) (getL ff teB) = F := ⟨_, rfl⟩
    have HRb := Lib.hid fun x k E2 (hX : bodR F r B = (x, k, E2)) (h2 : ¬ E2 = 0) => req_body (H := H) HN.out HH.out HP.out (HE.out.trans e0) hr (by rw [HRR.out, hF]; exact hX) h2
    have HRo := Lib.hid fun x k (hX : bodR F r B = (x, k, 0)) => req_ok (H := H) HN.out HH.out HP.out (HE.out.trans e0) hr (by rw [HRR.out, hF]; exact hX)
    have HSM : Hid (∀ f ∈ ff, f.n.size ≤ 1048576 ∧ f.v.size ≤ 1048576) := Lib.hid fun f hf => by
      obtain ⟨i, hi, rfl⟩ := List.mem_iff_getElem.1 hf
      have := sm4 i hi
      omega
    have CB : Hid (∀ w' c1 A1, FdR w' w'.heap.size A1 c1 ff → Calls Tryd.prog 10 #[.agg #[.string mm, .string tt, .slice A1 ff.length c1]] w' (FrRes F w')) := Lib.hid fun w' c1 A1 hf => by
      have := framed_any mm tt A1 c1 ff w' hf (by omega)
      rw [hF] at this
      exact this
    rw [hF] at hcs
    subst e0
    clear sm4 hF
    rcases hcs with ⟨e, rfl, rfl⟩ | rfl | rfl | ⟨N, rfl, hNN⟩
    · have HR := Lib.hid (HRb.out _ _ _ (bodR_bad (by decide)) (by decide))
      clear HRb HRo
      go_enter Tryd.func24, Tryd.ntmps24
      go_wp2_with fail
      refine (CF.out _).mono ?_
      rintro e w1 ⟨rfl, rfl⟩
      go_wp2_with fail
      refine CP.out.mono ?_
      rintro e w2 ⟨v, rfl, ⟨A1, c1, rfl, ho1⟩, b1⟩
      have HL2 := Lib.hid (HZ.out.step b1).lt
      have hZ2 := (HZ.out.step b1).alloc (.cells #[.string mm, .string tt, .slice A1 ff.length c1] 24)
      have hO : OP 108 w2 W.heap.size (.slice A1 ff.length c1) ff := ho1
      have hO2 := hO.kept ((Below.refl w2.heap.size w2).alloc (Nat.le_refl _) (.cells #[.string mm, .string tt, .slice A1 ff.length c1] 24))
      have hK2 := Blk.new w2 24 #[.string mm, .string tt, .slice A1 ff.length c1]
      clear ho1 hO b1 b0 r0 r1 r2 r3 f0 f1 f2 f3
      go_upto_region 7 with fail
      obtain ⟨V, hV⟩ : ∃ V, w2.alloc (.cells #[.string mm, .string tt, .slice A1 ff.length c1] 24) = V := ⟨_, rfl⟩
      rw [hV] at hZ2 hO2 hK2 ⊢
      clear hV
      have hS : OnS w V H B A w2.heap.size W.heap.size mm tt A1 c1 ff := ⟨hZ2, hK2, hO2⟩
      have CB2 := CB.out V c1 A1 (hO2.fdR HSM.out)
      unfold FrRes at CB2
      have CB2 := Lib.hid CB2
      have HS := Lib.hid hS
      have k0 : V.cell? ⟨w2.heap.size, 0, none⟩ = some (.string mm) := hK2.cell 0
      have k1 : V.cell? ⟨w2.heap.size, 1, none⟩ = some (.string tt) := hK2.cell 1
      have k2 : V.cell? ⟨w2.heap.size, 2, none⟩ = some (.slice A1 ff.length c1) := hK2.cell 2
      clear hZ2 hO2 hK2 hS CB
      go_wp2_with fail
      refine CB2.out.mono ?_
      rintro e w3 ⟨rfl, b3⟩
      have HL3 := Lib.hid (HS.out.step b3).qz.lt
      have hS3 := (HS.out.step b3).step ((Below.refl w3.heap.size w3).alloc (Nat.le_refl _) (.cells #[.int .i64 0, .int .i64 0] 27))
      have hY := Blk.new w3 27 #[.int .i64 0, .int .i64 0]
      clear b3 k0 k1 k2 CB2 HS
      go_upto_region 10 with fail
      obtain ⟨U, hU⟩ : ∃ U, w3.alloc (.cells #[.int .i64 0, .int .i64 0] 27) = U := ⟨_, rfl⟩
      rw [hU] at hS3 hY ⊢
      clear hU
      obtain ⟨b0, b1, r0, r1, r2, r3, f0, f1, f2, f3⟩ := hS3.qz.facts
      have k0 : U.cell? ⟨w2.heap.size, 0, none⟩ = some (.string mm) := hS3.hd.cell 0
      have k1 : U.cell? ⟨w2.heap.size, 1, none⟩ = some (.string tt) := hS3.hd.cell 1
      have k2 : U.cell? ⟨w2.heap.size, 2, none⟩ = some (.slice A1 ff.length c1) := hS3.hd.cell 2
      have y0 : U.cell? ⟨w3.heap.size, 0, none⟩ = some (.int .i64 0) := hY.cell 0
      have y1 : U.cell? ⟨w3.heap.size, 1, none⟩ = some (.int .i64 0) := hY.cell 1
      have HS3 := Lib.hid hS3
      have HY := Lib.hid hY
      clear hS3 hY
      obtain ⟨wz, hwz, hbz, z0, z1, z2, z3, _⟩ := HS3.out.qz.put (.string { data := #[] }) (.string { data := #[] }) (.slice none 0 0) (.string { data := #[] })
      go_wp2_with fail
      rw [← hwz]
      exact bodyPost_ret (v := .tuple #[.agg #[.string { data := #[] }, .string { data := #[] }, .slice none 0 0, .string { data := #[] }], .int .i64 0, .int .i64 4]) (by simp [results, Tryd.results24, go_sem, z0, z1, z2, z3]) rfl ⟨_, by rw [HR.out]; rfl, by rw [HR.out]; exact RqV.zero _ _, hbz⟩
    · have HR := Lib.hid (HRo.out _ _ bodR_none)
      clear HRb HRo
      go_enter Tryd.func24, Tryd.ntmps24
      go_wp2_with fail
      refine (CF.out _).mono ?_
      rintro e w1 ⟨rfl, rfl⟩
      go_wp2_with fail
      refine CP.out.mono ?_
      rintro e w2 ⟨v, rfl, ⟨A1, c1, rfl, ho1⟩, b1⟩
      have HL2 := Lib.hid (HZ.out.step b1).lt
      have hZ2 := (HZ.out.step b1).alloc (.cells #[.string mm, .string tt, .slice A1 ff.length c1] 24)
      have hO : OP 108 w2 W.heap.size (.slice A1 ff.length c1) ff := ho1
      have hO2 := hO.kept ((Below.refl w2.heap.size w2).alloc (Nat.le_refl _) (.cells #[.string mm, .string tt, .slice A1 ff.length c1] 24))
      have hK2 := Blk.new w2 24 #[.string mm, .string tt, .slice A1 ff.length c1]
      clear ho1 hO b1 b0 r0 r1 r2 r3 f0 f1 f2 f3
      go_upto_region 7 with fail
      obtain ⟨V, hV⟩ : ∃ V, w2.alloc (.cells #[.string mm, .string tt, .slice A1 ff.length c1] 24) = V := ⟨_, rfl⟩
      rw [hV] at hZ2 hO2 hK2 ⊢
      clear hV
      have hS : OnS w V H B A w2.heap.size W.heap.size mm tt A1 c1 ff := ⟨hZ2, hK2, hO2⟩
      have CB2 := CB.out V c1 A1 (hO2.fdR HSM.out)
      unfold FrRes at CB2
      have CB2 := Lib.hid CB2
      have HS := Lib.hid hS
      have k0 : V.cell? ⟨w2.heap.size, 0, none⟩ = some (.string mm) := hK2.cell 0
      have k1 : V.cell? ⟨w2.heap.size, 1, none⟩ = some (.string tt) := hK2.cell 1
      have k2 : V.cell? ⟨w2.heap.size, 2, none⟩ = some (.slice A1 ff.length c1) := hK2.cell 2
      clear hZ2 hO2 hK2 hS CB
      go_wp2_with fail
      refine CB2.out.mono ?_
      rintro e w3 ⟨rfl, b3⟩
      have HL3 := Lib.hid (HS.out.step b3).qz.lt
      have hS3 := (HS.out.step b3).step ((Below.refl w3.heap.size w3).alloc (Nat.le_refl _) (.cells #[.int .i64 1, .int .i64 0] 27))
      have hY := Blk.new w3 27 #[.int .i64 1, .int .i64 0]
      clear b3 k0 k1 k2 CB2 HS
      go_upto_region 10 with fail
      obtain ⟨U, hU⟩ : ∃ U, w3.alloc (.cells #[.int .i64 1, .int .i64 0] 27) = U := ⟨_, rfl⟩
      rw [hU] at hS3 hY ⊢
      clear hU
      obtain ⟨b0, b1, r0, r1, r2, r3, f0, f1, f2, f3⟩ := hS3.qz.facts
      have k0 : U.cell? ⟨w2.heap.size, 0, none⟩ = some (.string mm) := hS3.hd.cell 0
      have k1 : U.cell? ⟨w2.heap.size, 1, none⟩ = some (.string tt) := hS3.hd.cell 1
      have k2 : U.cell? ⟨w2.heap.size, 2, none⟩ = some (.slice A1 ff.length c1) := hS3.hd.cell 2
      have y0 : U.cell? ⟨w3.heap.size, 0, none⟩ = some (.int .i64 1) := hY.cell 0
      have y1 : U.cell? ⟨w3.heap.size, 1, none⟩ = some (.int .i64 0) := hY.cell 1
      have HS3 := Lib.hid hS3
      have HY := Lib.hid hY
      clear hS3 hY
      obtain ⟨wz, hwz, hbz, z0, z1, z2, z3, ho⟩ := HS3.out.qz.put (.string mm) (.string tt) (.slice A1 ff.length c1) (.string { data := #[] })
      go_wp2_with fail
      rw [← hwz]
      refine bodyPost_ret (v := .tuple #[.agg #[.string mm, .string tt, .slice A1 ff.length c1, .string { data := #[] }], .int .i64 ((n : Int) + 4), .int .i64 0]) (by simp [results, Tryd.results24, go_sem, z0, z1, z2, z3]) rfl ⟨_, by rw [HR.out]; dsimp only; rw [show (((n + 4 + 0 : Nat) : Int) : Int) = (n : Int) + 4 by omega], ?_, hbz⟩
      rw [HR.out]
      dsimp only
      rw [HRR.out]
      exact ⟨A1, c1, rfl, (ho _ _ _ _ hWz HS3.out.ho).mono (by omega)⟩
    · obtain ⟨X, k, E2, hX⟩ : ∃ X k E2, chkR r.data.toList B = (X, k, E2) := ⟨_, _, _, rfl⟩
      have hkb := (chkR_bd r B).2.1
      rw [hX] at hkb
      dsimp only at hkb
      have CC := fun w' => rchunks_any r B w' hrz ⟨hB0, hB1⟩
      rw [hX] at CC
      unfold ChkRes at CC
      have CC := Lib.hid CC
      have hbd : bodR (3, 0, 0) r B = (str X, k, E2) := by rw [bodR_chunk, hX]
      have jk : IntKind.i64.wrap ((n : Int) + 4 + (k : Int)) = (n : Int) + 4 + (k : Int) := IntWalk.i64_in _ (by omega)
      obtain ⟨x, hx⟩ : ∃ x, str X = x := ⟨_, rfl⟩
      rw [hx] at hbd
      dsimp only at CC
      rw [hx] at CC
      clear hX hx hkb
      by_cases e2 : E2 = 0
      · subst e2
        have HR := Lib.hid (HRo.out _ _ hbd)
        clear HRb HRo hbd
        go_enter Tryd.func24, Tryd.ntmps24
        go_wp2_with fail
        refine (CF.out _).mono ?_
        rintro e w1 ⟨rfl, rfl⟩
        go_wp2_with fail
        refine CP.out.mono ?_
        rintro e w2 ⟨v, rfl, ⟨A1, c1, rfl, ho1⟩, b1⟩
        have HL2 := Lib.hid (HZ.out.step b1).lt
        have hZ2 := (HZ.out.step b1).alloc (.cells #[.string mm, .string tt, .slice A1 ff.length c1] 24)
        have hO : OP 108 w2 W.heap.size (.slice A1 ff.length c1) ff := ho1
        have hO2 := hO.kept ((Below.refl w2.heap.size w2).alloc (Nat.le_refl _) (.cells #[.string mm, .string tt, .slice A1 ff.length c1] 24))
        have hK2 := Blk.new w2 24 #[.string mm, .string tt, .slice A1 ff.length c1]
        clear ho1 hO b1 b0 r0 r1 r2 r3 f0 f1 f2 f3
        go_upto_region 7 with fail
        obtain ⟨V, hV⟩ : ∃ V, w2.alloc (.cells #[.string mm, .string tt, .slice A1 ff.length c1] 24) = V := ⟨_, rfl⟩
        rw [hV] at hZ2 hO2 hK2 ⊢
        clear hV
        have hS : OnS w V H B A w2.heap.size W.heap.size mm tt A1 c1 ff := ⟨hZ2, hK2, hO2⟩
        have CB2 := CB.out V c1 A1 (hO2.fdR HSM.out)
        unfold FrRes at CB2
        have CB2 := Lib.hid CB2
        have HS := Lib.hid hS
        have k0 : V.cell? ⟨w2.heap.size, 0, none⟩ = some (.string mm) := hK2.cell 0
        have k1 : V.cell? ⟨w2.heap.size, 1, none⟩ = some (.string tt) := hK2.cell 1
        have k2 : V.cell? ⟨w2.heap.size, 2, none⟩ = some (.slice A1 ff.length c1) := hK2.cell 2
        clear hZ2 hO2 hK2 hS CB
        go_wp2_with fail
        refine CB2.out.mono ?_
        rintro e w3 ⟨rfl, b3⟩
        have HL3 := Lib.hid (HS.out.step b3).qz.lt
        have hS3 := (HS.out.step b3).step ((Below.refl w3.heap.size w3).alloc (Nat.le_refl _) (.cells #[.int .i64 3, .int .i64 0] 27))
        have hY := Blk.new w3 27 #[.int .i64 3, .int .i64 0]
        clear b3 k0 k1 k2 CB2 HS
        go_upto_region 10 with fail
        obtain ⟨U, hU⟩ : ∃ U, w3.alloc (.cells #[.int .i64 3, .int .i64 0] 27) = U := ⟨_, rfl⟩
        rw [hU] at hS3 hY ⊢
        clear hU
        obtain ⟨b0, b1, r0, r1, r2, r3, f0, f1, f2, f3⟩ := hS3.qz.facts
        have k0 : U.cell? ⟨w2.heap.size, 0, none⟩ = some (.string mm) := hS3.hd.cell 0
        have k1 : U.cell? ⟨w2.heap.size, 1, none⟩ = some (.string tt) := hS3.hd.cell 1
        have k2 : U.cell? ⟨w2.heap.size, 2, none⟩ = some (.slice A1 ff.length c1) := hS3.hd.cell 2
        have y0 : U.cell? ⟨w3.heap.size, 0, none⟩ = some (.int .i64 3) := hY.cell 0
        have y1 : U.cell? ⟨w3.heap.size, 1, none⟩ = some (.int .i64 0) := hY.cell 1
        have HS3 := Lib.hid hS3
        have HY := Lib.hid hY
        clear hS3 hY
        go_wp2_with fail
        refine (CC.out _).mono ?_
        rintro e w4 ⟨rfl, q, hq⟩
        have hb4 : Below U.heap.size U w4 := by rw [hq]; exact below_drewN (Below.refl _ _) q
        have hS4 := HS3.out.step hb4
        clear b0 b1 r0 r1 r2 r3 f0 f1 f2 f3 k0 k1 k2 y0 y1 hq hb4
        obtain ⟨b0, b1, r0, r1, r2, r3, f0, f1, f2, f3⟩ := hS4.qz.facts
        have k0 : w4.cell? ⟨w2.heap.size, 0, none⟩ = some (.string mm) := hS4.hd.cell 0
        have k1 : w4.cell? ⟨w2.heap.size, 1, none⟩ = some (.string tt) := hS4.hd.cell 1
        have k2 : w4.cell? ⟨w2.heap.size, 2, none⟩ = some (.slice A1 ff.length c1) := hS4.hd.cell 2
        have HS4 := Lib.hid hS4
        clear hS4
        obtain ⟨wz, hwz, hbz, z0, z1, z2, z3, ho⟩ := HS4.out.qz.put (.string mm) (.string tt) (.slice A1 ff.length c1) (.string x)
        go_wp2_with fail
        rw [← hwz]
        refine bodyPost_ret (v := .tuple #[.agg #[.string mm, .string tt, .slice A1 ff.length c1, .string x], .int .i64 ((n : Int) + 4 + (k : Int)), .int .i64 0]) (by simp [results, Tryd.results24, go_sem, z0, z1, z2, z3]) rfl ⟨_, by rw [HR.out]; dsimp only; rw [show (((n + 4 + k : Nat) : Int) : Int) = (n : Int) + 4 + (k : Int) by omega], ?_, hbz⟩
        rw [HR.out]
        dsimp only
        rw [HRR.out]
        exact ⟨A1, c1, rfl, (ho _ _ _ _ hWz HS4.out.ho).mono (by omega)⟩
      · have HR := Lib.hid (HRb.out _ _ _ hbd e2)
        have ee : (E2 != 0) = true := bne_iff_ne.2 e2
        clear e2 HRb HRo hbd
        go_enter Tryd.func24, Tryd.ntmps24
        go_wp2_with fail
        refine (CF.out _).mono ?_
        rintro e w1 ⟨rfl, rfl⟩
        go_wp2_with fail
        refine CP.out.mono ?_
        rintro e w2 ⟨v, rfl, ⟨A1, c1, rfl, ho1⟩, b1⟩
        have HL2 := Lib.hid (HZ.out.step b1).lt
        have hZ2 := (HZ.out.step b1).alloc (.cells #[.string mm, .string tt, .slice A1 ff.length c1] 24)
        have hO : OP 108 w2 W.heap.size (.slice A1 ff.length c1) ff := ho1
        have hO2 := hO.kept ((Below.refl w2.heap.size w2).alloc (Nat.le_refl _) (.cells #[.string mm, .string tt, .slice A1 ff.length c1] 24))
        have hK2 := Blk.new w2 24 #[.string mm, .string tt, .slice A1 ff.length c1]
        clear ho1 hO b1 b0 r0 r1 r2 r3 f0 f1 f2 f3
        go_upto_region 7 with fail
        obtain ⟨V, hV⟩ : ∃ V, w2.alloc (.cells #[.string mm, .string tt, .slice A1 ff.length c1] 24) = V := ⟨_, rfl⟩
        rw [hV] at hZ2 hO2 hK2 ⊢
        clear hV
        have hS : OnS w V H B A w2.heap.size W.heap.size mm tt A1 c1 ff := ⟨hZ2, hK2, hO2⟩
        have CB2 := CB.out V c1 A1 (hO2.fdR HSM.out)
        unfold FrRes at CB2
        have CB2 := Lib.hid CB2
        have HS := Lib.hid hS
        have k0 : V.cell? ⟨w2.heap.size, 0, none⟩ = some (.string mm) := hK2.cell 0
        have k1 : V.cell? ⟨w2.heap.size, 1, none⟩ = some (.string tt) := hK2.cell 1
        have k2 : V.cell? ⟨w2.heap.size, 2, none⟩ = some (.slice A1 ff.length c1) := hK2.cell 2
        clear hZ2 hO2 hK2 hS CB
        go_wp2_with fail
        refine CB2.out.mono ?_
        rintro e w3 ⟨rfl, b3⟩
        have HL3 := Lib.hid (HS.out.step b3).qz.lt
        have hS3 := (HS.out.step b3).step ((Below.refl w3.heap.size w3).alloc (Nat.le_refl _) (.cells #[.int .i64 3, .int .i64 0] 27))
        have hY := Blk.new w3 27 #[.int .i64 3, .int .i64 0]
        clear b3 k0 k1 k2 CB2 HS
        go_upto_region 10 with fail
        obtain ⟨U, hU⟩ : ∃ U, w3.alloc (.cells #[.int .i64 3, .int .i64 0] 27) = U := ⟨_, rfl⟩
        rw [hU] at hS3 hY ⊢
        clear hU
        obtain ⟨b0, b1, r0, r1, r2, r3, f0, f1, f2, f3⟩ := hS3.qz.facts
        have k0 : U.cell? ⟨w2.heap.size, 0, none⟩ = some (.string mm) := hS3.hd.cell 0
        have k1 : U.cell? ⟨w2.heap.size, 1, none⟩ = some (.string tt) := hS3.hd.cell 1
        have k2 : U.cell? ⟨w2.heap.size, 2, none⟩ = some (.slice A1 ff.length c1) := hS3.hd.cell 2
        have y0 : U.cell? ⟨w3.heap.size, 0, none⟩ = some (.int .i64 3) := hY.cell 0
        have y1 : U.cell? ⟨w3.heap.size, 1, none⟩ = some (.int .i64 0) := hY.cell 1
        have HS3 := Lib.hid hS3
        have HY := Lib.hid hY
        clear hS3 hY
        go_wp2_with fail
        refine (CC.out _).mono ?_
        rintro e w4 ⟨rfl, q, hq⟩
        have hb4 : Below U.heap.size U w4 := by rw [hq]; exact below_drewN (Below.refl _ _) q
        have hZ4 := HS3.out.qz.step hb4
        clear b0 b1 r0 r1 r2 r3 f0 f1 f2 f3 k0 k1 k2 y0 y1 hq hb4
        obtain ⟨b0, b1, r0, r1, r2, r3, f0, f1, f2, f3⟩ := hZ4.facts
        obtain ⟨wz, hwz, hbz, z0, z1, z2, z3, _⟩ := hZ4.put (.string { data := #[] }) (.string { data := #[] }) (.slice none 0 0) (.string { data := #[] })
        go_wp2_with fail
        rw [← hwz]
        exact bodyPost_ret (v := .tuple #[.agg #[.string { data := #[] }, .string { data := #[] }, .slice none 0 0, .string { data := #[] }], .int .i64 0, .int .i64 E2]) (by simp [results, Tryd.results24, go_sem, z0, z1, z2, z3]) rfl ⟨_, by rw [HR.out]; rfl, by rw [HR.out]; exact RqV.zero _ _, hbz⟩
    · by_cases c2 : B < (N : Int)
      · have HR := Lib.hid (HRb.out _ _ _ (bodR_large c2) (by decide))
        have d2 : decide (B < (N : Int)) = true := decide_eq_true c2
        clear HRb HRo c2
        go_enter Tryd.func24, Tryd.ntmps24
        go_wp2_with fail
        refine (CF.out _).mono ?_
        rintro e w1 ⟨rfl, rfl⟩
        go_wp2_with fail
        refine CP.out.mono ?_
        rintro e w2 ⟨v, rfl, ⟨A1, c1, rfl, ho1⟩, b1⟩
        have HL2 := Lib.hid (HZ.out.step b1).lt
        have hZ2 := (HZ.out.step b1).alloc (.cells #[.string mm, .string tt, .slice A1 ff.length c1] 24)
        have hO : OP 108 w2 W.heap.size (.slice A1 ff.length c1) ff := ho1
        have hO2 := hO.kept ((Below.refl w2.heap.size w2).alloc (Nat.le_refl _) (.cells #[.string mm, .string tt, .slice A1 ff.length c1] 24))
        have hK2 := Blk.new w2 24 #[.string mm, .string tt, .slice A1 ff.length c1]
        clear ho1 hO b1 b0 r0 r1 r2 r3 f0 f1 f2 f3
        go_upto_region 7 with fail
        obtain ⟨V, hV⟩ : ∃ V, w2.alloc (.cells #[.string mm, .string tt, .slice A1 ff.length c1] 24) = V := ⟨_, rfl⟩
        rw [hV] at hZ2 hO2 hK2 ⊢
        clear hV
        have hS : OnS w V H B A w2.heap.size W.heap.size mm tt A1 c1 ff := ⟨hZ2, hK2, hO2⟩
        have CB2 := CB.out V c1 A1 (hO2.fdR HSM.out)
        unfold FrRes at CB2
        have CB2 := Lib.hid CB2
        have HS := Lib.hid hS
        have k0 : V.cell? ⟨w2.heap.size, 0, none⟩ = some (.string mm) := hK2.cell 0
        have k1 : V.cell? ⟨w2.heap.size, 1, none⟩ = some (.string tt) := hK2.cell 1
        have k2 : V.cell? ⟨w2.heap.size, 2, none⟩ = some (.slice A1 ff.length c1) := hK2.cell 2
        clear hZ2 hO2 hK2 hS CB
        go_wp2_with fail
        refine CB2.out.mono ?_
        rintro e w3 ⟨rfl, b3⟩
        have HL3 := Lib.hid (HS.out.step b3).qz.lt
        have hS3 := (HS.out.step b3).step ((Below.refl w3.heap.size w3).alloc (Nat.le_refl _) (.cells #[.int .i64 2, .int .i64 N] 27))
        have hY := Blk.new w3 27 #[.int .i64 2, .int .i64 N]
        clear b3 k0 k1 k2 CB2 HS
        go_upto_region 10 with fail
        obtain ⟨U, hU⟩ : ∃ U, w3.alloc (.cells #[.int .i64 2, .int .i64 N] 27) = U := ⟨_, rfl⟩
        rw [hU] at hS3 hY ⊢
        clear hU
        obtain ⟨b0, b1, r0, r1, r2, r3, f0, f1, f2, f3⟩ := hS3.qz.facts
        have k0 : U.cell? ⟨w2.heap.size, 0, none⟩ = some (.string mm) := hS3.hd.cell 0
        have k1 : U.cell? ⟨w2.heap.size, 1, none⟩ = some (.string tt) := hS3.hd.cell 1
        have k2 : U.cell? ⟨w2.heap.size, 2, none⟩ = some (.slice A1 ff.length c1) := hS3.hd.cell 2
        have y0 : U.cell? ⟨w3.heap.size, 0, none⟩ = some (.int .i64 2) := hY.cell 0
        have y1 : U.cell? ⟨w3.heap.size, 1, none⟩ = some (.int .i64 N) := hY.cell 1
        have HS3 := Lib.hid hS3
        have HY := Lib.hid hY
        clear hS3 hY
        obtain ⟨wz, hwz, hbz, z0, z1, z2, z3, _⟩ := HS3.out.qz.put (.string { data := #[] }) (.string { data := #[] }) (.slice none 0 0) (.string { data := #[] })
        go_wp2_with fail
        rw [← hwz]
        exact bodyPost_ret (v := .tuple #[.agg #[.string { data := #[] }, .string { data := #[] }, .slice none 0 0, .string { data := #[] }], .int .i64 0, .int .i64 6]) (by simp [results, Tryd.results24, go_sem, z0, z1, z2, z3]) rfl ⟨_, by rw [HR.out]; rfl, by rw [HR.out]; exact RqV.zero _ _, hbz⟩
      · have d2 : decide (B < (N : Int)) = false := decide_eq_false c2
        by_cases c3 : r.size < N
        · have HR := Lib.hid (HRb.out _ _ _ (bodR_short (by omega) c3) (by decide))
          have d3 : decide ((r.size : Int) < (N : Int)) = true := decide_eq_true (by omega)
          have d3' : decide (r.size < N) = true := decide_eq_true (by omega)
          clear HRb HRo c2 c3
          go_enter Tryd.func24, Tryd.ntmps24
          go_wp2_with fail
          refine (CF.out _).mono ?_
          rintro e w1 ⟨rfl, rfl⟩
          go_wp2_with fail
          refine CP.out.mono ?_
          rintro e w2 ⟨v, rfl, ⟨A1, c1, rfl, ho1⟩, b1⟩
          have HL2 := Lib.hid (HZ.out.step b1).lt
          have hZ2 := (HZ.out.step b1).alloc (.cells #[.string mm, .string tt, .slice A1 ff.length c1] 24)
          have hO : OP 108 w2 W.heap.size (.slice A1 ff.length c1) ff := ho1
          have hO2 := hO.kept ((Below.refl w2.heap.size w2).alloc (Nat.le_refl _) (.cells #[.string mm, .string tt, .slice A1 ff.length c1] 24))
          have hK2 := Blk.new w2 24 #[.string mm, .string tt, .slice A1 ff.length c1]
          clear ho1 hO b1 b0 r0 r1 r2 r3 f0 f1 f2 f3
          go_upto_region 7 with fail
          obtain ⟨V, hV⟩ : ∃ V, w2.alloc (.cells #[.string mm, .string tt, .slice A1 ff.length c1] 24) = V := ⟨_, rfl⟩
          rw [hV] at hZ2 hO2 hK2 ⊢
          clear hV
          have hS : OnS w V H B A w2.heap.size W.heap.size mm tt A1 c1 ff := ⟨hZ2, hK2, hO2⟩
          have CB2 := CB.out V c1 A1 (hO2.fdR HSM.out)
          unfold FrRes at CB2
          have CB2 := Lib.hid CB2
          have HS := Lib.hid hS
          have k0 : V.cell? ⟨w2.heap.size, 0, none⟩ = some (.string mm) := hK2.cell 0
          have k1 : V.cell? ⟨w2.heap.size, 1, none⟩ = some (.string tt) := hK2.cell 1
          have k2 : V.cell? ⟨w2.heap.size, 2, none⟩ = some (.slice A1 ff.length c1) := hK2.cell 2
          clear hZ2 hO2 hK2 hS CB
          go_wp2_with fail
          refine CB2.out.mono ?_
          rintro e w3 ⟨rfl, b3⟩
          have HL3 := Lib.hid (HS.out.step b3).qz.lt
          have hS3 := (HS.out.step b3).step ((Below.refl w3.heap.size w3).alloc (Nat.le_refl _) (.cells #[.int .i64 2, .int .i64 N] 27))
          have hY := Blk.new w3 27 #[.int .i64 2, .int .i64 N]
          clear b3 k0 k1 k2 CB2 HS
          go_upto_region 10 with fail
          obtain ⟨U, hU⟩ : ∃ U, w3.alloc (.cells #[.int .i64 2, .int .i64 N] 27) = U := ⟨_, rfl⟩
          rw [hU] at hS3 hY ⊢
          clear hU
          obtain ⟨b0, b1, r0, r1, r2, r3, f0, f1, f2, f3⟩ := hS3.qz.facts
          have k0 : U.cell? ⟨w2.heap.size, 0, none⟩ = some (.string mm) := hS3.hd.cell 0
          have k1 : U.cell? ⟨w2.heap.size, 1, none⟩ = some (.string tt) := hS3.hd.cell 1
          have k2 : U.cell? ⟨w2.heap.size, 2, none⟩ = some (.slice A1 ff.length c1) := hS3.hd.cell 2
          have y0 : U.cell? ⟨w3.heap.size, 0, none⟩ = some (.int .i64 2) := hY.cell 0
          have y1 : U.cell? ⟨w3.heap.size, 1, none⟩ = some (.int .i64 N) := hY.cell 1
          have HS3 := Lib.hid hS3
          have HY := Lib.hid hY
          clear hS3 hY
          obtain ⟨wz, hwz, hbz, z0, z1, z2, z3, _⟩ := HS3.out.qz.put (.string { data := #[] }) (.string { data := #[] }) (.slice none 0 0) (.string { data := #[] })
          go_wp2_with fail
          rw [← hwz]
          exact bodyPost_ret (v := .tuple #[.agg #[.string { data := #[] }, .string { data := #[] }, .slice none 0 0, .string { data := #[] }], .int .i64 0, .int .i64 7]) (by simp [results, Tryd.results24, go_sem, z0, z1, z2, z3]) rfl ⟨_, by rw [HR.out]; rfl, by rw [HR.out]; exact RqV.zero _ _, hbz⟩
        · have HR := Lib.hid (HRo.out _ _ (bodR_ok (by omega) (by omega)))
          have d3 : decide ((r.size : Int) < (N : Int)) = false := decide_eq_false (by omega)
          have d3' : decide (r.size < N) = false := decide_eq_false (by omega)
          have jk : IntKind.i64.wrap ((n : Int) + 4 + (N : Int)) = (n : Int) + 4 + (N : Int) := IntWalk.i64_in _ (by omega)
          have i3 : (0 : Int) ≤ (N : Int) := by omega
          have i4 : (N : Int) ≤ (r.size : Int) := by omega
          obtain ⟨x, hx⟩ : ∃ x, r.extract 0 N = x := ⟨_, rfl⟩
          rw [hx] at HR
          clear HRb HRo c2 c3
          go_enter Tryd.func24, Tryd.ntmps24
          go_wp2_with fail
          refine (CF.out _).mono ?_
          rintro e w1 ⟨rfl, rfl⟩
          go_wp2_with fail
          refine CP.out.mono ?_
          rintro e w2 ⟨v, rfl, ⟨A1, c1, rfl, ho1⟩, b1⟩
          have HL2 := Lib.hid (HZ.out.step b1).lt
          have hZ2 := (HZ.out.step b1).alloc (.cells #[.string mm, .string tt, .slice A1 ff.length c1] 24)
          have hO : OP 108 w2 W.heap.size (.slice A1 ff.length c1) ff := ho1
          have hO2 := hO.kept ((Below.refl w2.heap.size w2).alloc (Nat.le_refl _) (.cells #[.string mm, .string tt, .slice A1 ff.length c1] 24))
          have hK2 := Blk.new w2 24 #[.string mm, .string tt, .slice A1 ff.length c1]
          clear ho1 hO b1 b0 r0 r1 r2 r3 f0 f1 f2 f3
          go_upto_region 7 with fail
          obtain ⟨V, hV⟩ : ∃ V, w2.alloc (.cells #[.string mm, .string tt, .slice A1 ff.length c1] 24) = V := ⟨_, rfl⟩
          rw [hV] at hZ2 hO2 hK2 ⊢
          clear hV
          have hS : OnS w V H B A w2.heap.size W.heap.size mm tt A1 c1 ff := ⟨hZ2, hK2, hO2⟩
          have CB2 := CB.out V c1 A1 (hO2.fdR HSM.out)
          unfold FrRes at CB2
          have CB2 := Lib.hid CB2
          have HS := Lib.hid hS
          have k0 : V.cell? ⟨w2.heap.size, 0, none⟩ = some (.string mm) := hK2.cell 0
          have k1 : V.cell? ⟨w2.heap.size, 1, none⟩ = some (.string tt) := hK2.cell 1
          have k2 : V.cell? ⟨w2.heap.size, 2, none⟩ = some (.slice A1 ff.length c1) := hK2.cell 2
          clear hZ2 hO2 hK2 hS CB
          go_wp2_with fail
          refine CB2.out.mono ?_
          rintro e w3 ⟨rfl, b3⟩
          have HL3 := Lib.hid (HS.out.step b3).qz.lt
          have hS3 := (HS.out.step b3).step ((Below.refl w3.heap.size w3).alloc (Nat.le_refl _) (.cells #[.int .i64 2, .int .i64 N] 27))
          have hY := Blk.new w3 27 #[.int .i64 2, .int .i64 N]
          clear b3 k0 k1 k2 CB2 HS
          go_upto_region 10 with fail
          obtain ⟨U, hU⟩ : ∃ U, w3.alloc (.cells #[.int .i64 2, .int .i64 N] 27) = U := ⟨_, rfl⟩
          rw [hU] at hS3 hY ⊢
          clear hU
          obtain ⟨b0, b1, r0, r1, r2, r3, f0, f1, f2, f3⟩ := hS3.qz.facts
          have k0 : U.cell? ⟨w2.heap.size, 0, none⟩ = some (.string mm) := hS3.hd.cell 0
          have k1 : U.cell? ⟨w2.heap.size, 1, none⟩ = some (.string tt) := hS3.hd.cell 1
          have k2 : U.cell? ⟨w2.heap.size, 2, none⟩ = some (.slice A1 ff.length c1) := hS3.hd.cell 2
          have y0 : U.cell? ⟨w3.heap.size, 0, none⟩ = some (.int .i64 2) := hY.cell 0
          have y1 : U.cell? ⟨w3.heap.size, 1, none⟩ = some (.int .i64 N) := hY.cell 1
          have HS3 := Lib.hid hS3
          have HY := Lib.hid hY
          clear hS3 hY
          go_wp2_with fail
          have hne2 : ¬ w2.heap.size = w.heap.size + 1 := by have := HL2.out; omega
          have hne3 : ¬ w3.heap.size = w.heap.size + 1 := by have := HL3.out; omega
          go_region
          have hzz := HS3.out.qz.put (.string mm) (.string tt) (.slice A1 ff.length c1) (.string x)
          obtain ⟨wz, hwz, hbz, z0, z1, z2, z3, ho⟩ := hzz
          rw [← hwz]
          go_wp2_with fail
          refine bodyPost_ret (v := .tuple #[.agg #[.string mm, .string tt, .slice A1 ff.length c1, .string x], .int .i64 ((n : Int) + 4 + (N : Int)), .int .i64 0]) (by simp [results, Tryd.results24, go_sem, z0, z1, z2, z3]) rfl ⟨_, by rw [HR.out]; dsimp only; rw [show (((n + 4 + N : Nat) : Int) : Int) = (n : Int) + 4 + (N : Int) by omega], ?_, below_drewN hbz 1⟩
          rw [HR.out]
          dsimp only
          rw [HRR.out]
          exact ⟨A1, c1, rfl, (ho _ _ _ _ hWz HS3.out.ho).mono (by omega)⟩
  · have HR := Lib.hid (req_head (B := B) HN.out HH.out HP.out (by rw [HE.out]; exact e0))
    have hz := (rh_zero (p := p) (by rw [HE.out]; exact e0)).symm.trans HRR.out
    unfold zHd at hz
    injection hz with hz1 hz2 hz3
    subst hz1 hz2 hz3
    have ee : (E != 0) = true := bne_iff_ne.2 e0
    clear e0
    go_enter Tryd.func24, Tryd.ntmps24
    go_wp2_with fail
    refine (CF.out _).mono ?_
    rintro e w1 ⟨rfl, rfl⟩
    go_wp2_with fail
    refine CP.out.mono ?_
    rintro e w2 ⟨v, rfl, ⟨A1, c1, rfl, ho1⟩, b1⟩
    have hZ2 := (HZ.out.step b1).alloc (.cells #[.string { data := #[] }, .string { data := #[] }, .slice A1 0 c1] 24)
    clear ho1 b1 b0 r0 r1 r2 r3 f0 f1 f2 f3
    go_upto_region 7 with fail
    obtain ⟨V, hV⟩ : ∃ V, w2.alloc (.cells #[.string { data := #[] }, .string { data := #[] }, .slice A1 0 c1] 24) = V := ⟨_, rfl⟩
    rw [hV] at hZ2 ⊢
    clear hV
    obtain ⟨b0, b1, r0, r1, r2, r3, f0, f1, f2, f3⟩ := hZ2.facts
    obtain ⟨wz, hwz, hbz, z0, z1, z2, z3, _⟩ := hZ2.put (.string { data := #[] }) (.string { data := #[] }) (.slice none 0 0) (.string { data := #[] })
    go_wp2_with fail
    rw [← hwz]
    exact bodyPost_ret (v := .tuple #[.agg #[.string { data := #[] }, .string { data := #[] }, .slice none 0 0, .string { data := #[] }], .int .i64 0, .int .i64 E]) (by simp [results, Tryd.results24, go_sem, z0, z1, z2, z3]) rfl ⟨_, by rw [HR.out, HE.out]; rfl, by rw [HR.out]; exact RqV.zero _ _, hbz⟩
theorem request_any (hs : s.size ≤ 1048576) (hH : 0 ≤ H ∧ H ≤ 1048576) (hB : -9223372036854775808 ≤ B ∧ B ≤ 9223372036854775807) :
    Calls Tryd.prog 24 #[.string s, .agg #[.int .i64 H, .int .i64 B, .int .i64 A]] w (ReqRes (reqR s H B) w) := by
  by_cases h : sepI s < 0 ∨ H < sepI s + 4
  · exact request_nohead s H B A w hs hH h
  · obtain ⟨n, hn⟩ := Int.eq_ofNat_of_zero_le (show 0 ≤ sepI s by omega)
    exact request_head s H B A w hs hH hB n hn (by omega)
end
end Go.Proofs.YtkcncgdgicffhaaDoor
