/- Walk: multi.part. -/
import Derived.Test.YtaepbpdcfmklpaaDoorMrdA
import Derived.Test.YtaepbpdcfmklpaaDoorTrm
namespace Go.Proofs.YtaepbpdcfmklpaaDoor
open Go.RowKit
set_option linter.unusedVariables false
set_option linter.unusedSimpArgs false

set_option maxRecDepth 100000 in
set_option maxHeartbeats 8000000 in
theorem part_any (b s : ByteArray) (m : Int) (w : World) (hs : s.size ≤ 4096) (hbz : b.size ≤ 70) (hm : w.cell? ⟨0, 0, none⟩ = some (.int .i64 m)) :
    Calls Tryd.prog 81 #[.string s, .string b] w fun e w' => e = .returned (partV (partF b s)) ∧ Below w.heap.size w w' := by
  have hmb := World.block_lt_of_cell? _ _ hm
  have HM := Lib.hid fun w' (hb : Below w.heap.size w w') => (hb.cell (p := ⟨0, 0, none⟩) hmb).trans hm
  obtain ⟨T, hT⟩ : ∃ T, T = partF b s := ⟨_, rfl⟩
  rw [← hT]
  have HT := Lib.hid hT
  obtain ⟨f, hf⟩ : ∃ f, f = (cutS s crlfB).1 := ⟨_, rfl⟩
  obtain ⟨r0, hr0⟩ : ∃ r, r = (cutS s crlfB).2.1 := ⟨_, rfl⟩
  obtain ⟨o1, ho1⟩ : ∃ o, o = (cutS s crlfB).2.2 := ⟨_, rfl⟩
  have hfz : f.size ≤ 4096 := by rw [hf]; have := (cutS_size s crlfB).1; omega
  have hrz : r0.size ≤ 4096 := by rw [hr0]; have := (cutS_size s crlfB).2; omega
  have hrs : r0.size < s.size + 1 := by rw [hr0]; have := (cutS_size s crlfB).2; omega
  have C1 := fun w' hb => cut_any s crlfB m w' (by omega) (HM.out w' hb)
  rw [← hf, ← hr0, ← ho1] at C1
  have C1 := Lib.hid C1
  have C2 := fun w' => front_any f begB w' (by omega) (by decide)
  obtain ⟨nm, hnm⟩ : ∃ nm, nm = frontS f begB := ⟨_, rfl⟩
  obtain ⟨o2, ho2⟩ : ∃ o, o = frontB f begB := ⟨_, rfl⟩
  have hnz : nm.size ≤ 4096 := by rw [hnm]; have := frontS_size f begB; omega
  rw [← hnm, ← ho2] at C2
  have C2 := Lib.hid C2
  have C3 := fun w' => cutSuf_any nm quoQ w' (by omega)
  obtain ⟨na, hna⟩ : ∃ na, na = sufS nm quoQ := ⟨_, rfl⟩
  obtain ⟨o3, ho3⟩ : ∃ o, o = sufB nm quoQ := ⟨_, rfl⟩
  have hnaz : na.size ≤ 4096 := by rw [hna]; have := sufS_size nm quoQ; omega
  rw [← hna, ← ho3] at C3
  have C3 := Lib.hid C3
  have C4 := fun w' => containsAny_any na w' (by omega)
  obtain ⟨o4, ho4⟩ : ∃ o, o = hasQ na := ⟨_, rfl⟩
  rw [← ho4] at C4
  have C4 := Lib.hid C4
  have HNA : Hid (nameS (cutS s crlfB).1 = na) := Lib.hid (by rw [← hf, hna, hnm]; rfl)
  have HNB : Hid (nameB (cutS s crlfB).1 = (o2 && o3 && !o4)) := Lib.hid (by rw [← hf, ho2, ho3, ho4, hnm, hna, hnm]; rfl)
  have HO1 := Lib.hid ho1
  have HR0 := Lib.hid hr0
  obtain ⟨W, hW⟩ : ∃ W, w.alloc (.cells #[.string { data := #[] }, .string { data := #[] }] 35) = W := ⟨_, rfl⟩
  have hZ := Az.start w
  rw [hW] at hZ
  have HZ := Lib.hid hZ
  clear hZ hm hmb hT hf hr0 ho1 hnm ho2 hna ho3 ho4
  go_enter Tryd.func81, Tryd.ntmps81
  go_wp2_with fail
  refine (C1.out _ HZ.out.be).mono ?_
  rintro e w1 ⟨rfl, q, rfl⟩
  have HZ1 := Lib.hid (HZ.out.drewN q)
  clear hW
  go_wp2_with fail
  refine (C2.out _).mono ?_
  rintro e w2 ⟨rfl, b2⟩
  have HZ2 := Lib.hid (HZ1.out.kept b2)
  clear b2
  go_wp2_with fail
  refine (C3.out _).mono ?_
  rintro e w3 ⟨rfl, rfl⟩
  obtain ⟨x0, x1, f0, f1⟩ := HZ2.out.facts
  cases o1 with
  | false =>
    have HF : Hid (T = none) := Lib.hid (by rw [HT.out, part_nocut HO1.out.symm])
    obtain ⟨wz, hwz, hbz, z0, z1⟩ := HZ2.out.put (.string { data := #[] }) (.string { data := #[] })
    go_wp2_with fail
    rw [← hwz]
    exact bodyPost_ret (v := .tuple #[.agg #[.string { data := #[] }, .string { data := #[] }], .string { data := #[] }, .bool false]) (by simp [results, Tryd.results81, go_sem, z0, z1]) rfl ⟨by rw [HF.out]; rfl, hbz⟩
  | true =>
    cases o2 with
    | false =>
      have HF : Hid (T = none) := Lib.hid (by rw [HT.out, part_noname (by rw [HNB.out]; rfl)])
      obtain ⟨wz, hwz, hbz, z0, z1⟩ := HZ2.out.put (.string { data := #[] }) (.string { data := #[] })
      go_wp2_with fail
      rw [← hwz]
      exact bodyPost_ret (v := .tuple #[.agg #[.string { data := #[] }, .string { data := #[] }], .string { data := #[] }, .bool false]) (by simp [results, Tryd.results81, go_sem, z0, z1]) rfl ⟨by rw [HF.out]; rfl, hbz⟩
    | true =>
      cases o3 with
      | false =>
        have HF : Hid (T = none) := Lib.hid (by rw [HT.out, part_noname (by rw [HNB.out]; rfl)])
        obtain ⟨wz, hwz, hbz, z0, z1⟩ := HZ2.out.put (.string { data := #[] }) (.string { data := #[] })
        go_wp2_with fail
        rw [← hwz]
        exact bodyPost_ret (v := .tuple #[.agg #[.string { data := #[] }, .string { data := #[] }], .string { data := #[] }, .bool false]) (by simp [results, Tryd.results81, go_sem, z0, z1]) rfl ⟨by rw [HF.out]; rfl, hbz⟩
      | true =>
        go_wp2_with fail
        refine (C4.out _).mono ?_
        rintro e w4 ⟨rfl, b4⟩
        have HZ4 := Lib.hid (HZ2.out.kept b4)
        clear b4 x0 x1 f0 f1 HZ HZ1
        obtain ⟨x0, x1, f0, f1⟩ := HZ4.out.facts
        cases o4 with
        | true =>
          have HF : Hid (T = none) := Lib.hid (by rw [HT.out, part_noname (by rw [HNB.out]; rfl)])
          obtain ⟨wz, hwz, hbz, z0, z1⟩ := HZ4.out.put (.string { data := #[] }) (.string { data := #[] })
          go_wp2_with fail
          rw [← hwz]
          exact bodyPost_ret (v := .tuple #[.agg #[.string { data := #[] }, .string { data := #[] }], .string { data := #[] }, .bool false]) (by simp [results, Tryd.results81, go_sem, z0, z1]) rfl ⟨by rw [HF.out]; rfl, hbz⟩
        | false =>
          go_wp2_with fail
          clear x0 x1 f0 f1
          obtain ⟨K, hK⟩ : ∃ K, K = skipN (s.size + 1) (cutS s crlfB).2.1 := ⟨_, rfl⟩
          have HK := Lib.hid hK
          clear hK
          go_loopw [8, 9, 13] (fun r _ _ wr => ∃ (R : ByteArray) (n : Nat), r = .string R ∧ R.size < n ∧ R.size ≤ 4096 ∧ Hid (skipN n R = K) ∧ Hid (Az w wr)) (fun r _ _ _ => vSize r)
          case atStart => exact ⟨r0, s.size + 1, rfl, hrs, hrz, Lib.hid (by rw [HK.out, HR0.out]), HZ4⟩
          case round =>
            obtain ⟨R, n, rfl, hn, hRz, HS, HZr⟩ := hrel
            obtain ⟨n, rfl⟩ : ∃ k, n = k + 1 := ⟨n - 1, by omega⟩
            have C5 := fun w' hb => cut_any R crlfB m w' (by omega) (HM.out w' hb)
            obtain ⟨l1, hl1⟩ : ∃ f, f = (cutS R crlfB).1 := ⟨_, rfl⟩
            obtain ⟨r1, hr1⟩ : ∃ r, r = (cutS R crlfB).2.1 := ⟨_, rfl⟩
            obtain ⟨o5, ho5⟩ : ∃ o, o = (cutS R crlfB).2.2 := ⟨_, rfl⟩
            have hcs := cutS_size R crlfB
            rw [← hl1, ← hr1] at hcs
            rw [← hl1, ← hr1, ← ho5] at C5
            have C5 := Lib.hid C5
            have hsk : skipN (n + 1) R = if o5 = false then none else if l1.size = 0 then some r1 else skipN n r1 := by rw [skipN, ← ho5, ← hl1, ← hr1]
            have hcl : o5 = true → r1.size + 2 ≤ R.size := fun h => by
              have h3 := cut_less (s := R) (t := crlfB) (by decide) (by rw [← ho5]; exact h)
              have h4 : crlfB.size = 2 := rfl
              rw [← hr1] at h3; omega
            have HSK := Lib.hid hsk
            clear hl1 hr1 ho5 hsk
            go_wp2_with fail
            refine (C5.out _ HZr.out.be).mono ?_
            rintro e w6 ⟨rfl, q6, hw6⟩
            have HZ6 : Hid (Az w w6) := Lib.hid (by rw [hw6]; exact HZr.out.drewN q6)
            clear hw6
            obtain ⟨x0, x1, f0, f1⟩ := HZ6.out.facts
            cases o5 with
            | false =>
              have HF : Hid (T = none) := Lib.hid (by
                have h : K = none := by rw [← HS.out, HSK.out]; rfl
                rw [HT.out, part_noskip (by rw [← HK.out]; exact h)])
              obtain ⟨wz, hwz, hbz, z0, z1⟩ := HZ6.out.put (.string { data := #[] }) (.string { data := #[] })
              go_wp2_with fail
              rw [← hwz]
              exact bodyPost_ret (v := .tuple #[.agg #[.string { data := #[] }, .string { data := #[] }], .string { data := #[] }, .bool false]) (by simp [results, Tryd.results81, go_sem, z0, z1]) rfl ⟨by rw [HF.out]; rfl, hbz⟩
            | true =>
              have hr1z := hcl rfl
              clear hcl
              by_cases h0 : l1.size = 0
              · have hem : l1.toList.isEmpty = true := by
                  rw [Lib.toList_data]
                  have : l1.data.toList.length = 0 := by rw [lst_len]; exact h0
                  cases h : l1.data.toList with
                  | nil => rfl
                  | cons a t => rw [h] at this; cases this
                have HKS : Hid (skipN (s.size + 1) (cutS s crlfB).2.1 = some r1) := Lib.hid (by rw [← HK.out, ← HS.out, HSK.out, if_neg (by decide), if_pos h0])
                have C7 := fun w' hb => cut_any (rawB r1) (sepB b) m w' (by rw [rawB_size]; omega) (HM.out w' hb)
                obtain ⟨v7, hv7⟩ : ∃ f, f = (cutS (rawB r1) (sepB b)).1 := ⟨_, rfl⟩
                obtain ⟨l7, hl7⟩ : ∃ r, r = (cutS (rawB r1) (sepB b)).2.1 := ⟨_, rfl⟩
                obtain ⟨o7, ho7⟩ : ∃ o, o = (cutS (rawB r1) (sepB b)).2.2 := ⟨_, rfl⟩
                rw [← hv7, ← hl7, ← ho7] at C7
                have C7 := Lib.hid C7
                have hraw : ({ data := #[13, 10] } ++ r1 : ByteArray) = rawB r1 := rfl
                have hsep : ({ data := #[13, 10, 45, 45] } ++ b : ByteArray) = sepB b := rfl
                have HV7 := Lib.hid hv7
                have HL7 := Lib.hid hl7
                have HO7 := Lib.hid ho7
                clear hv7 hl7 ho7 h0
                go_wp2_with fail
                refine (C7.out _ HZ6.out.be).mono ?_
                rintro e w8 ⟨rfl, q8, hw8⟩
                have HZ8 : Hid (Az w w8) := Lib.hid (by rw [hw8]; exact HZ6.out.drewN q8)
                clear hw8
                clear x0 x1 f0 f1
                obtain ⟨x0, x1, f0, f1⟩ := HZ8.out.facts
                cases o7 with
                | false =>
                  have HF : Hid (T = none) := Lib.hid (by rw [HT.out, part_nosep HKS.out HO7.out.symm])
                  obtain ⟨wz, hwz, hbz, z0, z1⟩ := HZ8.out.put (.string { data := #[] }) (.string { data := #[] })
                  go_wp2_with fail
                  rw [← hwz]
                  exact bodyPost_ret (v := .tuple #[.agg #[.string { data := #[] }, .string { data := #[] }], .string { data := #[] }, .bool false]) (by simp [results, Tryd.results81, go_sem, z0, z1]) rfl ⟨by rw [HF.out]; rfl, hbz⟩
                | true =>
                  have HF : Hid (T = some (⟨na, valS v7⟩, l7)) := Lib.hid (by rw [HT.out, part_some HO1.out.symm (by rw [HNB.out]; rfl) HKS.out HO7.out.symm, HNA.out, HV7.out, HL7.out])
                  have C9 := Lib.hid fun w => Tryd.strings_CutPrefix v7 ⟨#[13, 10]⟩ w
                  go_wp2_with fail
                  refine (C9.out _).mono ?_
                  rintro e w9 ⟨rfl, rfl⟩
                  obtain ⟨vv, hvv⟩ : ∃ vv, (⟨(Lib.trimPrefix v7.data.toList (⟨#[13, 10]⟩ : ByteArray).data.toList).toArray⟩ : ByteArray) = vv := ⟨_, rfl⟩
                  have HVV : Hid (valS v7 = vv) := Lib.hid hvv
                  rw [hvv]
                  clear hvv
                  obtain ⟨wz, hwz, hbz2, z0, z1⟩ := HZ8.out.put (.string na) (.string vv)
                  go_wp2_with fail
                  rw [← hwz]
                  exact bodyPost_ret (v := .tuple #[.agg #[.string na, .string vv], .string l7, .bool true]) (by simp [results, Tryd.results81, go_sem, z0, z1]) rfl ⟨by rw [HF.out, HVV.out]; rfl, hbz2⟩
              · have hem : l1.toList.isEmpty = false := by
                  rw [Lib.toList_data]
                  have : l1.data.toList.length ≠ 0 := by rw [lst_len]; exact h0
                  cases h : l1.data.toList with
                  | nil => rw [h] at this; exact absurd rfl this
                  | cons a t => rfl
                have HS2 : Hid (skipN n r1 = K) := Lib.hid (by rw [← HS.out, HSK.out, if_neg (by decide), if_neg h0])
                clear h0
                go_wp2_with fail
                go_roundw
                case rel => exact ⟨r1, n, rfl, by omega, by omega, HS2, HZ6⟩
                case measure => simp only [vSize]; omega
end Go.Proofs.YtaepbpdcfmklpaaDoor
