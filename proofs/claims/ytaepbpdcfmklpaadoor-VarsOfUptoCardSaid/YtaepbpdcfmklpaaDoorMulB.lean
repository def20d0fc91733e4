/- Walks: multi.Boundary, wickref.Boundary. -/
import Derived.Test.YtaepbpdcfmklpaaDoorMulA
import Derived.Test.YtaepbpdcfmklpaaDoorCut
import Derived.Test.YtaepbpdcfmklpaaDoorTrm
namespace Go.Proofs.YtaepbpdcfmklpaaDoor
open Go.RowKit
set_option linter.unusedVariables false
set_option linter.unusedSimpArgs false

/-- does it stand between quotes? -/
def quoB (b : ByteArray) : Bool := decide (2 ≤ b.size) && (b.data.toList[0]? == some 34) && (b.data.toList[b.size - 1]? == some 34)
def unqS (b : ByteArray) : ByteArray := if quoB b = true then b.extract 1 (b.size - 1) else b
def endR (b : ByteArray) : ByteArray × Bool := if bndL (unqS b) = true then (unqS b, true) else (⟨#[]⟩, false)
def mpB : ByteArray := ⟨#[109, 117, 108, 116, 105, 112, 97, 114, 116, 47, 102, 111, 114, 109, 45, 100, 97, 116, 97]⟩
def bpB : ByteArray := ⟨#[98, 111, 117, 110, 100, 97, 114, 121, 61]⟩
def kindS (v : ByteArray) : ByteArray := (cutS v ⟨#[59]⟩).1
def restS (v : ByteArray) : ByteArray := str (trimL (cutS v ⟨#[59]⟩).2.1.data.toList)
def kindB (v : ByteArray) : Bool := (kindS v).data.toList.map lowB == mpB.data.toList
def bndR (v : ByteArray) : ByteArray × Bool := if kindB v = true ∧ frontB (restS v) bpB = true then endR ((restS v).extract 9 (restS v).size) else (⟨#[]⟩, false)
theorem bndR_no {v : ByteArray} (h : ¬ (kindB v = true ∧ frontB (restS v) bpB = true)) : bndR v = (⟨#[]⟩, false) := by unfold bndR; rw [if_neg h]
theorem bndR_yes {v : ByteArray} (h : kindB v = true) (h2 : frontB (restS v) bpB = true) : bndR v = endR ((restS v).extract 9 (restS v).size) := by unfold bndR; rw [if_pos ⟨h, h2⟩]
theorem endR_yes {b u : ByteArray} (h : unqS b = u) (h2 : bndL u = true) : endR b = (u, true) := by unfold endR; rw [h, if_pos h2]
theorem endR_no {b u : ByteArray} (h : unqS b = u) (h2 : bndL u = false) : endR b = (⟨#[]⟩, false) := by unfold endR; rw [h, if_neg (by rw [h2]; decide)]
theorem unqS_yes {b : ByteArray} (h : quoB b = true) : unqS b = b.extract 1 (b.size - 1) := by unfold unqS; rw [if_pos h]
theorem unqS_no {b : ByteArray} (h : quoB b = false) : unqS b = b := by unfold unqS; rw [if_neg (by rw [h]; decide)]
/-- what the tests of the quotes show -/
theorem quo_cases (b : ByteArray) (hz : b.size ≤ 1048576) : (b.size < 2 ∧ quoB b = false) ∨
    (∃ (h0 : 0 < b.size) (h1 : b.size - 1 < b.size), 2 ≤ b.size ∧ ((((b[0]'h0).toNat : Int) == 34) = false ∧ quoB b = false ∨ (((b[0]'h0).toNat : Int) == 34) = true ∧ (((b[b.size - 1]'h1).toNat : Int) == 34) = false ∧ quoB b = false ∨ (((b[0]'h0).toNat : Int) == 34) = true ∧ (((b[b.size - 1]'h1).toNat : Int) == 34) = true ∧ quoB b = true)) := by
  by_cases h : b.size < 2
  · exact .inl ⟨h, by unfold quoB; rw [decide_eq_false (by omega)]; rfl⟩
  · refine .inr ⟨by omega, by omega, by omega, ?_⟩
    have e0 := Lib.data_getElem? b 0 (by omega)
    have e1 := Lib.data_getElem? b (b.size - 1) (by omega)
    have hq : quoB b = ((b[0]'(by omega) == 34) && (b[b.size - 1]'(by omega) == 34)) := by
      unfold quoB
      rw [decide_eq_true (by omega), e0, e1, Bool.true_and]; rfl
    by_cases c0 : b[0]'(by omega) = 34
    · by_cases c1 : b[b.size - 1]'(by omega) = 34
      · exact .inr (.inr ⟨byte_eq (c := 34) c0, byte_eq (c := 34) c1, by rw [hq, c0, c1]; rfl⟩)
      · exact .inr (.inl ⟨byte_eq (c := 34) c0, byte_ne (c := 34) c1, by rw [hq, beq_eq_false_iff_ne.2 c1, Bool.and_false]⟩)
    · exact .inl ⟨byte_ne (c := 34) c0, by rw [hq, beq_eq_false_iff_ne.2 c0]; rfl⟩
theorem right_as {s : ByteArray} {b : Bool} (h : bndL s = b) (w : World) (hs : s.size ≤ 1048576) : Calls Tryd.prog 79 #[.string s] w fun e w' => e = .returned (.bool b) ∧ w = w' := h ▸ right_any s w (by omega)
theorem isBnd_as {s : ByteArray} {b : Bool} (h : bndL s = b) (w : World) (hs : s.size ≤ 1048576) : Calls Tryd.prog 55 #[.string s] w fun e w' => e = .returned (.bool b) ∧ w = w' := h ▸ isBnd_any s w (by omega)
theorem trimL_len (l : List UInt8) : (trimL l).length ≤ l.length := by
  have hd : ∀ m : List UInt8, (m.dropWhile wsB).length ≤ m.length := fun m => (List.dropWhile_sublist wsB).length_le
  unfold trimL rtrimL ltrimL
  have h1 := hd l
  have h2 := hd (l.dropWhile wsB).reverse
  rw [List.length_reverse] at h2
  simp only [List.length_reverse]
  omega
theorem rest_size (v : ByteArray) : (restS v).size ≤ v.size := by
  unfold restS
  rw [size_str]
  have h1 := (cutS_size v ⟨#[59]⟩).2
  have h2 := trimL_len (cutS v ⟨#[59]⟩).2.1.data.toList
  rw [lst_len] at h2; omega
set_option maxRecDepth 100000 in
set_option maxHeartbeats 4000000 in
theorem boundary_any (v : ByteArray) (m : Int) (w : World) (hs : v.size ≤ 1048576) (hm : w.cell? ⟨0, 0, none⟩ = some (.int .i64 m)) :
    Calls Tryd.prog 52 #[.string v] w fun e w' => e = .returned (.tuple #[.string (bndR v).1, .bool (bndR v).2]) ∧ Below w.heap.size w w' := by
  have hrs := rest_size v
  have hks := (cutS_size v ⟨#[59]⟩).1
  have hks2 := (cutS_size v ⟨#[59]⟩).2
  have C1 := Lib.hid (cut_any v ⟨#[59]⟩ m w hs hm)
  have C2 := Lib.hid fun w => trim_any (cutS v ⟨#[59]⟩).2.1 w (by omega)
  have C3 := Lib.hid fun w => front_any (restS v) bpB w (by omega) (by decide)
  have C4 := Lib.hid fun w => lower_any (kindS v) w (by unfold kindS; omega)
  have HK := Lib.hid (show kindB v = (((kindS v).data.toList.map lowB) == mpB.data.toList) from rfl)
  obtain ⟨K, hK⟩ : ∃ K, K = (kindS v).data.toList.map lowB := ⟨_, rfl⟩
  rw [← hK] at C4 HK
  obtain ⟨R, hR⟩ : ∃ R, R = restS v := ⟨_, rfl⟩
  obtain ⟨b0, hb0⟩ : ∃ b, b = frontB (restS v) bpB := ⟨_, rfl⟩
  obtain ⟨B, hBe⟩ : ∃ B, B = frontS (restS v) bpB := ⟨_, rfl⟩
  rw [← hb0, ← hBe, ← hR] at C3
  have HRE := Lib.hid (show str (trimL (cutS v ⟨#[59]⟩).2.1.data.toList) = R from hR.symm)
  have HKS := Lib.hid (show (cutS v ⟨#[59]⟩).1 = kindS v from rfl)
  have H0 := Lib.hid hb0
  have HBE := Lib.hid (hBe)
  have HRV := Lib.hid hR
  clear hm hK hR hb0 hBe
  go_enter Tryd.func52, Tryd.ntmps52
  go_wp2_with fail
  refine C1.out.mono ?_
  rintro e w1 ⟨rfl, q, rfl⟩
  rw [HKS.out]
  go_wp2_with fail
  refine (C2.out _).mono ?_
  rintro e w' ⟨rfl, rfl⟩
  rw [HRE.out]
  go_wp2_with fail
  refine (C3.out _).mono ?_
  rintro e w1 ⟨rfl, b1⟩
  have HB1 := Lib.hid (show Below w.heap.size w w1 from (below_drewN (Below.refl _ _) q).trans b1)
  clear b1
  go_wp2_with fail
  refine (C4.out _).mono ?_
  rintro e w2 ⟨rfl, b2⟩
  have HB2 := Lib.hid (HB1.out.trans (b2.mono HB1.out.size))
  clear b2
  cases hk : kindB v with
  | false =>
    have q0 : (K == mpB.data.toList) = false := HK.out.symm.trans hk
    have q1 : (K == [109, 117, 108, 116, 105, 112, 97, 114, 116, 47, 102, 111, 114, 109, 45, 100, 97, 116, 97]) = false := q0
    have HF := Lib.hid (bndR_no (v := v) (fun h => by rw [hk] at h; cases h.1))
    clear hk q0
    go_wp2_with fail
    go_ret2
    rw [HF.out]
    exact ⟨rfl, HB2.out⟩
  | true =>
    have q0 : (K == mpB.data.toList) = true := HK.out.symm.trans hk
    have q1 : (K == [109, 117, 108, 116, 105, 112, 97, 114, 116, 47, 102, 111, 114, 109, 45, 100, 97, 116, 97]) = true := q0
    clear q0
    cases b0 with
    | false =>
      have HF := Lib.hid (bndR_no (v := v) (fun h => by rw [← H0.out] at h; cases h.2))
      clear hk
      go_wp2_with fail
      go_ret2
      rw [HF.out]
      exact ⟨rfl, HB2.out⟩
    | true =>
      have HBR : Hid (bndR v = endR B) := Lib.hid (by rw [bndR_yes hk H0.out.symm, HBE.out, frontS_yes H0.out.symm]; rfl)
      have hBz : B.size ≤ 1048576 := by
        rw [HBE.out, frontS_yes H0.out.symm, ByteArray.size_extract, ← HRV.out]; rw [← HRV.out] at hrs; omega
      clear hk
      rcases quo_cases B hBz with ⟨c, hq⟩ | ⟨h0, h1, c2, ⟨c0, hq⟩ | ⟨c0, c1, hq⟩ | ⟨c0, c1, hq⟩⟩
      · have x1 : ¬ (2 : Int) ≤ (B.size : Int) := by omega
        have x2 : ¬ (1 : Int) < (B.size : Int) := by omega
        have HQ := Lib.hid (unqS_no hq)
        clear hq
        cases hr : bndL (B) with
        | true =>
          have CR := Lib.hid fun w => right_as hr w (by omega)
          have HF := Lib.hid (HBR.out.trans (endR_yes HQ.out hr))
          clear hr HQ HBR
          go_wp2_with fail
          refine (CR.out _).mono ?_
          rintro e w' ⟨rfl, rfl⟩
          go_wp2_with fail
          go_ret2
          rw [HF.out]
          exact ⟨rfl, HB2.out⟩
        | false =>
          have CR := Lib.hid fun w => right_as hr w (by omega)
          have HF := Lib.hid (HBR.out.trans (endR_no HQ.out hr))
          clear hr HQ HBR
          go_wp2_with fail
          refine (CR.out _).mono ?_
          rintro e w' ⟨rfl, rfl⟩
          go_wp2_with fail
          go_ret2
          rw [HF.out]
          exact ⟨rfl, HB2.out⟩
      · have x1 : (2 : Int) ≤ (B.size : Int) := by omega
        have x2 : (1 : Int) < (B.size : Int) := by omega
        have x3 : IntKind.i64.wrap ((B.size : Int) - 1) = ((B.size - 1 : Nat) : Int) := by rw [IntWalk.i64_in _ (by omega)]; omega
        have x4 : ((B.size - 1 : Nat) : Int) < (B.size : Int) := by omega
        have x5 : (1 : Int) ≤ ((B.size - 1 : Nat) : Int) := by omega
        have x6 : ((B.size - 1 : Nat) : Int) ≤ (B.size : Int) := by omega
        have HQ := Lib.hid (unqS_no hq)
        clear hq
        cases hr : bndL (B) with
        | true =>
          have CR := Lib.hid fun w => right_as hr w (by omega)
          have HF := Lib.hid (HBR.out.trans (endR_yes HQ.out hr))
          clear hr HQ HBR
          go_wp2_with fail
          refine (CR.out _).mono ?_
          rintro e w' ⟨rfl, rfl⟩
          go_wp2_with fail
          go_ret2
          rw [HF.out]
          exact ⟨rfl, HB2.out⟩
        | false =>
          have CR := Lib.hid fun w => right_as hr w (by omega)
          have HF := Lib.hid (HBR.out.trans (endR_no HQ.out hr))
          clear hr HQ HBR
          go_wp2_with fail
          refine (CR.out _).mono ?_
          rintro e w' ⟨rfl, rfl⟩
          go_wp2_with fail
          go_ret2
          rw [HF.out]
          exact ⟨rfl, HB2.out⟩
      · have x1 : (2 : Int) ≤ (B.size : Int) := by omega
        have x2 : (1 : Int) < (B.size : Int) := by omega
        have x3 : IntKind.i64.wrap ((B.size : Int) - 1) = ((B.size - 1 : Nat) : Int) := by rw [IntWalk.i64_in _ (by omega)]; omega
        have x4 : ((B.size - 1 : Nat) : Int) < (B.size : Int) := by omega
        have x5 : (1 : Int) ≤ ((B.size - 1 : Nat) : Int) := by omega
        have x6 : ((B.size - 1 : Nat) : Int) ≤ (B.size : Int) := by omega
        have HQ := Lib.hid (unqS_no hq)
        clear hq
        cases hr : bndL (B) with
        | true =>
          have CR := Lib.hid fun w => right_as hr w (by omega)
          have HF := Lib.hid (HBR.out.trans (endR_yes HQ.out hr))
          clear hr HQ HBR
          go_wp2_with fail
          refine (CR.out _).mono ?_
          rintro e w' ⟨rfl, rfl⟩
          go_wp2_with fail
          go_ret2
          rw [HF.out]
          exact ⟨rfl, HB2.out⟩
        | false =>
          have CR := Lib.hid fun w => right_as hr w (by omega)
          have HF := Lib.hid (HBR.out.trans (endR_no HQ.out hr))
          clear hr HQ HBR
          go_wp2_with fail
          refine (CR.out _).mono ?_
          rintro e w' ⟨rfl, rfl⟩
          go_wp2_with fail
          go_ret2
          rw [HF.out]
          exact ⟨rfl, HB2.out⟩
      · have x1 : (2 : Int) ≤ (B.size : Int) := by omega
        have x2 : (1 : Int) < (B.size : Int) := by omega
        have x3 : IntKind.i64.wrap ((B.size : Int) - 1) = ((B.size - 1 : Nat) : Int) := by rw [IntWalk.i64_in _ (by omega)]; omega
        have x4 : ((B.size - 1 : Nat) : Int) < (B.size : Int) := by omega
        have x5 : (1 : Int) ≤ ((B.size - 1 : Nat) : Int) := by omega
        have x6 : ((B.size - 1 : Nat) : Int) ≤ (B.size : Int) := by omega
        have HQ := Lib.hid (unqS_yes hq)
        clear hq
        cases hr : bndL (B.extract 1 (B.size - 1)) with
        | true =>
          have CR := Lib.hid fun w => right_as hr w (by rw [ByteArray.size_extract]; omega)
          have HF := Lib.hid (HBR.out.trans (endR_yes HQ.out hr))
          clear hr HQ HBR
          go_wp2_with fail
          refine (CR.out _).mono ?_
          rintro e w' ⟨rfl, rfl⟩
          go_wp2_with fail
          go_ret2
          rw [HF.out]
          exact ⟨rfl, HB2.out⟩
        | false =>
          have CR := Lib.hid fun w => right_as hr w (by rw [ByteArray.size_extract]; omega)
          have HF := Lib.hid (HBR.out.trans (endR_no HQ.out hr))
          clear hr HQ HBR
          go_wp2_with fail
          refine (CR.out _).mono ?_
          rintro e w' ⟨rfl, rfl⟩
          go_wp2_with fail
          go_ret2
          rw [HF.out]
          exact ⟨rfl, HB2.out⟩
set_option maxRecDepth 100000 in
set_option maxHeartbeats 4000000 in
theorem rboundary_any (v : ByteArray) (w : World) (hs : v.size ≤ 1048576) :
    Calls Tryd.prog 30 #[.string v] w fun e w' => e = .returned (.tuple #[.string (bndR v).1, .bool (bndR v).2]) ∧ ∃ q, w' = w.drewN q := by
  have hrs := rest_size v
  have hks := (cutS_size v ⟨#[59]⟩).1
  have hks2 := (cutS_size v ⟨#[59]⟩).2
  have C1 := Lib.hid (rsplit_any v ⟨#[59]⟩ w (by omega) (by decide))
  have C2 := Lib.hid fun w => Trim_any (cutS v ⟨#[59]⟩).2.1 w (by omega)
  have C4 := Lib.hid fun w => Low_any (kindS v) w (by unfold kindS; omega)
  have HK := Lib.hid (show kindB v = (((kindS v).data.toList.map lowB) == mpB.data.toList) from rfl)
  obtain ⟨K, hK⟩ : ∃ K, K = (kindS v).data.toList.map lowB := ⟨_, rfl⟩
  rw [← hK] at C4 HK
  have HFB := Lib.hid (show frontB (restS v) bpB = (decide (9 ≤ (restS v).size) && (((restS v).data.toList.take 9).map lowB == bpB.data.toList)) from rfl)
  obtain ⟨R, hR⟩ : ∃ R, R = restS v := ⟨_, rfl⟩
  have HRE := Lib.hid (show str (trimL (cutS v ⟨#[59]⟩).2.1.data.toList) = R from hR.symm)
  have HKS := Lib.hid (show (cutS v ⟨#[59]⟩).1 = kindS v from rfl)
  rw [← hR] at HFB hrs
  have HRV := Lib.hid hR
  clear hK hR
  go_enter Tryd.func30, Tryd.ntmps30
  go_wp2_with fail
  refine C1.out.mono ?_
  rintro e w1 ⟨rfl, q, rfl⟩
  rw [HKS.out]
  go_wp2_with fail
  refine (C2.out _).mono ?_
  rintro e w' ⟨rfl, rfl⟩
  rw [HRE.out]
  go_wp2_with fail
  refine (C4.out _).mono ?_
  rintro e w2 ⟨rfl, q2, hw2⟩
  have HW : Hid (∃ q, w2 = w.drewN q) := ⟨q + q2, by rw [hw2]; simp⟩
  clear hw2
  cases hk : kindB v with
  | false =>
    have q0 : (K == mpB.data.toList) = false := HK.out.symm.trans hk
    have q1 : (K == [109, 117, 108, 116, 105, 112, 97, 114, 116, 47, 102, 111, 114, 109, 45, 100, 97, 116, 97]) = false := q0
    have HF := Lib.hid (bndR_no (v := v) (fun h => by rw [hk] at h; cases h.1))
    clear hk q0
    go_wp2_with fail
    go_ret2
    rw [HF.out]
    exact ⟨rfl, HW.out⟩
  | true =>
    have q0 : (K == mpB.data.toList) = true := HK.out.symm.trans hk
    have q1 : (K == [109, 117, 108, 116, 105, 112, 97, 114, 116, 47, 102, 111, 114, 109, 45, 100, 97, 116, 97]) = true := q0
    clear q0
    by_cases h9 : 9 ≤ R.size
    · have d9 : ¬ (R.size : Int) < 9 := by omega
      have d9' : (9 : Int) ≤ (R.size : Int) := by omega
      have e9 : (R.extract 0 9).data.toList = R.data.toList.take 9 := by rw [lst_ext]; simp
      have C5 := fun w => Low_any (R.extract 0 9) w (by rw [ByteArray.size_extract]; omega)
      rw [e9] at C5
      obtain ⟨T, hT⟩ : ∃ T, T = (R.data.toList.take 9).map lowB := ⟨_, rfl⟩
      rw [← hT] at C5
      have hF : frontB (restS v) bpB = (T == bpB.data.toList) := by rw [← HRV.out, HFB.out, decide_eq_true h9, Bool.true_and, hT]
      have C5 := Lib.hid C5
      clear hT e9
      cases hq : (T == bpB.data.toList) with
      | false =>
        have q2 : (T == [98, 111, 117, 110, 100, 97, 114, 121, 61]) = false := hq
        have HF := Lib.hid (bndR_no (v := v) (fun h => by rw [hF, hq] at h; cases h.2))
        clear hk hF hq h9
        go_wp2_with fail
        refine (C5.out _).mono ?_
        rintro e w3 ⟨rfl, q3, hw3⟩
        have HW3 : Hid (∃ q, w3 = w.drewN q) := by obtain ⟨q, hq⟩ := HW.out; exact ⟨q + q3, by rw [hw3, hq]; simp⟩
        clear hw3
        go_wp2_with fail
        go_ret2
        rw [HF.out]
        exact ⟨rfl, HW3.out⟩
      | true =>
        have q2 : (T == [98, 111, 117, 110, 100, 97, 114, 121, 61]) = true := hq
        have hBR : bndR v = endR (R.extract 9 R.size) := by rw [bndR_yes hk (hF.trans hq), HRV.out]
        obtain ⟨B, hBe⟩ : ∃ B, R.extract 9 R.size = B := ⟨_, rfl⟩
        have hBz : B.size ≤ 1048576 := by rw [← hBe, ByteArray.size_extract]; omega
        rw [hBe] at hBR
        have HBR := Lib.hid hBR
        have HBE := Lib.hid hBe
        clear hk hF hq h9 hBR hBe
        go_wp2_with fail
        refine (C5.out _).mono ?_
        rintro e w3 ⟨rfl, q3, hw3⟩
        have HW3 : Hid (∃ q, w3 = w.drewN q) := by obtain ⟨q, hq⟩ := HW.out; exact ⟨q + q3, by rw [hw3, hq]; simp⟩
        clear hw3
        have hBe := HBE.out
        rcases quo_cases B hBz with ⟨c, hq⟩ | ⟨h0, h1, c2, ⟨c0, hq⟩ | ⟨c0, c1, hq⟩ | ⟨c0, c1, hq⟩⟩
        · have x1 : ¬ (2 : Int) ≤ (B.size : Int) := by omega
          have x2 : ¬ (1 : Int) < (B.size : Int) := by omega
          have HQ := Lib.hid (unqS_no hq)
          clear hq
          cases hr : bndL (B) with
          | true =>
            have CR := Lib.hid fun w => isBnd_as hr w (by omega)
            have HF := Lib.hid (HBR.out.trans (endR_yes HQ.out hr))
            clear hr HQ HBR
            go_wp2_with fail
            refine (CR.out _).mono ?_
            rintro e w' ⟨rfl, rfl⟩
            go_wp2_with fail
            go_ret2
            rw [HF.out]
            exact ⟨rfl, HW3.out⟩
          | false =>
            have CR := Lib.hid fun w => isBnd_as hr w (by omega)
            have HF := Lib.hid (HBR.out.trans (endR_no HQ.out hr))
            clear hr HQ HBR
            go_wp2_with fail
            refine (CR.out _).mono ?_
            rintro e w' ⟨rfl, rfl⟩
            go_wp2_with fail
            go_ret2
            rw [HF.out]
            exact ⟨rfl, HW3.out⟩
        · have x1 : (2 : Int) ≤ (B.size : Int) := by omega
          have x2 : (1 : Int) < (B.size : Int) := by omega
          have x3 : IntKind.i64.wrap ((B.size : Int) - 1) = ((B.size - 1 : Nat) : Int) := by rw [IntWalk.i64_in _ (by omega)]; omega
          have x4 : ((B.size - 1 : Nat) : Int) < (B.size : Int) := by omega
          have x5 : (1 : Int) ≤ ((B.size - 1 : Nat) : Int) := by omega
          have x6 : ((B.size - 1 : Nat) : Int) ≤ (B.size : Int) := by omega
          have HQ := Lib.hid (unqS_no hq)
          clear hq
          cases hr : bndL (B) with
          | true =>
            have CR := Lib.hid fun w => isBnd_as hr w (by omega)
            have HF := Lib.hid (HBR.out.trans (endR_yes HQ.out hr))
            clear hr HQ HBR
            go_wp2_with fail
            refine (CR.out _).mono ?_
            rintro e w' ⟨rfl, rfl⟩
            go_wp2_with fail
            go_ret2
            rw [HF.out]
            exact ⟨rfl, HW3.out⟩
          | false =>
            have CR := Lib.hid fun w => isBnd_as hr w (by omega)
            have HF := Lib.hid (HBR.out.trans (endR_no HQ.out hr))
            clear hr HQ HBR
            go_wp2_with fail
            refine (CR.out _).mono ?_
            rintro e w' ⟨rfl, rfl⟩
            go_wp2_with fail
            go_ret2
            rw [HF.out]
            exact ⟨rfl, HW3.out⟩
        · have x1 : (2 : Int) ≤ (B.size : Int) := by omega
          have x2 : (1 : Int) < (B.size : Int) := by omega
          have x3 : IntKind.i64.wrap ((B.size : Int) - 1) = ((B.size - 1 : Nat) : Int) := by rw [IntWalk.i64_in _ (by omega)]; omega
          have x4 : ((B.size - 1 : Nat) : Int) < (B.size : Int) := by omega
          have x5 : (1 : Int) ≤ ((B.size - 1 : Nat) : Int) := by omega
          have x6 : ((B.size - 1 : Nat) : Int) ≤ (B.size : Int) := by omega
          have HQ := Lib.hid (unqS_no hq)
          clear hq
          cases hr : bndL (B) with
          | true =>
            have CR := Lib.hid fun w => isBnd_as hr w (by omega)
            have HF := Lib.hid (HBR.out.trans (endR_yes HQ.out hr))
            clear hr HQ HBR
            go_wp2_with fail
            refine (CR.out _).mono ?_
            rintro e w' ⟨rfl, rfl⟩
            go_wp2_with fail
            go_ret2
            rw [HF.out]
            exact ⟨rfl, HW3.out⟩
          | false =>
            have CR := Lib.hid fun w => isBnd_as hr w (by omega)
            have HF := Lib.hid (HBR.out.trans (endR_no HQ.out hr))
            clear hr HQ HBR
            go_wp2_with fail
            refine (CR.out _).mono ?_
            rintro e w' ⟨rfl, rfl⟩
            go_wp2_with fail
            go_ret2
            rw [HF.out]
            exact ⟨rfl, HW3.out⟩
        · have x1 : (2 : Int) ≤ (B.size : Int) := by omega
          have x2 : (1 : Int) < (B.size : Int) := by omega
          have x3 : IntKind.i64.wrap ((B.size : Int) - 1) = ((B.size - 1 : Nat) : Int) := by rw [IntWalk.i64_in _ (by omega)]; omega
          have x4 : ((B.size - 1 : Nat) : Int) < (B.size : Int) := by omega
          have x5 : (1 : Int) ≤ ((B.size - 1 : Nat) : Int) := by omega
          have x6 : ((B.size - 1 : Nat) : Int) ≤ (B.size : Int) := by omega
          have HQ := Lib.hid (unqS_yes hq)
          clear hq
          cases hr : bndL (B.extract 1 (B.size - 1)) with
          | true =>
            have CR := Lib.hid fun w => isBnd_as hr w (by rw [ByteArray.size_extract]; omega)
            have HF := Lib.hid (HBR.out.trans (endR_yes HQ.out hr))
            clear hr HQ HBR
            go_wp2_with fail
            refine (CR.out _).mono ?_
            rintro e w' ⟨rfl, rfl⟩
            go_wp2_with fail
            go_ret2
            rw [HF.out]
            exact ⟨rfl, HW3.out⟩
          | false =>
            have CR := Lib.hid fun w => isBnd_as hr w (by rw [ByteArray.size_extract]; omega)
            have HF := Lib.hid (HBR.out.trans (endR_no HQ.out hr))
            clear hr HQ HBR
            go_wp2_with fail
            refine (CR.out _).mono ?_
            rintro e w' ⟨rfl, rfl⟩
            go_wp2_with fail
            go_ret2
            rw [HF.out]
            exact ⟨rfl, HW3.out⟩
    · have d9 : (R.size : Int) < 9 := by omega
      have HF := Lib.hid (bndR_no (v := v) (fun h => by have := h.2; rw [← HRV.out, HFB.out, decide_eq_false h9] at this; cases this))
      clear hk h9
      go_wp2_with fail
      go_ret2
      rw [HF.out]
      exact ⟨rfl, HW.out⟩
end Go.Proofs.YtaepbpdcfmklpaaDoor
