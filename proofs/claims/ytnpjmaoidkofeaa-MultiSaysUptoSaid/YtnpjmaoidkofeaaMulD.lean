/- Walk: wickref.Multi. -/
import Derived.Test.YtnpjmaoidkofeaaMulC
namespace Go.Proofs.Ytnpjmaoidkofeaa
open Go.RowKit
set_option linter.unusedVariables false
set_option linter.unusedSimpArgs false

theorem rpart_eq (b : ByteArray) (f : Fd) : ({ data := #[45, 45] } ++ b ++ { data := #[13, 10] } ++ { data := #[67, 111, 110, 116, 101, 110, 116, 45, 68, 105, 115, 112, 111, 115, 105, 116, 105, 111, 110, 58, 32, 102, 111, 114, 109, 45, 100, 97, 116, 97, 59, 32, 110, 97, 109, 101, 61, 34] } ++ f.n ++ { data := #[34] } ++ { data := #[13, 10] } ++ { data := #[13, 10] } ++ f.v ++ { data := #[13, 10] } : ByteArray).data.toList = partT b f := by
  unfold partT
  simp only [lst_app, List.append_assoc]; rfl
section
variable (b : ByteArray) (fs : List Fd) (A : Option Addr) (cap B : Nat) (w : World)
theorem rm_arg (hs : b.size ≤ 1048576) (h : bndL b = false) : Calls Try.prog 9 #[.slice A fs.length cap, .string b] w (JoinRes b fs w) := by
  have C := Lib.hid (isBnd_eq h w hs)
  have HJ := Lib.hid (join_arg (l := fs) h)
  clear h
  go_enter Try.func9, Try.ntmps9
  go_wp2_with fail
  refine C.out.mono ?_
  rintro e w' ⟨rfl, rfl⟩
  go_wp2_with fail
  go_ret2
  refine ⟨?_, Below.refl _ _⟩
  rw [HJ.out.1, HJ.out.2]; rfl
theorem rm_large (hs : b.size ≤ 1048576) (h : bndL b = true) (hl : 20 < fs.length) : Calls Try.prog 9 #[.slice A fs.length cap, .string b] w (JoinRes b fs w) := by
  have C := Lib.hid (isBnd_eq h w hs)
  have HJ := Lib.hid (join_large (l := fs) h hl)
  have d1 : (20 : Int) < (fs.length : Int) := by omega
  clear h
  go_enter Try.func9, Try.ntmps9
  go_wp2_with fail
  refine C.out.mono ?_
  rintro e w' ⟨rfl, rfl⟩
  go_wp2_with fail
  go_ret2
  refine ⟨?_, Below.refl _ _⟩
  rw [HJ.out.1, HJ.out.2]; rfl
set_option maxRecDepth 100000 in
set_option maxHeartbeats 4000000 in
theorem rm_rest (hs : b.size ≤ 1048576) (h : bndL b = true) (hl : ¬ 20 < fs.length) (hf : FdR w B A cap fs) (hB : B ≤ w.heap.size) : Calls Try.prog 9 #[.slice A fs.length cap, .string b] w (JoinRes b fs w) := by
  have C := Lib.hid (isBnd_eq h w hs)
  have HJ := Lib.hid fun (k : Nat) (hk : k < fs.length) (h3 : badP b fs[k] = true) => join_bad h hl hk h3
  have HJ0 := Lib.hid (join_ok (l := fs) h hl)
  have hbz := (bnd_size h).2
  have HPL := Lib.hid (partsT_len (fs := fs) hbz hf.2.2.2)
  have d1 : ¬ (20 : Int) < (fs.length : Int) := by omega
  have HF1 := Lib.hid fun w' (hb : Below w.heap.size w w') => hf.below (hb.mono hB)
  obtain ⟨hcp1, hcp2⟩ : fs.length ≤ cap ∧ cap ≤ 9223372036854775807 := ⟨hf.2.1, hf.2.2.1⟩
  clear h hf
  go_enter Try.func9, Try.ntmps9
  go_wp2_with fail
  refine C.out.mono ?_
  rintro e w' ⟨rfl, rfl⟩
  go_wp2_with fail
  go_loopw [6, 7, 8] (fun v i _ wr => ∃ k : Nat, k ≤ fs.length ∧ i = .int .i64 k ∧ v = .string (str (partsT b (fs.take k))) ∧ Below w.heap.size w wr ∧ Hid (∀ j (hj : j < fs.length), j < k → badP b fs[j] = false)) (fun _ i _ _ => fs.length - (intOf i).toNat)
  case atStart => exact ⟨0, by omega, rfl, rfl, Below.refl _ _, Lib.hid fun j hj h => absurd h (by omega)⟩
  case round =>
    obtain ⟨k, hk, rfl, rfl, hb, HN⟩ := hrel
    have HB := Lib.hid hb
    have hlen := HPL.out k hk
    by_cases hlt : k < fs.length
    · obtain ⟨ad, rfl, hab, x0, x1, z0, z1⟩ := pr_cells (HF1.out wr hb) hlt
      have hJ := HJ.out k hlt
      have hP : ∀ (b0 : Bool), badP b fs[k] = b0 → b0 = false → Hid (∀ j (hj : j < fs.length), j < k + 1 → badP b fs[j] = false) := fun b0 h1 h2 j hj h3 => by
        by_cases e : j = k
        · subst e; rw [h1, h2]
        · exact HN.out j hj (by omega)
      have HP := Lib.hid hP
      obtain ⟨L, hL⟩ : ∃ L, L = partsT b (fs.take k) := ⟨_, rfl⟩
      have hN : partsT b (fs.take (k + 1)) = L ++ partT b fs[k] := by rw [hL, partsT_snoc hlt]
      rw [← hL] at hlen ⊢
      have HN2 := Lib.hid hN
      have hl20 : L.length ≤ 42000000 := by omega
      clear hL hN hb hP hlen
      obtain ⟨f, hfe⟩ : ∃ f, f = fs[k] := ⟨_, rfl⟩
      rw [← hfe] at x0 x1 z0 z1 HN2 hJ HP
      have HJ1 := Lib.hid hJ
      obtain ⟨S, hS⟩ : ∃ S, S = str L := ⟨_, rfl⟩
      have hSz : S.size ≤ 42000000 := by rw [hS, size_str]; exact hl20
      rw [← hS]
      have HSS := Lib.hid hS
      clear hfe hJ hS
      have e3 : ({ data := #[13, 10] } ++ f.v : ByteArray).data.toList = [13, 10] ++ f.v.data.toList := lst_app _ _
      have e4 : ({ data := #[13, 10, 45, 45] } ++ b : ByteArray).data.toList = [13, 10, 45, 45] ++ b.data.toList := lst_app _ _
      have C4 := fun w => has_any ({ data := #[13, 10] } ++ f.v) ({ data := #[13, 10, 45, 45] } ++ b) w (by rw [← lst_len, e3, List.length_append, lst_len]; show 2 + _ ≤ _; omega) (by rw [← lst_len, e4, List.length_append, lst_len]; show 4 + _ ≤ _; omega)
      rw [e3, e4] at C4
      have C1 := fun w => has1_any f.n 34 w (by omega)
      have C2 := fun w => has1_any f.n 13 w (by omega)
      have C3 := fun w => has1_any f.n 10 w (by omega)
      obtain ⟨a1, h1⟩ : ∃ a, a = decide (0 ≤ Lib.indexByte f.n.data.toList 34) := ⟨_, rfl⟩
      obtain ⟨a2, h2⟩ : ∃ a, a = decide (0 ≤ Lib.indexByte f.n.data.toList 13) := ⟨_, rfl⟩
      obtain ⟨a3, h3⟩ : ∃ a, a = decide (0 ≤ Lib.indexByte f.n.data.toList 10) := ⟨_, rfl⟩
      obtain ⟨a4, h4⟩ : ∃ a, a = inV b f := ⟨_, rfl⟩
      have hbad : badP b f = (a1 || a2 || a3 || a4) := by unfold badP; rw [hasQ_three, h1, h2, h3, h4]
      rw [show Lib.contains ([13, 10] ++ f.v.data.toList) ([13, 10, 45, 45] ++ b.data.toList) = a4 from h4.symm] at C4
      rw [← h1] at C1
      rw [← h2] at C2
      rw [← h3] at C3
      have C1 := Lib.hid C1
      have C2 := Lib.hid C2
      have C3 := Lib.hid C3
      have C4 := Lib.hid C4
      have HBD := Lib.hid hbad
      clear h1 h2 h3 h4 e3 e4 hbad
      cases a1 with
      | true =>
        have HF := Lib.hid (HJ1.out (by rw [HBD.out]; rfl))
        go_wp2_with fail
        refine (C1.out _).mono ?_
        rintro e w3 ⟨rfl, rfl⟩
        go_wp2_with fail
        go_ret2
        refine ⟨?_, HB.out⟩
        rw [HF.out.1, HF.out.2]; rfl
      | false =>
        cases a2 with
        | true =>
          have HF := Lib.hid (HJ1.out (by rw [HBD.out]; rfl))
          go_wp2_with fail
          refine (C1.out _).mono ?_
          rintro e w3 ⟨rfl, rfl⟩
          go_wp2_with fail
          refine (C2.out _).mono ?_
          rintro e w4 ⟨rfl, rfl⟩
          go_wp2_with fail
          go_ret2
          refine ⟨?_, HB.out⟩
          rw [HF.out.1, HF.out.2]; rfl
        | false =>
          cases a3 with
          | true =>
            have HF := Lib.hid (HJ1.out (by rw [HBD.out]; rfl))
            go_wp2_with fail
            refine (C1.out _).mono ?_
            rintro e w3 ⟨rfl, rfl⟩
            go_wp2_with fail
            refine (C2.out _).mono ?_
            rintro e w4 ⟨rfl, rfl⟩
            go_wp2_with fail
            refine (C3.out _).mono ?_
            rintro e w5 ⟨rfl, rfl⟩
            go_wp2_with fail
            go_ret2
            refine ⟨?_, HB.out⟩
            rw [HF.out.1, HF.out.2]; rfl
          | false =>
            cases a4 with
            | true =>
              have HF := Lib.hid (HJ1.out (by rw [HBD.out]; rfl))
              go_wp2_with fail
              refine (C1.out _).mono ?_
              rintro e w3 ⟨rfl, rfl⟩
              go_wp2_with fail
              refine (C2.out _).mono ?_
              rintro e w4 ⟨rfl, rfl⟩
              go_wp2_with fail
              refine (C3.out _).mono ?_
              rintro e w5 ⟨rfl, rfl⟩
              go_wp2_with fail
              refine (C4.out _).mono ?_
              rintro e w6 ⟨rfl, rfl⟩
              go_wp2_with fail
              go_ret2
              refine ⟨?_, HB.out⟩
              rw [HF.out.1, HF.out.2]; rfl
            | false =>
              go_wp2_with fail
              refine (C1.out _).mono ?_
              rintro e w3 ⟨rfl, rfl⟩
              go_wp2_with fail
              refine (C2.out _).mono ?_
              rintro e w4 ⟨rfl, rfl⟩
              go_wp2_with fail
              refine (C3.out _).mono ?_
              rintro e w5 ⟨rfl, rfl⟩
              go_wp2_with fail
              refine (C4.out _).mono ?_
              rintro e w6 ⟨rfl, rfl⟩
              go_wp2_with fail
              go_roundw
              case rel => exact ⟨k + 1, by omega, by go_num, by rw [HN2.out, HSS.out, ← rpart_eq]; exact ret_s (lst_inj (by rw [lst_app, lst_mk, lst_mk])), HB.out, HP.out _ HBD.out rfl⟩
              case measure => simp [intOf]; omega
    · obtain rfl : k = fs.length := by omega
      have HF := Lib.hid (HJ0.out fun j hj => HN.out j hj hj)
      obtain ⟨S, hS⟩ : ∃ S, S = str (partsT b fs) := ⟨_, rfl⟩
      rw [List.take_length] at hlen ⊢
      have zz : S.size ≤ 42000000 := by rw [hS, size_str]; omega
      rw [← hS]
      have HSS := Lib.hid hS
      clear hS hb hlen
      go_wp2_with fail
      go_ret2
      refine ⟨?_, HB.out⟩
      rw [HF.out.1, HF.out.2, HSS.out]
      have : str (partsT b fs) ++ { data := #[45, 45] } ++ b ++ { data := #[45, 45] } ++ { data := #[13, 10] } = str (partsT b fs ++ endT b) := by
        apply lst_inj
        simp only [lst_app, lst_mk]
        unfold endT
        simp only [List.append_assoc]; rfl
      rw [← this]; rfl
theorem rmulti_any (hs : b.size ≤ 1048576) (hf : FdR w B A cap fs) (hB : B ≤ w.heap.size) : Calls Try.prog 9 #[.slice A fs.length cap, .string b] w (JoinRes b fs w) := by
  cases h : bndL b with
  | false => exact rm_arg b fs A cap w hs h
  | true =>
    by_cases hl : 20 < fs.length
    · exact rm_large b fs A cap w hs h hl
    · exact rm_rest b fs A cap B w hs h hl hf hB
end
end Go.Proofs.Ytnpjmaoidkofeaa
