/- Walk: wickref.Path. (Printed by gen_path.py.) -/
import Derived.Test.YthfolopnjmkllaaDoorClnH
namespace Go.Proofs.YthfolopnjmkllaaDoor
open Go.RowKit
set_option linter.unusedVariables false
set_option linter.unusedSimpArgs false

theorem wpL_copyS {w : World} {B n c : Nat} {A : Option Addr} {l : List ByteArray} {ops : Array Oper} {rest : List Oper} {o : Oper} {a : Act} {Q : Exit → Act → World → Prop} (hgd : o.guard = none) (x : Operand)
    (ho : o.op = .call { callee := .builtin .append, args := #[.const (.slice none 0 0), x], argTypes := #[66, 66] })
    (hr : Reads w w.heap.size 1 A n (l.map Value.string)) (hx : a.eval x = .slice A n c) (hl : l.length = n) (hlen : n ≤ 1000000000000) (hB : B ≤ w.heap.size)
    (hK : ∀ A' c' w', OS w' B (.slice A' n c') l → Below B w w' → wpList Tryd.prog ops Q rest (a.put o.dst (.slice A' n c')) w') :
    wpList Tryd.prog ops Q (o :: rest) a w := by
  obtain ⟨i0, hi0, hz0, hz1, hz2⟩ := info_parts infoStr
  refine wpList_append_any (P := Tryd.prog) w hgd (.const (.slice none 0 0)) x 66 ho B 9 i0 _ 1 16 Tryd.underlying66 hi0 hz0 hz1 hz2 rfl (by decide) (.slice none 0 0) 0 [] rfl (World.ownsRow_nil _ _ _ _)
    w.heap.size A n c (l.map Value.string) hx hr (by
      intro u hu
      obtain ⟨b, _, rfl⟩ := List.mem_map.1 hu
      rfl) (by unfold maxLen; omega) (by omega) hB fun v' w' h2 h3 h4 => ?_
  have h5 : OS w' B v' l := by
    unfold OS
    rw [hl, ← Nat.zero_add n]
    exact h2
  obtain ⟨A', c', rfl⟩ := h5.form
  rw [hl] at h5 ⊢
  exact hK A' c' w' h5 ((Below.refl _ _).grown h3 hB (fun g hg => by cases hg))

set_option maxRecDepth 100000 in
set_option maxHeartbeats 4000000 in
theorem Path_any (s : ByteArray) (w : World) (m : Int) (hs : s.size ≤ 1048576) (hm : w.cell? ⟨0, 0, none⟩ = some (.int .i64 m)) :
    Calls Tryd.prog 35 #[.string s] w fun e w' => e = .returned (.string (str (pathF s))) ∧ Below w.heap.size w w' := by
  obtain ⟨R, hR⟩ : ∃ R, Lib.hasPrefix s.data.toList [47] = R := ⟨_, rfl⟩
  obtain ⟨PS, hPS⟩ : ∃ PS, PS = pcs s sl47 := ⟨_, rfl⟩
  have hPl : PS.length ≤ 1048577 := by rw [hPS]; have := pcs_le (s := s) (t := sl47) (by decide); omega
  have hP0 : 0 < PS.length := by rw [hPS]; exact pcs_pos s sl47 (by decide)
  have HPM : Hid (∀ x ∈ PS, x.size ≤ 1048578) := by intro x hx; rw [hPS] at hx; have := pcs_mem sl47 (by decide) _ s (Nat.le_refl _) x hx; omega
  have HPF : Hid (pathF s = (if R then [47] else []) ++ (Lib.join (dl (leftK R PS PS.length)) [47] ++ if addSl (leftK R PS PS.length) PS then [47] else [])) := by show _ = _; rw [hPS, ← hR]; rfl
  have CP : Hid (Calls Tryd.prog 66 #[.string s, .string ⟨#[47]⟩] w fun e w' => ∃ v, e = .returned v ∧ OS w' w.heap.size v PS ∧ Below w.heap.size w w') := by rw [hPS]; exact pieces_any s sl47 w hs (by decide) (by decide)
  have CA : Hid (∀ W, Calls Tryd.prog 64 #[.string s, .int .i64 0, .string ⟨#[47]⟩] W fun e w' => e = .returned (.bool R) ∧ W = w') := fun W => (at_any s ⟨#[47]⟩ 0 W (by omega) (by decide) (by omega) (by omega)).mono fun _ _ hh => ⟨by rw [hh.1, ← hR]; congr 2, hh.2⟩
  clear hR hPS hm
  go_enter Tryd.func35, Tryd.ntmps35
  go_wp2_with fail
  refine CP.out.mono ?_
  rintro e w1 ⟨v, rfl, ho1, hb1⟩
  obtain ⟨A1, c1, rfl⟩ := OS.form ho1
  have HO1 := Lib.hid ho1
  have HB1 := Lib.hid hb1
  have hz1 : w.heap.size ≤ w1.heap.size := hb1.size
  clear ho1 hb1 CP
  obtain ⟨g, rfl, hg1, hg2, hgc, hcells⟩ := HO1.out.at_ hP0
  have HC1 := Lib.hid hcells
  clear hcells
  go_wp2_with fail
  refine (CA.out _).mono ?_
  rintro e w0 ⟨rfl, rfl⟩
  clear CA
  go_wp2_with fail
  go_loopw [5, 6] (fun v i wr => ∃ (k : Nat) (A : Option Addr) (c : Nat), k ≤ PS.length ∧ i = .int .i64 k ∧ v = .slice A (leftK R PS k).length c ∧ OS wr w1.heap.size (.slice A (leftK R PS k).length c) (leftK R PS k) ∧ Below w1.heap.size w1 wr) (fun _ i _ => PS.length - (intOf i).toNat)
  case atStart => exact ⟨0, none, 0, by omega, rfl, rfl, OS.nil _ _, Below.refl _ _⟩
  case round =>
    obtain ⟨k, A, c, hk, rfl, rfl, ho, hb⟩ := hrel
    have hDl := leftK_len R PS k
    have HDM := Lib.hid (leftK_mem (N := 1048578) (by omega) R PS HPM.out k)
    by_cases hlt : k < PS.length
    · have HST : Hid (leftK R PS (k + 1) = stepP R (leftK R PS k) (PS[k])) := by show _ = _; rw [leftK, List.getD, List.getElem?_eq_getElem hlt]; rfl
      obtain ⟨D, hD⟩ : ∃ D, D = leftK R PS k := ⟨_, rfl⟩
      rw [← hD] at ho hDl HST HDM ⊢
      clear hD
      obtain ⟨P, hP⟩ : ∃ P, P = PS[k] := ⟨_, rfl⟩
      rw [← hP] at HST
      have hcell : wr.cell? ⟨g, k, none⟩ = some (.string P) := by rw [hP, hb.cell (p := ⟨g, k, none⟩) hg2]; exact HC1.out k hlt
      have HO := Lib.hid ho
      have HB := Lib.hid hb
      have hsz : w1.heap.size ≤ wr.heap.size := hb.size
      have hgr : g < wr.heap.size := Nat.lt_of_lt_of_le hg2 hsz
      clear ho hb hP
      by_cases h0 : P.data.toList = []
      · have h1 : ¬ P.data.toList = [46] := by rw [h0]; decide
        have h2 : ¬ P.data.toList = [46, 46] := by rw [h0]; decide
        have hd : dotty P.data.toList = true := decide_eq_true (.inl h0)
        have z0 : P.toList.isEmpty = true := z_nil.trans (decide_eq_true h0)
        have z1 : (P.toList == [46]) = false := (z_one [46]).trans (decide_eq_false h1)
        have z2 : (P.toList == [46, 46]) = false := (z_one [46, 46]).trans (decide_eq_false h2)
        have z0' : P.toList = [] := by rw [Lib.toList_data]; exact h0
        have HK : Hid (leftK R PS (k + 1) = D) := by show _ = _; rw [HST.out]; unfold stepP; rw [if_pos hd]
        clear HST h0 h1 h2 hd
        go_wp2_with fail
        go_roundw
        case rel => exact ⟨k + 1, A, c, by omega, by go_num, by rw [HK.out], by rw [HK.out]; exact HO.out, HB.out⟩
        case measure => simp [intOf]; omega
      by_cases h1 : P.data.toList = [46]
      · have h2 : ¬ P.data.toList = [46, 46] := by rw [h1]; decide
        have hd : dotty P.data.toList = true := decide_eq_true (.inr h1)
        have z0 : P.toList.isEmpty = false := z_nil.trans (decide_eq_false h0)
        have z1 : (P.toList == [46]) = true := (z_one [46]).trans (decide_eq_true h1)
        have z2 : (P.toList == [46, 46]) = false := (z_one [46, 46]).trans (decide_eq_false h2)
        have z0' : ¬ P.toList = [] := by rw [Lib.toList_data]; exact h0
        have HK : Hid (leftK R PS (k + 1) = D) := by show _ = _; rw [HST.out]; unfold stepP; rw [if_pos hd]
        clear HST h0 h1 h2 hd
        go_wp2_with fail
        go_roundw
        case rel => exact ⟨k + 1, A, c, by omega, by go_num, by rw [HK.out], by rw [HK.out]; exact HO.out, HB.out⟩
        case measure => simp [intOf]; omega
      have hd : ¬ dotty P.data.toList = true := by unfold dotty; rw [decide_eq_true_eq]; rintro (h | h); exact h0 h; exact h1 h
      by_cases h2 : P.data.toList = [46, 46]
      · have z0 : P.toList.isEmpty = false := z_nil.trans (decide_eq_false h0)
        have z1 : (P.toList == [46]) = false := (z_one [46]).trans (decide_eq_false h1)
        have z2 : (P.toList == [46, 46]) = true := (z_one [46, 46]).trans (decide_eq_true h2)
        have z0' : ¬ P.toList = [] := by rw [Lib.toList_data]; exact h0
        by_cases hD0 : 0 < D.length
        · obtain ⟨gD, rfl, hgD1, hgD2, hgDc, hcD⟩ := HO.out.at_ hD0
          obtain ⟨X, hX⟩ : ∃ X, X = D[D.length - 1]'(by omega) := ⟨_, rfl⟩
          have hcX : wr.cell? ⟨gD, D.length - 1, none⟩ = some (.string X) := by rw [hX]; exact hcD _ (by omega)
          have hgX : D.getD (D.length - 1) sl47 = X := by rw [hX, List.getD, List.getElem?_eq_getElem (by omega)]; rfl
          have t1 : ((D.length : Int) - 1).toNat = D.length - 1 := by omega
          have t2 : (0 : Int) ≤ (D.length : Int) - 1 := by omega
          have t3 : (D.length : Int) - 1 < (D.length : Int) := by omega
          have t4 : IntKind.i64.wrap ((D.length : Int) - 1) = (D.length : Int) - 1 := IntWalk.i64_in _ (by omega)
          have t5 : (D.length : Int) - 1 ≤ (c : Int) := by omega
          clear hcD hX
          by_cases hXd : X.data.toList = [46, 46]
          · have x2 : (X.toList == [46, 46]) = true := (z_one [46, 46]).trans (decide_eq_true hXd)
            have x2' : (X.toList != [46, 46]) = false := by rw [bne, x2]; rfl
            have hcond : ¬ (0 < D.length ∧ (D.getD (D.length - 1) sl47).data.toList ≠ [46, 46]) := by rw [hgX]; exact fun h => h.2 hXd
            cases R with
            | true =>
              have HK : Hid (leftK true PS (k + 1) = D) := by show _ = _; rw [HST.out]; unfold stepP; rw [if_neg hd, if_pos h2, if_neg hcond]; rfl
              clear HST h0 h1 h2 hd hcond hgX hXd
              go_wp2_with fail
              go_roundw
              case rel => exact ⟨k + 1, some ⟨gD, 0, none⟩, c, by omega, by go_num, by rw [HK.out], by rw [HK.out]; exact HO.out, HB.out⟩
              case measure => simp [intOf]; omega
            | false =>
              have HPE : Hid ((⟨#[46, 46]⟩ : ByteArray) = ⟨#[46, 46]⟩) := rfl
              have HK : Hid (leftK false PS (k + 1) = D ++ [⟨#[46, 46]⟩]) := by show _ = _; rw [HST.out]; unfold stepP; rw [if_neg hd, if_pos h2, if_neg hcond]; rfl
              clear HST h0 h1 h2 hd hcond hgX hXd
              go_wp2_with (at_builtin; refine wpL_appS rfl (.tmp 67) (.tmp 68) rfl HO.out rfl ⟨#[46, 46]⟩ rfl (by omega) hsz ?_; intro v' w2 ho2 hg2 hb2; obtain ⟨A2, c2, rfl⟩ := OS.form ho2; have HO2 := Lib.hid ho2; have HB2 := Lib.hid hb2; clear ho2 hg2 hb2)
              rw [← HPE.out] at HK
              go_roundw
              case rel => exact ⟨k + 1, A2, c2, by omega, by go_num, by rw [HK.out, List.length_append]; rfl, by rw [HK.out]; exact HO2.out, HB.out.trans HB2.out⟩
              case measure => simp [intOf]; omega
          · have x2 : (X.toList == [46, 46]) = false := (z_one [46, 46]).trans (decide_eq_false hXd)
            have x2' : (X.toList != [46, 46]) = true := by rw [bne, x2]; rfl
            have hcond : 0 < D.length ∧ (D.getD (D.length - 1) sl47).data.toList ≠ [46, 46] := by rw [hgX]; exact ⟨hD0, hXd⟩
            have HK : Hid (leftK R PS (k + 1) = D.take (D.length - 1)) := by show _ = _; rw [HST.out]; unfold stepP; rw [if_neg hd, if_pos h2, if_pos hcond]
            have HCut := Lib.hid (HO.out.cut (n := D.length - 1) (by omega) hD0)
            have HTL : Hid ((D.take (D.length - 1)).length = D.length - 1) := by show _ = _; rw [List.length_take]; omega
            clear HST h0 h1 h2 hd hcond hgX hXd
            have HRd : Hid (Reads wr wr.heap.size 1 (some ⟨gD, 0, none⟩) (D.length - 1) ((D.take (D.length - 1)).map Value.string)) := by
              have h := HCut.out
              unfold OS at h
              rw [HTL.out] at h
              exact Reads.of_own h
            go_wp2_with (at_builtin; refine wpL_copyS rfl (.tmp 62) rfl HRd.out (by rfl) HTL.out (by omega) hsz ?_; intro A2 c2 w2 ho2 hb2; have HO2 := Lib.hid ho2; have HB2 := Lib.hid hb2; clear ho2 hb2)
            go_roundw
            case rel => exact ⟨k + 1, A2, c2, by omega, by go_num, by rw [HK.out, HTL.out], by rw [HK.out, HTL.out]; exact HO2.out, HB.out.trans HB2.out⟩
            case measure => simp [intOf]; omega
        · have hcond : ¬ (0 < D.length ∧ (D.getD (D.length - 1) sl47).data.toList ≠ [46, 46]) := fun h => hD0 h.1
          have hD1 : D.length ≤ 0 := by omega
          cases R with
          | true =>
            have HK : Hid (leftK true PS (k + 1) = D) := by show _ = _; rw [HST.out]; unfold stepP; rw [if_neg hd, if_pos h2, if_neg hcond]; rfl
            clear HST h0 h1 h2 hd hcond hD0
            go_wp2_with fail
            go_roundw
            case rel => exact ⟨k + 1, A, c, by omega, by go_num, by rw [HK.out], by rw [HK.out]; exact HO.out, HB.out⟩
            case measure => simp [intOf]; omega
          | false =>
            have HPE : Hid ((⟨#[46, 46]⟩ : ByteArray) = ⟨#[46, 46]⟩) := rfl
            have HK : Hid (leftK false PS (k + 1) = D ++ [⟨#[46, 46]⟩]) := by show _ = _; rw [HST.out]; unfold stepP; rw [if_neg hd, if_pos h2, if_neg hcond]; rfl
            clear HST h0 h1 h2 hd hcond hD0
            go_wp2_with (at_builtin; refine wpL_appS rfl (.tmp 67) (.tmp 68) rfl HO.out rfl ⟨#[46, 46]⟩ rfl (by omega) hsz ?_; intro v' w2 ho2 hg2 hb2; obtain ⟨A2, c2, rfl⟩ := OS.form ho2; have HO2 := Lib.hid ho2; have HB2 := Lib.hid hb2; clear ho2 hg2 hb2)
            rw [← HPE.out] at HK
            go_roundw
            case rel => exact ⟨k + 1, A2, c2, by omega, by go_num, by rw [HK.out, List.length_append]; rfl, by rw [HK.out]; exact HO2.out, HB.out.trans HB2.out⟩
            case measure => simp [intOf]; omega
      · have z0 : P.toList.isEmpty = false := z_nil.trans (decide_eq_false h0)
        have z1 : (P.toList == [46]) = false := (z_one [46]).trans (decide_eq_false h1)
        have z2 : (P.toList == [46, 46]) = false := (z_one [46, 46]).trans (decide_eq_false h2)
        have z0' : ¬ P.toList = [] := by rw [Lib.toList_data]; exact h0
        have HPE : Hid (P = P) := rfl
        have HK : Hid (leftK R PS (k + 1) = D ++ [P]) := by show _ = _; rw [HST.out]; unfold stepP; rw [if_neg hd, if_neg h2]
        clear HST h0 h1 h2 hd
        go_wp2_with (at_builtin; refine wpL_appS rfl (.tmp 41) (.tmp 46) rfl HO.out rfl P rfl (by omega) hsz ?_; intro v' w2 ho2 hg2 hb2; obtain ⟨A2, c2, rfl⟩ := OS.form ho2; have HO2 := Lib.hid ho2; have HB2 := Lib.hid hb2; clear ho2 hg2 hb2)
        rw [← HPE.out] at HK
        go_roundw
        case rel => exact ⟨k + 1, A2, c2, by omega, by go_num, by rw [HK.out, List.length_append]; rfl, by rw [HK.out]; exact HO2.out, HB.out.trans HB2.out⟩
        case measure => simp [intOf]; omega
    · obtain rfl : k = PS.length := by omega
      obtain ⟨D, hD⟩ : ∃ D, D = leftK R PS PS.length := ⟨_, rfl⟩
      rw [← hD] at ho hDl HDM HPF ⊢
      clear hD
      have hJl := join_le (xs := D) (by omega) HDM.out [47] rfl
      obtain ⟨J, hJ⟩ : ∃ J, J = Lib.join (dl D) [47] := ⟨_, rfl⟩
      rw [← hJ] at hJl HPF
      have HJ := Lib.hid hJ
      obtain ⟨X, hX⟩ : ∃ X, X = PS[PS.length - 1]'(by omega) := ⟨_, rfl⟩
      have hgX : lastOf PS = X := by unfold lastOf; rw [hX, List.getD, List.getElem?_eq_getElem (by omega)]; rfl
      have hcX : wr.cell? ⟨g, PS.length - 1, none⟩ = some (.string X) := by rw [hX, hb.cell (p := ⟨g, PS.length - 1, none⟩) hg2]; exact HC1.out _ (by omega)
      have hsJ : (str J).size ≤ 140737488355000 := by rw [size_str]; exact hJl
      have HO := Lib.hid ho
      have HB : Hid (Below w.heap.size w wr) := HB1.out.trans (hb.mono hz1)
      have hgr : g < wr.heap.size := Nat.lt_of_lt_of_le hg2 hb.size
      clear ho hb hX hJ HC1 HO1 HPM HDM
      have CJ : Hid (Calls Tryd.prog 67 #[.slice A D.length c, .string ⟨#[47]⟩] wr fun e w' => e = .returned (.string (str J)) ∧ wr = w') := by rw [HJ.out]; exact Joined_any A c D ⟨#[47]⟩ wr _ HO.out (by show (Lib.join (dl D) [47]).length ≤ _; rw [← HJ.out]; omega)
      go_wp2_with fail
      refine CJ.out.mono ?_
      rintro e w5 ⟨rfl, rfl⟩
      have HB5 : Hid (Below w.heap.size w wr) := HB.out
      clear CJ HB
      have t1 : ((PS.length : Int) - 1).toNat = PS.length - 1 := by omega
      have t2 : (0 : Int) ≤ (PS.length : Int) - 1 := by omega
      have t3 : (PS.length : Int) - 1 < (PS.length : Int) := by omega
      have t4 : IntKind.i64.wrap ((PS.length : Int) - 1) = (PS.length : Int) - 1 := IntWalk.i64_in _ (by omega)
      by_cases hD0 : 0 < D.length
      · by_cases hM : 1 < PS.length
        · by_cases k0 : X.data.toList = []
          · have k1 : ¬ X.data.toList = [46] := by rw [k0]; decide
            have k2 : ¬ X.data.toList = [46, 46] := by rw [k0]; decide
            have HADD : Hid (addSl D PS = true) := by show _ = _; unfold addSl; rw [hgX, decide_eq_true hD0, decide_eq_true hM, k0]; rfl
            have z0 : X.toList.isEmpty = true := z_nil.trans (decide_eq_true k0)
            have z1 : (X.toList == [46]) = false := (z_one [46]).trans (decide_eq_false k1)
            have z2 : (X.toList == [46, 46]) = false := (z_one [46, 46]).trans (decide_eq_false k2)
            have z0' : X.toList = [] := by rw [Lib.toList_data]; exact k0
            clear k0 k1 k2 hgX
            cases R with
            | true =>
              have HF : Hid (pathF s = [47] ++ (J ++ [47])) := by show _ = _; rw [HPF.out, HADD.out]; simp
              clear HPF HADD
              go_wp2_with fail
              go_ret
              exact ⟨ret_str (by rw [HF.out]; apply lst_inj; simp [lst_app]), HB5.out⟩
            | false =>
              have HF : Hid (pathF s = (J ++ [47])) := by show _ = _; rw [HPF.out, HADD.out]; simp
              clear HPF HADD
              go_wp2_with fail
              go_ret
              exact ⟨ret_str (by rw [HF.out]; apply lst_inj; simp [lst_app]), HB5.out⟩
          by_cases k1 : X.data.toList = [46]
          · have k2 : ¬ X.data.toList = [46, 46] := by rw [k1]; decide
            have HADD : Hid (addSl D PS = true) := by show _ = _; unfold addSl; rw [hgX, decide_eq_true hD0, decide_eq_true hM, k1]; rfl
            have z0 : X.toList.isEmpty = false := z_nil.trans (decide_eq_false k0)
            have z1 : (X.toList == [46]) = true := (z_one [46]).trans (decide_eq_true k1)
            have z2 : (X.toList == [46, 46]) = false := (z_one [46, 46]).trans (decide_eq_false k2)
            have z0' : ¬ X.toList = [] := by rw [Lib.toList_data]; exact k0
            clear k0 k1 k2 hgX
            cases R with
            | true =>
              have HF : Hid (pathF s = [47] ++ (J ++ [47])) := by show _ = _; rw [HPF.out, HADD.out]; simp
              clear HPF HADD
              go_wp2_with fail
              go_ret
              exact ⟨ret_str (by rw [HF.out]; apply lst_inj; simp [lst_app]), HB5.out⟩
            | false =>
              have HF : Hid (pathF s = (J ++ [47])) := by show _ = _; rw [HPF.out, HADD.out]; simp
              clear HPF HADD
              go_wp2_with fail
              go_ret
              exact ⟨ret_str (by rw [HF.out]; apply lst_inj; simp [lst_app]), HB5.out⟩
          by_cases k2 : X.data.toList = [46, 46]
          · have HADD : Hid (addSl D PS = true) := by show _ = _; unfold addSl; rw [hgX, decide_eq_true hD0, decide_eq_true hM, k2]; rfl
            have z0 : X.toList.isEmpty = false := z_nil.trans (decide_eq_false k0)
            have z1 : (X.toList == [46]) = false := (z_one [46]).trans (decide_eq_false k1)
            have z2 : (X.toList == [46, 46]) = true := (z_one [46, 46]).trans (decide_eq_true k2)
            have z0' : ¬ X.toList = [] := by rw [Lib.toList_data]; exact k0
            clear k0 k1 k2 hgX
            cases R with
            | true =>
              have HF : Hid (pathF s = [47] ++ (J ++ [47])) := by show _ = _; rw [HPF.out, HADD.out]; simp
              clear HPF HADD
              go_wp2_with fail
              go_ret
              exact ⟨ret_str (by rw [HF.out]; apply lst_inj; simp [lst_app]), HB5.out⟩
            | false =>
              have HF : Hid (pathF s = (J ++ [47])) := by show _ = _; rw [HPF.out, HADD.out]; simp
              clear HPF HADD
              go_wp2_with fail
              go_ret
              exact ⟨ret_str (by rw [HF.out]; apply lst_inj; simp [lst_app]), HB5.out⟩
          · have HADD : Hid (addSl D PS = false) := by show _ = _; unfold addSl; rw [hgX, decide_eq_false k2, show dotty X.data.toList = false from decide_eq_false (by rintro (h | h); exact k0 h; exact k1 h)]; simp
            have z0 : X.toList.isEmpty = false := z_nil.trans (decide_eq_false k0)
            have z1 : (X.toList == [46]) = false := (z_one [46]).trans (decide_eq_false k1)
            have z2 : (X.toList == [46, 46]) = false := (z_one [46, 46]).trans (decide_eq_false k2)
            have z0' : ¬ X.toList = [] := by rw [Lib.toList_data]; exact k0
            clear k0 k1 k2 hgX
            cases R with
            | true =>
              have HF : Hid (pathF s = [47] ++ (J)) := by show _ = _; rw [HPF.out, HADD.out]; simp
              clear HPF HADD
              go_wp2_with fail
              go_ret
              exact ⟨ret_str (by rw [HF.out]; apply lst_inj; simp [lst_app]), HB5.out⟩
            | false =>
              have HF : Hid (pathF s = (J)) := by show _ = _; rw [HPF.out, HADD.out]; simp
              clear HPF HADD
              go_wp2_with fail
              go_ret
              exact ⟨ret_str (by rw [HF.out]), HB5.out⟩
        · have HADD : Hid (addSl D PS = false) := by show _ = _; unfold addSl; rw [decide_eq_false hM]; simp
          clear hgX
          cases R with
          | true =>
            have HF : Hid (pathF s = [47] ++ (J)) := by show _ = _; rw [HPF.out, HADD.out]; simp
            clear HPF HADD
            go_wp2_with fail
            go_ret
            exact ⟨ret_str (by rw [HF.out]; apply lst_inj; simp [lst_app]), HB5.out⟩
          | false =>
            have HF : Hid (pathF s = (J)) := by show _ = _; rw [HPF.out, HADD.out]; simp
            clear HPF HADD
            go_wp2_with fail
            go_ret
            exact ⟨ret_str (by rw [HF.out]), HB5.out⟩
      · have HADD : Hid (addSl D PS = false) := by show _ = _; unfold addSl; rw [decide_eq_false hD0]; rfl
        have hD1 : D.length ≤ 0 := by omega
        clear hgX
        cases R with
        | true =>
          have HF : Hid (pathF s = [47] ++ (J)) := by show _ = _; rw [HPF.out, HADD.out]; simp
          clear HPF HADD
          go_wp2_with fail
          go_ret
          exact ⟨ret_str (by rw [HF.out]; apply lst_inj; simp [lst_app]), HB5.out⟩
        | false =>
          have HF : Hid (pathF s = (J)) := by show _ = _; rw [HPF.out, HADD.out]; simp
          clear HPF HADD
          go_wp2_with fail
          go_ret
          exact ⟨ret_str (by rw [HF.out]), HB5.out⟩

end Go.Proofs.YthfolopnjmkllaaDoor
