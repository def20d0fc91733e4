/- Walk: wickref.Chunks. -/
import Derived.Test.YtkcncgdgicffhaaDoorGag
import Derived.Test.YtkcncgdgicffhaaDoorGai
import Derived.Deep.Cut
import Derived.Deep.CutRange
import Derived.Deep.CutBlock
namespace Go.Proofs.YtkcncgdgicffhaaDoor
open Go.RowKit
set_option linter.unusedVariables false
set_option linter.unusedSimpArgs false

theorem chkF_as {l : List UInt8} {most : Int} {f a : Nat} {out : List UInt8} {R : List UInt8 × Nat × Int} (h : chkF l most f a out = R) (hf : l.length < f + a) (ha : a ≤ l.length) : ∃ f', f = f' + 1 := ⟨f - 1, by omega⟩
/-- what both sides return -/
def ChkRes (R : List UInt8 × Nat × Int) (e : Ending) : Prop := e = .returned (.tuple #[.string (str R.1), .int .i64 R.2.1, .int .i64 R.2.2])
section
variable (s : ByteArray) (most : Int) (w : World)
set_option maxRecDepth 100000 in
set_option maxHeartbeats 4000000 in
theorem rchunks_any (hs : s.size ≤ 1048576) (hm : -9223372036854775808 ≤ most ∧ most ≤ 9223372036854775807) :
    Calls Tryd.prog 12 #[.string s, .int .i64 most] w fun x w' => ChkRes (chkR s.data.toList most) x ∧ ∃ q, w' = w.drewN q := by
  obtain ⟨R, hR⟩ : ∃ R, R = chkR s.data.toList most := ⟨_, rfl⟩
  rw [← hR]
  have H0 : Hid (chkF s.data.toList most (s.size + 1) 0 [] = R) := by show _ = _; rw [hR]; unfold chkR; rw [lst_len]
  obtain ⟨hm1, hm2⟩ := hm
  clear hR
  go_enter Tryd.func12, Tryd.ntmps12
  go_wp2_with fail
  go_loopw [7, 8] (fun o u wr => ∃ (out : List UInt8) (a f : Nat), o = .string (str out) ∧ u = .int .i64 (a : Int) ∧ a ≤ s.size ∧ out.length ≤ a ∧ (out.length : Int) ≤ max most 0 ∧ s.size < f + a ∧ Hid (chkF s.data.toList most f a out = R) ∧ ∃ q, wr = w.drewN q) (fun _ u _ => s.size + 1 - (intOf u).toNat)
  case atStart => exact ⟨[], 0, s.size + 1, rfl, rfl, by omega, by simp, by simp; omega, by omega, H0, 0, rfl⟩
  case round =>
    obtain ⟨out, a, f, rfl, rfl, ha, hoa, hom, hf, HC, HQ0⟩ := hrel
    have HQ := Lib.hid HQ0
    obtain ⟨f, rfl⟩ : ∃ f', f = f' + 1 := ⟨f - 1, by omega⟩
    have HO0 : Hid (∀ e n b, stepC s.data.toList most a out.length = (e, n, b) → ¬ e = 0 → R = ([], 0, e)) := fun e n b h he => HC.out.symm.trans (chkF_bad h he)
    have HO1 : Hid (∀ b, stepC s.data.toList most a out.length = (0, 0, b) → R = (out, b, 0)) := fun b h => HC.out.symm.trans (chkF_done h)
    have HO2 : Hid (∀ n b, stepC s.data.toList most a out.length = (0, n, b) → 0 < n → chkF s.data.toList most f b (out ++ (s.data.toList.drop (b - 2 - n)).take n) = R) := fun n b h hn => (chkF_step h hn).symm.trans HC.out
    obtain ⟨o, hoo⟩ : ∃ o, o = str out := ⟨_, rfl⟩
    have hoz : o.size = out.length := by rw [hoo, size_str]
    rw [← hoo]
    have HOO := Lib.hid hoo
    have hoz1 : o.size ≤ out.length := by omega
    have hoz2 : out.length ≤ o.size := by omega
    clear HQ0 HC hoo hoz
    go_upto_block 2 with fail
    go_cut [9] from 14 to 102 (fun u wx => ∃ k : Nat, u = .int .i64 (k : Int) ∧ k ≤ 7 ∧ a + k ≤ s.size ∧ Hid (runN (s.data.toList.drop a) = k) ∧ Hid (∃ q, wx = w.drewN q))
    case first =>
      go_wp2_with fail
      obtain ⟨wm, rfl⟩ : ∃ wm : World, wm = wr := ⟨_, rfl⟩
      go_loopw [9] (fun u wr => ∃ k : Nat, u = .int .i64 (k : Int) ∧ k ≤ 7 ∧ a + k ≤ s.size ∧ Hid (digs 16 ((s.data.toList.drop a).take k) = true) ∧ wr = wm) (fun u _ => 7 - (intOf u).toNat)
      case atStart => exact ⟨0, rfl, by omega, by omega, rfl, rfl⟩
      case round =>
        obtain ⟨k, rfl, hk7, hak, hd, rfl⟩ := hrel
        have jA : IntKind.i64.wrap ((a : Int) + (k : Int)) = (a : Int) + (k : Int) := IntWalk.i64_in _ (by omega)
        have j2 : ((a : Int) + (k : Int)).toNat = a + k := by omega
        have i0 : (0 : Int) ≤ (a : Int) + (k : Int) := by omega
        by_cases h7 : k = 7
        · have HX : Hid (runN (s.data.toList.drop a) = k) := Lib.hid (run_eq (by omega) (by omega) hd.out (.inl h7))
          have d1 : decide ((k : Int) < 7) = false := decide_eq_false (by omega)
          have d1' : decide (k < 7) = false := decide_eq_false (by omega)
          clear h7
          go_wp2_with fail
          go_meet
          case rel => exact ⟨k, rfl, hk7, hak, HX, HQ⟩
        · have d1 : (k : Int) < 7 := by omega
          by_cases hlt : a + k < s.size
          · have d2 : (a : Int) + (k : Int) < (s.size : Int) := by omega
            obtain ⟨c1, c2⟩ := byte_lt s[a + k]
            have CD := fun w' => value_any (s[a + k].toNat : Int) c1 c2 w'
            obtain ⟨X, hX⟩ : ∃ X, X = hexv (s[a + k].toNat : Int) := ⟨_, rfl⟩
            rw [← hX] at CD
            have CD := Lib.hid CD
            have HXX := Lib.hid hX
            clear hX
            by_cases hdig : 0 ≤ X
            · have hdd : Hid (digs 16 ((s.data.toList.drop a).take (k + 1)) = true) := by
                show _ = _
                have h1 := digs_all.1 hd.out
                rw [digs_all]
                intro x hx
                rw [List.take_succ_eq_append_getElem (by rw [List.length_drop, lst_len]; omega), List.mem_append, List.mem_singleton] at hx
                rcases hx with hx | rfl
                · exact h1 x hx
                · rw [List.getElem_drop, lst_get s _ hlt]; unfold isHx; exact decide_eq_true (by rw [← HXX.out]; exact hdig)
              have dg : decide (0 ≤ X) = true := decide_eq_true hdig
              go_wp2_with fail
              refine (CD.out _).mono ?_
              rintro e w1 ⟨rfl, rfl⟩
              go_wp2_with fail
              go_roundw
              case rel => exact ⟨k + 1, by go_num, by omega, by omega, hdd, (by first | rfl | trivial)⟩
              case measure => simp [intOf]; omega
            · have HX : Hid (runN (s.data.toList.drop a) = k) := Lib.hid (run_eq (by omega) (by omega) hd.out (.inr (.inr ⟨hlt, by rw [← HXX.out]; omega⟩)))
              have dg : decide (0 ≤ X) = false := decide_eq_false hdig
              go_wp2_with fail
              refine (CD.out _).mono ?_
              rintro e w1 ⟨rfl, rfl⟩
              go_wp2_with fail
              go_meet
              case rel => exact ⟨k, rfl, hk7, hak, HX, HQ⟩
          · have HX : Hid (runN (s.data.toList.drop a) = k) := Lib.hid (run_eq (by omega) (by omega) hd.out (.inr (.inl (by omega))))
            have d2 : decide ((a : Int) + (k : Int) < (s.size : Int)) = false := decide_eq_false (by omega)
            go_wp2_with fail
            go_meet
            case rel => exact ⟨k, rfl, hk7, hak, HX, HQ⟩
    case rest =>
      obtain ⟨k, rfl, hk7, hak, HX, HQc⟩ := hcut
      have jA : IntKind.i64.wrap ((a : Int) + (k : Int)) = (a : Int) + (k : Int) := IntWalk.i64_in _ (by omega)
      have j2 : ((a : Int) + (k : Int)).toNat = a + k := by omega
      have i0 : (0 : Int) ≤ (a : Int) := by omega
      have i1 : (a : Int) ≤ (a : Int) + (k : Int) := by omega
      have i2 : (a : Int) + (k : Int) ≤ (s.size : Int) := by omega
      by_cases hk0 : k = 0
      · subst hk0
        by_cases he : a = s.size
        · have HR := Lib.hid (HO0.out 7 0 0 (step_nodig HX.out 7 (by rw [if_pos (by omega)])) (by decide))
          have ee : ((a : Int) == (s.size : Int)) = true := by rw [he]; simp
          clear he
          go_wp2_with fail
          go_ret3
          exact ⟨by rw [HR.out]; rfl, HQc.out⟩
        · have HR := Lib.hid (HO0.out 4 0 0 (step_nodig HX.out 4 (by rw [if_neg (by omega)])) (by decide))
          have ee : ((a : Int) == (s.size : Int)) = false := by rw [beq_eq_false_iff_ne]; omega
          go_wp2_with fail
          go_ret3
          exact ⟨by rw [HR.out]; rfl, HQc.out⟩
      · have hk1 : 0 < k := by omega
        have ek : ((k : Int) == 0) = false := by rw [beq_eq_false_iff_ne]; omega
        have hn := chk_n (s.data.toList.drop a)
        rw [HX.out] at hn
        obtain ⟨n, hn0⟩ := Int.eq_ofNat_of_zero_le hn.1
        rw [hn0] at hn
        have hn1 : (n : Int) < 268435456 := hn.2
        have hnx := num_ext HX.out hk1 hak
        rw [hn0] at hnx
        have CN := fun w' => Number_any (s.extract a (a + k)) 16 7 w' (by rw [ByteArray.size_extract]; unfold maxLen; omega) (by omega) (by omega) (by omega) (by omega)
        rw [hnx.1, hnx.2] at CN
        have CN := Lib.hid CN
        obtain ⟨E1, hE1⟩ : ∃ E, E = nlE (s.data.toList.drop (a + k)) := ⟨_, rfl⟩
        have CL1 := fun w' => newline_any s (a + k) w' hak hs E1 hE1.symm
        rw [show ((a + k : Nat) : Int) = (a : Int) + (k : Int) by omega] at CL1
        have CL1 := Lib.hid CL1
        have HN0 := Lib.hid hn0
        have HE1 := Lib.hid hE1
        clear hn hnx hn0 hE1
        by_cases e1 : E1 = 0
        · have HB := Lib.hid fun (h2 : most.toNat < n + out.length) => HO0.out 6 0 0 (step_body HX.out hk1 (HE1.out.symm.trans e1) HN0.out h2) (by decide)
          have HM := Lib.hid fun (h2 : n + out.length ≤ most.toNat) (h3 : s.size < a + k + 2 + n) => HO0.out 7 0 0 (step_more HX.out hk1 (HE1.out.symm.trans e1) HN0.out h2 h3) (by decide)
          have HEn := Lib.hid fun (h2 : n + out.length ≤ most.toNat) (h3 : a + k + 2 + n ≤ s.size) (h4 : ¬ nlE (s.data.toList.drop (a + k + 2 + n)) = 0) => HO0.out _ 0 0 (step_end HX.out hk1 (HE1.out.symm.trans e1) HN0.out h2 h3 h4) h4
          have HOk := Lib.hid fun (h2 : n + out.length ≤ most.toNat) (h3 : a + k + 2 + n ≤ s.size) (h4 : nlE (s.data.toList.drop (a + k + 2 + n)) = 0) => step_ok (o := out.length) HX.out hk1 (HE1.out.symm.trans e1) HN0.out h2 h3 h4
          have hb2 : a + k + 2 ≤ s.size := nl_fit (HE1.out.symm.trans e1)
          obtain ⟨b, hb⟩ : ∃ b, b = a + k + 2 := ⟨_, rfl⟩
          rw [← hb] at HM HEn HOk hb2
          have hb3 : a + 2 < b := by omega
          have jk : IntKind.i64.wrap ((k : Int) + 2) = (k : Int) + 2 := IntWalk.i64_in _ (by omega)
          have jb : IntKind.i64.wrap ((a : Int) + ((k : Int) + 2)) = (b : Int) := by rw [IntWalk.i64_in _ (by omega)]; omega
          have jn : IntKind.i64.wrap ((n : Int) + (o.size : Int)) = (n : Int) + (o.size : Int) := IntWalk.i64_in _ (by omega)
          have js : IntKind.i64.wrap ((s.size : Int) - (b : Int)) = (s.size : Int) - (b : Int) := IntWalk.i64_in _ (by omega)
          clear hb HE1 HN0
          subst e1
          by_cases c1 : most.toNat < n + out.length
          · have HR := Lib.hid (HB.out c1)
            have dn : decide ((0 : Int) < (n : Int)) = true := decide_eq_true (by omega)
            have dn' : decide (0 < n) = true := decide_eq_true (by omega)
            have dm : decide (most < (n : Int) + (o.size : Int)) = true := decide_eq_true (by omega)
            go_wp2_with fail
            refine (CN.out _).mono ?_
            rintro e w1 ⟨rfl, rfl⟩
            go_wp2_with fail
            refine (CL1.out _).mono ?_
            rintro e w1 ⟨rfl, q1, hq1⟩
            have HQ1 : Hid (∃ q, w1 = w.drewN q) := by obtain ⟨q, hq⟩ := HQc.out; exact ⟨_, by rw [hq1, hq]; exact World.drewN_drewN _ _ _⟩
            clear hq1
            go_wp2_with fail
            go_ret3
            exact ⟨by rw [HR.out]; rfl, HQ1.out⟩
          · by_cases hz : n = 0
            · have dn : decide ((0 : Int) < (n : Int)) = false := decide_eq_false (by omega)
              have dn' : decide (0 < n) = false := decide_eq_false (by omega)
              have HZ := Lib.hid hz
              clear hz
              by_cases c2 : s.size < b + n
              · have HR := Lib.hid (HM.out (by omega) c2)
                have d2 : decide ((s.size : Int) - (b : Int) < (n : Int)) = true := decide_eq_true (by omega)
                go_wp2_with fail
                refine (CN.out _).mono ?_
                rintro e w1 ⟨rfl, rfl⟩
                go_wp2_with fail
                refine (CL1.out _).mono ?_
                rintro e w1 ⟨rfl, q1, hq1⟩
                have HQ1 : Hid (∃ q, w1 = w.drewN q) := by obtain ⟨q, hq⟩ := HQc.out; exact ⟨_, by rw [hq1, hq]; exact World.drewN_drewN _ _ _⟩
                clear hq1
                go_wp2_with fail
                go_ret3
                exact ⟨by rw [HR.out]; rfl, HQ1.out⟩
              · have d2 : decide ((s.size : Int) - (b : Int) < (n : Int)) = false := decide_eq_false (by omega)
                have hbn : b + n ≤ s.size := by omega
                have jm : IntKind.i64.wrap ((b : Int) + (n : Int)) = (b : Int) + (n : Int) := IntWalk.i64_in _ (by omega)
                have j5 : ((b : Int) + (n : Int)).toNat = b + n := by omega
                have i3 : (0 : Int) ≤ (b : Int) := by omega
                have i4 : (b : Int) ≤ (b : Int) + (n : Int) := by omega
                have i5 : (b : Int) + (n : Int) ≤ (s.size : Int) := by omega
                obtain ⟨E2, hE2⟩ : ∃ E, E = nlE (s.data.toList.drop (b + n)) := ⟨_, rfl⟩
                have CL2 := fun w' => newline_any s (b + n) w' hbn hs E2 hE2.symm
                rw [show ((b + n : Nat) : Int) = (b : Int) + (n : Int) by omega] at CL2
                have CL2 := Lib.hid CL2
                have HE2 := Lib.hid hE2
                clear hE2
                by_cases e2 : E2 = 0
                · have HSt := Lib.hid (HOk.out (by omega) hbn (HE2.out.symm.trans e2))
                  have hb4 : b + n + 2 ≤ s.size := nl_fit (HE2.out.symm.trans e2)
                  obtain ⟨o2, ho2⟩ : ∃ o2, o ++ s.extract b (b + n) = o2 := ⟨_, rfl⟩
                  have HO2' : Hid (o2 = str (out ++ (s.data.toList.drop (b + n + 2 - 2 - n)).take n)) := by
                    show _ = _
                    rw [← ho2, HOO.out]
                    apply lst_inj
                    rw [lst_app, lst_ext, lst_mk, lst_mk, List.drop_take]
                    congr 2 <;> first | omega | (congr 1; omega)
                  have hxz : (s.extract b (b + n)).size = n := by rw [ByteArray.size_extract]; omega
                  have hov : ¬ 9223372036854775807 < o.size + (s.extract b (b + n)).size := by rw [hxz]; omega
                  have jn2 : IntKind.i64.wrap ((n : Int) + 2) = (n : Int) + 2 := IntWalk.i64_in _ (by omega)
                  obtain ⟨c, hc⟩ : ∃ c, c = b + n + 2 := ⟨_, rfl⟩
                  have jc : IntKind.i64.wrap ((b : Int) + ((n : Int) + 2)) = (c : Int) := by rw [IntWalk.i64_in _ (by omega)]; omega
                  rw [← hc] at HSt HO2' hb4
                  have HCC := Lib.hid hc
                  have hac : a < c := by omega
                  clear hc
                  subst e2
                  have ez : ((n : Int) == 0) = true := by rw [beq_iff_eq, HZ.out]; rfl
                  have HR := Lib.hid (HO1.out c (by rw [HSt.out, HZ.out]))
                  have HO3 : Hid (o2 = str out) := by show _ = _; rw [HO2'.out, HZ.out]; simp
                  go_wp2_with fail
                  refine (CN.out _).mono ?_
                  rintro e w1 ⟨rfl, rfl⟩
                  go_wp2_with fail
                  refine (CL1.out _).mono ?_
                  rintro e w1 ⟨rfl, q1, hq1⟩
                  have HQ1 : Hid (∃ q, w1 = w.drewN q) := by obtain ⟨q, hq⟩ := HQc.out; exact ⟨_, by rw [hq1, hq]; exact World.drewN_drewN _ _ _⟩
                  clear hq1
                  go_wp2_with fail
                  refine (CL2.out _).mono ?_
                  rintro e w2 ⟨rfl, q2, hq2⟩
                  have HQ2 : Hid (∃ q, w2 = w.drewN q) := by obtain ⟨q, hq⟩ := HQ1.out; exact ⟨_, by rw [hq2, hq]; exact World.drewN_drewN _ _ _⟩
                  clear hq2
                  go_wp2_with fail
                  go_ret3
                  exact ⟨by rw [HR.out, HO3.out]; rfl, HQ2.out⟩
                · have HR := Lib.hid (HEn.out (by omega) hbn (by rw [← HE2.out]; exact e2))
                  rw [← HE2.out] at HR
                  have ee : (E2 != 0) = true := bne_iff_ne.2 e2
                  clear e2
                  go_wp2_with fail
                  refine (CN.out _).mono ?_
                  rintro e w1 ⟨rfl, rfl⟩
                  go_wp2_with fail
                  refine (CL1.out _).mono ?_
                  rintro e w1 ⟨rfl, q1, hq1⟩
                  have HQ1 : Hid (∃ q, w1 = w.drewN q) := by obtain ⟨q, hq⟩ := HQc.out; exact ⟨_, by rw [hq1, hq]; exact World.drewN_drewN _ _ _⟩
                  clear hq1
                  go_wp2_with fail
                  refine (CL2.out _).mono ?_
                  rintro e w2 ⟨rfl, q2, hq2⟩
                  have HQ2 : Hid (∃ q, w2 = w.drewN q) := by obtain ⟨q, hq⟩ := HQ1.out; exact ⟨_, by rw [hq2, hq]; exact World.drewN_drewN _ _ _⟩
                  clear hq2
                  go_wp2_with fail
                  go_ret3
                  exact ⟨by rw [HR.out]; rfl, HQ2.out⟩
            · have dn : decide ((0 : Int) < (n : Int)) = true := decide_eq_true (by omega)
              have dn' : decide (0 < n) = true := decide_eq_true (by omega)
              have dm : decide (most < (n : Int) + (o.size : Int)) = false := decide_eq_false (by omega)
              by_cases c2 : s.size < b + n
              · have HR := Lib.hid (HM.out (by omega) c2)
                have d2 : decide ((s.size : Int) - (b : Int) < (n : Int)) = true := decide_eq_true (by omega)
                go_wp2_with fail
                refine (CN.out _).mono ?_
                rintro e w1 ⟨rfl, rfl⟩
                go_wp2_with fail
                refine (CL1.out _).mono ?_
                rintro e w1 ⟨rfl, q1, hq1⟩
                have HQ1 : Hid (∃ q, w1 = w.drewN q) := by obtain ⟨q, hq⟩ := HQc.out; exact ⟨_, by rw [hq1, hq]; exact World.drewN_drewN _ _ _⟩
                clear hq1
                go_wp2_with fail
                go_ret3
                exact ⟨by rw [HR.out]; rfl, HQ1.out⟩
              · have d2 : decide ((s.size : Int) - (b : Int) < (n : Int)) = false := decide_eq_false (by omega)
                have hbn : b + n ≤ s.size := by omega
                have jm : IntKind.i64.wrap ((b : Int) + (n : Int)) = (b : Int) + (n : Int) := IntWalk.i64_in _ (by omega)
                have j5 : ((b : Int) + (n : Int)).toNat = b + n := by omega
                have i3 : (0 : Int) ≤ (b : Int) := by omega
                have i4 : (b : Int) ≤ (b : Int) + (n : Int) := by omega
                have i5 : (b : Int) + (n : Int) ≤ (s.size : Int) := by omega
                obtain ⟨E2, hE2⟩ : ∃ E, E = nlE (s.data.toList.drop (b + n)) := ⟨_, rfl⟩
                have CL2 := fun w' => newline_any s (b + n) w' hbn hs E2 hE2.symm
                rw [show ((b + n : Nat) : Int) = (b : Int) + (n : Int) by omega] at CL2
                have CL2 := Lib.hid CL2
                have HE2 := Lib.hid hE2
                clear hE2
                by_cases e2 : E2 = 0
                · have HSt := Lib.hid (HOk.out (by omega) hbn (HE2.out.symm.trans e2))
                  have hb4 : b + n + 2 ≤ s.size := nl_fit (HE2.out.symm.trans e2)
                  obtain ⟨o2, ho2⟩ : ∃ o2, o ++ s.extract b (b + n) = o2 := ⟨_, rfl⟩
                  have HO2' : Hid (o2 = str (out ++ (s.data.toList.drop (b + n + 2 - 2 - n)).take n)) := by
                    show _ = _
                    rw [← ho2, HOO.out]
                    apply lst_inj
                    rw [lst_app, lst_ext, lst_mk, lst_mk, List.drop_take]
                    congr 2 <;> first | omega | (congr 1; omega)
                  have hxz : (s.extract b (b + n)).size = n := by rw [ByteArray.size_extract]; omega
                  have hov : ¬ 9223372036854775807 < o.size + (s.extract b (b + n)).size := by rw [hxz]; omega
                  have jn2 : IntKind.i64.wrap ((n : Int) + 2) = (n : Int) + 2 := IntWalk.i64_in _ (by omega)
                  obtain ⟨c, hc⟩ : ∃ c, c = b + n + 2 := ⟨_, rfl⟩
                  have jc : IntKind.i64.wrap ((b : Int) + ((n : Int) + 2)) = (c : Int) := by rw [IntWalk.i64_in _ (by omega)]; omega
                  rw [← hc] at HSt HO2' hb4
                  have HCC := Lib.hid hc
                  have hac : a < c := by omega
                  clear hc
                  subst e2
                  have ez : ((n : Int) == 0) = false := by rw [beq_eq_false_iff_ne]; omega
                  have HR := Lib.hid (HO2.out n c HSt.out (by omega))
                  have hol : (out ++ (s.data.toList.drop (c - 2 - n)).take n).length = out.length + n := by
                    rw [List.length_append, List.length_take, List.length_drop, lst_len]; have := HCC.out; omega
                  have hoc : out.length + n ≤ c := by have := HCC.out; omega
                  obtain ⟨out2, hout2⟩ : ∃ out2, out2 = out ++ (s.data.toList.drop (c - 2 - n)).take n := ⟨_, rfl⟩
                  have HO4 : Hid (o2 = str out2) := by show _ = _; rw [HO2'.out, hout2]
                  rw [← hout2] at HR hol
                  clear hout2 HO2'
                  go_wp2_with fail
                  refine (CN.out _).mono ?_
                  rintro e w1 ⟨rfl, rfl⟩
                  go_wp2_with fail
                  refine (CL1.out _).mono ?_
                  rintro e w1 ⟨rfl, q1, hq1⟩
                  have HQ1 : Hid (∃ q, w1 = w.drewN q) := by obtain ⟨q, hq⟩ := HQc.out; exact ⟨_, by rw [hq1, hq]; exact World.drewN_drewN _ _ _⟩
                  clear hq1
                  go_wp2_with fail
                  refine (CL2.out _).mono ?_
                  rintro e w2 ⟨rfl, q2, hq2⟩
                  have HQ2 : Hid (∃ q, w2 = w.drewN q) := by obtain ⟨q, hq⟩ := HQ1.out; exact ⟨_, by rw [hq2, hq]; exact World.drewN_drewN _ _ _⟩
                  clear hq2
                  go_wp2_with fail
                  go_roundw
                  case rel => exact ⟨out2, c, f, by rw [HO4.out], rfl, by omega, by omega, by omega, by omega, HR, HQ2.out⟩
                  case measure => simp [intOf]; omega
                · have HR := Lib.hid (HEn.out (by omega) hbn (by rw [← HE2.out]; exact e2))
                  rw [← HE2.out] at HR
                  have ee : (E2 != 0) = true := bne_iff_ne.2 e2
                  clear e2
                  go_wp2_with fail
                  refine (CN.out _).mono ?_
                  rintro e w1 ⟨rfl, rfl⟩
                  go_wp2_with fail
                  refine (CL1.out _).mono ?_
                  rintro e w1 ⟨rfl, q1, hq1⟩
                  have HQ1 : Hid (∃ q, w1 = w.drewN q) := by obtain ⟨q, hq⟩ := HQc.out; exact ⟨_, by rw [hq1, hq]; exact World.drewN_drewN _ _ _⟩
                  clear hq1
                  go_wp2_with fail
                  refine (CL2.out _).mono ?_
                  rintro e w2 ⟨rfl, q2, hq2⟩
                  have HQ2 : Hid (∃ q, w2 = w.drewN q) := by obtain ⟨q, hq⟩ := HQ1.out; exact ⟨_, by rw [hq2, hq]; exact World.drewN_drewN _ _ _⟩
                  clear hq2
                  go_wp2_with fail
                  go_ret3
                  exact ⟨by rw [HR.out]; rfl, HQ2.out⟩
        · have HR := Lib.hid (HO0.out E1 0 0 (by rw [HE1.out]; exact step_line HX.out hk1 (by rw [← HE1.out]; exact e1)) e1)
          have ee : (E1 != 0) = true := bne_iff_ne.2 e1
          clear e1
          go_wp2_with fail
          refine (CN.out _).mono ?_
          rintro e w1 ⟨rfl, rfl⟩
          go_wp2_with fail
          refine (CL1.out _).mono ?_
          rintro e w1 ⟨rfl, q1, hq1⟩
          have HQ1 : Hid (∃ q, w1 = w.drewN q) := by obtain ⟨q, hq⟩ := HQc.out; exact ⟨_, by rw [hq1, hq]; exact World.drewN_drewN _ _ _⟩
          clear hq1
          go_wp2_with fail
          go_ret3
          exact ⟨by rw [HR.out]; rfl, HQ1.out⟩
end
end Go.Proofs.YtkcncgdgicffhaaDoor
