/- Walk: wickref.Chunked. -/
import Derived.Test.YtkcncgdgicffhaaDoorGaj
import Derived.Deep.RegionLaw
namespace Go.Proofs.YtkcncgdgicffhaaDoor
open Go.RowKit
set_option linter.unusedVariables false
set_option linter.unusedSimpArgs false

/-- the reference's rounds: behind the numbers one more, of all that is left -/
def runR (s : List UInt8) (ns : List Int) (k : Nat) : List UInt8 × List UInt8 :=
  if k ≤ ns.length then runK s (ns.take k) else stepK (runK s ns) (runK s ns).2.length
theorem runR_bd (s : List UInt8) (ns : List Int) (k : Nat) : (runR s ns k).1.length + 21 * (runR s ns k).2.length ≤ 21 * s.length := by
  unfold runR; split
  · exact runK_bd _ _
  · exact Nat.le_trans (stepK_bd _ _) (runK_bd _ _)
theorem runR_end (s : List UInt8) (ns : List Int) : chunkedL s ns = (runR s ns (ns.length + 1)).1 ++ [48, 13, 10, 13, 10] := by
  unfold chunkedL runR
  rw [if_neg (show ¬ ns.length + 1 ≤ ns.length by omega)]
  obtain ⟨a, b⟩ := runK s ns
  by_cases h : b = []
  · rw [if_pos h, stepK_no (by simp [h])]
  · have hl : 0 < b.length := List.length_pos_iff.2 h
    rw [if_neg h, stepK_go (k := b.length) (by simp only []; omega) h (by simp only []; omega)]
theorem runR_step (s : List UInt8) (ns : List Int) (k : Nat) (hk : k ≤ ns.length) {out t : List UInt8} (h : runR s ns k = (out, t)) {n : Int} (hn : n = if hlt : k < ns.length then min ns[k] t.length else t.length) :
    runR s ns (k + 1) = if 0 < n then (out ++ putL t n.toNat, t.drop n.toNat) else (out, t) := by
  have hst : ∀ z : Int, n = min z t.length → stepK (out, t) z = if 0 < n then (out ++ putL t n.toNat, t.drop n.toNat) else (out, t) := by
    intro z hz
    by_cases h0 : 0 < n
    · rw [if_pos h0]
      have hne : t ≠ [] := by intro e; rw [e] at hz; simp at hz; omega
      rw [stepK_go (st := (out, t)) (k := n.toNat) (by omega) hne (by simp only []; omega)]
    · rw [if_neg h0]
      refine stepK_no ?_
      rintro ⟨h1, h2⟩
      have : 0 < t.length := List.length_pos_iff.2 h2
      omega
  unfold runR at h
  rw [if_pos hk] at h
  by_cases hlt : k < ns.length
  · rw [dif_pos hlt] at hn
    unfold runR
    rw [if_pos (by omega), List.take_succ_eq_append_getElem hlt, runK_snoc, h]
    exact hst _ hn
  · rw [dif_neg hlt] at hn
    obtain rfl : k = ns.length := by omega
    rw [List.take_length] at h
    unfold runR
    rw [if_neg (by omega), h]
    exact hst _ (by simp only []; omega)
section
variable (s : ByteArray) (ns : List Int) (A : Option Addr) (cap : Nat) (w : World)
set_option maxRecDepth 100000 in
set_option maxHeartbeats 4000000 in
theorem rchunked_any (hs : s.size ≤ 1048576) (hl : ns.length ≤ 1048576) (hc : ns.length ≤ cap ∧ cap ≤ 9223372036854775807) (hR : Reads w w.heap.size 1 A ns.length (ns.map (Value.int .i64))) (hT : ToB w) (hg : 3 < w.heap.size) :
    Calls Tryd.prog 14 #[.string s, .slice A ns.length cap] w fun e w' => e = .returned (.string (str (chunkedL s.data.toList ns))) ∧ Below w.heap.size w w' := by
  obtain ⟨R, hRR⟩ : ∃ R, R = chunkedL s.data.toList ns := ⟨_, rfl⟩
  rw [← hRR]
  have HE := Lib.hid (hRR.trans (runR_end s.data.toList ns))
  have HB := Lib.hid fun k out (t : ByteArray) (h : runR s.data.toList ns k = (out, t.data.toList)) => (by have := runR_bd s.data.toList ns k; rw [h, lst_len, lst_len] at this; exact this : out.length + 21 * t.size ≤ 21 * s.size)
  have HR := Lib.hid hR
  have HF := Lib.hid fun (q : Nat) w' (h : Below w.heap.size w w') (hq : q ≤ 1048576) => fmt_any q w' (by omega) (hT.below h hg) (Nat.lt_of_lt_of_le hg h.size)
  obtain ⟨hc1, hc2⟩ := hc
  have H0 : Hid (runR s.data.toList ns 0 = ([], s.data.toList)) := Lib.hid (by unfold runR; rw [if_pos (Nat.zero_le _)]; rfl)
  clear hRR hR hT
  go_enter Tryd.func14, Tryd.ntmps14
  go_wp2_with fail
  go_loopw [0, 5, 6] (fun x o u wr => ∃ (k : Nat) (t : ByteArray) (out : List UInt8), x = .string t ∧ o = .string (str out) ∧ u = .int .i64 (k : Int) ∧ k ≤ ns.length + 1 ∧ Hid (runR s.data.toList ns k = (out, t.data.toList)) ∧ Below w.heap.size w wr) (fun _ _ u _ => ns.length + 1 - (intOf u).toNat)
  case atStart => exact ⟨0, s, [], rfl, rfl, rfl, by omega, H0.out, Below.refl _ _⟩
  case round =>
    obtain ⟨k, t, out, rfl, rfl, rfl, hk, HK, hb⟩ := hrel
    have hbd := HB.out k out t HK.out
    have HBE := Lib.hid hb
    obtain ⟨o, ho⟩ : ∃ o, o = str out := ⟨_, rfl⟩
    have hoz : o.size ≤ 30000000 := by rw [ho, size_str]; omega
    rw [← ho]
    have HO := Lib.hid ho
    have htz : t.size ≤ 1048576 := by omega
    clear hb ho H0
    by_cases hle : k ≤ ns.length
    · have d0 : decide ((k : Int) ≤ (ns.length : Int)) = true := decide_eq_true (by omega)
      have d0' : decide (k ≤ ns.length) = true := decide_eq_true (by omega)
      by_cases hlt : k < ns.length
      · have i0 : (k : Int) < (ns.length : Int) := by omega
        obtain ⟨ad, u, hA, hab, hu, hcell⟩ := (HR.out.below HBE.out).at_ hlt
        obtain ⟨z, hz⟩ : ∃ z, ns[k] = z := ⟨_, rfl⟩
        have hu2 : u = .int .i64 z := by
          rw [List.getElem?_map, List.getElem?_eq_getElem hlt, hz] at hu
          simp at hu; exact hu.symm
        subst hu2
        have HN0 := Lib.hid fun n (h : n = min z (t.data.toList.length : Int)) => runR_step s.data.toList ns k hle HK.out (n := n) (by rw [dif_pos hlt, hz]; exact h)
        subst hA
        clear hu hz
        by_cases hzt : z < (t.size : Int)
        · have dz : decide (z < (t.size : Int)) = true := decide_eq_true hzt
          have HN := Lib.hid (HN0.out z (by rw [lst_len]; omega))
          clear HN0
          by_cases hz0 : 0 < z
          · obtain ⟨q, rfl⟩ := Int.eq_ofNat_of_zero_le (show 0 ≤ z by omega)
            have HS2 : Hid (runR s.data.toList ns (k + 1) = (out ++ putL t.data.toList q, (t.extract q t.size).data.toList)) := by
              show _ = _
              have h1 := HN.out
              rw [if_pos (by omega), Int.toNat_natCast] at h1
              rw [h1, lst_ext, take_all t (Nat.le_refl _)]
            have CF := fun w' (h : Below w.heap.size w w') => HF.out q w' h (by omega)
            have hfl := fmtL_len q
            obtain ⟨F, hF⟩ : ∃ F, F = str (fmtL q) := ⟨_, rfl⟩
            have hFz : F.size ≤ 16 := by rw [hF, size_str]; exact hfl
            rw [← hF] at CF
            have CF := Lib.hid CF
            obtain ⟨x, hx⟩ : ∃ x, t.extract 0 q = x := ⟨_, rfl⟩
            have hxz : x.size ≤ 1048576 := by rw [← hx, ByteArray.size_extract]; omega
            have HPo : Hid (o ++ (F ++ ⟨#[13, 10]⟩ ++ x ++ ⟨#[13, 10]⟩) = str (out ++ putL t.data.toList q)) := Lib.hid (by
              rw [HO.out]
              apply lst_inj
              rw [lst_app, lst_app, lst_app, lst_app, hF, ← hx, lst_mk, lst_mk, lst_mk, lst_ext, List.drop_zero]; rfl)
            have i1 : (0 : Int) ≤ (q : Int) := by omega
            have i2 : (q : Int) ≤ (t.size : Int) := by omega
            have hv1 : ¬ 9223372036854775807 < F.size + 2 := by omega
            have hv2 : ¬ 9223372036854775807 < F.size + 2 + x.size := by omega
            have hv3 : ¬ 9223372036854775807 < F.size + 2 + x.size + 2 := by omega
            have hv4 : ¬ 9223372036854775807 < o.size + (F.size + 2 + x.size + 2) := by omega
            have dn : decide ((0 : Int) < (q : Int)) = true := decide_eq_true (by omega)
            have HBd := Lib.hid (below_drewN HBE.out 1)
            clear hF hfl HN
            go_wp2_with fail
            go_region_law (first | (go_simp; go_at_call 55; refine (CF.out _ HBd.out).mono ?_; rintro e w1 ⟨rfl, hb1⟩))
            all_goals
              have HB1 := Lib.hid (HBd.out.trans (hb1.mono HBd.out.size))
              clear hb1
              go_wp2_with fail
              go_roundw
              case rel => exact ⟨k + 1, t.extract q t.size, out ++ putL t.data.toList q, rfl, by rw [HPo.out], by go_num, by omega, HS2, HB1.out⟩
              case measure => simp [intOf]; omega
          · skip
            have HS2 : Hid (runR s.data.toList ns (k + 1) = (out, t.data.toList)) := by
              show _ = _
              have h1 := HN.out
              rw [if_neg (by omega)] at h1
              exact h1
            have dn : decide ((0 : Int) < z) = false := decide_eq_false (by omega)
            clear HN
            go_wp2_with fail
            go_roundw
            case rel => exact ⟨k + 1, t, out, rfl, by rw [HO.out], by go_num, by omega, HS2, HBE.out⟩
            case measure => simp [intOf]; omega
        · have dz : decide (z < (t.size : Int)) = false := decide_eq_false hzt
          obtain ⟨q, hq⟩ : ∃ q, q = t.size := ⟨_, rfl⟩
          have HN := Lib.hid (HN0.out (q : Int) (by rw [lst_len]; omega))
          have hqs : q ≤ t.size ∧ t.size ≤ q := by omega
          have hq2 : (t.size : Int) = (q : Int) := by omega
          have dz2 : decide (z < (q : Int)) = false := decide_eq_false (by omega)
          clear HN0 hzt hq
          by_cases hz0 : 0 < q
          · skip
            have HS2 : Hid (runR s.data.toList ns (k + 1) = (out ++ putL t.data.toList q, (t.extract q t.size).data.toList)) := by
              show _ = _
              have h1 := HN.out
              rw [if_pos (by omega), Int.toNat_natCast] at h1
              rw [h1, lst_ext, take_all t (Nat.le_refl _)]
            have CF := fun w' (h : Below w.heap.size w w') => HF.out q w' h (by omega)
            have hfl := fmtL_len q
            obtain ⟨F, hF⟩ : ∃ F, F = str (fmtL q) := ⟨_, rfl⟩
            have hFz : F.size ≤ 16 := by rw [hF, size_str]; exact hfl
            rw [← hF] at CF
            have CF := Lib.hid CF
            obtain ⟨x, hx⟩ : ∃ x, t.extract 0 q = x := ⟨_, rfl⟩
            have hxz : x.size ≤ 1048576 := by rw [← hx, ByteArray.size_extract]; omega
            have HPo : Hid (o ++ (F ++ ⟨#[13, 10]⟩ ++ x ++ ⟨#[13, 10]⟩) = str (out ++ putL t.data.toList q)) := Lib.hid (by
              rw [HO.out]
              apply lst_inj
              rw [lst_app, lst_app, lst_app, lst_app, hF, ← hx, lst_mk, lst_mk, lst_mk, lst_ext, List.drop_zero]; rfl)
            have i1 : (0 : Int) ≤ (q : Int) := by omega
            have i2 : (q : Int) ≤ (t.size : Int) := by omega
            have hv1 : ¬ 9223372036854775807 < F.size + 2 := by omega
            have hv2 : ¬ 9223372036854775807 < F.size + 2 + x.size := by omega
            have hv3 : ¬ 9223372036854775807 < F.size + 2 + x.size + 2 := by omega
            have hv4 : ¬ 9223372036854775807 < o.size + (F.size + 2 + x.size + 2) := by omega
            have dn : decide ((0 : Int) < (q : Int)) = true := decide_eq_true (by omega)
            have HBd := Lib.hid (below_drewN HBE.out 1)
            clear hF hfl HN
            go_wp2_with fail
            go_region_law (first | (go_simp; go_at_call 55; refine (CF.out _ HBd.out).mono ?_; rintro e w1 ⟨rfl, hb1⟩))
            all_goals
              have HB1 := Lib.hid (HBd.out.trans (hb1.mono HBd.out.size))
              clear hb1
              go_wp2_with fail
              go_roundw
              case rel => exact ⟨k + 1, t.extract q t.size, out ++ putL t.data.toList q, rfl, by rw [HPo.out], by go_num, by omega, HS2, HB1.out⟩
              case measure => simp [intOf]; omega
          · skip
            have HS2 : Hid (runR s.data.toList ns (k + 1) = (out, t.data.toList)) := by
              show _ = _
              have h1 := HN.out
              rw [if_neg (by omega)] at h1
              exact h1
            have dn : decide ((0 : Int) < (q : Int)) = false := decide_eq_false (by omega)
            clear HN
            go_wp2_with fail
            go_roundw
            case rel => exact ⟨k + 1, t, out, rfl, by rw [HO.out], by go_num, by omega, HS2, HBE.out⟩
            case measure => simp [intOf]; omega
      · have i0 : decide ((k : Int) < (ns.length : Int)) = false := decide_eq_false (by omega)
        have i0' : decide (k < ns.length) = false := decide_eq_false (by omega)
        obtain ⟨q, hq⟩ : ∃ q, q = t.size := ⟨_, rfl⟩
        have HN := Lib.hid (runR_step s.data.toList ns k hle HK.out (n := (q : Int)) (by rw [dif_neg hlt, lst_len, hq]))
        have hqs : q ≤ t.size ∧ t.size ≤ q := by omega
        have hq2 : (t.size : Int) = (q : Int) := by omega
        clear hlt hq
        by_cases hz0 : 0 < q
        · skip
          have HS2 : Hid (runR s.data.toList ns (k + 1) = (out ++ putL t.data.toList q, (t.extract q t.size).data.toList)) := by
            show _ = _
            have h1 := HN.out
            rw [if_pos (by omega), Int.toNat_natCast] at h1
            rw [h1, lst_ext, take_all t (Nat.le_refl _)]
          have CF := fun w' (h : Below w.heap.size w w') => HF.out q w' h (by omega)
          have hfl := fmtL_len q
          obtain ⟨F, hF⟩ : ∃ F, F = str (fmtL q) := ⟨_, rfl⟩
          have hFz : F.size ≤ 16 := by rw [hF, size_str]; exact hfl
          rw [← hF] at CF
          have CF := Lib.hid CF
          obtain ⟨x, hx⟩ : ∃ x, t.extract 0 q = x := ⟨_, rfl⟩
          have hxz : x.size ≤ 1048576 := by rw [← hx, ByteArray.size_extract]; omega
          have HPo : Hid (o ++ (F ++ ⟨#[13, 10]⟩ ++ x ++ ⟨#[13, 10]⟩) = str (out ++ putL t.data.toList q)) := Lib.hid (by
            rw [HO.out]
            apply lst_inj
            rw [lst_app, lst_app, lst_app, lst_app, hF, ← hx, lst_mk, lst_mk, lst_mk, lst_ext, List.drop_zero]; rfl)
          have i1 : (0 : Int) ≤ (q : Int) := by omega
          have i2 : (q : Int) ≤ (t.size : Int) := by omega
          have hv1 : ¬ 9223372036854775807 < F.size + 2 := by omega
          have hv2 : ¬ 9223372036854775807 < F.size + 2 + x.size := by omega
          have hv3 : ¬ 9223372036854775807 < F.size + 2 + x.size + 2 := by omega
          have hv4 : ¬ 9223372036854775807 < o.size + (F.size + 2 + x.size + 2) := by omega
          have dn : decide ((0 : Int) < (q : Int)) = true := decide_eq_true (by omega)
          have HBd := Lib.hid (below_drewN HBE.out 1)
          clear hF hfl HN
          go_wp2_with fail
          go_region_law (first | (go_simp; go_at_call 55; refine (CF.out _ HBd.out).mono ?_; rintro e w1 ⟨rfl, hb1⟩))
          all_goals
            have HB1 := Lib.hid (HBd.out.trans (hb1.mono HBd.out.size))
            clear hb1
            go_wp2_with fail
            go_roundw
            case rel => exact ⟨k + 1, t.extract q t.size, out ++ putL t.data.toList q, rfl, by rw [HPo.out], by go_num, by omega, HS2, HB1.out⟩
            case measure => simp [intOf]; omega
        · skip
          have HS2 : Hid (runR s.data.toList ns (k + 1) = (out, t.data.toList)) := by
            show _ = _
            have h1 := HN.out
            rw [if_neg (by omega)] at h1
            exact h1
          have dn : decide ((0 : Int) < (q : Int)) = false := decide_eq_false (by omega)
          clear HN
          go_wp2_with fail
          go_roundw
          case rel => exact ⟨k + 1, t, out, rfl, by rw [HO.out], by go_num, by omega, HS2, HBE.out⟩
          case measure => simp [intOf]; omega
    · obtain rfl : k = ns.length + 1 := by omega
      have d0 : decide ((ns.length : Int) + 1 ≤ (ns.length : Int)) = false := decide_eq_false (by omega)
      have hv : ¬ 9223372036854775807 < o.size + 1 := by omega
      have hv2 : ¬ 9223372036854775807 < o.size + 1 + 2 := by omega
      have hv3 : ¬ 9223372036854775807 < o.size + 1 + 2 + 2 := by omega
      have HRT : Hid (o ++ ⟨#[48]⟩ ++ ⟨#[13, 10]⟩ ++ ⟨#[13, 10]⟩ = str R) := Lib.hid (by
        rw [HE.out, HK.out, HO.out]
        apply lst_inj
        rw [lst_app, lst_app, lst_app, lst_mk, lst_mk]
        simp)
      clear hle hk
      go_wp2_with fail
      go_ret
      exact ⟨ret_str HRT.out, HBE.out⟩
end
end Go.Proofs.YtkcncgdgicffhaaDoor
