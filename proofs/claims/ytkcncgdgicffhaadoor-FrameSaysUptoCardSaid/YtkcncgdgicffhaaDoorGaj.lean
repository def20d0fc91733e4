/- Walk: frame.Chunked. -/
import Derived.Test.YtkcncgdgicffhaaDoorGai
import Derived.LoopTactic
namespace Go.Proofs.YtkcncgdgicffhaaDoor
open Go.RowKit
set_option linter.unusedVariables false
set_option linter.unusedSimpArgs false

theorem chn_end (s : List UInt8) (ns : List Int) {out t : List UInt8} (h : runK s ns = (out, t)) : chunkedL s ns = (if t = [] then out else out ++ putL t t.length) ++ [48, 13, 10, 13, 10] := by unfold chunkedL; rw [h]
theorem emp_t {t : ByteArray} {b : Bool} (h : decide (t.data.toList = []) = b) : t.toList.isEmpty = b ∧ (t.toList == []) = b ∧ (t.toList != []) = !b := by
  rw [Lib.toList_data]
  cases b with
  | true => have h := of_decide_eq_true h; rw [h]; exact ⟨rfl, rfl, rfl⟩
  | false =>
    have h := of_decide_eq_false h
    refine ⟨by rw [List.isEmpty_eq_false_iff]; exact h, beq_eq_false_iff_ne.2 h, by rw [bne, beq_eq_false_iff_ne.2 h]⟩
section
variable (s : ByteArray) (ns : List Int) (A : Option Addr) (cap : Nat) (w : World)
set_option maxRecDepth 100000 in
set_option maxHeartbeats 4000000 in
theorem chunked_any (hs : s.size ≤ 1048576) (hl : ns.length ≤ 1048576) (hc : ns.length ≤ cap ∧ cap ≤ 9223372036854775807) (hR : Reads w w.heap.size 1 A ns.length (ns.map (Value.int .i64))) (hT : ToB w) (hg : 3 < w.heap.size) :
    Calls Tryd.prog 13 #[.string s, .slice A ns.length cap] w fun e w' => e = .returned (.string (str (chunkedL s.data.toList ns))) ∧ Below w.heap.size w w' := by
  obtain ⟨V, hV⟩ : ∃ V, (w.alloc (.cells #[.string s] 9)).alloc (.cells #[.pointer none, .slice none 0 0] 98) = V := ⟨_, rfl⟩
  have hC : Ck w V s [] := by
    rw [← hV]
    refine ⟨(Blk.new _ _ _).alloc _, ?_, ((Below.refl _ _).alloc (Nat.le_refl _) _).alloc (by simp) _⟩
    have := Bld.new (w.alloc (.cells #[.string s] 9))
    simpa using this
  have CP := fun t out k wr h hk ht ho => put_any t out k w wr h hk ht ho hT hg
  have CP := Lib.hid CP
  obtain ⟨R, hRR⟩ : ∃ R, R = chunkedL s.data.toList ns := ⟨_, rfl⟩
  rw [← hRR]
  have HE := Lib.hid fun out t (h : runK s.data.toList ns = (out, t)) => hRR.trans (chn_end s.data.toList ns h)
  have HB := Lib.hid fun k out (t : ByteArray) (h : runK s.data.toList (ns.take k) = (out, t.data.toList)) => (by have := runK_bd s.data.toList (ns.take k); rw [h, lst_len, lst_len] at this; exact this : out.length + 21 * t.size ≤ 21 * s.size)
  have HR := Lib.hid hR
  have HC := Lib.hid hC
  obtain ⟨hc1, hc2⟩ := hc
  clear hRR hR hC hT
  go_enter Tryd.func13, Tryd.ntmps13
  go_wp2_with fail
  clear hV
  go_loopw [12] (fun u wr => ∃ (k : Nat) (t : ByteArray) (out : List UInt8), u = .int .i64 (k : Int) ∧ k ≤ ns.length ∧ Ck w wr t out ∧ Hid (runK s.data.toList (ns.take k) = (out, t.data.toList))) (fun u _ => ns.length - (intOf u).toNat)
  case atStart => exact ⟨0, s, [], rfl, by omega, HC.out, rfl⟩
  case round =>
    obtain ⟨k, t, out, rfl, hk, hck, HK⟩ := hrel
    have hbd := HB.out k out t HK.out
    obtain ⟨c0, f0⟩ := hck.facts
    have HCk := Lib.hid hck
    have htz : t.size ≤ 1048576 := by omega
    have hoz : out.length ≤ 100000000 := by omega
    clear hck HC
    by_cases hlt : k < ns.length
    · have i1 : (k : Int) < (ns.length : Int) := by omega
      obtain ⟨ad, u, hA, hab, hu, hcell⟩ := (HR.out.below HCk.out.be).at_ hlt
      obtain ⟨z, hz⟩ : ∃ z, ns[k] = z := ⟨_, rfl⟩
      have hu2 : u = .int .i64 z := by
        rw [List.getElem?_map, List.getElem?_eq_getElem hlt, hz] at hu
        simp at hu; exact hu.symm
      subst hu2
      have HST : Hid (runK s.data.toList (ns.take (k + 1)) = stepK (out, t.data.toList) z) := by
        show _ = _
        rw [List.take_succ_eq_append_getElem hlt, runK_snoc, HK.out, hz]
      subst hA
      clear hu hz
      by_cases hput : 0 < z ∧ t.data.toList ≠ []
      · obtain ⟨hz0, hne⟩ := hput
        obtain ⟨q, hq⟩ : ∃ q : Nat, (q : Int) = min z (t.data.toList.length : Int) := ⟨(min z (t.data.toList.length : Int)).toNat, by omega⟩
        have HS2 := Lib.hid (HST.out.trans (stepK_go (st := (out, t.data.toList)) hz0 hne hq))
        rw [lst_len] at hq
        have hqs : q ≤ t.size := by omega
        obtain ⟨e1, e2, e3⟩ := emp_t (t := t) (b := false) (decide_eq_false hne)
        have d1 : decide ((0 : Int) < z) = true := decide_eq_true hz0
        have hmin : min z (t.size : Int) = (q : Int) := hq.symm
        have CPk := Lib.hid (CP.out t out q wr HCk.out hqs htz hoz)
        have HXT : Hid ((t.extract q t.size).data.toList = t.data.toList.drop q) := Lib.hid (by rw [lst_ext, take_all t (Nat.le_refl _)])
        clear hz0 hne hq HST
        go_wp2_with fail
        refine CPk.out.mono ?_
        rintro e w1 ⟨rfl, h1⟩
        have H1 := Lib.hid h1
        clear h1 c0 f0 CPk hcell
        go_wp2_with fail
        go_roundw
        case rel => exact ⟨k + 1, t.extract q t.size, out ++ putL t.data.toList q, by go_num, by omega, H1.out, by show _ = _; rw [HS2.out, HXT.out]⟩
        case measure => simp [intOf]; omega
      · have HS2 := Lib.hid (HST.out.trans (stepK_no (st := (out, t.data.toList)) hput))
        by_cases hz0 : 0 < z
        · have hne : t.data.toList = [] := by
            by_cases h : t.data.toList = []
            · exact h
            · exact absurd ⟨hz0, h⟩ hput
          obtain ⟨e1, e2, e3⟩ := emp_t (t := t) (b := true) (decide_eq_true hne)
          have d1 : decide ((0 : Int) < z) = true := decide_eq_true hz0
          clear hput hne hz0 HST
          go_wp2_with fail
          go_roundw
          case rel => exact ⟨k + 1, t, out, by go_num, by omega, HCk.out, HS2⟩
          case measure => simp [intOf]; omega
        · have d1 : decide ((0 : Int) < z) = false := decide_eq_false hz0
          clear hput hz0 HST
          go_wp2_with fail
          go_roundw
          case rel => exact ⟨k + 1, t, out, by go_num, by omega, HCk.out, HS2⟩
          case measure => simp [intOf]; omega
    · obtain rfl : k = ns.length := by omega
      rw [List.take_length] at HK
      have HE2 := Lib.hid (HE.out _ _ HK.out)
      have e0 : decide ((ns.length : Int) < (ns.length : Int)) = false := decide_eq_false (by omega)
      clear hlt
      by_cases hne : t.data.toList = []
      · obtain ⟨e1, e2, e3⟩ := emp_t (t := t) (b := true) (decide_eq_true hne)
        obtain ⟨o, ho⟩ : ∃ o, o = str out := ⟨_, rfl⟩
        have hoz2 : o.size ≤ 200000000 := by rw [ho, size_str]; omega
        have hv : ¬ 9223372036854775807 < o.size + 5 := by omega
        have HRT : Hid (R = out ++ [48, 13, 10, 13, 10]) := Lib.hid (by rw [HE2.out, if_pos hne])
        have HO : Hid (o ++ ⟨#[48, 13, 10, 13, 10]⟩ = str R) := Lib.hid (by rw [HRT.out, ho]; exact cat_str _ [48, 13, 10, 13, 10])
        have CS := bldString_any HCk.out.bd
        rw [← ho] at CS
        have CS := Lib.hid CS
        clear hne ho
        go_wp2_with fail
        refine CS.out.mono ?_
        rintro e w1 ⟨rfl, hb⟩
        have HB1 := Lib.hid (HCk.out.be.trans (hb.mono (Nat.le_succ _)))
        clear hb c0 f0
        go_wp2_with fail
        go_ret
        exact ⟨ret_str HO.out, HB1.out⟩
      · obtain ⟨e1, e2, e3⟩ := emp_t (t := t) (b := false) (decide_eq_false hne)
        have hpl := putL_len (s := t.data.toList) (k := t.size) (by rw [lst_len]; exact Nat.le_refl _)
        have hpo : (out ++ putL t.data.toList t.size).length ≤ 200000000 := by rw [List.length_append]; omega
        obtain ⟨o2, ho2⟩ : ∃ o2, o2 = out ++ putL t.data.toList t.size := ⟨_, rfl⟩
        have CPk := CP.out t out t.size wr HCk.out (Nat.le_refl _) htz hoz
        rw [← ho2] at CPk hpo
        obtain ⟨o, ho⟩ : ∃ o, o = str o2 := ⟨_, rfl⟩
        have hoz2 : o.size ≤ 200000000 := by rw [ho, size_str]; omega
        have hv : ¬ 9223372036854775807 < o.size + 5 := by omega
        have HRT : Hid (R = o2 ++ [48, 13, 10, 13, 10]) := Lib.hid (by rw [HE2.out, if_neg hne, ho2, lst_len])
        have HO : Hid (o ++ ⟨#[48, 13, 10, 13, 10]⟩ = str R) := Lib.hid (by rw [HRT.out, ho]; exact cat_str _ [48, 13, 10, 13, 10])
        have CPk := Lib.hid CPk
        have HO3 := Lib.hid ho
        clear hne ho ho2 hpl
        go_wp2_with fail
        refine CPk.out.mono ?_
        rintro e w1 ⟨rfl, h1⟩
        have CS := bldString_any h1.bd
        rw [← HO3.out] at CS
        have CS := Lib.hid CS
        have H1 := Lib.hid h1
        clear h1 c0 f0 CPk
        go_wp2_with fail
        refine CS.out.mono ?_
        rintro e w2 ⟨rfl, hb⟩
        have HB1 := Lib.hid (H1.out.be.trans (hb.mono (Nat.le_succ _)))
        clear hb
        go_wp2_with fail
        go_ret
        exact ⟨ret_str HO.out, HB1.out⟩
end
end Go.Proofs.YtkcncgdgicffhaaDoor
