/- Walk: wickref.Piped. (printed by gen_runb.py) -/
import Derived.Test.YthfolopnjmkllaaDoorRunA
namespace Go.Proofs.YthfolopnjmkllaaDoor
open Go.RowKit
set_option linter.unusedVariables false
set_option linter.unusedSimpArgs false

set_option maxRecDepth 100000 in
set_option maxHeartbeats 16000000 in
theorem piped_any (zs : List Int) (A : Option Addr) (c : Nat) (s : ByteArray) (m : Int) (w : World) (h : IR w A zs) (h0 : pipE zs = 0) (hs : s.size ≤ 8192) (hm : w.cell? ⟨0, 0, none⟩ = some (.int .i64 m)) (hT : TabP w) :
    Calls Tryd.prog 13 #[.slice A zs.length c, .string s] w fun e w' => e = .returned (.string (runF zs s)) ∧ Below w.heap.size w w' := by
  obtain ⟨hz8, hz⟩ := pipE_all2 h0
  have HM := Lib.hid fun w' (hb : Below w.heap.size w w') => (hb.cell (p := ⟨0, 0, none⟩) (World.block_lt_of_cell? _ _ hm)).trans hm
  have HT := Lib.hid fun w' (hb : Below w.heap.size w w') => hT.below hb
  have HIR := Lib.hid fun w' (hb : Below w.heap.size w w') => h.below hb
  have HZ := Lib.hid hz
  have hs0 := hs
  clear h h0 hm hT hz hs
  obtain ⟨R, hR⟩ : ∃ R, R = runF zs s := ⟨_, rfl⟩
  rw [← hR]
  have HRR := Lib.hid hR
  clear hR
  go_enter Tryd.func13, Tryd.ntmps13
  go_wp2_with fail
  go_loopw [1, 5, 6, 7, 8, 9] (fun t i _ _ _ _ wr => ∃ k : Nat, k ≤ zs.length ∧ i = .int .i64 k ∧ t = .string (runF (zs.take k) s) ∧ Below w.heap.size w wr) (fun _ i _ _ _ _ _ => zs.length - (intOf i).toNat)
  case atStart => exact ⟨0, by omega, rfl, rfl, Below.refl _ _⟩
  case round =>
    obtain ⟨k, hk, rfl, rfl, hb⟩ := hrel
    have HB := Lib.hid hb
    by_cases hlt : k < zs.length
    · obtain ⟨ad, rfl, hab, x0⟩ := (HIR.out wr hb).at_ hlt
      obtain ⟨hz1, hz2⟩ := HZ.out k hlt
      have HN := Lib.hid (runF_take (s := s) hlt)
      have hss := runF_size zs s hs0 hz8 k
      obtain ⟨z, hze⟩ : ∃ z, z = zs[k] := ⟨_, rfl⟩
      rw [← hze] at x0 hz1 hz2 HN
      obtain ⟨t, ht⟩ : ∃ t, t = runF (zs.take k) s := ⟨_, rfl⟩
      rw [← ht] at HN hss ⊢
      have hs : t.size ≤ 1048576 := by omega
      clear hze ht
      by_cases k1 : z = 1
      · subst k1
        have C := Lib.hid ((Low_any t wr (by omega)).mono fun e w' h => (show e = .returned (.string (oneF 1 t)) ∧ Below wr.heap.size wr w' from ⟨h.1, by obtain ⟨q, hq⟩ := h.2; rw [hq]; exact below_drewN (Below.refl _ _) q⟩))
        obtain ⟨S, hS⟩ : ∃ S, S = oneF 1 t := ⟨_, rfl⟩
        rw [← hS] at C HN
        clear hS hb
        go_wp2_with fail
        refine C.out.mono ?_
        rintro e w2 ⟨rfl, hb2⟩
        have HB2 := Lib.hid (HB.out.trans (hb2.mono HB.out.size))
        clear hb2
        go_wp2_with fail
        go_roundw
        case rel => exact ⟨k + 1, by omega, by go_num, by rw [HN.out], HB2.out⟩
        case measure => simp [intOf]; omega
      · have f1 : (z == 1) = false := by rw [beq_eq_false_iff_ne]; exact k1
        by_cases k2 : z = 2
        · subst k2
          have C := Lib.hid ((UrlDecode_any t wr (by omega)).mono fun e w' h => (show e = .returned (.string (oneF 2 t)) ∧ Below wr.heap.size wr w' from h))
          obtain ⟨S, hS⟩ : ∃ S, S = oneF 2 t := ⟨_, rfl⟩
          rw [← hS] at C HN
          clear hS hb
          go_wp2_with fail
          refine C.out.mono ?_
          rintro e w2 ⟨rfl, hb2⟩
          have HB2 := Lib.hid (HB.out.trans (hb2.mono HB.out.size))
          clear hb2
          go_wp2_with fail
          go_roundw
          case rel => exact ⟨k + 1, by omega, by go_num, by rw [HN.out], HB2.out⟩
          case measure => simp [intOf]; omega
        · have f2 : (z == 2) = false := by rw [beq_eq_false_iff_ne]; exact k2
          by_cases k3 : z = 3
          · subst k3
            have C := Lib.hid (HexDecode_any t wr (by omega))
            have HN2 : Hid (runF (zs.take (k + 1)) s = if hexDE t.data.toList = 0 then str (hexDS t.data.toList) else t) := Lib.hid (HN.out.trans rfl)
            obtain ⟨E, hE⟩ : ∃ E, E = hexDE t.data.toList := ⟨_, rfl⟩
            rw [← hE] at C HN2
            obtain ⟨S, hS⟩ : ∃ S, S = str (hexDS t.data.toList) := ⟨_, rfl⟩
            rw [← hS] at C HN2
            clear hE hS hb
            by_cases h : E = 0
            · subst h
              have HN3 : Hid (runF (zs.take (k + 1)) s = S) := Lib.hid (HN2.out.trans (if_pos rfl))
              go_wp2_with fail
              refine C.out.mono ?_
              rintro e w2 ⟨rfl, hb2⟩
              have HB2 := Lib.hid (HB.out.trans (hb2.mono HB.out.size))
              clear hb2
              go_wp2_with fail
              go_roundw
              case rel => exact ⟨k + 1, by omega, by go_num, by rw [HN3.out], HB2.out⟩
              case measure => simp [intOf]; omega
            · have HN3 : Hid (runF (zs.take (k + 1)) s = t) := Lib.hid (HN2.out.trans (if_neg h))
              have f0 : (E == 0) = false := by rw [beq_eq_false_iff_ne]; exact h
              clear h
              go_wp2_with fail
              refine C.out.mono ?_
              rintro e w2 ⟨rfl, hb2⟩
              have HB2 := Lib.hid (HB.out.trans (hb2.mono HB.out.size))
              clear hb2
              go_wp2_with fail
              go_roundw
              case rel => exact ⟨k + 1, by omega, by go_num, by rw [HN3.out], HB2.out⟩
              case measure => simp [intOf]; omega
          · have f3 : (z == 3) = false := by rw [beq_eq_false_iff_ne]; exact k3
            by_cases k4 : z = 4
            · subst k4
              have C := Lib.hid (B64Decode_any t wr hs)
              have HN2 : Hid (runF (zs.take (k + 1)) s = if (decB t.data.toList).2 = 0 then str (decB t.data.toList).1 else t) := Lib.hid (HN.out.trans rfl)
              obtain ⟨E, hE⟩ : ∃ E, E = (decB t.data.toList).2 := ⟨_, rfl⟩
              rw [← hE] at C HN2
              obtain ⟨S, hS⟩ : ∃ S, S = str (decB t.data.toList).1 := ⟨_, rfl⟩
              rw [← hS] at C HN2
              clear hE hS hb
              by_cases h : E = 0
              · subst h
                have HN3 : Hid (runF (zs.take (k + 1)) s = S) := Lib.hid (HN2.out.trans (if_pos rfl))
                go_wp2_with fail
                refine C.out.mono ?_
                rintro e w2 ⟨rfl, hb2⟩
                have HB2 := Lib.hid (HB.out.trans (hb2.mono HB.out.size))
                clear hb2
                go_wp2_with fail
                go_roundw
                case rel => exact ⟨k + 1, by omega, by go_num, by rw [HN3.out], HB2.out⟩
                case measure => simp [intOf]; omega
              · have HN3 : Hid (runF (zs.take (k + 1)) s = t) := Lib.hid (HN2.out.trans (if_neg h))
                have f0 : (E == 0) = false := by rw [beq_eq_false_iff_ne]; exact h
                clear h
                go_wp2_with fail
                refine C.out.mono ?_
                rintro e w2 ⟨rfl, hb2⟩
                have HB2 := Lib.hid (HB.out.trans (hb2.mono HB.out.size))
                clear hb2
                go_wp2_with fail
                go_roundw
                case rel => exact ⟨k + 1, by omega, by go_num, by rw [HN3.out], HB2.out⟩
                case measure => simp [intOf]; omega
            · have f4 : (z == 4) = false := by rw [beq_eq_false_iff_ne]; exact k4
              by_cases k5 : z = 5
              · subst k5
                have C := Lib.hid ((HtmlDecode_any t wr (by omega)).mono fun e w' h => (show e = .returned (.string (oneF 5 t)) ∧ Below wr.heap.size wr w' from h))
                obtain ⟨S, hS⟩ : ∃ S, S = oneF 5 t := ⟨_, rfl⟩
                rw [← hS] at C HN
                clear hS hb
                go_wp2_with fail
                refine C.out.mono ?_
                rintro e w2 ⟨rfl, hb2⟩
                have HB2 := Lib.hid (HB.out.trans (hb2.mono HB.out.size))
                clear hb2
                go_wp2_with fail
                go_roundw
                case rel => exact ⟨k + 1, by omega, by go_num, by rw [HN.out], HB2.out⟩
                case measure => simp [intOf]; omega
              · have f5 : (z == 5) = false := by rw [beq_eq_false_iff_ne]; exact k5
                by_cases k6 : z = 6
                · subst k6
                  have C := Lib.hid ((Path_any t wr m hs (HM.out wr hb)).mono fun e w' h => (show e = .returned (.string (oneF 6 t)) ∧ Below wr.heap.size wr w' from h))
                  obtain ⟨S, hS⟩ : ∃ S, S = oneF 6 t := ⟨_, rfl⟩
                  rw [← hS] at C HN
                  clear hS hb
                  go_wp2_with fail
                  refine C.out.mono ?_
                  rintro e w2 ⟨rfl, hb2⟩
                  have HB2 := Lib.hid (HB.out.trans (hb2.mono HB.out.size))
                  clear hb2
                  go_wp2_with fail
                  go_roundw
                  case rel => exact ⟨k + 1, by omega, by go_num, by rw [HN.out], HB2.out⟩
                  case measure => simp [intOf]; omega
                · have f6 : (z == 6) = false := by rw [beq_eq_false_iff_ne]; exact k6
                  by_cases k7 : z = 7
                  · subst k7
                    have C := Lib.hid ((Squeeze_any t wr (by omega)).mono fun e w' h => (show e = .returned (.string (oneF 7 t)) ∧ Below wr.heap.size wr w' from ⟨h.1, by rw [← h.2]; exact Below.refl _ _⟩))
                    obtain ⟨S, hS⟩ : ∃ S, S = oneF 7 t := ⟨_, rfl⟩
                    rw [← hS] at C HN
                    clear hS hb
                    go_wp2_with fail
                    refine C.out.mono ?_
                    rintro e w2 ⟨rfl, hb2⟩
                    have HB2 := Lib.hid (HB.out.trans (hb2.mono HB.out.size))
                    clear hb2
                    go_wp2_with fail
                    go_roundw
                    case rel => exact ⟨k + 1, by omega, by go_num, by rw [HN.out], HB2.out⟩
                    case measure => simp [intOf]; omega
                  · have f7 : (z == 7) = false := by rw [beq_eq_false_iff_ne]; exact k7
                    by_cases k8 : z = 8
                    · subst k8
                      have C := Lib.hid ((Without_any t ⟨#[0]⟩ wr (by omega) (by decide)).mono fun e w' h => (show e = .returned (.string (oneF 8 t)) ∧ Below wr.heap.size wr w' from ⟨h.1, by rw [← h.2]; exact Below.refl _ _⟩))
                      obtain ⟨S, hS⟩ : ∃ S, S = oneF 8 t := ⟨_, rfl⟩
                      rw [← hS] at C HN
                      clear hS hb
                      go_wp2_with fail
                      refine C.out.mono ?_
                      rintro e w2 ⟨rfl, hb2⟩
                      have HB2 := Lib.hid (HB.out.trans (hb2.mono HB.out.size))
                      clear hb2
                      go_wp2_with fail
                      go_roundw
                      case rel => exact ⟨k + 1, by omega, by go_num, by rw [HN.out], HB2.out⟩
                      case measure => simp [intOf]; omega
                    · have f8 : (z == 8) = false := by rw [beq_eq_false_iff_ne]; exact k8
                      by_cases k9 : z = 9
                      · subst k9
                        have C := Lib.hid ((Trim_any t wr (by omega)).mono fun e w' h => (show e = .returned (.string (oneF 9 t)) ∧ Below wr.heap.size wr w' from ⟨h.1, by rw [← h.2]; exact Below.refl _ _⟩))
                        obtain ⟨S, hS⟩ : ∃ S, S = oneF 9 t := ⟨_, rfl⟩
                        rw [← hS] at C HN
                        clear hS hb
                        go_wp2_with fail
                        refine C.out.mono ?_
                        rintro e w2 ⟨rfl, hb2⟩
                        have HB2 := Lib.hid (HB.out.trans (hb2.mono HB.out.size))
                        clear hb2
                        go_wp2_with fail
                        go_roundw
                        case rel => exact ⟨k + 1, by omega, by go_num, by rw [HN.out], HB2.out⟩
                        case measure => simp [intOf]; omega
                      · have f9 : (z == 9) = false := by rw [beq_eq_false_iff_ne]; exact k9
                        by_cases k10 : z = 10
                        · subst k10
                          have C := Lib.hid ((itoaS_any t.size wr (by omega) (HT.out wr hb)).mono fun e w' h => (show e = .returned (.string (oneF 10 t)) ∧ Below wr.heap.size wr w' from h))
                          obtain ⟨S, hS⟩ : ∃ S, S = oneF 10 t := ⟨_, rfl⟩
                          rw [← hS] at C HN
                          clear hS hb
                          go_wp2_with fail
                          refine C.out.mono ?_
                          rintro e w2 ⟨rfl, hb2⟩
                          have HB2 := Lib.hid (HB.out.trans (hb2.mono HB.out.size))
                          clear hb2
                          go_wp2_with fail
                          go_roundw
                          case rel => exact ⟨k + 1, by omega, by go_num, by rw [HN.out], HB2.out⟩
                          case measure => simp [intOf]; omega
                        · have f10 : (z == 10) = false := by rw [beq_eq_false_iff_ne]; exact k10
                          obtain rfl : z = 11 := by omega
                          have C := Lib.hid ((Cmd_any t wr (by omega)).mono fun e w' h => (show e = .returned (.string (oneF 11 t)) ∧ Below wr.heap.size wr w' from ⟨h.1, by obtain ⟨q, hq⟩ := h.2; rw [hq]; exact below_drewN (Below.refl _ _) q⟩))
                          obtain ⟨S, hS⟩ : ∃ S, S = oneF 11 t := ⟨_, rfl⟩
                          rw [← hS] at C HN
                          clear hS hb
                          go_wp2_with fail
                          refine C.out.mono ?_
                          rintro e w2 ⟨rfl, hb2⟩
                          have HB2 := Lib.hid (HB.out.trans (hb2.mono HB.out.size))
                          clear hb2
                          go_wp2_with fail
                          go_roundw
                          case rel => exact ⟨k + 1, by omega, by go_num, by rw [HN.out], HB2.out⟩
                          case measure => simp [intOf]; omega
    · obtain rfl : k = zs.length := by omega
      rw [List.take_length]
      clear hb
      go_wp2_with fail
      go_ret
      exact ⟨by rw [HRR.out]; rfl, HB.out⟩
end Go.Proofs.YthfolopnjmkllaaDoor
