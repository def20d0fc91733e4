/- Walk: head.lines. -/
import Derived.Test.YtkcncgdgicffhaaDoorGr
import Derived.Test.YtkcncgdgicffhaaDoorGab
namespace Go.Proofs.YtkcncgdgicffhaaDoor
open Go.RowKit
set_option linter.unusedVariables false
set_option linter.unusedSimpArgs false

theorem empty_eqB {s : ByteArray} (h : s.size = 0) : s.toList.isEmpty = true := empty_is h
section
variable (s : ByteArray) (m : Int) (w : World)
theorem lines_no (hs : s.size ≤ 1048576) (h : endOk s = false) :
    Calls Tryd.prog 121 #[.string s] w fun e w' => e = .returned (.tuple #[.slice none 0 0, .bool false]) ∧ Below w.heap.size w w' := by
  have C := Lib.hid (cutSuf_no s crlf2 w (by omega) h)
  clear h
  go_enter Tryd.func121, Tryd.ntmps121
  go_wp2_with fail
  refine C.out.mono ?_
  rintro e w1 ⟨rfl, rfl⟩
  go_wp2_with fail
  go_ret2
  exact ⟨rfl, Below.refl _ _⟩
def LnR (s : ByteArray) (w : World) (e : Ending) (w' : World) : Prop :=
  (LinesOk s ∧ e = .returned (.tuple #[.slice (some ⟨w.heap.size, 0, none⟩) (hls s).length (hls s).length, .bool true]) ∧ OS w' w.heap.size (.slice (some ⟨w.heap.size, 0, none⟩) (hls s).length (hls s).length) (hls s) ∧ Below w.heap.size w w')
  ∨ (¬ LinesOk s ∧ e = .returned (.tuple #[.slice none 0 0, .bool false]) ∧ Below w.heap.size w w')
set_option maxHeartbeats 2000000 in
theorem lines_any (hs : s.size ≤ 1048576) (hm : w.cell? ⟨1, 0, none⟩ = some (.int .i64 m)) :
    Calls Tryd.prog 121 #[.string s] w (LnR s w) := by
  cases he : endOk s with
  | false => exact (lines_no s w hs he).mono fun e w' ⟨h1, h2⟩ => .inr ⟨fun k => (by rw [k.1] at he; cases he), h1, h2⟩
  | true =>
    have C := Lib.hid (cutSuf_yes s crlf2 w (by omega) he)
    have CS := Lib.hid (sp_any (s.extract 0 (s.size - crlf2.size)) crlf m w (by rw [ByteArray.size_extract]; omega) hm (by decide))
    have HE := Lib.hid he
    obtain ⟨L, hL⟩ : ∃ L, L = pcs (s.extract 0 (s.size - crlf2.size)) crlf := ⟨_, rfl⟩
    have hL0 : 0 < L.length := by rw [hL]; exact pcs_pos _ _ (by decide)
    have hL1 : L.length ≤ 1048577 := by rw [hL]; have := pcs_le (s := s.extract 0 (s.size - crlf2.size)) (t := crlf) (by decide); rw [ByteArray.size_extract] at this; omega
    rw [← hL] at CS
    have HL : Hid (L = hls s) := hL
    clear hL hm he
    go_enter Tryd.func121, Tryd.ntmps121
    go_wp2_with fail
    refine C.out.mono ?_
    rintro e w1 ⟨rfl, rfl⟩
    go_wp2_with fail
    refine CS.out.mono ?_
    rintro e w1 ⟨rfl, ho, b1⟩
    obtain ⟨g, eg, hg, hgl, _, hcell⟩ := ho.at_ hL0
    injection eg with eg; injection eg with eg
    subst eg
    have HO1 := Lib.hid ho
    have HB1 := Lib.hid b1
    clear ho b1 CS C
    have HC := Lib.hid hcell
    clear hcell
    go_wp2_with fail
    go_loop [19] (fun u => ∃ k : Nat, u = .int .i64 (k : Int) ∧ k ≤ L.length ∧ Hid (∀ x ∈ L.take k, LnOk x)) (fun u => L.length - (intOf u).toNat)
    case atStart => exact ⟨0, rfl, by omega, fun x hx => absurd hx (by simp)⟩
    case round =>
      obtain ⟨k, rfl, hk, HA⟩ := hrel
      by_cases hlk : k < L.length
      · have k1 : (k : Int) < (L.length : Int) := by omega
        obtain ⟨x, hx⟩ : ∃ x, x = L[k] := ⟨_, rfl⟩
        have y0 : w1.cell? ⟨w.heap.size, k, none⟩ = some (.string x) := by rw [hx]; exact HC.out k hlk
        have HX : Hid (x ∈ hls s) := by show _ ∈ _; rw [← HL.out, hx]; exact List.getElem_mem _
        have HT : Hid (L.take (k + 1) = L.take k ++ [x]) := by show _ = _; rw [List.take_succ_eq_append_getElem hlk, hx]
        clear hx
        have C1 := Lib.hid (indexByte_any x x.data.toList rfl 13)
        have C2 := Lib.hid (indexByte_any x x.data.toList rfl 10)
        by_cases h0 : x.size = 0
        · have e0 := empty_is h0
          have HN : Hid (¬ LinesOk s) := fun k => (k.2 x HX.out).1 h0
          clear h0
          go_wp2_with fail
          go_ret2
          exact .inr ⟨HN.out, rfl, HB1.out⟩
        · have e0 := empty_no h0
          obtain ⟨i1, hi1⟩ : ∃ i, i = ixb x.data.toList 13 := ⟨_, rfl⟩
          obtain ⟨i2, hi2⟩ : ∃ i, i = ixb x.data.toList 10 := ⟨_, rfl⟩
          rw [← hi1] at C1
          rw [← hi2] at C2
          have HI : Hid (LnOk x ↔ i1 < 0 ∧ i2 < 0) := by
            show _ ↔ _
            unfold LnOk; rw [← hi1, ← hi2]
            exact ⟨fun h => h.2, fun h => ⟨h0, h⟩⟩
          clear hi1 hi2 h0
          by_cases g1 : i1 < 0
          · have d1 : ¬ 0 ≤ i1 := by omega
            by_cases g2 : i2 < 0
            · have d2 : ¬ 0 ≤ i2 := by omega
              have HA2 : Hid (∀ y ∈ L.take (k + 1), LnOk y) := fun y hy => by
                rw [HT.out, List.mem_append, List.mem_singleton] at hy
                rcases hy with hy | rfl
                · exact HA.out y hy
                · exact HI.out.2 ⟨g1, g2⟩
              go_wp2_with fail
              refine (C1.out _).mono ?_
              rintro e w' ⟨rfl, rfl⟩
              go_wp2_with fail
              refine (C2.out _).mono ?_
              rintro e w' ⟨rfl, rfl⟩
              go_wp2_with fail
              go_round
              case rel => exact ⟨k + 1, by go_num, by omega, HA2⟩
              case measure => simp [intOf]; omega
            · have d2 : 0 ≤ i2 := by omega
              have HN : Hid (¬ LinesOk s) := fun k => g2 (HI.out.1 (k.2 x HX.out)).2
              go_wp2_with fail
              refine (C1.out _).mono ?_
              rintro e w' ⟨rfl, rfl⟩
              go_wp2_with fail
              refine (C2.out _).mono ?_
              rintro e w' ⟨rfl, rfl⟩
              go_wp2_with fail
              go_ret2
              exact .inr ⟨HN.out, rfl, HB1.out⟩
          · have d1 : 0 ≤ i1 := by omega
            have HN : Hid (¬ LinesOk s) := fun k => g1 (HI.out.1 (k.2 x HX.out)).1
            go_wp2_with fail
            refine (C1.out _).mono ?_
            rintro e w' ⟨rfl, rfl⟩
            go_wp2_with fail
            go_ret2
            exact .inr ⟨HN.out, rfl, HB1.out⟩
      · obtain rfl : k = L.length := by omega
        rw [List.take_length] at HA
        have HN : Hid (LinesOk s) := ⟨HE.out, by rw [← HL.out]; exact HA.out⟩
        clear hlk
        go_wp2_with fail
        go_ret2
        exact .inl ⟨HN.out, by rw [← HL.out]; rfl, by rw [← HL.out]; exact HO1.out, HB1.out⟩
end
end Go.Proofs.YtkcncgdgicffhaaDoor
