/- Walk: slices.EqualFunc with wickref.SameRecord on two lists of the same records. -/
import Derived.Test.YtahcgajipnkojaaArdI
namespace Go.Proofs.Ytahcgajipnkojaa
open Go.RowKit
set_option linter.unusedVariables false
set_option linter.unusedSimpArgs false

set_option maxHeartbeats 2000000 in
theorem eqF_any (A A' : Option Addr) (cap cap' : Nat) (rs : List Rc) (ps ps' : List (Option Addr × Nat)) (w : World) (B B' : Nat) (h : RL w B (.slice A rs.length cap) rs ps) (h' : RL w B' (.slice A' rs.length cap') rs ps') :
    Calls Try.prog 23 #[.slice A rs.length cap, .slice A' rs.length cap', .func (.func 22) #[] #[]] w fun e w' => e = .returned (.bool true) ∧ Below w.heap.size w w' := by
  have hmx : rs.length ≤ 9223372036854775807 := by
    rcases h.own.2 with ⟨_, h2⟩ | ⟨g, c, cur, e1, _, _, hnc, hcm, _⟩
    · omega
    · unfold maxLen at hcm; omega
  have hb0 : ((rs.length : Int) != (rs.length : Int)) = false := by simp
  have H := Lib.hid h
  have H' := Lib.hid h'
  clear h h'
  go_enter Try.func23, Try.ntmps23
  go_wp2_with fail
  go_loopw [17] (fun i wr => ∃ k : Nat, k ≤ rs.length ∧ i = .int .i64 k ∧ Below w.heap.size w wr) (fun i _ => rs.length - (intOf i).toNat)
  case atStart => exact ⟨0, by omega, rfl, Below.refl _ _⟩
  case round =>
    obtain ⟨k, hk, rfl, hB⟩ := hrel
    have HB := Lib.hid hB
    by_cases hlt : k < rs.length
    · have HL := Lib.hid (H.out.below hB)
      have HL' := Lib.hid (H'.out.below hB)
      clear hB
      obtain ⟨r, hr⟩ : ∃ r, rs[k]? = some r := ⟨rs[k], List.getElem?_eq_getElem hlt⟩
      obtain ⟨p, hp⟩ : ∃ p, ps[k]? = some p := ⟨ps[k]'(by rw [H.out.len]; exact hlt), List.getElem?_eq_getElem _⟩
      obtain ⟨p', hp'⟩ : ∃ p', ps'[k]? = some p' := ⟨ps'[k]'(by rw [H'.out.len]; exact hlt), List.getElem?_eq_getElem _⟩
      have HI := Lib.hid (HL.out.inn k r p hr hp)
      have HI' := Lib.hid (HL'.out.inn k r p' hr hp')
      rcases HL.out.own.2 with ⟨_, h2⟩ | ⟨g, c, cur, e1, _, _, _⟩
      · omega
      rcases HL'.out.own.2 with ⟨_, h2⟩ | ⟨g', c', cur', e1', _, _, _⟩
      · omega
      injection e1 with e1 e2 e3
      injection e1' with e1' e2' e3'
      subst e1 e3 e1' e3'
      have cc : ∀ j, j < 6 → wr.cell? ⟨g, k * 6 + j, none⟩ = (rcCells r p)[j]? := fun j hj => by
        rw [World.ownsRow.cellAt HL.out.own (k * 6 + j) (by omega), rcFlat_get rs ps k r p j hr hp hj]
      have cc' : ∀ j, j < 6 → wr.cell? ⟨g', k * 6 + j, none⟩ = (rcCells r p')[j]? := fun j hj => by
        rw [World.ownsRow.cellAt HL'.out.own (k * 6 + j) (by omega), rcFlat_get rs ps' k r p' j hr hp' hj]
      have x0 : wr.cell? ⟨g, k * 6, none⟩ = some (.int .i64 r.c) := cc 0 (by omega)
      have x1 : wr.cell? ⟨g, k * 6 + 1, none⟩ = some (.int .i64 r.o) := cc 1 (by omega)
      have x2 : wr.cell? ⟨g, k * 6 + 2, none⟩ = some (.int .i64 r.b) := cc 2 (by omega)
      have x3 : wr.cell? ⟨g, k * 6 + 3, none⟩ = some (.int .i64 r.s) := cc 3 (by omega)
      have x4 : wr.cell? ⟨g, k * 6 + 4, none⟩ = some (.slice p.1 r.ms.length p.2) := cc 4 (by omega)
      have x5 : wr.cell? ⟨g, k * 6 + 5, none⟩ = some (.string (str r.t)) := cc 5 (by omega)
      have y0 : wr.cell? ⟨g', k * 6, none⟩ = some (.int .i64 r.c) := cc' 0 (by omega)
      have y1 : wr.cell? ⟨g', k * 6 + 1, none⟩ = some (.int .i64 r.o) := cc' 1 (by omega)
      have y2 : wr.cell? ⟨g', k * 6 + 2, none⟩ = some (.int .i64 r.b) := cc' 2 (by omega)
      have y3 : wr.cell? ⟨g', k * 6 + 3, none⟩ = some (.int .i64 r.s) := cc' 3 (by omega)
      have y4 : wr.cell? ⟨g', k * 6 + 4, none⟩ = some (.slice p'.1 r.ms.length p'.2) := cc' 4 (by omega)
      have y5 : wr.cell? ⟨g', k * 6 + 5, none⟩ = some (.string (str r.t)) := cc' 5 (by omega)
      have hgl : g < wr.heap.size := World.block_lt_of_cell? _ _ x0
      have hgl' : g' < wr.heap.size := World.block_lt_of_cell? _ _ y0
      have hzw : w.heap.size ≤ wr.heap.size := HB.out.size
      clear cc cc' hr hp hp'
      obtain ⟨q1, q2⟩ := p
      obtain ⟨q1', q2'⟩ := p'
      obtain ⟨rc, ro, rb, rs', rm, rt⟩ := r
      dsimp only at x0 x1 x2 x3 x4 x5 y0 y1 y2 y3 y4 y5 HI HI'
      have CS := Lib.hid (fun W (h1 : OI W B (.slice q1 rm.length q2) rm) (h2 : OI W B' (.slice q1' rm.length q2') rm) => same_yes rc ro rb rs' q1 q1' q2 q2' rm (str rt) W B B' h1 h2)
      go_wp2_with fail
      refine (CS.out _ ((HI.out.alloc _).alloc _) ((HI'.out.alloc _).alloc _)).mono ?_
      rintro e w1 ⟨rfl, hb⟩
      have HB1 := Lib.hid (((HB.out.alloc hzw _).alloc (by simp; omega) _).trans (hb.mono (by simp; omega)))
      clear hb
      go_wp2_with fail
      go_roundw
      case rel => exact ⟨k + 1, by omega, by go_num, HB1.out⟩
      case measure => simp [intOf]; omega
    · obtain rfl : k = rs.length := by omega
      clear hB
      go_wp2_with fail
      go_ret
      exact ⟨rfl, HB.out⟩
end Go.Proofs.Ytahcgajipnkojaa
