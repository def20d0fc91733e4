/- Walk: vars.fields. -/
import Derived.Test.YthfolopnjmkllaaDoorVarA
import Derived.Deep.RegionLaw
namespace Go.Proofs.YthfolopnjmkllaaDoor
open Go.RowKit
set_option linter.unusedVariables false
set_option linter.unusedSimpArgs false

def lowF (f : Fd) : Fd := ⟨str (f.n.data.toList.map lowB), f.v⟩
def fieldL (l : List Fd) : List Fd := l.map lowF
theorem fieldL_take {l : List Fd} {k : Nat} (hk : k < l.length) : fieldL (l.take (k + 1)) = fieldL (l.take k) ++ [lowF l[k]] := by
  unfold fieldL; rw [List.take_add_one, List.getElem?_eq_getElem hk, List.map_append]; rfl
structure Vf (w : World) (g : Nat) (f : Fd) (v : Value) (G : List Fd) (wr : World) : Prop where
  fb : Blk wr g 55 #[.string f.n, .string f.v]
  ho : OP 34 wr w.heap.size v G
  be : Below w.heap.size w wr
section
variable {w wr wr' : World} {g : Nat} {f : Fd} {v : Value} {G : List Fd}
theorem Vf.step (h : Vf w g f v G wr) (hb : Below wr.heap.size wr wr') : Vf w g f v G wr' := ⟨h.fb.below hb h.fb.lt, h.ho.kept hb, h.be.trans (hb.mono h.be.size)⟩
theorem Vf.drew (h : Vf w g f v G wr) : Vf w g f v G wr.drew := h.step (below_drewN (Below.refl _ _) 1)
theorem Vf.facts (h : Vf w g f v G wr) : wr.cell? ⟨g, 0, none⟩ = some (.string f.n) ∧ wr.cell? ⟨g, 1, none⟩ = some (.string f.v) := ⟨h.fb.cell 0, h.fb.cell 1⟩
theorem step_vf {ops : Array Oper} {o : Oper} {a : Act} {K : Act → World → Prop} {Q : Exit → Act → World → Prop} {E : Prop} (hgd : o.guard = none) (p q : Operand)
    (hop : o.op = .call { callee := .builtin .append, args := #[p, q], argTypes := #[29, 29] })
    (hH : Vf w g f v G wr) (hs : a.eval p = v) (n x : ByteArray)
    (hx : a.eval q = .slice (some ⟨wr.heap.size, 0, none⟩) 1 1) (hlen : G.length ≤ 1000000000)
    (hK : ∀ v' w', OP 34 w' w.heap.size v' (G ++ [⟨n, x⟩]) → Below w.heap.size w w' → K (a.put o.dst v') w') :
    if Region.wanted o (yielded ops a.tmps) = true then Oper.wp Tryd.prog o a (wr.alloc (.cells #[.string n, .string x] 34)) K Q else E := by
  obtain ⟨i0, hi0, hz0, hz1, hz2⟩ := info_parts infoArg
  have hB := hH.be.size
  refine step_appG (P := Tryd.prog) (Q := Q) (ops := ops) hgd p q hop Tryd.underlying29 hi0 hz0 hz1 hz2 rfl (by decide) hH.ho hs [.string n, .string x] 1 1 hx rfl (by
    intro u hu
    simp only [List.mem_cons, List.not_mem_nil, or_false] at hu
    rcases hu with rfl | rfl <;> rfl) (by unfold maxLen; omega) (by omega) hB fun v' w' h2 h3 => ?_
  have h4 : OP 34 w' w.heap.size v' (G ++ [⟨n, x⟩]) := by
    unfold OP; rw [List.length_append, fdFlat_app, fdFlat_one]; exact h2
  exact hK v' w' h4 (hH.be.trans (h3.below hB (own_from hH.ho)))
end
set_option maxHeartbeats 2000000 in
theorem fields_any (mm t : ByteArray) (l : List Fd) (A : Option Addr) (cap B : Nat) (w : World) (hf : FdR w B A cap l) (hl : l.length ≤ 1048577) (hB : B ≤ w.heap.size) :
    Calls Tryd.prog 19 #[.agg #[.string mm, .string t, .slice A l.length cap]] w fun e w' => ∃ v, e = .returned v ∧ OP 34 w' w.heap.size v (fieldL l) ∧ Below w.heap.size w w' := by
  obtain ⟨W, hW⟩ : ∃ W, W = w.alloc (.cells #[.string mm, .string t, .slice A l.length cap] 25) := ⟨_, rfl⟩
  have hWb : Below w.heap.size w W := by rw [hW]; exact (Below.refl _ _).alloc (Nat.le_refl _) _
  have HF := Lib.hid hf
  have HWB := Lib.hid hWb
  have HW := Lib.hid hW
  obtain ⟨hcp1, hcp2⟩ : l.length ≤ cap ∧ cap ≤ 9223372036854775807 := ⟨hf.2.1, hf.2.2.1⟩
  clear hf hWb hW
  go_enter Tryd.func19, Tryd.ntmps19
  go_wp2_with fail
  rw [← HW.out]
  go_loopw [3, 9] (fun v i wr => ∃ k : Nat, k ≤ l.length ∧ i = .int .i64 k ∧ OP 34 wr w.heap.size v (fieldL (l.take k)) ∧ Below w.heap.size w wr) (fun _ i _ => l.length - (intOf i).toNat)
  case atStart => exact ⟨0, by omega, rfl, OP.nil _ _ _, HWB.out⟩
  case round =>
    obtain ⟨k, hk, rfl, ho, hb⟩ := hrel
    obtain ⟨A5, c5, rfl⟩ := ho.form
    have HO := Lib.hid ho
    have HB := Lib.hid hb
    by_cases hlt : k < l.length
    · obtain ⟨ad, rfl, hab, x0, x1, z0, z1⟩ := fd_cells (HF.out.below (hb.mono hB)) hlt
      have HL : Hid (fieldL (l.take (k + 1)) = fieldL (l.take k) ++ [lowF l[k]]) := Lib.hid (fieldL_take hlt)
      have hgl : (fieldL (l.take k)).length ≤ 1048577 := by unfold fieldL; rw [List.length_map, List.length_take]; omega
      obtain ⟨G, hG⟩ : ∃ G, G = fieldL (l.take k) := ⟨_, rfl⟩
      rw [← hG] at HO HL hgl ⊢
      obtain ⟨f, hfe⟩ : ∃ f, f = l[k] := ⟨_, rfl⟩
      rw [← hfe] at x0 x1 z0 z1 HL
      have CL := fun w' => lower_any f.n w' (by omega)
      obtain ⟨U, hU⟩ : ∃ U, U = str (f.n.data.toList.map lowB) := ⟨_, rfl⟩
      rw [← hU] at CL
      have HL2 : Hid (fieldL (l.take (k + 1)) = G ++ [⟨U, f.v⟩]) := Lib.hid (by rw [HL.out, hU]; rfl)
      have CL := Lib.hid CL
      have hal := (Below.refl wr.heap.size wr).alloc (Nat.le_refl _) (.cells #[.string f.n, .string f.v] 55)
      have hv : Vf w wr.heap.size f (.slice A5 G.length c5) G (wr.alloc (.cells #[.string f.n, .string f.v] 55)) := ⟨Blk.new _ _ _, HO.out.kept hal, HB.out.trans (hal.mono HB.out.size)⟩
      clear hG hfe hb ho hal hU HL HO HB
      go_upto_region 5 with fail
      obtain ⟨V, hV⟩ : ∃ V, wr.alloc (.cells #[.string f.n, .string f.v] 55) = V := ⟨_, rfl⟩
      rw [hV] at hv ⊢
      obtain ⟨g, hg⟩ : ∃ g, wr.heap.size = g := ⟨_, rfl⟩
      rw [hg] at hv ⊢
      clear hV hg x0 x1
      have hvd := hv.drew
      obtain ⟨y0, y1⟩ := hvd.facts
      go_wp2_with fail
      go_region_law (first
        | (go_simp; go_at_call 41; (with_reducible refine (CL.out _).mono ?_); rintro e w' ⟨rfl, hb'⟩; have hs' := hvd.step hb'; obtain ⟨k0, k1⟩ := hs'.facts; clear hb')
        | (refine step_vf rfl (.tmp 13) (.tmp 20) rfl hs' (by rfl) U f.v (by rfl) (by omega) ?_; intro v6 w6 ho6 hb6))
      all_goals
        have HO7 : Hid (OP 34 w6 w.heap.size v6 (fieldL (l.take (k + 1)))) := Lib.hid (by rw [HL2.out]; exact ho6)
        have HB7 := Lib.hid hb6
        clear ho6 hb6
        go_wp2_with fail
        go_roundw
        case rel => exact ⟨k + 1, by omega, by go_num, HO7.out, HB7.out⟩
        case measure => simp [intOf]; omega
    · obtain rfl : k = l.length := by omega
      have HO2 : Hid (OP 34 wr w.heap.size (.slice A5 (fieldL (l.take l.length)).length c5) (fieldL l)) := Lib.hid (by have := HO.out; rw [List.take_length] at this ⊢; exact this)
      clear hb ho
      go_wp2_with fail
      go_ret
      exact ⟨_, rfl, HO2.out, HB.out⟩
end Go.Proofs.YthfolopnjmkllaaDoor
