/- Walks: head.Check, wickref.Head. -/
import Derived.Test.YtkcncgdgicffhaaDoorGh
namespace Go.Proofs.YtkcncgdgicffhaaDoor
open Go.RowKit
set_option linter.unusedVariables false
set_option linter.unusedSimpArgs false

theorem tok_as {s : ByteArray} {b : Bool} (h : tokL s.data.toList = b) (hs : s.size ≤ 140737488355328) (w : World) : Calls Tryd.prog 94 #[.string s] w fun e w' => e = .returned (.bool b) ∧ w = w' :=
  (token_any s w hs).mono fun _ _ k => ⟨k.1.trans (ret_bool h), k.2⟩
theorem plain_as {s : ByteArray} {b : Bool} (h : plainL s.data.toList = b) (hs : s.size ≤ 140737488355328) (w : World) : Calls Tryd.prog 95 #[.string s] w fun e w' => e = .returned (.bool b) ∧ w = w' :=
  (plain_any s w hs).mono fun _ _ k => ⟨k.1.trans (ret_bool h), k.2⟩
theorem val_as {s : ByteArray} {b : Bool} (h : valL s.data.toList = b) (hs : s.size ≤ 140737488355328) (w : World) : Calls Tryd.prog 96 #[.string s] w fun e w' => e = .returned (.bool b) ∧ w = w' :=
  (value_ok s w hs).mono fun _ _ k => ⟨k.1.trans (ret_bool h), k.2⟩
theorem empty_is {t : ByteArray} (h : t.size = 0) : t.toList.isEmpty = true := by
  rw [Lib.toList_data, List.isEmpty_iff]; exact List.eq_nil_of_length_eq_zero (by rw [lst_len]; exact h)
theorem empty_no {t : ByteArray} (h : ¬ t.size = 0) : t.toList.isEmpty = false := by
  rw [Lib.toList_data, List.isEmpty_eq_false_iff]; intro e; have := lst_len t; rw [e, List.length_nil] at this; omega
/-- the two cells of a field as the walk shows them -/
theorem fd_cells {w : World} {B : Nat} {A : Option Addr} {cap : Nat} {fs : List Fd} (h : FdR w B A cap fs) {k : Nat} (hk : k < fs.length) :
    ∃ ad, A = some ad ∧ ad.block < B ∧ w.cell? (ad.add (k * 2)) = some (.string fs[k].n) ∧ w.cell? ⟨(ad.add (k * 2)).block, (ad.add (k * 2)).off + 1, none⟩ = some (.string fs[k].v) ∧ fs[k].n.size ≤ 1048576 ∧ fs[k].v.size ≤ 1048576 := by
  obtain ⟨ad, e, hb, h0, h1, h2, h3⟩ := h.at_ hk
  exact ⟨ad, e, hb, h0, h1, h2, h3⟩

section
variable (m t : ByteArray) (fs : List Fd) (A : Option Addr) (cap B : Nat) (w : World)
set_option maxHeartbeats 1000000 in
theorem headCheck_form (hm : m.size ≤ 1048576) (ht : t.size ≤ 1048576) (h : tokL m.data.toList = false ∨ 20 < m.size ∨ t.size = 0 ∨ plainL t.data.toList = false) :
    Calls Tryd.prog 57 #[.agg #[.string m, .string t, .slice A fs.length cap]] w fun e w' => e = .returned (.int .i64 4) ∧ Below w.heap.size w w' := by
  have fin : Below w.heap.size w (w.alloc (.cells #[.string m, .string t, .slice A fs.length cap] 24)) := (Below.refl _ _).alloc (Nat.le_refl _) _
  have HF := Lib.hid fin
  clear fin
  cases h1 : tokL m.data.toList with
  | false =>
    have CT := Lib.hid (tok_as h1 (show m.size ≤ 140737488355328 by omega))
    clear h h1
    go_enter Tryd.func57, Tryd.ntmps57
    go_wp2_with (go_at_call 94; refine (CT.out _).mono ?_; rintro e w' ⟨rfl, rfl⟩)
    go_ret
    exact ⟨rfl, HF.out⟩
  | true =>
    have CT := Lib.hid (tok_as h1 (show m.size ≤ 140737488355328 by omega))
    by_cases h2 : 20 < m.size
    · clear h h1
      go_enter Tryd.func57, Tryd.ntmps57
      go_wp2_with (go_at_call 94; refine (CT.out _).mono ?_; rintro e w' ⟨rfl, rfl⟩)
      go_ret
      exact ⟨rfl, HF.out⟩
    · have d2 : ¬ (20 : Int) < (m.size : Int) := by omega
      by_cases h3 : t.size = 0
      · have e3 := empty_is h3
        clear h h1 h3
        go_enter Tryd.func57, Tryd.ntmps57
        go_wp2_with (go_at_call 94; refine (CT.out _).mono ?_; rintro e w' ⟨rfl, rfl⟩)
        go_ret
        exact ⟨rfl, HF.out⟩
      · have e3 := empty_no h3
        have h4 : plainL t.data.toList = false := by
          rcases h with h | h | h | h
          · rw [h1] at h; cases h
          · exact absurd h h2
          · exact absurd h h3
          · exact h
        have CP := Lib.hid (plain_as h4 (show t.size ≤ 140737488355328 by omega))
        clear h h1 h3 h4
        go_enter Tryd.func57, Tryd.ntmps57
        go_wp2_with (first | (go_at_call 94; refine (CT.out _).mono ?_; rintro e w' ⟨rfl, rfl⟩) | (go_at_call 95; refine (CP.out _).mono ?_; rintro e w' ⟨rfl, rfl⟩))
        go_ret
        exact ⟨rfl, HF.out⟩

set_option maxHeartbeats 2000000 in
theorem headCheck_rest (hm : m.size ≤ 1048576) (ht : t.size ≤ 1048576) (hf : FdR w B A cap fs) (hB : B ≤ w.heap.size) (h : ¬ (tokL m.data.toList = false ∨ 20 < m.size ∨ t.size = 0 ∨ plainL t.data.toList = false)) :
    Calls Tryd.prog 57 #[.agg #[.string m, .string t, .slice A fs.length cap]] w fun e w' => e = .returned (.int .i64 (if 1000 < t.size ∨ 30 < fs.length then 5 else fdE fs)) ∧ Below w.heap.size w w' := by
  simp only [not_or, Bool.not_eq_false] at h
  obtain ⟨h1, h2, h3, h4⟩ := h
  have e3 := empty_no h3
  have d2 : ¬ (20 : Int) < (m.size : Int) := by omega
  have CT := Lib.hid (tok_as h1 (show m.size ≤ 140737488355328 by omega))
  have CP := Lib.hid (plain_as h4 (show t.size ≤ 140737488355328 by omega))
  have hB1 : Below w.heap.size w (w.alloc (.cells #[.string m, .string t, .slice A fs.length cap] 24)) := (Below.refl _ _).alloc (Nat.le_refl _) _
  have HB1 := Lib.hid hB1
  have HF := Lib.hid hf
  have hcp : fs.length ≤ cap ∧ cap ≤ 9223372036854775807 := ⟨hf.2.1, hf.2.2.1⟩
  obtain ⟨hcp1, hcp2⟩ := hcp
  clear h1 h3 h4 hB1 hf
  by_cases g1 : 1000 < t.size
  · rw [if_pos (.inl g1)]
    go_enter Tryd.func57, Tryd.ntmps57
    go_wp2_with (first | (go_at_call 94; refine (CT.out _).mono ?_; rintro e w' ⟨rfl, rfl⟩) | (go_at_call 95; refine (CP.out _).mono ?_; rintro e w' ⟨rfl, rfl⟩))
    go_ret
    exact ⟨rfl, HB1.out⟩
  · have d1 : ¬ (1000 : Int) < (t.size : Int) := by omega
    by_cases g2 : 30 < fs.length
    · rw [if_pos (.inr g2)]
      go_enter Tryd.func57, Tryd.ntmps57
      go_wp2_with (first | (go_at_call 94; refine (CT.out _).mono ?_; rintro e w' ⟨rfl, rfl⟩) | (go_at_call 95; refine (CP.out _).mono ?_; rintro e w' ⟨rfl, rfl⟩))
      go_ret
      exact ⟨rfl, HB1.out⟩
    · have d3 : ¬ (30 : Int) < (fs.length : Int) := by omega
      rw [if_neg (by omega)]
      go_enter Tryd.func57, Tryd.ntmps57
      go_wp2_with (first | (go_at_call 94; refine (CT.out _).mono ?_; rintro e w' ⟨rfl, rfl⟩) | (go_at_call 95; refine (CP.out _).mono ?_; rintro e w' ⟨rfl, rfl⟩))
      go_loopw [41] (fun i wr => ∃ k : Nat, k ≤ fs.length ∧ i = .int .i64 k ∧ Hid (fdE fs = fdE (fs.drop k)) ∧ Below w.heap.size w wr) (fun i _ => fs.length - (intOf i).toNat)
      case atStart => exact ⟨0, by omega, rfl, rfl, HB1.out⟩
      case round =>
        obtain ⟨k, hk, rfl, HE, hb⟩ := hrel
        have HB := Lib.hid hb
        have hz := hb.size
        by_cases hlt : k < fs.length
        · obtain ⟨ad, rfl, hab, x0, x1, z0, z1⟩ := fd_cells (HF.out.below (hb.mono hB)) hlt
          clear hb
          obtain ⟨f, hfe⟩ : ∃ f, f = fs[k] := ⟨_, rfl⟩
          rw [← hfe] at x0 x1 z0 z1
          have HFE := Lib.hid hfe
          clear hfe
          cases q1 : tokL f.n.data.toList with
          | false =>
            have C1 := Lib.hid (tok_as q1 (show f.n.size ≤ 140737488355328 by omega))
            have HR : Hid (fdE fs = 4) := by show _ = _; rw [HE.out]; exact fdE_form hlt (.inl (by rw [← HFE.out]; exact q1))
            clear q1 CT CP
            go_wp2_with (go_at_call 94; refine (C1.out _).mono ?_; rintro e w' ⟨rfl, rfl⟩)
            go_ret
            exact ⟨by rw [HR.out]; rfl, HB.out.alloc hz _⟩
          | true =>
            have C1 := Lib.hid (tok_as q1 (show f.n.size ≤ 140737488355328 by omega))
            cases q2 : valL f.v.data.toList with
            | false =>
              have C2 := Lib.hid (val_as q2 (show f.v.size ≤ 140737488355328 by omega))
              have HR : Hid (fdE fs = 4) := by show _ = _; rw [HE.out]; exact fdE_form hlt (.inr (by rw [← HFE.out]; exact q2))
              clear q1 q2 CT CP
              go_wp2_with (first | (go_at_call 94; refine (C1.out _).mono ?_; rintro e w' ⟨rfl, rfl⟩) | (go_at_call 96; refine (C2.out _).mono ?_; rintro e w' ⟨rfl, rfl⟩))
              go_ret
              exact ⟨by rw [HR.out]; rfl, HB.out.alloc hz _⟩
            | true =>
              have C2 := Lib.hid (val_as q2 (show f.v.size ≤ 140737488355328 by omega))
              have hno : ¬ (tokL fs[k].n.data.toList = false ∨ valL fs[k].v.data.toList = false) := by rw [← HFE.out, q1, q2]; simp
              have HNO := Lib.hid hno
              clear q1 q2 CT CP hno
              by_cases q3 : 1000 < f.n.size + f.v.size
              · have HR : Hid (fdE fs = 5) := by show _ = _; rw [HE.out]; exact fdE_long hlt HNO.out (by rw [← HFE.out]; exact q3)
                by_cases q4 : 1000 < f.n.size
                · go_wp2_with (first | (go_at_call 94; refine (C1.out _).mono ?_; rintro e w' ⟨rfl, rfl⟩) | (go_at_call 96; refine (C2.out _).mono ?_; rintro e w' ⟨rfl, rfl⟩))
                  go_ret
                  exact ⟨by rw [HR.out]; rfl, HB.out.alloc hz _⟩
                · have d4 : ¬ (1000 : Int) < (f.n.size : Int) := by omega
                  have d5 : (1000 : Int) - (f.n.size : Int) < (f.v.size : Int) := by omega
                  go_wp2_with (first | (go_at_call 94; refine (C1.out _).mono ?_; rintro e w' ⟨rfl, rfl⟩) | (go_at_call 96; refine (C2.out _).mono ?_; rintro e w' ⟨rfl, rfl⟩))
                  go_ret
                  exact ⟨by rw [HR.out]; rfl, HB.out.alloc hz _⟩
              · have HR : Hid (fdE fs = fdE (fs.drop (k + 1))) := by show _ = _; rw [HE.out]; exact fdE_next hlt HNO.out (by rw [← HFE.out]; exact q3)
                have d4 : ¬ (1000 : Int) < (f.n.size : Int) := by omega
                have d5 : ¬ (1000 : Int) - (f.n.size : Int) < (f.v.size : Int) := by omega
                go_wp2_with (first | (go_at_call 94; refine (C1.out _).mono ?_; rintro e w' ⟨rfl, rfl⟩) | (go_at_call 96; refine (C2.out _).mono ?_; rintro e w' ⟨rfl, rfl⟩))
                go_roundw
                case rel => exact ⟨k + 1, by omega, by go_num, HR, HB.out.alloc hz _⟩
                case measure => simp [intOf]; omega
        · have HR : Hid (fdE fs = 0) := by show _ = _; rw [HE.out]; exact fdE_end (by omega)
          clear hb
          go_wp2_with fail
          go_ret
          exact ⟨by rw [HR.out]; rfl, HB.out⟩
theorem headCheck_any (hm : m.size ≤ 1048576) (ht : t.size ≤ 1048576) (hf : FdR w B A cap fs) (hB : B ≤ w.heap.size) :
    Calls Tryd.prog 57 #[.agg #[.string m, .string t, .slice A fs.length cap]] w fun e w' => e = .returned (.int .i64 (hdE ⟨m, t, fs⟩)) ∧ Below w.heap.size w w' := by
  unfold hdE
  by_cases h : tokL m.data.toList = false ∨ 20 < m.size ∨ t.size = 0 ∨ plainL t.data.toList = false
  · rw [if_pos h]; exact headCheck_form m t fs A cap w hm ht h
  · rw [if_neg h]; exact headCheck_rest m t fs A cap B w hm ht hf hB h
end
end Go.Proofs.YtkcncgdgicffhaaDoor
