/- Walks: wickref.Head. -/
import Derived.Test.YtkcncgdgicffhaaDoorGi
import Derived.Deep.QuietTactic
import Derived.BigQuiet
namespace Go.Proofs.YtkcncgdgicffhaaDoor
open Go.RowKit
set_option linter.unusedVariables false
set_option linter.unusedSimpArgs false

theorem Tok_as {s : ByteArray} {b : Bool} (h : tokL s.data.toList = b) (hs : s.size ≤ 140737488355328) (w : World) : Calls Tryd.prog 98 #[.string s] w fun e w' => e = .returned (.bool b) ∧ w = w' :=
  (Token_any s w hs).mono fun _ _ k => ⟨k.1.trans (ret_bool h), k.2⟩
theorem Trim_as {s u : ByteArray} (h : str (trimL s.data.toList) = u) (hs : s.size ≤ 140737488355328) (w : World) : Calls Tryd.prog 67 #[.string s] w fun e w' => e = .returned (.string u) ∧ w = w' :=
  (Trim_any s w hs).mono fun _ _ k => ⟨by rw [k.1, h], k.2⟩
theorem trim_self {s : ByteArray} (h : (trimL s.data.toList == s.data.toList) = true) : str (trimL s.data.toList) = s := by
  rw [beq_iff_eq] at h; rw [h]
theorem valL_bad {s : ByteArray} (h : s.data.toList.all valB = false) : valL s.data.toList = false := by unfold valL; rw [h]; rfl
theorem valL_trim {s : ByteArray} (h2 : (trimL s.data.toList == s.data.toList) = false) : valL s.data.toList = false := by unfold valL; rw [h2, Bool.and_false]
theorem valL_ok {s : ByteArray} (h : s.data.toList.all valB = true) (h2 : (trimL s.data.toList == s.data.toList) = true) : valL s.data.toList = true := by unfold valL; rw [h, h2]; rfl

section
variable (m t : ByteArray) (fs : List Fd) (A : Option Addr) (cap B : Nat) (w : World)
set_option maxHeartbeats 1000000 in
theorem refHead_short (hm : m.size ≤ 1048576) (ht : t.size ≤ 1048576) (h : tokL m.data.toList = false ∨ 20 < m.size ∨ t.size = 0) :
    Calls Tryd.prog 60 #[.agg #[.string m, .string t, .slice A fs.length cap]] w fun e w' => e = .returned (.int .i64 4) ∧ Below w.heap.size w w' := by
  have fin : Below w.heap.size w (w.alloc (.cells #[.string m, .string t, .slice A fs.length cap] 24)) := (Below.refl _ _).alloc (Nat.le_refl _) _
  have HF := Lib.hid fin
  clear fin
  cases h1 : tokL m.data.toList with
  | false =>
    have CT := Lib.hid (Tok_as h1 (show m.size ≤ 140737488355328 by omega))
    clear h h1
    go_enter Tryd.func60, Tryd.ntmps60
    go_wp2_with (go_at_call 98; refine (CT.out _).mono ?_; rintro e w' ⟨rfl, rfl⟩)
    go_ret
    exact ⟨rfl, HF.out⟩
  | true =>
    have CT := Lib.hid (Tok_as h1 (show m.size ≤ 140737488355328 by omega))
    by_cases h2 : 20 < m.size
    · clear h h1
      go_enter Tryd.func60, Tryd.ntmps60
      go_wp2_with (go_at_call 98; refine (CT.out _).mono ?_; rintro e w' ⟨rfl, rfl⟩)
      go_ret
      exact ⟨rfl, HF.out⟩
    · have d2 : ¬ (20 : Int) < (m.size : Int) := by omega
      have h3 : t.size = 0 := by
        rcases h with h | h | h
        · rw [h1] at h; cases h
        · exact absurd h h2
        · exact h
      have e3 : ((t.size : Int) == 0) = true := by rw [h3]; rfl
      clear h h1 h3
      go_enter Tryd.func60, Tryd.ntmps60
      go_wp2_with (go_at_call 98; refine (CT.out _).mono ?_; rintro e w' ⟨rfl, rfl⟩)
      go_ret
      exact ⟨rfl, HF.out⟩

set_option maxRecDepth 100000 in
set_option maxHeartbeats 4000000 in
theorem refHead_long (hm : m.size ≤ 1048576) (ht : t.size ≤ 1048576) (hf : FdR w B A cap fs) (hB : B ≤ w.heap.size) (h : ¬ (tokL m.data.toList = false ∨ 20 < m.size ∨ t.size = 0)) :
    Calls Tryd.prog 60 #[.agg #[.string m, .string t, .slice A fs.length cap]] w fun e w' => e = .returned (.int .i64 (if plainL t.data.toList = false then 4 else if 1000 < t.size ∨ 30 < fs.length then 5 else fdE fs)) ∧ Below w.heap.size w w' := by
  simp only [not_or, Bool.not_eq_false] at h
  obtain ⟨h1, h2, h3⟩ := h
  have e3 : ((t.size : Int) == 0) = false := by rw [beq_eq_false_iff_ne]; omega
  have d2 : ¬ (20 : Int) < (m.size : Int) := by omega
  have CT := Lib.hid (Tok_as h1 (show m.size ≤ 140737488355328 by omega))
  obtain ⟨W, hW⟩ : ∃ W, W = w.alloc (.cells #[.string m, .string t, .slice A fs.length cap] 24) := ⟨_, rfl⟩
  have hWb : Below w.heap.size w W := by rw [hW]; exact (Below.refl _ _).alloc (Nat.le_refl _) _
  have hK : Blk W w.heap.size 24 #[.string m, .string t, .slice A fs.length cap] := by rw [hW]; exact Blk.new _ _ _
  have HK := Lib.hid hK
  have k0 : W.cell? ⟨w.heap.size, 0, none⟩ = some (.string m) := hK.cell 0
  have k1 : W.cell? ⟨w.heap.size, 1, none⟩ = some (.string t) := hK.cell 1
  have k2 : W.cell? ⟨w.heap.size, 2, none⟩ = some (.slice A fs.length cap) := hK.cell 2
  have hWlt : w.heap.size < W.heap.size := hK.lt
  have HW := Lib.hid hW
  have HWB := Lib.hid hWb
  have HF := Lib.hid (hf.below (hWb.mono hB))
  obtain ⟨hcp1, hcp2⟩ : fs.length ≤ cap ∧ cap ≤ 9223372036854775807 := ⟨hf.2.1, hf.2.2.1⟩
  clear h1 h3 hW hWb hK hf
  obtain ⟨R, hR⟩ : ∃ R : Int, R = if plainL t.data.toList = false then 4 else if 1000 < t.size ∨ 30 < fs.length then 5 else fdE fs := ⟨_, rfl⟩
  rw [← hR]
  have HR := Lib.hid hR
  clear hR
  go_enter Tryd.func60, Tryd.ntmps60
  go_wp2_with (go_at_call 98; refine (CT.out _).mono ?_; rintro e w' ⟨rfl, rfl⟩)
  rw [← HW.out]
  go_loop [3] (fun i => ∃ k : Nat, k ≤ t.size ∧ i = .int .i64 k ∧ Hid ((t.data.toList.take k).all plainB = true)) (fun i => t.size - (intOf i).toNat)
  case atStart => exact ⟨0, by omega, rfl, rfl⟩
  case round =>
    obtain ⟨k, hk, rfl, HE⟩ := hrel
    by_cases hlt : k < t.size
    · obtain ⟨c1, c2⟩ := byte_lt t[k]
      by_cases p1 : t[k].toNat < 33
      · have HN : Hid (R = 4) := by show _ = _; rw [HR.out]; exact if_pos (all_hit plainB hlt (plain_lo p1))
        have q1 : (t[k].toNat : Int) ≤ 32 := by omega
        go_wp2_with fail
        go_ret
        exact ⟨by rw [HN.out]; rfl, HWB.out⟩
      · have q1 : ¬ (t[k].toNat : Int) ≤ 32 := by omega
        have r1 : decide ((t[k].toNat : Int) ≤ 32) = false := decide_eq_false q1
        by_cases p2 : 126 < t[k].toNat
        · have HN : Hid (R = 4) := by show _ = _; rw [HR.out]; exact if_pos (all_hit plainB hlt (plain_hi p2))
          have q2 : 127 ≤ (t[k].toNat : Int) := by omega
          go_wp2_with fail
          go_ret
          exact ⟨by rw [HN.out]; rfl, HWB.out⟩
        · have q2 : ¬ 127 ≤ (t[k].toNat : Int) := by omega
          have r2 : decide (127 ≤ (t[k].toNat : Int)) = false := decide_eq_false q2
          have HN := Lib.hid (all_step plainB hlt HE.out (plain_ok p1 p2))
          go_wp2_with fail
          go_round
          case rel => exact ⟨k + 1, by omega, by go_num, HN⟩
          case measure => simp [intOf]; omega
    · have HP : Hid (plainL t.data.toList = true) := all_end plainB (by omega) HE.out
      have HR2 : Hid (R = if 1000 < t.size ∨ 30 < fs.length then 5 else fdE fs) := by show _ = _; rw [HR.out, if_neg (by rw [HP.out]; simp)]
      obtain rfl : k = t.size := by omega
      clear HE HR HP
      by_cases g1 : 1000 < t.size
      · have HR3 : Hid (R = 5) := by show _ = _; rw [HR2.out, if_pos (.inl g1)]
        go_wp2_with fail
        go_ret
        exact ⟨by rw [HR3.out]; rfl, HWB.out⟩
      · have d1 : ¬ (1000 : Int) < (t.size : Int) := by omega
        by_cases g2 : 30 < fs.length
        · have HR3 : Hid (R = 5) := by show _ = _; rw [HR2.out, if_pos (.inr g2)]
          go_wp2_with fail
          go_ret
          exact ⟨by rw [HR3.out]; rfl, HWB.out⟩
        · have d3 : ¬ (30 : Int) < (fs.length : Int) := by omega
          have HR3 : Hid (R = fdE fs) := by show _ = _; rw [HR2.out, if_neg (by omega)]
          clear HR2
          go_wp2_with fail
          go_loopw [4] (fun i wr => ∃ k : Nat, k ≤ fs.length ∧ i = .int .i64 k ∧ Hid (R = fdE (fs.drop k)) ∧ Below W.heap.size W wr) (fun i _ => fs.length - (intOf i).toNat)
          case atStart => exact ⟨0, by omega, rfl, HR3.out, Below.refl _ _⟩
          case round =>
            obtain ⟨k, hk, rfl, HE, hb⟩ := hrel
            have HB := Lib.hid hb
            have hz := hb.size
            have k2' : wr.cell? ⟨w.heap.size, 2, none⟩ = some (.slice A fs.length cap) := (HK.out.below hb hWlt).cell 2
            by_cases hlt : k < fs.length
            · obtain ⟨ad, rfl, hab, x0, x1, z0, z1⟩ := fd_cells (HF.out.below (hb.mono (by omega))) hlt
              clear hb
              obtain ⟨f, hfe⟩ : ∃ f, f = fs[k] := ⟨_, rfl⟩
              rw [← hfe] at x0 x1 z0 z1
              have HFE := Lib.hid hfe
              have HB2 := Lib.hid (HWB.out.trans ((HB.out.alloc hz (.cells #[.string f.n, .string f.v] 108)).mono (Nat.le_of_lt hWlt)))
              have HB3 := Lib.hid (HB.out.alloc hz (.cells #[.string f.n, .string f.v] 108))
              clear hfe k0 k1 k2
              go_wp2_with fail
              go_loop [6] (fun i => ∃ j : Nat, j ≤ f.v.size ∧ i = .int .i64 j ∧ Hid ((f.v.data.toList.take j).all valB = true)) (fun i => f.v.size - (intOf i).toNat)
              case atStart => exact ⟨0, by omega, rfl, rfl⟩
              case round =>
                obtain ⟨j, hj, rfl, HJ⟩ := hrel
                by_cases hjl : j < f.v.size
                · obtain ⟨c1, c2⟩ := byte_lt f.v[j]
                  by_cases p1 : f.v[j].toNat < 32
                  · have q1 : (f.v[j].toNat : Int) < 32 := by omega
                    by_cases p9 : f.v[j] = 9
                    · have n9 : ((f.v[j].toNat : Int) != 9) = false := byte_neqf (c := 9) p9
                      have n127 : ((f.v[j].toNat : Int) == 127) = false := byte_ne (c := 127) (by rw [p9]; decide)
                      have HN := Lib.hid (all_step valB hjl HJ.out (val_tab p9))
                      clear p9
                      go_wp2_with fail
                      go_round
                      case rel => exact ⟨j + 1, by omega, by go_num, HN⟩
                      case measure => simp [intOf]; omega
                    · have n9 : ((f.v[j].toNat : Int) != 9) = true := byte_neq (c := 9) p9
                      have HN : Hid (R = 4) := by show _ = _; rw [HE.out]; exact fdE_form hlt (.inr (by rw [← HFE.out]; exact valL_bad (all_hit valB hjl (val_lo p1 p9))))
                      clear p9
                      go_wp2_with fail
                      go_ret
                      exact ⟨by rw [HN.out]; rfl, HB2.out⟩
                  · have q1 : ¬ (f.v[j].toNat : Int) < 32 := by omega
                    have r1 : decide ((f.v[j].toNat : Int) < 32) = false := decide_eq_false q1
                    by_cases p7 : f.v[j] = 127
                    · have n127 : ((f.v[j].toNat : Int) == 127) = true := byte_eq (c := 127) p7
                      have HN : Hid (R = 4) := by show _ = _; rw [HE.out]; exact fdE_form hlt (.inr (by rw [← HFE.out]; exact valL_bad (all_hit valB hjl (val_del p7))))
                      clear p7
                      go_wp2_with fail
                      go_ret
                      exact ⟨by rw [HN.out]; rfl, HB2.out⟩
                    · have n127 : ((f.v[j].toNat : Int) == 127) = false := byte_ne (c := 127) p7
                      have HN := Lib.hid (all_step valB hjl HJ.out (val_ok p1 p7))
                      clear p7
                      go_wp2_with fail
                      go_round
                      case rel => exact ⟨j + 1, by omega, by go_num, HN⟩
                      case measure => simp [intOf]; omega
                · have HV := Lib.hid (all_end valB (by omega) HJ.out)
                  obtain rfl : j = f.v.size := by omega
                  clear HJ
                  cases q1 : tokL f.n.data.toList with
                  | false =>
                    have C1 := Lib.hid (Tok_as q1 (show f.n.size ≤ 140737488355328 by omega))
                    have HN : Hid (R = 4) := by show _ = _; rw [HE.out]; exact fdE_form hlt (.inl (by rw [← HFE.out]; exact q1))
                    clear q1 CT
                    go_wp2_with fail
                    go_quiet (first | (go_at_call 98; exact quiet_left (C1.out _)))
                    go_wp2_with fail
                    go_ret
                    exact ⟨by rw [HN.out]; rfl, below_drewN HB2.out _⟩
                  | true =>
                    have C1 := Lib.hid (Tok_as q1 (show f.n.size ≤ 140737488355328 by omega))
                    cases q2 : (trimL f.v.data.toList == f.v.data.toList) with
                    | false =>
                      obtain ⟨u, hu⟩ : ∃ u, str (trimL f.v.data.toList) = u := ⟨_, rfl⟩
                      have C2 := Lib.hid (Trim_as hu (show f.v.size ≤ 140737488355328 by omega))
                      have u1 : (u.toList == f.v.toList) = false := by rw [← hu, Lib.toList_data, Lib.toList_data]; exact q2
                      have u2 : (u.toList != f.v.toList) = true := by rw [bne, u1]; rfl
                      have HN : Hid (R = 4) := by show _ = _; rw [HE.out]; exact fdE_form hlt (.inr (by rw [← HFE.out]; exact valL_trim q2))
                      clear q1 q2 CT hu
                      go_wp2_with fail
                      go_quiet (first | (go_at_call 98; exact quiet_left (C1.out _)) | (go_at_call 67; exact quiet_left (C2.out _)))
                      go_wp2_with fail
                      go_ret
                      exact ⟨by rw [HN.out]; rfl, below_drewN HB2.out _⟩
                    | true =>
                      have C2 := Lib.hid (Trim_as (trim_self q2) (show f.v.size ≤ 140737488355328 by omega))
                      have HNO : Hid (¬ (tokL fs[k].n.data.toList = false ∨ valL fs[k].v.data.toList = false)) := by show ¬ _; rw [← HFE.out, q1, valL_ok HV.out q2]; simp
                      clear q1 q2 CT
                      by_cases q3 : 1000 < f.n.size + f.v.size
                      · have HN : Hid (R = 5) := by show _ = _; rw [HE.out]; exact fdE_long hlt HNO.out (by rw [← HFE.out]; exact q3)
                        have q4 : (1000 : Int) < (f.n.size : Int) + (f.v.size : Int) := by omega
                        go_wp2_with fail
                        go_quiet (first | (go_at_call 98; exact quiet_left (C1.out _)) | (go_at_call 67; exact quiet_left (C2.out _)))
                        go_wp2_with fail
                        go_ret
                        exact ⟨by rw [HN.out]; rfl, below_drewN HB2.out _⟩
                      · have HN : Hid (R = fdE (fs.drop (k + 1))) := by show _ = _; rw [HE.out]; exact fdE_next hlt HNO.out (by rw [← HFE.out]; exact q3)
                        have q4 : ¬ (1000 : Int) < (f.n.size : Int) + (f.v.size : Int) := by omega
                        go_wp2_with fail
                        go_quiet (first | (go_at_call 98; exact quiet_left (C1.out _)) | (go_at_call 67; exact quiet_left (C2.out _)))
                        go_wp2_with fail
                        go_roundw
                        case rel => exact ⟨k + 1, by omega, by go_num, HN, below_drewN HB3.out _⟩
                        case measure => simp [intOf]; omega
            · have HR4 : Hid (R = 0) := by show _ = _; rw [HE.out]; exact fdE_end (by omega)
              clear hb
              go_wp2_with fail
              go_ret
              exact ⟨by rw [HR4.out]; rfl, HWB.out.trans (HB.out.mono (by omega))⟩
theorem refHead_any (hm : m.size ≤ 1048576) (ht : t.size ≤ 1048576) (hf : FdR w B A cap fs) (hB : B ≤ w.heap.size) :
    Calls Tryd.prog 60 #[.agg #[.string m, .string t, .slice A fs.length cap]] w fun e w' => e = .returned (.int .i64 (hdE ⟨m, t, fs⟩)) ∧ Below w.heap.size w w' := by
  by_cases h : tokL m.data.toList = false ∨ 20 < m.size ∨ t.size = 0
  · have e : hdE ⟨m, t, fs⟩ = 4 := by
      unfold hdE
      exact if_pos (h.elim (fun h => .inl h) (fun h => h.elim (fun h => .inr (.inl h)) (fun h => .inr (.inr (.inl h)))))
    rw [e]; exact refHead_short m t fs A cap w hm ht h
  · have e : hdE ⟨m, t, fs⟩ = if plainL t.data.toList = false then 4 else if 1000 < t.size ∨ 30 < fs.length then 5 else fdE fs := by
      unfold hdE
      by_cases hp : plainL t.data.toList = false
      · rw [if_pos (.inr (.inr (.inr hp))), if_pos hp]
      · rw [if_neg (fun k => k.elim (fun k => h (.inl k)) (fun k => k.elim (fun k => h (.inr (.inl k))) (fun k => k.elim (fun k => h (.inr (.inr k))) hp))), if_neg hp]
    rw [e]; exact refHead_long m t fs A cap B w hm ht hf hB h
end
end Go.Proofs.YtkcncgdgicffhaaDoor
