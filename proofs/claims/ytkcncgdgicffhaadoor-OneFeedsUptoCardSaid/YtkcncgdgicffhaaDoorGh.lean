/- Heads as data: fields that came in; what Check, Print and Get answer, plainly. Walks: head.plain, head.value. -/
import Derived.Test.YtkcncgdgicffhaaDoorGe
import Derived.Test.YtkcncgdgicffhaaDoorGg
import Derived.Test.YtkcncgdgicffhaaDoorGc
namespace Go.Proofs.YtkcncgdgicffhaaDoor
open Go.RowKit
set_option linter.unusedVariables false
set_option linter.unusedSimpArgs false

section
variable (p : UInt8 → Bool)
theorem all_step {s : ByteArray} {k : Nat} (h : k < s.size) (h1 : (s.data.toList.take k).all p = true) (h2 : p s[k] = true) : (s.data.toList.take (k + 1)).all p = true := by
  rw [take_snoc s k h, List.all_append, h1]; simp [h2]
theorem all_hit {s : ByteArray} {k : Nat} (h : k < s.size) (h2 : p s[k] = false) : s.data.toList.all p = false := by
  rw [List.all_eq_false]
  exact ⟨s[k], by rw [← lst_get s k h]; exact List.getElem_mem _, by rw [h2]; decide⟩
theorem all_end {s : ByteArray} {k : Nat} (h : s.size ≤ k) (h1 : (s.data.toList.take k).all p = true) : s.data.toList.all p = true := by
  rw [take_all s h] at h1; exact h1
end
/-- a byte of a target -/
def plainB (b : UInt8) : Bool := !(decide (b.toNat < 33) || decide (126 < b.toNat))
def plainL (l : List UInt8) : Bool := l.all plainB
/-- a byte of a value -/
def valB (b : UInt8) : Bool := !((decide (b.toNat < 32) && !(b == 9)) || b == 127)
def valL (l : List UInt8) : Bool := l.all valB && trimL l == l
theorem plain_lo {b : UInt8} (h : b.toNat < 33) : plainB b = false := by simp [plainB, h]
theorem plain_hi {b : UInt8} (h : 126 < b.toNat) : plainB b = false := by simp [plainB, h]
theorem plain_ok {b : UInt8} (h : ¬ b.toNat < 33) (h2 : ¬ 126 < b.toNat) : plainB b = true := by simp [plainB, h, h2]
theorem val_lo {b : UInt8} (h : b.toNat < 32) (h2 : ¬ b = 9) : valB b = false := by simp [valB, h, h2]
theorem val_del {b : UInt8} (h : b = 127) : valB b = false := by subst h; rfl
theorem val_ok {b : UInt8} (h : ¬ b.toNat < 32) (h2 : ¬ b = 127) : valB b = true := by simp [valB, h, h2]
theorem val_tab {b : UInt8} (h : b = 9) : valB b = true := by subst h; rfl

set_option maxHeartbeats 1000000 in
theorem plain_any (s : ByteArray) (w : World) (hs : s.size ≤ 140737488355328) :
    Calls Tryd.prog 95 #[.string s] w fun e w' => e = .returned (.bool (plainL s.data.toList)) ∧ w = w' := by
  go_enter Tryd.func95, Tryd.ntmps95
  go_wp2
  go_loop [6] (fun i => ∃ k : Nat, k ≤ s.size ∧ i = .int .i64 k ∧ Hid ((s.data.toList.take k).all plainB = true)) (fun i => s.size - (intOf i).toNat)
  case atStart => exact ⟨0, by omega, rfl, rfl⟩
  case round =>
    obtain ⟨k, hk, rfl, HE⟩ := hrel
    by_cases hlt : k < s.size
    · obtain ⟨c1, c2⟩ := byte_lt s[k]
      by_cases h1 : s[k].toNat < 33
      · have HN := Lib.hid (all_hit plainB hlt (plain_lo h1))
        have e1 : (s[k].toNat : Int) < 33 := by omega
        go_wp2
        go_ret
        exact ⟨ret_bool HN.out.symm, rfl⟩
      · have e1 : ¬ (s[k].toNat : Int) < 33 := by omega
        have d1 : decide ((s[k].toNat : Int) < 33) = false := decide_eq_false e1
        by_cases h2 : 126 < s[k].toNat
        · have HN := Lib.hid (all_hit plainB hlt (plain_hi h2))
          have e2 : 126 < (s[k].toNat : Int) := by omega
          go_wp2
          go_ret
          exact ⟨ret_bool HN.out.symm, rfl⟩
        · have e2 : ¬ 126 < (s[k].toNat : Int) := by omega
          have d2 : decide (126 < (s[k].toNat : Int)) = false := decide_eq_false e2
          have HN := Lib.hid (all_step plainB hlt HE.out (plain_ok h1 h2))
          go_wp2
          go_round
          case rel => exact ⟨k + 1, by omega, by go_num, HN⟩
          case measure => simp [intOf]; omega
    · have HN := Lib.hid (all_end plainB (by omega) HE.out)
      go_wp2
      go_ret
      exact ⟨ret_bool HN.out.symm, rfl⟩

set_option maxHeartbeats 1000000 in
theorem value_ok (s : ByteArray) (w : World) (hs : s.size ≤ 140737488355328) :
    Calls Tryd.prog 96 #[.string s] w fun e w' => e = .returned (.bool (valL s.data.toList)) ∧ w = w' := by
  go_enter Tryd.func96, Tryd.ntmps96
  go_wp2_with fail
  go_loop [7] (fun i => ∃ k : Nat, k ≤ s.size ∧ i = .int .i64 k ∧ Hid ((s.data.toList.take k).all valB = true)) (fun i => s.size - (intOf i).toNat)
  case atStart => exact ⟨0, by omega, rfl, rfl⟩
  case round =>
    obtain ⟨k, hk, rfl, HE⟩ := hrel
    by_cases hlt : k < s.size
    · obtain ⟨c1, c2⟩ := byte_lt s[k]
      by_cases h1 : s[k].toNat < 32
      · have e1 : (s[k].toNat : Int) < 32 := by omega
        by_cases h9 : s[k] = 9
        · have n9 : ((s[k].toNat : Int) != 9) = false := byte_neqf (c := 9) h9
          have n127 : ((s[k].toNat : Int) == 127) = false := byte_ne (c := 127) (by rw [h9]; decide)
          have HN := Lib.hid (all_step valB hlt HE.out (val_tab h9))
          clear h9
          go_wp2_with fail
          go_round
          case rel => exact ⟨k + 1, by omega, by go_num, HN⟩
          case measure => simp [intOf]; omega
        · have n9 : ((s[k].toNat : Int) != 9) = true := byte_neq (c := 9) h9
          have HN : Hid (valL s.data.toList = false) := by show _ = _; unfold valL; rw [all_hit valB hlt (val_lo h1 h9)]; rfl
          clear h9
          go_wp2_with fail
          go_ret
          exact ⟨ret_bool HN.out.symm, rfl⟩
      · have e1 : ¬ (s[k].toNat : Int) < 32 := by omega
        have d1 : decide ((s[k].toNat : Int) < 32) = false := decide_eq_false e1
        by_cases h7 : s[k] = 127
        · have n127 : ((s[k].toNat : Int) == 127) = true := byte_eq (c := 127) h7
          have HN : Hid (valL s.data.toList = false) := by show _ = _; unfold valL; rw [all_hit valB hlt (val_del h7)]; rfl
          clear h7
          go_wp2_with fail
          go_ret
          exact ⟨ret_bool HN.out.symm, rfl⟩
        · have n127 : ((s[k].toNat : Int) == 127) = false := byte_ne (c := 127) h7
          have HN := Lib.hid (all_step valB hlt HE.out (val_ok h1 h7))
          clear h7
          go_wp2_with fail
          go_round
          case rel => exact ⟨k + 1, by omega, by go_num, HN⟩
          case measure => simp [intOf]; omega
    · have HN := Lib.hid (all_end valB (by omega) HE.out)
      go_wp2_with fail
      refine (trim_any s w hs).mono ?_
      rintro e w' ⟨rfl, rfl⟩
      go_wp2_with fail
      go_ret
      refine ⟨ret_bool ?_, rfl⟩
      unfold valL
      rw [HN.out, Bool.true_and, Lib.toList_data]

/-- a head -/
structure Hd where
  (m t : ByteArray) (fs : List Fd)
/-- what is wrong with its fields -/
def fdE : List Fd → Int
  | [] => 0
  | f :: fs => if tokL f.n.data.toList = false ∨ valL f.v.data.toList = false then 4 else if 1000 < f.n.size + f.v.size then 5 else fdE fs
/-- what is wrong with a head -/
def hdE (h : Hd) : Int := if tokL h.m.data.toList = false ∨ 20 < h.m.size ∨ h.t.size = 0 ∨ plainL h.t.data.toList = false then 4 else if 1000 < h.t.size ∨ 30 < h.fs.length then 5 else fdE h.fs
theorem fdE_end {fs : List Fd} {k : Nat} (h : fs.length ≤ k) : fdE (fs.drop k) = 0 := by rw [List.drop_of_length_le h]; rfl
theorem fdE_form {fs : List Fd} {k : Nat} (h : k < fs.length) (h2 : tokL fs[k].n.data.toList = false ∨ valL fs[k].v.data.toList = false) : fdE (fs.drop k) = 4 := by
  rw [List.drop_eq_getElem_cons h, fdE, if_pos h2]
theorem fdE_long {fs : List Fd} {k : Nat} (h : k < fs.length) (h2 : ¬ (tokL fs[k].n.data.toList = false ∨ valL fs[k].v.data.toList = false)) (h3 : 1000 < fs[k].n.size + fs[k].v.size) : fdE (fs.drop k) = 5 := by
  rw [List.drop_eq_getElem_cons h, fdE, if_neg h2, if_pos h3]
theorem fdE_next {fs : List Fd} {k : Nat} (h : k < fs.length) (h2 : ¬ (tokL fs[k].n.data.toList = false ∨ valL fs[k].v.data.toList = false)) (h3 : ¬ 1000 < fs[k].n.size + fs[k].v.size) : fdE (fs.drop k) = fdE (fs.drop (k + 1)) := by
  rw [List.drop_eq_getElem_cons h, fdE, if_neg h2, if_neg h3]
end Go.Proofs.YtkcncgdgicffhaaDoor
