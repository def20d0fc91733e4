/- Walks of octet.digit, wickref.value. -/
import Derived.Test.YtkcncgdgicffhaaDoorRows
import Derived.Test.YtkcncgdgicffhaaDoorGa
import Derived.WalkKit
import Derived.WalkSpells
import Derived.WalkLawsBesides
import Derived.Lib.Hide
import Derived.Test.YtkcncgdgicffhaaDoorGd
import Derived.Test.YtkcncgdgicffhaaDoorGs
import Derived.Test.YtkcncgdgicffhaaDoorGn
namespace Go.Proofs.YtkcncgdgicffhaaDoor
open Go.RowKit
set_option linter.unusedVariables false
set_option linter.unusedSimpArgs false

set_option maxHeartbeats 400000 in
theorem digit_any (n : Int) (h0 : 0 ≤ n) (h1 : n ≤ 255) (w : World) :
    Calls Tryd.prog 108 #[.int .u8 n] w fun e w' => e = .returned (.int .i64 (hexv n)) ∧ w = w' := by
  go_enter Tryd.func108, Tryd.ntmps108
  go_wp2
  all_goals go_ret
  all_goals refine ⟨ret_int ?_, rfl⟩
  all_goals (unfold hexv; split <;> omega)


set_option maxHeartbeats 400000 in
theorem value_any (n : Int) (h0 : 0 ≤ n) (h1 : n ≤ 255) (w : World) :
    Calls Tryd.prog 51 #[.int .u8 n] w fun e w' => e = .returned (.int .i64 (hexv n)) ∧ w = w' := by
  go_enter Tryd.func51, Tryd.ntmps51
  go_wp2
  go_loop [3] (fun i => ∃ k : Nat, k ≤ 16 ∧ i = .int .i64 k ∧ (hexv n < 0 ∨ (k : Int) ≤ hexv n)) (fun i => 16 - (intOf i).toNat)
  case atStart => exact ⟨0, by omega, rfl, by omega⟩
  case round =>
    obtain ⟨k, hk, rfl, hh⟩ := hrel
    go_wp2
    · go_ret
      have hlt : (k : Int) < 16 := by assumption
      exact ⟨ret_int (hex_lo k (by omega)).symm, rfl⟩
    · go_ret
      have hlt : (k : Int) < 16 := by assumption
      rename_i hor _
      refine ⟨ret_int ?_, rfl⟩
      simp only [beq_iff_eq] at hor
      rcases hor with hor | hor
      · rw [hor]; exact (hex_lo k (by omega)).symm
      · rw [hor]; exact (hex_up k (by omega)).symm
    · have hlt : (k : Int) < 16 := by assumption
      have hne : hexv n ≠ k := by
        refine hex_not n k (by omega) (by assumption) ?_
        rename_i hor
        simp only [beq_eq_false_iff_ne, ne_eq] at hor
        exact hor.2
      go_round
      case rel => exact ⟨k + 1, by omega, by go_num, by omega⟩
      case measure => simp [intOf]; omega
    · go_ret
      have hge : (16 : Int) ≤ k := by assumption
      have := hexv_le n
      have := hexv_ge n
      exact ⟨ret_int (by omega), rfl⟩


set_option maxHeartbeats 400000 in
/-- octet.number -/
theorem number_any (s : ByteArray) (base most : Int) (w : World) (hs : s.size ≤ maxLen) (hb : 2 ≤ base) (hb2 : base ≤ 16) (hm0 : 0 ≤ most) (hm : most ≤ 9) :
    Calls Tryd.prog 88 #[.string s, .int .i64 base, .int .i64 most] w fun e w' => e = .returned (.tuple #[.int .i64 (numN base most s), .int .i64 (numE base most s)]) ∧ w = w' := by
  unfold maxLen at hs
  by_cases h0 : s.size = 0 ∨ most < s.size
  · obtain ⟨e1, e2⟩ := num_bad (base := base) (most := most) (s := s) (.inr (by omega))
    rw [e1, e2]; clear e1 e2
    have hz : ((s.size : Int) == 0) = true ∨ most < s.size := by rcases h0 with h | h; exact .inl (by simp [h]); exact .inr h
    rcases hz with hz | hz
    all_goals
      go_enter Tryd.func88, Tryd.ntmps88
      go_wp2
      all_goals go_ret2
      all_goals exact ⟨rfl, rfl⟩
  · have hz : ((s.size : Int) == 0) = false := beq_eq_false_iff_ne.2 (by omega)
    have hl : ¬ most < (s.size : Int) := by omega
    have hp : 1 ≤ s.size := by omega
    clear h0
    go_enter Tryd.func88, Tryd.ntmps88
    go_wp2
    go_loop [8, 22] (fun n i => ∃ k : Nat, k ≤ s.size ∧ i = .int .i64 k ∧ digs base (s.data.toList.take k) = true ∧ n = .int .i64 (numv base (s.data.toList.take k))) (fun _ i => s.size - (intOf i).toNat)
    case atStart => exact ⟨0, by omega, rfl, rfl, rfl⟩
    case round =>
      obtain ⟨k, hk, rfl, hd, rfl⟩ := hrel
      obtain ⟨b1, b2, b3, b4⟩ := numv_bd8 hb hb2 _ hd (by rw [take_len s k hk]; omega)
      have HD := Lib.hid hd; clear hd
      by_cases hlt : k < s.size
      · obtain ⟨c1, c2⟩ := byte_lt s[k]
        have d1 := hexv_le s[k].toNat
        have d2 := hexv_ge s[k].toNat
        go_wp2_with (go_at_call 108; refine (digit_any _ (by omega) (by omega) _).mono ?_; rintro e w' ⟨rfl, rfl⟩)
        all_goals first
          | (go_ret2; obtain ⟨e1, e2⟩ := num_bad (base := base) (most := most) (s := s) (.inl (digs_hit hlt (by omega))); rw [e1, e2]; exact ⟨rfl, rfl⟩)
          | (go_round; (case rel => exact ⟨k + 1, by omega, by go_num, digs_step hlt HD.out (by omega) (by omega), by rw [numv_step hlt]⟩); (case measure => simp [intOf]; omega))
      · go_wp2
        go_ret2
        have h := HD.out
        rw [take_all s (by omega)] at h
        obtain ⟨e1, e2⟩ := num_good (base := base) (most := most) (s := s) h hp (by omega)
        rw [e1, e2, take_all s (by omega)]; exact ⟨rfl, rfl⟩


set_option maxHeartbeats 400000 in
/-- wickref.Number -/
theorem Number_any (s : ByteArray) (base most : Int) (w : World) (hs : s.size ≤ maxLen) (hb : 2 ≤ base) (hb2 : base ≤ 16) (hm0 : 0 ≤ most) (hm : most ≤ 9) :
    Calls Tryd.prog 49 #[.string s, .int .i64 base, .int .i64 most] w fun e w' => e = .returned (.tuple #[.int .i64 (numN base most s), .int .i64 (numE base most s)]) ∧ w = w' := by
  unfold maxLen at hs
  go_enter Tryd.func49, Tryd.ntmps49
  go_wp2
  go_loop [8, 9] (fun n i => ∃ k : Nat, k ≤ s.size ∧ (k : Int) ≤ most ∧ i = .int .i64 k ∧ digs base (s.data.toList.take k) = true ∧ n = .int .i64 (numv base (s.data.toList.take k))) (fun _ i => s.size - (intOf i).toNat)
  case atStart => exact ⟨0, by omega, by omega, rfl, rfl, rfl⟩
  case round =>
    obtain ⟨k, hk, hkm, rfl, hd, rfl⟩ := hrel
    obtain ⟨b1, b2, b3, b4⟩ := numv_bd8 hb hb2 _ hd (by rw [take_len s k hk]; omega)
    have HD := Lib.hid hd; clear hd
    by_cases hlt : k < s.size ∧ (k : Int) < most
    · obtain ⟨hlt, hlm⟩ := hlt
      obtain ⟨c1, c2⟩ := byte_lt s[k]
      have d1 := hexv_le s[k].toNat
      have d2 := hexv_ge s[k].toNat
      go_wp2_with (go_at_call 51; refine (value_any _ (by omega) (by omega) _).mono ?_; rintro e w' ⟨rfl, rfl⟩)
      all_goals first
        | (go_ret2; obtain ⟨e1, e2⟩ := num_bad (base := base) (most := most) (s := s) (.inl (digs_hit hlt (by omega))); rw [e1, e2]; exact ⟨rfl, rfl⟩)
        | (go_round; (case rel => exact ⟨k + 1, by omega, by omega, by go_num, digs_step hlt HD.out (by omega) (by omega), by rw [numv_step hlt]⟩); (case measure => simp [intOf]; omega))
    · by_cases h0 : s.size < 1 ∨ most < s.size
      · have HE := Lib.hid (num_bad (base := base) (most := most) (s := s) (.inr h0))
        have hz : (s.size : Int) < 1 ∨ most < (s.size : Int) := by omega
        go_wp2
        all_goals (go_ret2; rw [HE.out.1, HE.out.2]; exact ⟨rfl, rfl⟩)
      · have h := HD.out
        rw [take_all s (by omega)] at h
        have HE := Lib.hid (num_good (base := base) (most := most) (s := s) h (by omega) (by omega))
        go_wp2
        go_ret2
        rw [HE.out.1, HE.out.2, take_all s (by omega)]; exact ⟨rfl, rfl⟩

end Go.Proofs.YtkcncgdgicffhaaDoor

/- Walk: octet.Dec. -/
namespace Go.Proofs.YtkcncgdgicffhaaDoor
open Go.RowKit
set_option linter.unusedVariables false
set_option linter.unusedSimpArgs false

theorem numN_ge (s : ByteArray) : 0 ≤ numN 10 9 s := by
  unfold numN
  split
  · rename_i h
    unfold numB at h
    rw [Bool.and_eq_true, Bool.and_eq_true] at h
    exact (numv_bd (by omega) (by omega) _ h.1.1).1
  · omega
theorem numE_cases (s : ByteArray) : (numB 10 9 s = false ∧ numE 10 9 s = 4) ∨ (numB 10 9 s = true ∧ numE 10 9 s = 0 ∧ 0 < s.size) := by
  unfold numE
  cases h : numB 10 9 s with
  | false => exact .inl ⟨rfl, rfl⟩
  | true =>
    refine .inr ⟨rfl, rfl, ?_⟩
    unfold numB at h
    rw [Bool.and_eq_true, Bool.and_eq_true, decide_eq_true_eq] at h
    omega
theorem decS_any (s : ByteArray) (w : World) (hs : s.size ≤ maxLen) :
    Calls Tryd.prog 44 #[.string s] w fun e w' => e = .returned (.tuple #[.int .i64 (numN 10 9 s), .int .i64 (numE 10 9 s)]) ∧ w = w' := by
  go_enter Tryd.func44, Tryd.ntmps44
  go_wp2_with fail
  refine (number_any s 10 9 _ hs (by omega) (by omega) (by omega) (by omega)).mono ?_
  rintro e w' ⟨rfl, rfl⟩
  go_wp2_with fail
  go_ret2
  exact ⟨rfl, rfl⟩
end Go.Proofs.YtkcncgdgicffhaaDoor

/- How long a body is (P26), plainly; the result's cells. -/
namespace Go.Proofs.YtkcncgdgicffhaaDoor
open Go.RowKit
set_option linter.unusedVariables false
set_option linter.unusedSimpArgs false

def clB : ByteArray := ⟨#[99, 111, 110, 116, 101, 110, 116, 45, 108, 101, 110, 103, 116, 104]⟩
def teB : ByteArray := ⟨#[116, 114, 97, 110, 115, 102, 101, 114, 45, 101, 110, 99, 111, 100, 105, 110, 103]⟩
def chB : ByteArray := ⟨#[99, 104, 117, 110, 107, 101, 100]⟩
theorem cl_up (fs : List Fd) : getL fs ⟨#[67, 111, 110, 116, 101, 110, 116, 45, 76, 101, 110, 103, 116, 104]⟩ = getL fs clB := by
  unfold getL sameN
  rw [show (⟨#[67, 111, 110, 116, 101, 110, 116, 45, 76, 101, 110, 103, 116, 104]⟩ : ByteArray).data.toList.map lowB = clB.data.toList.map lowB by decide +kernel]
theorem te_up (fs : List Fd) : getL fs ⟨#[84, 114, 97, 110, 115, 102, 101, 114, 45, 69, 110, 99, 111, 100, 105, 110, 103]⟩ = getL fs teB := by
  unfold getL sameN
  rw [show (⟨#[84, 114, 97, 110, 115, 102, 101, 114, 45, 69, 110, 99, 111, 100, 105, 110, 103]⟩ : ByteArray).data.toList.map lowB = teB.data.toList.map lowB by decide +kernel]
def chunkB (x : ByteArray) : Bool := x.data.toList.map lowB == chB.data.toList
def allS (a : List ByteArray) (a0 : ByteArray) : Bool := a.all fun x => x.data.toList == a0.data.toList
/-- kind, size, error -/
def frR : List ByteArray → List ByteArray → Int × Int × Int
  | [], [] => (1, 0, 0)
  | [], [x] => if chunkB x = true then (3, 0, 0) else (0, 0, 4)
  | [], _ :: _ :: _ => (0, 0, 4)
  | _ :: _, _ :: _ => (0, 0, 4)
  | a0 :: a, [] => if numE 10 9 a0 = 0 ∧ allS (a0 :: a) a0 = true then (2, numN 10 9 a0, 0) else (0, 0, 4)
/-- the boxes: the head, the result -/
structure Fz (w : World) (m t : ByteArray) (A : Option Addr) (cap : Nat) (fs : List Fd) (wr : World) : Prop where
  hd : Blk wr w.heap.size 24 #[.string m, .string t, .slice A fs.length cap]
  res : Blk wr (w.heap.size + 1) 27 #[.int .i64 0, .int .i64 0]
  fds : FdR wr w.heap.size A cap fs
  be : Below w.heap.size w wr
section
variable {w wr wr' : World} {m t : ByteArray} {A : Option Addr} {cap : Nat} {fs : List Fd}
theorem Fz.start (h : FdR w w.heap.size A cap fs) : Fz w m t A cap fs ((w.alloc (.cells #[.string m, .string t, .slice A fs.length cap] 24)).alloc (.cells #[.int .i64 0, .int .i64 0] 27)) :=
  ⟨(Blk.new _ _ _).alloc _, by simpa using Blk.new (w.alloc (.cells #[.string m, .string t, .slice A fs.length cap] 24)) 27 #[.int .i64 0, .int .i64 0], (h.alloc (Nat.le_refl _) _).alloc (by simp) _, ((Below.refl _ _).alloc (Nat.le_refl _) _).alloc (by simp) _⟩
theorem Fz.lt (h : Fz w m t A cap fs wr) : w.heap.size + 1 < wr.heap.size := h.res.lt
theorem Fz.step (h : Fz w m t A cap fs wr) (hb : Below wr.heap.size wr wr') : Fz w m t A cap fs wr' := ⟨h.hd.below hb h.hd.lt, h.res.below hb h.res.lt, h.fds.below (hb.mono h.be.size), h.be.trans (hb.mono h.be.size)⟩
theorem Fz.drew (h : Fz w m t A cap fs wr) : Fz w m t A cap fs wr.drew := h.step (below_drewN (Below.refl _ _) 1)
theorem Fz.facts (h : Fz w m t A cap fs wr) : wr.cell? ⟨w.heap.size, 0, none⟩ = some (.string m) ∧ wr.cell? ⟨w.heap.size, 1, none⟩ = some (.string t) ∧ wr.cell? ⟨w.heap.size, 2, none⟩ = some (.slice A fs.length cap) :=
  ⟨h.hd.cell 0, h.hd.cell 1, h.hd.cell 2⟩
theorem Fz.rfacts (h : Fz w m t A cap fs wr) : wr.cell? ⟨w.heap.size + 1, 0, none⟩ = some (.int .i64 0) ∧ wr.cell? ⟨w.heap.size + 1, 1, none⟩ = some (.int .i64 0) ∧ wr.frozen? ⟨w.heap.size + 1, 0, none⟩ = false ∧ wr.frozen? ⟨w.heap.size + 1, 1, none⟩ = false :=
  ⟨h.res.cell 0, h.res.cell 1, h.res.frozen 0, h.res.frozen 1⟩
theorem Fz.put (h : Fz w m t A cap fs wr) (a b : Value) :
    ∃ wz, wz = (wr.setCell ⟨w.heap.size + 1, 0, none⟩ a).setCell ⟨w.heap.size + 1, 1, none⟩ b ∧ Below w.heap.size w wz ∧ wz.cell? ⟨w.heap.size + 1, 0, none⟩ = some a ∧ wz.cell? ⟨w.heap.size + 1, 1, none⟩ = some b := by
  have h1 := (h.res.set_ 0 a).set_ 1 b
  exact ⟨_, rfl, (h.be.setCell (p := ⟨w.heap.size + 1, 0, none⟩) (Nat.le_succ _) _).setCell (p := ⟨w.heap.size + 1, 1, none⟩) (Nat.le_succ _) _, h1.cell 0, h1.cell 1⟩
end
def FrRes (R : Int × Int × Int) (w : World) (e : Ending) (w' : World) : Prop := e = .returned (.tuple #[.agg #[.int .i64 R.1, .int .i64 R.2.1], .int .i64 R.2.2]) ∧ Below w.heap.size w w'
end Go.Proofs.YtkcncgdgicffhaaDoor
