/- Walks: octet.Token, wickref.Token. -/
import Derived.Test.YtkcncgdgicffhaaDoorGf
import Derived.Test.YtkcncgdgicffhaaDoorGd
import Derived.Test.YtkcncgdgicffhaaDoorGc
namespace Go.Proofs.YtkcncgdgicffhaaDoor
open Go.RowKit
set_option linter.unusedVariables false
set_option linter.unusedSimpArgs false

/-- a byte of a token -/
def tokB (n : Nat) : Bool := (65 ≤ n && n ≤ 90) || (97 ≤ n && n ≤ 122) || (48 ≤ n && n ≤ 57) || ([33, 35, 36, 37, 38, 39, 42, 43, 45, 46, 94, 95, 124, 126, 96] : List Nat).contains n
def tokL (l : List UInt8) : Bool := !l.isEmpty && l.all fun b => tokB b.toNat
theorem tok_cases : ∀ b : UInt8,
    (tokB b.toNat = true ∧ 97 ≤ bits .or .u8 (b.toNat : Int) 32 ∧ bits .or .u8 (b.toNat : Int) 32 ≤ 122) ∨
    (tokB b.toNat = true ∧ bits .or .u8 (b.toNat : Int) 32 < 97 ∧ 48 ≤ (b.toNat : Int) ∧ (b.toNat : Int) ≤ 57) ∨
    (tokB b.toNat = true ∧ bits .or .u8 (b.toNat : Int) 32 < 97 ∧ (b.toNat : Int) < 48 ∧ 0 ≤ ixb [33, 35, 36, 37, 38, 39, 42, 43, 45, 46, 94, 95, 124, 126, 96] (b.toNat : Int)) ∨
    (tokB b.toNat = true ∧ bits .or .u8 (b.toNat : Int) 32 < 97 ∧ 48 ≤ (b.toNat : Int) ∧ 57 < (b.toNat : Int) ∧ 0 ≤ ixb [33, 35, 36, 37, 38, 39, 42, 43, 45, 46, 94, 95, 124, 126, 96] (b.toNat : Int)) ∨
    (tokB b.toNat = true ∧ 97 ≤ bits .or .u8 (b.toNat : Int) 32 ∧ 122 < bits .or .u8 (b.toNat : Int) 32 ∧ 57 < (b.toNat : Int) ∧ 0 ≤ ixb [33, 35, 36, 37, 38, 39, 42, 43, 45, 46, 94, 95, 124, 126, 96] (b.toNat : Int)) ∨
    (tokB b.toNat = true ∧ 97 ≤ bits .or .u8 (b.toNat : Int) 32 ∧ 122 < bits .or .u8 (b.toNat : Int) 32 ∧ (b.toNat : Int) < 48 ∧ 0 ≤ ixb [33, 35, 36, 37, 38, 39, 42, 43, 45, 46, 94, 95, 124, 126, 96] (b.toNat : Int)) ∨
    (tokB b.toNat = false ∧ bits .or .u8 (b.toNat : Int) 32 < 97 ∧ (b.toNat : Int) < 48 ∧ ixb [33, 35, 36, 37, 38, 39, 42, 43, 45, 46, 94, 95, 124, 126, 96] (b.toNat : Int) < 0) ∨
    (tokB b.toNat = false ∧ bits .or .u8 (b.toNat : Int) 32 < 97 ∧ 48 ≤ (b.toNat : Int) ∧ 57 < (b.toNat : Int) ∧ ixb [33, 35, 36, 37, 38, 39, 42, 43, 45, 46, 94, 95, 124, 126, 96] (b.toNat : Int) < 0) ∨
    (tokB b.toNat = false ∧ 97 ≤ bits .or .u8 (b.toNat : Int) 32 ∧ 122 < bits .or .u8 (b.toNat : Int) 32 ∧ 57 < (b.toNat : Int) ∧ ixb [33, 35, 36, 37, 38, 39, 42, 43, 45, 46, 94, 95, 124, 126, 96] (b.toNat : Int) < 0) ∨
    (tokB b.toNat = false ∧ 97 ≤ bits .or .u8 (b.toNat : Int) 32 ∧ 122 < bits .or .u8 (b.toNat : Int) 32 ∧ (b.toNat : Int) < 48 ∧ ixb [33, 35, 36, 37, 38, 39, 42, 43, 45, 46, 94, 95, 124, 126, 96] (b.toNat : Int) < 0) := all_bytes (by decide +kernel)
theorem hasb_tok : ∀ b : UInt8, hasb b.toNat (lst ⟨([97, 98, 99, 100, 101, 102, 103, 104, 105, 106, 107, 108, 109, 110, 111, 112, 113, 114, 115, 116, 117, 118, 119, 120, 121, 122, 65, 66, 67, 68, 69, 70, 71, 72, 73, 74, 75, 76].append [77, 78, 79, 80, 81, 82, 83, 84, 85, 86, 87, 88, 89, 90, 48, 49, 50, 51, 52, 53, 54, 55, 56, 57, 33, 35, 36, 37, 38, 39, 42, 43, 45, 46, 94, 95, 124, 126, 96]).toArray⟩) = tokB b.toNat := all_bytes (by decide +kernel)
theorem tok_step {s : ByteArray} {k : Nat} (h : k < s.size) (h1 : (s.data.toList.take k).all (fun b => tokB b.toNat) = true) (h2 : tokB s[k].toNat = true) : (s.data.toList.take (k + 1)).all (fun b => tokB b.toNat) = true := by
  rw [take_snoc s k h, List.all_append, h1]; simp [h2]
theorem tok_hit {s : ByteArray} {k : Nat} (h : k < s.size) (h2 : tokB s[k].toNat = false) : tokL s.data.toList = false := by
  unfold tokL
  rw [Bool.and_eq_false_iff]; right
  rw [List.all_eq_false]
  exact ⟨s[k], by rw [← lst_get s k h]; exact List.getElem_mem _, by rw [h2]; decide⟩
theorem tok_end {s : ByteArray} {k : Nat} (h : s.size ≤ k) (h1 : (s.data.toList.take k).all (fun b => tokB b.toNat) = true) : tokL s.data.toList = decide (0 < s.size) := by
  rw [take_all s h] at h1
  unfold tokL
  rw [h1, Bool.and_true, ← lst_len]
  cases s.data.toList <;> simp

set_option maxHeartbeats 1000000 in
theorem token_any (s : ByteArray) (w : World) (hs : s.size ≤ 140737488355328) :
    Calls Tryd.prog 94 #[.string s] w fun e w' => e = .returned (.bool (tokL s.data.toList)) ∧ w = w' := by
  go_enter Tryd.func94, Tryd.ntmps94
  go_wp2
  go_loop [8] (fun i => ∃ k : Nat, k ≤ s.size ∧ i = .int .i64 k ∧ Hid ((s.data.toList.take k).all (fun b => tokB b.toNat) = true)) (fun i => s.size - (intOf i).toNat)
  case atStart => exact ⟨0, by omega, rfl, rfl⟩
  case round =>
    obtain ⟨k, hk, rfl, HE⟩ := hrel
    by_cases hlt : k < s.size
    · obtain ⟨c1, c2⟩ := byte_lt s[k]
      have HC := Lib.hid (tok_cases s[k])
      cases htk : tokB s[k].toNat with
      | true =>
        have HN := Lib.hid (tok_step hlt HE.out htk)
        have HK := Lib.hid htk
        clear htk
        rcases HC.out with h | h | h | h | h | h | h | h | h | h
        all_goals first | (exfalso; have := h.1; rw [HK.out] at this; cases this; done) | replace h := h.2
        all_goals
          go_wp2_with (go_at_call 116; refine (indexByte_any _ [33, 35, 36, 37, 38, 39, 42, 43, 45, 46, 94, 95, 124, 126, 96] rfl _ _).mono ?_; rintro e w' ⟨rfl, rfl⟩)
        all_goals go_round
        all_goals first | exact ⟨k + 1, by omega, by go_num, HN⟩ | (simp [intOf]; omega)
      | false =>
        have HN := Lib.hid (tok_hit hlt htk)
        have HK := Lib.hid htk
        clear htk
        rcases HC.out with h | h | h | h | h | h | h | h | h | h
        all_goals first | (exfalso; have := h.1; rw [HK.out] at this; cases this; done) | replace h := h.2
        all_goals
          go_wp2_with (go_at_call 116; refine (indexByte_any _ [33, 35, 36, 37, 38, 39, 42, 43, 45, 46, 94, 95, 124, 126, 96] rfl _ _).mono ?_; rintro e w' ⟨rfl, rfl⟩)
        all_goals first | (go_ret; exact ⟨ret_bool HN.out.symm, rfl⟩) | (exfalso; rename_i hx; simp at hx; omega)
    · have HN := Lib.hid (tok_end (by omega) HE.out)
      go_wp2
      go_ret
      refine ⟨ret_bool ?_, rfl⟩
      rw [HN.out, Lib.toList_data, ← lst_len]
      cases s.data.toList <;> simp

set_option maxHeartbeats 1000000 in
theorem Token_any (s : ByteArray) (w : World) (hs : s.size ≤ 140737488355328) :
    Calls Tryd.prog 98 #[.string s] w fun e w' => e = .returned (.bool (tokL s.data.toList)) ∧ w = w' := by
  go_enter Tryd.func98, Tryd.ntmps98
  go_wp2
  go_loop [3] (fun i => ∃ k : Nat, k ≤ s.size ∧ i = .int .i64 k ∧ Hid ((s.data.toList.take k).all (fun b => tokB b.toNat) = true)) (fun i => s.size - (intOf i).toNat)
  case atStart => exact ⟨0, by omega, rfl, rfl⟩
  case round =>
    obtain ⟨k, hk, rfl, HE⟩ := hrel
    by_cases hlt : k < s.size
    · obtain ⟨c1, c2⟩ := byte_lt s[k]
      have HT := Lib.hid (hasb_tok s[k])
      cases htk : tokB s[k].toNat with
      | true =>
        have HN := Lib.hid (tok_step hlt HE.out htk)
        have HK := Lib.hid htk
        clear htk
        go_wp2_with (go_at_call 117; go_must (refine (in_res _ _ _ (HT.out.trans HK.out) _ (by decide) c1 c2).mono ?_; rintro e w' ⟨rfl, rfl⟩))
        go_round
        case rel => exact ⟨k + 1, by omega, by go_num, HN⟩
        case measure => simp [intOf]; omega
      | false =>
        have HN := Lib.hid (tok_hit hlt htk)
        have HK := Lib.hid htk
        clear htk
        go_wp2_with (go_at_call 117; go_must (refine (in_res _ _ _ (HT.out.trans HK.out) _ (by decide) c1 c2).mono ?_; rintro e w' ⟨rfl, rfl⟩))
        go_ret
        exact ⟨ret_bool HN.out.symm, rfl⟩
    · have HN := Lib.hid (tok_end (by omega) HE.out)
      go_wp2
      go_ret
      exact ⟨ret_bool (by rw [HN.out]), rfl⟩
end Go.Proofs.YtkcncgdgicffhaaDoor

/- Pairs of strings: slices of them that came in. -/
namespace Go.Proofs.YtkcncgdgicffhaaDoor
open Go.RowKit
set_option linter.unusedVariables false
set_option linter.unusedSimpArgs false

/-! ### heads -/
structure Fd where
  (n v : ByteArray)
abbrev fdCs (f : Fd) : List Value := [.string f.n, .string f.v]
def fdFlat (fs : List Fd) : List Value := fs.flatMap fdCs
theorem fdFlat_len (l : List Fd) : (fdFlat l).length = l.length * 2 := by
  unfold fdFlat
  induction l with
  | nil => rfl
  | cons x l ih => rw [List.flatMap_cons, List.length_append, ih, List.length_cons]; simp only [fdCs, List.length_cons, List.length_nil]; omega
theorem fdFlat_get {l : List Fd} {k j : Nat} {f : Fd} (h : l[k]? = some f) (hj : j < 2) : (fdFlat l)[k * 2 + j]? = (fdCs f)[j]? := by
  obtain ⟨hk, rfl⟩ := List.getElem?_eq_some_iff.1 h
  have e : l = l.take k ++ l[k] :: l.drop (k + 1) := by rw [← List.drop_eq_getElem_cons hk, List.take_append_drop]
  have hc : fdFlat l = fdFlat (l.take k) ++ (fdCs l[k] ++ fdFlat (l.drop (k + 1))) := by
    conv => lhs; rw [e]
    simp only [fdFlat, List.flatMap_append, List.flatMap_cons]
  have hl : (fdFlat (l.take k)).length = k * 2 := by rw [fdFlat_len, List.length_take, Nat.min_eq_left (by omega)]
  rw [hc, List.getElem?_append_right (by omega), hl, Nat.add_sub_cancel_left, List.getElem?_append_left (by simp; omega)]
/-- fields that lie in memory below B -/
def FdR (w : World) (B : Nat) (A : Option Addr) (cap : Nat) (fs : List Fd) : Prop := Reads w B 2 A fs.length (fdFlat fs) ∧ fs.length ≤ cap ∧ cap ≤ 9223372036854775807 ∧ ∀ f ∈ fs, f.n.size ≤ 1048576 ∧ f.v.size ≤ 1048576
section
variable {w w' : World} {B : Nat} {A : Option Addr} {cap : Nat} {fs : List Fd}
theorem FdR.keep (h : FdR w B A cap fs) (hk : ∀ p : Addr, p.block < B → w'.cell? p = w.cell? p) : FdR w' B A cap fs := ⟨h.1.keep hk, h.2⟩
theorem FdR.below (h : FdR w B A cap fs) (hb : Below B w w') : FdR w' B A cap fs := h.keep fun _ hp => hb.cell hp
theorem FdR.alloc (h : FdR w B A cap fs) (hB : B ≤ w.heap.size) (o : Obj) : FdR (w.alloc o) B A cap fs := h.keep fun p hp => World.cell?_alloc_lt w o p (by omega)
/-- field k -/
theorem FdR.at_ (h : FdR w B A cap fs) {k : Nat} (hk : k < fs.length) : ∃ ad, A = some ad ∧ ad.block < B ∧ w.cell? (ad.add (k * 2)) = some (.string fs[k].n) ∧ w.cell? ((ad.add (k * 2)).add 1) = some (.string fs[k].v) ∧ fs[k].n.size ≤ 1048576 ∧ fs[k].v.size ≤ 1048576 := by
  obtain ⟨ad, e, hb, hc⟩ := h.1.2 (by omega)
  have h0 := fdFlat_get (List.getElem?_eq_getElem hk) (j := 0) (by omega)
  have h1 := fdFlat_get (List.getElem?_eq_getElem hk) (j := 1) (by omega)
  exact ⟨ad, e, hb, hc _ _ h0, by rw [add_of_add]; exact hc _ _ h1, h.2.2.2 _ (List.getElem_mem hk)⟩
end
end Go.Proofs.YtkcncgdgicffhaaDoor
