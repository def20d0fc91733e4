/- The reference's reader in memory. Walks: (*wickref.text).peek, wrong, wickref.node. -/
import Derived.Test.YtkdcgkdbieeijaaPrsB
namespace Go.Proofs.Ytkdcgkdbieeijaa
open Go.RowKit
set_option linter.unusedVariables false
set_option linter.unusedSimpArgs false

/-- the reference's reader's box -/
def Tb (w : World) (g : Nat) (s : ByteArray) (a op e r : Int) : Prop := Blk w g 48 #[.string s, .int .i64 a, .int .i64 op, .int .i64 e, .int .i64 r]
/-- the byte at hand as a string -/
def pk (s : ByteArray) (y : Sx) : ByteArray := if nx s y < 0 then ByteArray.empty else str [(nx s y).toNat.toUInt8]
section
variable {w w' : World} {g : Nat} {s : ByteArray} {a op e r : Int}
theorem Tb.facts (h : Tb w g s a op e r) : w.cell? ⟨g, 0, none⟩ = some (.string s) ∧ w.cell? ⟨g, 1, none⟩ = some (.int .i64 a) ∧ w.cell? ⟨g, 2, none⟩ = some (.int .i64 op) ∧ w.cell? ⟨g, 3, none⟩ = some (.int .i64 e) ∧ w.cell? ⟨g, 4, none⟩ = some (.int .i64 r) := ⟨h.cell 0, h.cell 1, h.cell 2, h.cell 3, h.cell 4⟩
theorem Tb.froz (h : Tb w g s a op e r) (i : Nat) : w.frozen? ⟨g, i, none⟩ = false := Blk.frozen h i
theorem Tb.drewN (h : Tb w g s a op e r) (n : Nat) : Tb (w.drewN n) g s a op e r := Blk.drewN h n
theorem Tb.below (h : Tb w g s a op e r) (hb : Below w.heap.size w w') : Tb w' g s a op e r := Blk.below h hb (Blk.lt h)
theorem Tb.setP (h : Tb w g s a op e r) (p : Int) : Tb (w.setCell ⟨g, 1, none⟩ (.int .i64 p)) g s p op e r := Blk.set_ h 1 _
theorem Tb.setO (h : Tb w g s a op e r) (o : Int) : Tb (w.setCell ⟨g, 2, none⟩ (.int .i64 o)) g s a o e r := Blk.set_ h 2 _
theorem Tb.setE (h : Tb w g s a op e r) (c at_ : Int) : Tb ((w.setCell ⟨g, 3, none⟩ (.int .i64 c)).setCell ⟨g, 4, none⟩ (.int .i64 at_)) g s a op c at_ := Blk.set_ (Blk.set_ h 3 _) 4 _
end
theorem pk_none {s : ByteArray} {y : Sx} (h : nx s y < 0) : pk s y = ByteArray.empty := if_pos h
theorem pk_some {s : ByteArray} {y : Sx} (h : 0 ≤ nx s y) : pk s y = str [(nx s y).toNat.toUInt8] := if_neg (by omega)
section
variable (s : ByteArray) (hs : s.size ≤ 200) (y : Sx) (a op r : Int) (g : Nat) (w : World)
include hs
set_option maxHeartbeats 1000000 in
theorem peek_any (ha : y.e = 0 → a = y.p) (hR : Tb w g s a op y.e r) :
    Calls Try.prog 33 #[.pointer (some ⟨g, 0, none⟩)] w fun e w' => e = .returned (.string (pk s y)) ∧ ∃ q, w' = w.drewN q := by
  obtain ⟨c0, c1, c2, c3, _⟩ := hR.facts
  obtain ⟨N, hN⟩ : ∃ N, N = pk s y := ⟨_, rfl⟩
  rw [← hN]
  have HN := Lib.hid hN
  clear hN hR
  by_cases h2 : y.e = 0
  · obtain rfl := ha h2
    rw [h2] at c3
    by_cases hlt : y.p < s.size
    · have HX : Hid (N = s.extract y.p (y.p + 1)) := Lib.hid (by
        have e1 := nx_at h2 hlt
        rw [HN.out, pk_some (by rw [e1]; omega), e1]
        rw [Int.toNat_natCast, show s[y.p].toNat.toUInt8 = s[y.p] from UInt8.ofNat_toNat]
        have := cat_ext1 [] s y.p hlt
        rw [show str [] = ByteArray.empty from rfl, ByteArray.empty_append, List.nil_append] at this
        exact this.symm)
      have hl1 : decide ((y.p : Int) < (s.size : Int)) = true := decide_eq_true (by omega)
      have hw : IntKind.i64.wrap ((y.p : Int) + 1) = (y.p : Int) + 1 := IntWalk.i64_in _ (by omega)
      go_enter Try.func33, Try.ntmps33
      go_wp2_with fail
      go_quiet (fail)
      go_wp2_with fail
      go_quiet (fail)
      go_wp2_with fail
      go_ret
      exact ⟨by rw [HX.out]; rfl, _, World.drewN_drewN _ _ _⟩
    · have HX : Hid (N = ByteArray.empty) := Lib.hid (HN.out.trans (pk_none (by rw [nx_end fun k => hlt k.2]; decide)))
      have hl1 : decide ((y.p : Int) < (s.size : Int)) = false := decide_eq_false (by omega)
      go_enter Try.func33, Try.ntmps33
      go_wp2_with fail
      go_quiet (fail)
      go_wp2_with fail
      go_ret
      exact ⟨by rw [HX.out]; rfl, _, rfl⟩
  · have f2 : (y.e == 0) = false := by rw [beq_eq_false_iff_ne]; exact h2
    have HX : Hid (N = ByteArray.empty) := Lib.hid (HN.out.trans (pk_none (by rw [nx_err h2]; decide)))
    go_enter Try.func33, Try.ntmps33
    go_wp2_with fail
    go_quiet (fail)
    go_wp2_with fail
    go_ret
    exact ⟨by rw [HX.out]; rfl, _, rfl⟩
omit hs in
theorem wrong_no (c p : Int) (e : Int) (h : ¬ e = 0) (hR : Tb w g s a op e r) :
    Calls Try.prog 16 #[.pointer (some ⟨g, 0, none⟩), .int .i64 c, .int .i64 p] w fun e w' => e = .returned (.tuple #[]) ∧ w' = w := by
  obtain ⟨c0, c1, c2, c3, _⟩ := hR.facts
  have f2 : (e == 0) = false := by rw [beq_eq_false_iff_ne]; exact h
  clear hR h
  go_enter Try.func16, Try.ntmps16
  go_wp2_with fail
  go_end0
  exact ⟨rfl, rfl⟩
omit hs in
theorem wrong_yes (c p : Int) (hR : Tb w g s a op 0 r) :
    Calls Try.prog 16 #[.pointer (some ⟨g, 0, none⟩), .int .i64 c, .int .i64 p] w fun e w' => e = .returned (.tuple #[]) ∧ Tb w' g s a op c p ∧ KeptOff w w' g := by
  obtain ⟨c0, c1, c2, c3, c4⟩ := hR.facts
  have f3 := hR.froz 3
  have f4 := hR.froz 4
  have H := Lib.hid hR
  clear hR
  go_enter Try.func16, Try.ntmps16
  go_wp2_with fail
  go_end0
  exact ⟨rfl, H.out.setE c p, (KeptOff.refl.set_ 3 _).set_ 4 _⟩
end
theorem node_any (k : Int) (A : Option Addr) (l c : Nat) (w : World) : Calls Try.prog 34 #[.int .i64 k, .slice A l c] w fun e w' => e = .returned (.agg #[.int .i64 k, .int .u64 0, .int .u64 0, .int .u64 0, .int .u64 0, .slice A l c]) ∧ Below w.heap.size w w' := by
  go_enter Try.func34, Try.ntmps34
  go_wp2_with fail
  obtain ⟨W1, h1⟩ : ∃ W1, w.alloc (.cells #[.int .i64 k, .int .u64 0, .int .u64 0, .int .u64 0, .int .u64 0, .slice A l c] 27) = W1 := ⟨_, rfl⟩
  rw [h1]
  have hres : Blk W1 w.heap.size 27 #[.int .i64 k, .int .u64 0, .int .u64 0, .int .u64 0, .int .u64 0, .slice A l c] := by rw [← h1]; exact Blk.new _ _ _
  have hb : Below w.heap.size w W1 := by rw [← h1]; exact (Below.refl _ _).alloc (Nat.le_refl _) _
  have z0 : W1.cell? ⟨w.heap.size, 0, none⟩ = some (.int .i64 k) := hres.cell 0
  have z1 : W1.cell? ⟨w.heap.size, 1, none⟩ = some (.int .u64 0) := hres.cell 1
  have z2 : W1.cell? ⟨w.heap.size, 2, none⟩ = some (.int .u64 0) := hres.cell 2
  have z3 : W1.cell? ⟨w.heap.size, 3, none⟩ = some (.int .u64 0) := hres.cell 3
  have z4 : W1.cell? ⟨w.heap.size, 4, none⟩ = some (.int .u64 0) := hres.cell 4
  have z5 : W1.cell? ⟨w.heap.size, 5, none⟩ = some (.slice A l c) := hres.cell 5
  clear h1 hres
  refine bodyPost_ret (v := .agg #[.int .i64 k, .int .u64 0, .int .u64 0, .int .u64 0, .int .u64 0, .slice A l c]) (by simp [results, Try.results34, go_sem, z0, z1, z2, z3, z4, z5]) rfl ⟨rfl, hb⟩
end Go.Proofs.Ytkdcgkdbieeijaa
