/- The reader in memory. Walks: (*rex.reader).next, fail, take, ends. -/
import Derived.Test.YtkdcgkdbieeijaaPrsA
import Derived.Test.YtkdcgkdbieeijaaKept
import Derived.WalkKit
import Derived.WalkSpells
import Derived.WalkLawsBesides
import Derived.Lib.Hide
import Derived.Deep.QuietTactic
import Derived.BigQuiet
import Derived.StillTailTactics
namespace Go.Proofs.Ytkdcgkdbieeijaa
open Go.RowKit
set_option linter.unusedVariables false
set_option linter.unusedSimpArgs false

/-- the reader's box -/
def Rd (w : World) (g : Nat) (s : ByteArray) (x : Sx) (op : Int) : Prop := Blk w g 42 #[.string s, .int .i64 (x.p : Int), .int .i64 op, .int .i64 x.e]
section
variable {w w' : World} {g : Nat} {s : ByteArray} {x : Sx} {op : Int}
theorem Rd.facts (h : Rd w g s x op) : w.cell? ⟨g, 0, none⟩ = some (.string s) ∧ w.cell? ⟨g, 1, none⟩ = some (.int .i64 (x.p : Int)) ∧ w.cell? ⟨g, 2, none⟩ = some (.int .i64 op) ∧ w.cell? ⟨g, 3, none⟩ = some (.int .i64 x.e) := ⟨h.cell 0, h.cell 1, h.cell 2, h.cell 3⟩
theorem Rd.drewN (h : Rd w g s x op) (n : Nat) : Rd (w.drewN n) g s x op := Blk.drewN h n
theorem Rd.below (h : Rd w g s x op) (hb : Below w.heap.size w w') : Rd w' g s x op := Blk.below h hb (Blk.lt h)
theorem Rd.setP (h : Rd w g s x op) (p : Nat) : Rd (w.setCell ⟨g, 1, none⟩ (.int .i64 (p : Int))) g s ⟨p, x.e⟩ op := Blk.set_ h 1 _
theorem Rd.setO (h : Rd w g s x op) (o : Int) : Rd (w.setCell ⟨g, 2, none⟩ (.int .i64 o)) g s x o := Blk.set_ h 2 _
theorem Rd.setE (h : Rd w g s x op) (e : Int) : Rd (w.setCell ⟨g, 3, none⟩ (.int .i64 e)) g s ⟨x.p, e⟩ op := Blk.set_ h 3 _
end
section
variable (s : ByteArray) (hs : s.size ≤ 200) (x : Sx) (op : Int) (g : Nat) (w : World)
include hs
omit hs in
set_option maxHeartbeats 1000000 in
theorem next_any (hp : x.p ≤ s.size) (hR : Rd w g s x op) :
    Calls Try.prog 47 #[.pointer (some ⟨g, 0, none⟩)] w fun e w' => e = .returned (.int .i64 (nx s x)) ∧ ∃ q, w' = w.drewN q := by
  obtain ⟨c0, c1, c2, c3⟩ := hR.facts
  obtain ⟨N, hN⟩ : ∃ N, N = nx s x := ⟨_, rfl⟩
  rw [← hN]
  have HN := Lib.hid hN
  clear hN hR
  obtain ⟨p, e⟩ := x
  dsimp only at c1 c3 hp
  by_cases h1 : p = s.size
  · subst h1
    have HX : Hid (N = -1) := Lib.hid (HN.out.trans (nx_end fun k => absurd k.2 (Nat.lt_irrefl _)))
    go_enter Try.func47, Try.ntmps47
    go_wp2_with fail
    go_quiet (fail)
    go_wp2_with fail
    go_ret
    exact ⟨by rw [HX.out]; rfl, _, rfl⟩
  · have hlt : p < s.size := by omega
    have f1 : ((p : Int) == (s.size : Int)) = false := by rw [beq_eq_false_iff_ne]; omega
    by_cases h2 : e = 0
    · subst h2
      have HX : Hid (N = (s[p].toNat : Int)) := Lib.hid (HN.out.trans (nx_at rfl hlt))
      have hb := s[p].toNat_lt
      go_enter Try.func47, Try.ntmps47
      go_wp2_with fail
      go_quiet (fail)
      go_wp2_with fail
      go_quiet (fail)
      go_wp2_with fail
      go_ret
      exact ⟨by rw [HX.out]; rfl, _, World.drewN_drewN _ _ _⟩
    · have f2 : (e != 0) = true := by rw [bne_iff_ne]; exact h2
      have HX : Hid (N = -1) := Lib.hid (HN.out.trans (nx_end fun k => h2 k.1))
      go_enter Try.func47, Try.ntmps47
      go_wp2_with fail
      go_quiet (fail)
      go_wp2_with fail
      go_ret
      exact ⟨by rw [HX.out]; rfl, _, rfl⟩
omit hs in
theorem fail_any (c : Int) (hR : Rd w g s x op) :
    Calls Try.prog 13 #[.pointer (some ⟨g, 0, none⟩), .int .i64 c] w fun e w' => e = .returned (.tuple #[]) ∧ Rd w' g s (x.fl c) op ∧ KeptOff w w' g := by
  obtain ⟨c0, c1, c2, c3⟩ := hR.facts
  have hf : w.frozen? ⟨g, 3, none⟩ = false := Blk.frozen hR 3
  have H := Lib.hid hR
  clear hR
  by_cases h2 : x.e = 0
  · have HX : Hid (x.fl c = ⟨x.p, c⟩) := Lib.hid (if_pos h2)
    rw [h2] at c3
    clear h2
    go_enter Try.func13, Try.ntmps13
    go_wp2_with fail
    go_end0
    exact ⟨rfl, by rw [HX.out]; exact H.out.setE c, KeptOff.refl.set_ 3 _⟩
  · have HX : Hid (x.fl c = x) := Lib.hid (if_neg h2)
    have f2 : (x.e == 0) = false := by rw [beq_eq_false_iff_ne]; exact h2
    clear h2
    go_enter Try.func13, Try.ntmps13
    go_wp2_with fail
    go_end0
    exact ⟨rfl, by rw [HX.out]; exact H.out, KeptOff.refl⟩
/-- the place behind a byte that is taken, if it stands there -/
def tkX (s : ByteArray) (x : Sx) (b : Int) : Sx := if nx s x = b then x.up else x
set_option maxHeartbeats 1000000 in
theorem take_any (b : Int) (hp : x.p ≤ s.size) (hR : Rd w g s x op) :
    Calls Try.prog 29 #[.pointer (some ⟨g, 0, none⟩), .int .i64 b] w fun e w' => e = .returned (.bool (nx s x == b)) ∧ Rd w' g s (tkX s x b) op ∧ KeptOff w w' g := by
  have CN := Lib.hid (next_any s x op g w hp hR)
  have H := Lib.hid hR
  clear hR
  by_cases h : nx s x = b
  · have HX : Hid (tkX s x b = x.up) := Lib.hid (if_pos h)
    rw [h] at CN
    have HB : Hid ((nx s x == b) = true) := Lib.hid (beq_iff_eq.2 h)
    clear h
    go_enter Try.func29, Try.ntmps29
    go_wp2_with fail
    refine CN.out.mono ?_
    rintro e w1 ⟨rfl, q, hq⟩
    have hR1 : Rd w1 g s x op := by rw [hq]; exact H.out.drewN q
    have HK : Hid (KeptOff w w1 g) := Lib.hid (by rw [hq]; exact KeptOff.refl.drewN q)
    obtain ⟨c0, c1, c2, c3⟩ := hR1.facts
    have hf : w1.frozen? ⟨g, 1, none⟩ = false := Blk.frozen hR1 1
    have H1 := Lib.hid hR1
    have hw : IntKind.i64.wrap ((x.p : Int) + 1) = ((x.p + 1 : Nat) : Int) := IntWalk.i64_in _ (by omega)
    clear hq hR1
    go_wp2_with fail
    go_ret
    exact ⟨by rw [HB.out]; rfl, by rw [HX.out]; exact H1.out.setP (x.p + 1), HK.out.set_ 1 _⟩
  · have HX : Hid (tkX s x b = x) := Lib.hid (if_neg h)
    have HB : Hid ((nx s x == b) = false) := Lib.hid (beq_eq_false_iff_ne.2 h)
    have f : (nx s x != b) = true := by rw [bne_iff_ne]; exact h
    clear h
    go_enter Try.func29, Try.ntmps29
    go_wp2_with fail
    refine CN.out.mono ?_
    rintro e w1 ⟨rfl, q, hq⟩
    have HR1 : Hid (Rd w1 g s x op) := Lib.hid (by rw [hq]; exact H.out.drewN q)
    have HK : Hid (KeptOff w w1 g) := Lib.hid (by rw [hq]; exact KeptOff.refl.drewN q)
    clear hq
    go_wp2_with fail
    go_ret
    exact ⟨by rw [HB.out]; rfl, by rw [HX.out]; exact HR1.out, HK.out⟩
omit hs in
set_option maxHeartbeats 1000000 in
theorem ends_any (hp : x.p ≤ s.size) (hR : Rd w g s x op) :
    Calls Try.prog 45 #[.pointer (some ⟨g, 0, none⟩)] w fun e w' => e = .returned (.bool (enB s x)) ∧ ∃ q, w' = w.drewN q := by
  have CN := Lib.hid (next_any s x op g w hp hR)
  have hE : enB s x = (decide (nx s x < 0) || (nx s x == 124 || nx s x == 41)) := by
    unfold enB
    rw [Bool.eq_iff_iff]
    simp
  have HE := Lib.hid hE
  clear hR hE
  obtain ⟨N, hN⟩ : ∃ N, N = nx s x := ⟨_, rfl⟩
  rw [← hN] at CN HE
  clear hN
  by_cases h1 : N < 0
  · have d1 : decide (N < 0) = true := decide_eq_true h1
    have HX : Hid (enB s x = true) := Lib.hid (by rw [HE.out, d1]; rfl)
    go_enter Try.func45, Try.ntmps45
    go_wp2_with fail
    refine CN.out.mono ?_
    rintro e w1 ⟨rfl, q, rfl⟩
    go_wp2_with fail
    go_ret
    exact ⟨by rw [HX.out]; rfl, _, rfl⟩
  · have d1 : decide (N < 0) = false := decide_eq_false h1
    cases q1 : (N == 124) with
    | true =>
      have HX : Hid (enB s x = true) := Lib.hid (by rw [HE.out, d1, q1]; rfl)
      go_enter Try.func45, Try.ntmps45
      go_wp2_with fail
      refine CN.out.mono ?_
      rintro e w1 ⟨rfl, q, rfl⟩
      go_wp2_with fail
      go_ret
      exact ⟨by rw [HX.out]; rfl, _, rfl⟩
    | false =>
      cases q2 : (N == 41) with
      | true =>
        have HX : Hid (enB s x = true) := Lib.hid (by rw [HE.out, d1, q1, q2]; rfl)
        go_enter Try.func45, Try.ntmps45
        go_wp2_with fail
        refine CN.out.mono ?_
        rintro e w1 ⟨rfl, q, rfl⟩
        go_wp2_with fail
        go_ret
        exact ⟨by rw [HX.out]; rfl, _, rfl⟩
      | false =>
        have HX : Hid (enB s x = false) := Lib.hid (by rw [HE.out, d1, q1, q2]; rfl)
        go_enter Try.func45, Try.ntmps45
        go_wp2_with fail
        refine CN.out.mono ?_
        rintro e w1 ⟨rfl, q, rfl⟩
        go_wp2_with fail
        go_ret
        exact ⟨by rw [HX.out]; rfl, _, rfl⟩
end
end Go.Proofs.Ytkdcgkdbieeijaa
