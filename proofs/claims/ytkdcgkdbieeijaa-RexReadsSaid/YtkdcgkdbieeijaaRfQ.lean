/- The reference's reader's box by the plain reading. -/
import Derived.Test.YtkdcgkdbieeijaaRfA
namespace Go.Proofs.Ytkdcgkdbieeijaa
open Go.RowKit
set_option linter.unusedVariables false
set_option linter.unusedSimpArgs false

/-- the reference's reader's box: a place at most m; if something went wrong, where -/
def Tq (m : Int) (w : World) (g : Nat) (s : ByteArray) (y : Sx) (op : Int) : Prop := ∃ a r : Int, Tb w g s a op y.e r ∧ (y.e = 0 → a = (y.p : Int)) ∧ (¬ y.e = 0 → r = (y.p : Int)) ∧ 0 ≤ a ∧ a ≤ m
section
variable {m : Int} {w w' : World} {g : Nat} {s : ByteArray} {y : Sx} {op : Int}
theorem Tq.below (h : Tq m w g s y op) (hb : Below w.heap.size w w') : Tq m w' g s y op := by
  obtain ⟨a, r, h, k⟩ := h; exact ⟨a, r, h.below hb, k⟩
theorem Tq.drewN (h : Tq m w g s y op) (n : Nat) : Tq m (w.drewN n) g s y op := by
  obtain ⟨a, r, h, k⟩ := h; exact ⟨a, r, h.drewN n, k⟩
theorem Tq.alloc (h : Tq m w g s y op) (o : Obj) : Tq m (w.alloc o) g s y op := by
  obtain ⟨a, r, h, k⟩ := h; exact ⟨a, r, Blk.alloc h o, k⟩
theorem Tq.lt (h : Tq m w g s y op) : g < w.heap.size := by
  obtain ⟨a, r, h, k⟩ := h; exact Blk.lt h
theorem Tq.more (h : Tq m w g s y op) {m' : Int} (hm : m ≤ m') : Tq m' w g s y op := by
  obtain ⟨a, r, h, k1, k2, k3, k4⟩ := h; exact ⟨a, r, h, k1, k2, k3, by omega⟩
theorem Tq.far (h : Tq m w g s y op) {p : Addr} (hp : g ≠ p.block) (u : Value) : Tq m (w.setCell p u) g s y op := by
  obtain ⟨a, r, h, k⟩ := h; exact ⟨a, r, Blk.far h hp u, k⟩
theorem Tq.at0 (h : Tq m w g s y op) (he : y.e = 0) : ∃ r : Int, Tb w g s (y.p : Int) op 0 r := by
  obtain ⟨a, r, h, k1, k2, k3, k4⟩ := h
  rw [he] at h
  rw [k1 he] at h
  exact ⟨r, h⟩
theorem Tq.of0 {r : Int} (h : Tb w g s (y.p : Int) op 0 r) (he : y.e = 0) (hm : (y.p : Int) ≤ m) : Tq m w g s y op := ⟨_, r, by rw [he]; exact h, fun _ => rfl, fun k => absurd he k, by omega, hm⟩
theorem Tq.up (h : Tq m w g s y op) (he : y.e = 0) (hm : (y.p : Int) + 1 ≤ m) : Tq m (w.setCell ⟨g, 1, none⟩ (.int .i64 ((y.p : Int) + 1))) g s y.up op := by
  obtain ⟨r, h⟩ := h.at0 he
  exact Tq.of0 (y := y.up) (r := r) (by have := h.setP ((y.p : Int) + 1); exact this) he (by show ((y.p + 1 : Nat) : Int) ≤ m; omega)
theorem Tq.opn (h : Tq m w g s y op) (o : Int) : Tq m (w.setCell ⟨g, 2, none⟩ (.int .i64 o)) g s y o := by
  obtain ⟨a, r, h, k⟩ := h; exact ⟨a, r, h.setO o, k⟩
end
theorem pk_is (s : ByteArray) (y : Sx) (c : UInt8) : ((pk s y).toList == [c]) = (nx s y == (c.toNat : Int)) := by
  rw [Lib.toList_data, Bool.eq_iff_iff, beq_iff_eq, beq_iff_eq]
  have hlo := nx_lo s y
  by_cases h : nx s y < 0
  · rw [pk_none h]
    constructor
    · intro e; cases e
    · intro e; have := c.toNat_lt; omega
  · rw [pk_some (by omega)]
    have e2 : (nx s y).toNat.toUInt8.toNat = (nx s y).toNat := by
      rw [UInt8.toNat_ofNat']; omega
    constructor
    · intro e
      have e1 : (nx s y).toNat.toUInt8 = c := by
        have e0 : [(nx s y).toNat.toUInt8] = [c] := e
        injection e0
      rw [← e1, e2]; omega
    · intro e
      have e1 : (nx s y).toNat.toUInt8 = c := UInt8.toNat_inj.1 (by rw [e2]; omega)
      show [(nx s y).toNat.toUInt8] = [c]
      rw [e1]
theorem pk_nil (s : ByteArray) (y : Sx) : (pk s y).toList.isEmpty = decide (nx s y < 0) := by
  rw [Lib.toList_data]
  by_cases h : nx s y < 0
  · rw [pk_none h, decide_eq_true h]; rfl
  · rw [pk_some (by omega), decide_eq_false h]; rfl
theorem peek_q (s : ByteArray) (hs : s.size ≤ 200) (m : Int) (y : Sx) (op : Int) (g : Nat) (w : World) (hR : Tq m w g s y op) :
    Calls Try.prog 33 #[.pointer (some ⟨g, 0, none⟩)] w fun e w' => e = .returned (.string (pk s y)) ∧ ∃ q, w' = w.drewN q := by
  obtain ⟨a, r, h, k1, k2, k3, k4⟩ := hR
  exact peek_any s hs y a op r g w k1 h
theorem wrong_q (s : ByteArray) (m : Int) (y : Sx) (op : Int) (g : Nat) (w : World) (c p : Int) (hc : ¬ c = 0) (hp : y.e = 0 → p = (y.p : Int)) (hR : Tq m w g s y op) :
    Calls Try.prog 16 #[.pointer (some ⟨g, 0, none⟩), .int .i64 c, .int .i64 p] w fun e w' => e = .returned (.tuple #[]) ∧ Tq m w' g s (y.fl c) op ∧ KeptOff w w' g := by
  obtain ⟨a, r, h, k1, k2, k3, k4⟩ := hR
  by_cases he : y.e = 0
  · rw [he] at h
    refine (wrong_yes s a op r g w c p h).mono ?_
    rintro e w' ⟨h1, h2, h3⟩
    have e1 : y.fl c = ⟨y.p, c⟩ := if_pos he
    refine ⟨h1, ?_, h3⟩
    rw [e1]
    exact ⟨a, p, h2, fun k => absurd k hc, fun _ => hp he, k3, k4⟩
  · refine (wrong_no s a op r g w c p y.e he h).mono ?_
    rintro e w' ⟨h1, rfl⟩
    have e1 : y.fl c = y := if_neg he
    refine ⟨h1, ?_, KeptOff.refl⟩
    rw [e1]
    exact ⟨a, r, h, k1, k2, k3, k4⟩
end Go.Proofs.Ytkdcgkdbieeijaa
