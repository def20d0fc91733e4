/- What a call keeps: all of the old memory but one block. -/
import Derived.Test.YtkcncgdgicffhaaDoorGc
import Derived.Test.YtkcncgdgicffhaaDoorGv
import Derived.Test.YtkcncgdgicffhaaDoorGd
import Derived.Test.YtkcncgdgicffhaaDoorGt
import Derived.LoopTactic
import Derived.Lib.SlBytesConst
import Derived.Lib.Hide
import Derived.Deep.QuietTactic
import Derived.BigQuiet
namespace Go.Proofs.YtkcncgdgicffhaaDoor
open Go.RowKit
set_option linter.unusedVariables false

/-- all of the old memory but the block g stands as it stood -/
abbrev KeptOff (w w' : World) (g : Nat) : Prop := w.grownBy w' (some g)
section
variable {w w1 w2 w' : World} {g : Nat}
theorem KeptOff.refl : KeptOff w w g := World.grownBy.refl _ _
theorem KeptOff.set_ (h : KeptOff w w' g) (i : Nat) (u : Value) : KeptOff w (w'.setCell ⟨g, i, none⟩ u) g :=
  ⟨h.os, h.tape, h.output, by simpa [World.setCell] using h.size, fun k hk hne => (Below.heap_setCell _ _ _ _ (by intro e; exact hne (by rw [e]))).trans (h.block k hk hne)⟩
theorem KeptOff.alloc (h : KeptOff w w' g) (o : Obj) : KeptOff w (w'.alloc o) g :=
  ⟨h.os, h.tape, h.output, by have := h.size; simp; omega, fun k hk hne => (Below.heap_alloc _ _ _ (Nat.lt_of_lt_of_le hk h.size)).trans (h.block k hk hne)⟩
theorem KeptOff.drew (h : KeptOff w w' g) : KeptOff w w'.drew g := ⟨h.os, h.tape, h.output, h.size, h.block⟩
theorem KeptOff.drewN (h : KeptOff w w' g) (n : Nat) : KeptOff w (w'.drewN n) g := ⟨h.os, h.tape, h.output, h.size, h.block⟩
theorem KeptOff.tr (h : KeptOff w w1 g) (k : KeptOff w1 w2 g) : KeptOff w w2 g :=
  ⟨k.os.trans h.os, k.tape.trans h.tape, k.output.trans h.output, Nat.le_trans h.size k.size, fun i hi hne => (k.block i (Nat.lt_of_lt_of_le hi h.size) hne).trans (h.block i hi hne)⟩
theorem KeptOff.of_below (h : Below w.heap.size w w') : KeptOff w w' g := ⟨h.os, h.tape, h.output, h.size, fun k hk _ => h.block k hk⟩
theorem KeptOff.blk {g' : Nat} {t : TypeId} {cs : Array Value} (h : KeptOff w w' g) (hb : Blk w g' t cs) (hne : g' ≠ g) : Blk w' g' t cs := hb.grown h (by intro e; injection e with e; exact hne e)
theorem KeptOff.below {B : Nat} (h : KeptOff w w' g) (hB : B ≤ w.heap.size) (hg : B ≤ g) : Below B w w' :=
  (Below.refl _ _).grown h hB fun k e => by injection e with e; omega
/-- a store into a block made meanwhile -/
theorem KeptOff.new_ (h : KeptOff w w' g) {p : Addr} (hp : w.heap.size ≤ p.block) (u : Value) : KeptOff w (w'.setCell p u) g :=
  ⟨h.os, h.tape, h.output, by simpa [World.setCell] using h.size, fun k hk hne => (Below.heap_setCell _ _ _ _ (by omega)).trans (h.block k hk hne)⟩
end
end Go.Proofs.YtkcncgdgicffhaaDoor

/- Walk: the end of a line that frame's reader takes. -/
namespace Go.Proofs.YtkcncgdgicffhaaDoor
open Go.RowKit
set_option linter.unusedVariables false
set_option linter.unusedSimpArgs false

/-- the reader's cells -/
abbrev chV (s : ByteArray) (a : Nat) (most : Int) (v : Value) : Array Value := #[.string s, .int .i64 a, .int .i64 most, v]
theorem blk_at {w : World} {g : Nat} {s : ByteArray} {a : Nat} {most : Int} {v : Value} (h : Blk w g 92 (chV s a most v)) {b : Int} {b' : Nat} (hb : b = b') : Blk (w.setCell ⟨g, 1, none⟩ (.int .i64 b)) g 92 (chV s b' most v) := by
  rw [hb]; exact h.set_ 1 _
section
variable (s : ByteArray) (a : Nat) (most : Int) (v : Value) (g : Nat) (w : World)
set_option maxRecDepth 100000 in
set_option maxHeartbeats 1000000 in
theorem line_any (hk : Blk w g 92 (chV s a most v)) (ha : a ≤ s.size) (hs : s.size ≤ 1048576) (J : Int) (hJ : nlE (s.data.toList.drop a) = J) :
    Calls Tryd.prog 91 #[.pointer (some ⟨g, 0, none⟩)] w fun x w' => x = .returned (.int .i64 J) ∧ (∃ a' : Nat, a' ≤ s.size ∧ (J = 0 → a' = a + 2) ∧ Blk w' g 92 (chV s a' most v)) ∧ KeptOff w w' g := by
  have hg := hk.lt
  obtain ⟨W, hW⟩ : ∃ W, w.alloc (.cells #[.int .u8 13, .int .u8 10] 5 (2, 3)) = W := ⟨_, rfl⟩
  have kc := Lib.run_convert_bytes_const (P := Tryd.prog) w 90 5 #[.int .u8 13, .int .u8 10] 2 2 Tryd.underlying90 Tryd.underlying5
  rw [show w.alloc (.cells #[.int .u8 13, .int .u8 10] 5 ((#[Value.int .u8 13, .int .u8 10] : Array Value).size, (#[Value.int .u8 13, .int .u8 10] : Array Value).size + 1)) = W from hW] at kc
  have hB : W.heap[w.heap.size]? = some (.cells #[.int .u8 13, .int .u8 10] 5 (2, 3)) := by rw [← hW]; exact heap_alloc_new w _
  have hK : Blk W g 92 (chV s a most v) := by rw [← hW]; exact hk.alloc _
  have hO : KeptOff w W g := by rw [← hW]; exact KeptOff.alloc KeptOff.refl _
  have HJ := Lib.hid hJ
  have HB := Lib.hid hB
  have HK := Lib.hid hK
  have HO := Lib.hid hO
  have hgn : ¬ w.heap.size = g := by omega
  clear hk hB hK hO hJ
  go_enter Tryd.func91, Tryd.ntmps91
  go_wp2_with fail
  clear hW
  go_loopw [8] (fun u wr => ∃ k b : Nat, u = .int .i64 (k : Int) ∧ b = a + k ∧ b ≤ s.size ∧ (k = 0 ∨ (k = 1 ∧ ∃ h : a < s.size, s[a] = 13) ∨ (k = 2 ∧ ∃ h : a + 1 < s.size, s[a] = 13 ∧ s[a + 1] = 10)) ∧ Blk wr g 92 (chV s b most v) ∧ KeptOff w wr g ∧ wr.heap[w.heap.size]? = some (.cells #[.int .u8 13, .int .u8 10] 5 (2, 3))) (fun u _ => 2 - (intOf u).toNat)
  case atStart => exact ⟨0, a, rfl, rfl, ha, .inl rfl, HK.out, HO.out, HB.out⟩
  case round =>
    obtain ⟨k, b, rfl, hbk, hbs, hm, hk, ho, hb⟩ := hrel
    have HK2 := Lib.hid hk
    have HO2 := Lib.hid ho
    have HB2 := Lib.hid hb
    have k0 : wr.cell? ⟨g, 0, none⟩ = some (.string s) := hk.cell 0
    have k1 : wr.cell? ⟨g, 1, none⟩ = some (.int .i64 b) := hk.cell 1
    have f1 : wr.frozen? ⟨g, 1, none⟩ = false := hk.frozen 1
    have c0 : wr.cell? ⟨w.heap.size, 0, none⟩ = some (.int .u8 13) := cell_of_row wr w.heap.size 0 _ _ (2, 3) hb
    have c1 : wr.cell? ⟨w.heap.size, 1, none⟩ = some (.int .u8 10) := cell_of_row wr w.heap.size 1 _ _ (2, 3) hb
    clear hk ho hb HK HO HB
    rcases hm with rfl | ⟨rfl, h1, h13⟩ | ⟨rfl, h1, h13, h10⟩
    · obtain rfl : b = a := by omega
      clear hbk
      by_cases he : b = s.size
      · have HR : Hid (J = 7) := Lib.hid (by rw [← HJ.out]; exact nl_none (by omega))
        have ee : ((b : Int) == (s.size : Int)) = true := by rw [he]; simp
        go_wp2_with fail
        go_quiet (fail)
        go_wp2_with fail
        go_ret
        exact ⟨ret_int HR.out.symm, ⟨b, hbs, fun h => absurd (HR.out.symm.trans h) (by decide), HK2.out.drewN nq⟩, HO2.out.drewN nq⟩
      · have ee : ((b : Int) == (s.size : Int)) = false := by rw [beq_eq_false_iff_ne]; omega
        have hlt : b < s.size := by omega
        have i1 : (b : Int) < (s.size : Int) := by omega
        by_cases h13 : s[b] = 13
        · have n1 : ((s[b].toNat : Int) != 13) = false := byte_neqf (c := 13) h13
          have jj : IntKind.i64.wrap ((b : Int) + 1) = (b : Int) + 1 := IntWalk.i64_in _ (by omega)
          go_wp2_with fail
          go_quiet (fail)
          go_wp2_with fail
          go_quiet (fail)
          go_wp2_with fail
          go_roundw
          case rel => exact ⟨1, b + 1, rfl, rfl, by omega, .inr (.inl ⟨rfl, hlt, h13⟩), blk_at (HK2.out.drewN _) (by omega), KeptOff.set_ (KeptOff.drewN HO2.out _) _ _, (Below.heap_setCell _ ⟨g, 1, none⟩ _ _ hgn).trans HB2.out⟩
          case measure => simp [intOf]
        · have HR : Hid (J = 4) := Lib.hid (by rw [← HJ.out]; exact nl_cr hlt h13)
          have n1 : ((s[b].toNat : Int) != 13) = true := byte_neq (c := 13) h13
          go_wp2_with fail
          go_quiet (fail)
          go_wp2_with fail
          go_quiet (fail)
          go_wp2_with fail
          go_ret
          exact ⟨ret_int HR.out.symm, ⟨b, hbs, fun h => absurd (HR.out.symm.trans h) (by decide), (HK2.out.drewN _).drewN _⟩, KeptOff.drewN (KeptOff.drewN HO2.out _) _⟩
    · have hbb : b = a + 1 := hbk
      by_cases he : b = s.size
      · have HR : Hid (J = 7) := Lib.hid (by rw [← HJ.out]; exact nl_one h1 h13 (by omega))
        have ee : ((b : Int) == (s.size : Int)) = true := by rw [he]; simp
        clear hbk hbb
        go_wp2_with fail
        go_quiet (fail)
        go_wp2_with fail
        go_ret
        exact ⟨ret_int HR.out.symm, ⟨b, hbs, fun h => absurd (HR.out.symm.trans h) (by decide), HK2.out.drewN nq⟩, HO2.out.drewN nq⟩
      · have ee : ((b : Int) == (s.size : Int)) = false := by rw [beq_eq_false_iff_ne]; omega
        have hlt : b < s.size := by omega
        have i1 : (b : Int) < (s.size : Int) := by omega
        by_cases h10 : s[b] = 10
        · have n1 : ((s[b].toNat : Int) != 10) = false := byte_neqf (c := 10) h10
          have HP : Hid (∃ h : a + 1 < s.size, s[a] = 13 ∧ s[a + 1] = 10) := by subst hbb; exact ⟨hlt, h13, h10⟩
          have hb2 : b + 1 ≤ a + 2 ∧ a + 2 ≤ b + 1 := by omega
          have jj : IntKind.i64.wrap ((b : Int) + 1) = (b : Int) + 1 := IntWalk.i64_in _ (by omega)
          clear hbk hbb h13
          go_wp2_with fail
          go_quiet (fail)
          go_wp2_with fail
          go_quiet (fail)
          go_wp2_with fail
          go_roundw
          case rel => exact ⟨2, b + 1, rfl, by omega, by omega, .inr (.inr ⟨rfl, HP.out⟩), blk_at (HK2.out.drewN _) (by omega), KeptOff.set_ (KeptOff.drewN HO2.out _) _ _, (Below.heap_setCell _ ⟨g, 1, none⟩ _ _ hgn).trans HB2.out⟩
          case measure => simp [intOf]
        · have HR : Hid (J = 4) := Lib.hid (by rw [← HJ.out]; subst hbb; exact nl_lf hlt h13 h10)
          have n1 : ((s[b].toNat : Int) != 10) = true := byte_neq (c := 10) h10
          clear hbk hbb h13
          go_wp2_with fail
          go_quiet (fail)
          go_wp2_with fail
          go_quiet (fail)
          go_wp2_with fail
          go_ret
          exact ⟨ret_int HR.out.symm, ⟨b, hbs, fun h => absurd (HR.out.symm.trans h) (by decide), (HK2.out.drewN _).drewN _⟩, KeptOff.drewN (KeptOff.drewN HO2.out _) _⟩
    · have HR : Hid (J = 0) := Lib.hid (by rw [← HJ.out]; exact nl_ok h1 h13 h10)
      have hb2 : b ≤ a + 2 ∧ a + 2 ≤ b := by omega
      clear hbk h13 h10
      go_wp2_with fail
      go_ret
      exact ⟨ret_int HR.out.symm, ⟨b, hbs, fun _ => by omega, HK2.out⟩, HO2.out⟩
end
end Go.Proofs.YtkcncgdgicffhaaDoor
