/- Walk: one.body. -/
import Derived.Test.YtkcncgdgicffhaaDoorGw
import Derived.Test.YtkcncgdgicffhaaDoorGy
import Derived.Test.YtkcncgdgicffhaaDoorGae
import Derived.Test.YtkcncgdgicffhaaDoorGak
namespace Go.Proofs.YtkcncgdgicffhaaDoor
open Go.RowKit
set_option linter.unusedVariables false
set_option linter.unusedSimpArgs false

section
variable (m t : ByteArray) (A : Option Addr) (cap : Nat) (fs : List Fd) (s : ByteArray) (most : Int) (w : World)
def BodRes (X : ByteArray × Nat × Int) (w : World) (e : Ending) (w' : World) : Prop := e = .returned (.tuple #[.string X.1, .int .i64 X.2.1, .int .i64 X.2.2]) ∧ Below w.heap.size w w'
set_option maxRecDepth 100000 in
set_option maxHeartbeats 2000000 in
theorem body_any (B : Nat) (hB : B ≤ w.heap.size) (hf : FdR w B A cap fs) (hfl : fs.length ≤ 1048576) (hs : s.size ≤ 1048576) (hm : -9223372036854775808 ≤ most ∧ most ≤ 9223372036854775807) :
    Calls Tryd.prog 103 #[.agg #[.string m, .string t, .slice A fs.length cap], .string s, .int .i64 most] w (BodRes (bodR (frR (getL fs clB) (getL fs teB)) s most) w) := by
  have hcs := fr_cases (getL fs clB) (getL fs teB)
  obtain ⟨W, hW⟩ : ∃ W, w.alloc (.cells #[.string m, .string t, .slice A fs.length cap] 24) = W := ⟨_, rfl⟩
  have hWb : Below w.heap.size w W := by rw [← hW]; exact (Below.refl _ _).alloc (Nat.le_refl _) _
  have hWk : Blk W w.heap.size 24 #[.string m, .string t, .slice A fs.length cap] := by rw [← hW]; exact Blk.new _ _ _
  have hfW : FdR W B A cap fs := hf.below (hWb.mono hB)
  have hBW : B ≤ W.heap.size := Nat.le_trans hB hWb.size
  have C1 := frameOf_any m t A cap fs W (hfW.more hBW) hfl
  obtain ⟨F, hF⟩ : ∃ F, F = frR (getL fs clB) (getL fs teB) := ⟨_, rfl⟩
  rw [← hF] at C1 hcs ⊢
  have CC := Lib.hid fun w' => chunks_any s most w' hs hm
  have x0 : W.cell? ⟨w.heap.size, 0, none⟩ = some (.string m) := hWk.cell 0
  have x1 : W.cell? ⟨w.heap.size, 1, none⟩ = some (.string t) := hWk.cell 1
  have x2 : W.cell? ⟨w.heap.size, 2, none⟩ = some (.slice A fs.length cap) := hWk.cell 2
  have HWB := Lib.hid hWb
  clear hF hf hfW hWk hWb hB hBW
  rcases hcs with ⟨e, rfl, rfl⟩ | rfl | rfl | ⟨n, rfl, hn⟩
  · rw [bodR_bad (by decide)]
    unfold FrRes at C1
    have C1 := Lib.hid C1
    go_enter Tryd.func103, Tryd.ntmps103
    go_wp2_with fail
    refine C1.out.mono ?_
    rintro e w1 ⟨rfl, b1⟩
    have HB1 := Lib.hid (HWB.out.trans (b1.mono HWB.out.size))
    clear b1
    go_wp2_with fail
    go_ret3
    exact ⟨rfl, HB1.out.alloc HB1.out.size _⟩
  · rw [bodR_none]
    unfold FrRes at C1
    have C1 := Lib.hid C1
    go_enter Tryd.func103, Tryd.ntmps103
    go_wp2_with fail
    refine C1.out.mono ?_
    rintro e w1 ⟨rfl, b1⟩
    have HB1 := Lib.hid (HWB.out.trans (b1.mono HWB.out.size))
    clear b1
    go_wp2_with fail
    go_ret3
    exact ⟨rfl, HB1.out.alloc HB1.out.size _⟩
  · rw [bodR_chunk]
    unfold FrRes at C1
    have C1 := Lib.hid C1
    obtain ⟨R, hR⟩ : ∃ R, R = chkR s.data.toList most := ⟨_, rfl⟩
    rw [← hR]
    rw [← hR] at CC
    clear hR
    go_enter Tryd.func103, Tryd.ntmps103
    go_wp2_with fail
    refine C1.out.mono ?_
    rintro e w1 ⟨rfl, b1⟩
    have HB1 := Lib.hid (HWB.out.trans (b1.mono HWB.out.size))
    clear b1
    go_wp2_with fail
    refine (CC.out _).mono ?_
    rintro e w2 ⟨he, b2⟩
    unfold ChkRes at he
    subst he
    have HB2 := Lib.hid b2
    clear b2
    go_wp2_with fail
    go_ret3
    exact ⟨rfl, (HB1.out.alloc HB1.out.size _).trans (HB2.out.mono (HB1.out.alloc HB1.out.size _).size)⟩
  · unfold FrRes at C1
    have C1 := Lib.hid C1
    by_cases c1 : most < n
    · rw [bodR_large c1]
      have d1 : decide (most < (n : Int)) = true := decide_eq_true c1
      clear c1
      go_enter Tryd.func103, Tryd.ntmps103
      go_wp2_with fail
      refine C1.out.mono ?_
      rintro e w1 ⟨rfl, b1⟩
      have HB1 := Lib.hid (HWB.out.trans (b1.mono HWB.out.size))
      clear b1
      go_wp2_with fail
      go_ret3
      exact ⟨rfl, HB1.out.alloc HB1.out.size _⟩
    · have d1 : decide (most < (n : Int)) = false := decide_eq_false c1
      by_cases c2 : s.size < n
      · rw [bodR_short (by omega) c2]
        have d2 : decide ((s.size : Int) < (n : Int)) = true := decide_eq_true (by omega)
        have d2' : decide (s.size < n) = true := decide_eq_true (by omega)
        clear c1 c2
        go_enter Tryd.func103, Tryd.ntmps103
        go_wp2_with fail
        refine C1.out.mono ?_
        rintro e w1 ⟨rfl, b1⟩
        have HB1 := Lib.hid (HWB.out.trans (b1.mono HWB.out.size))
        clear b1
        go_wp2_with fail
        go_ret3
        exact ⟨rfl, HB1.out.alloc HB1.out.size _⟩
      · rw [bodR_ok (by omega) (by omega)]
        have d2 : decide ((s.size : Int) < (n : Int)) = false := decide_eq_false (by omega)
        have d2' : decide (s.size < n) = false := decide_eq_false (by omega)
        have i1 : (0 : Int) ≤ (n : Int) := by omega
        have i2 : (n : Int) ≤ (s.size : Int) := by omega
        clear c1 c2
        go_enter Tryd.func103, Tryd.ntmps103
        go_wp2_with fail
        refine C1.out.mono ?_
        rintro e w1 ⟨rfl, b1⟩
        have HB1 := Lib.hid (HWB.out.trans (b1.mono HWB.out.size))
        clear b1
        go_wp2_with fail
        go_quiet (fail)
        go_wp2_with fail
        go_ret3
        exact ⟨rfl, below_drewN (HB1.out.alloc HB1.out.size _) _⟩
end
end Go.Proofs.YtkcncgdgicffhaaDoor
