/- Walks: prog.ready; prog.Find, prog.Some where the list or the text is refused. -/
import Derived.Test.YtckinkapbfaceaaPrgF
import Derived.Test.YtckinkapbfaceaaFindA
namespace Go.Proofs.Ytckinkapbfaceaa
open Go.RowKit
set_option linter.unusedVariables false
set_option linter.unusedSimpArgs false

/-- what is wrong with a list and a text of n bytes -/
noncomputable def errPS (l : List In) (n : Nat) : Int := if errP l = 0 then (if 8192 < n then 2 else 0) else errP l
section
variable (l : List In) (A : Option Addr) (c B : Nat) (s : ByteArray) (w : World)
set_option maxHeartbeats 1000000 in
theorem ready_any (h : InR w B A c l) (hs : s.size ≤ 9223372036854775807) :
    Calls Try.prog 49 #[.slice A l.length c, .string s] w fun e w' => e = .returned (.int .i64 (errPS l s.size)) ∧ Below w.heap.size w w' := by
  have C := Lib.hid (prgCheck_any l A c B w h)
  have HE : Hid (errPS l s.size = if errP l = 0 then (if 8192 < s.size then 2 else 0) else errP l) := rfl
  obtain ⟨E, hE⟩ : ∃ E, E = errP l := ⟨_, rfl⟩
  rw [← hE] at C HE
  rw [HE.out]
  clear hE h HE
  by_cases h0 : E = 0
  · subst h0
    rw [if_pos rfl]
    by_cases h1 : 8192 < s.size
    · rw [if_pos h1]
      have d1 : (8192 : Int) < (s.size : Int) := by omega
      go_enter Try.func49, Try.ntmps49
      go_wp2_with fail
      refine C.out.mono ?_
      rintro e w1 ⟨rfl, b1⟩
      have HB := Lib.hid b1
      clear b1
      go_wp2_with fail
      go_ret
      exact ⟨rfl, HB.out⟩
    · rw [if_neg h1]
      have d1 : ¬ (8192 : Int) < (s.size : Int) := by omega
      go_enter Try.func49, Try.ntmps49
      go_wp2_with fail
      refine C.out.mono ?_
      rintro e w1 ⟨rfl, b1⟩
      have HB := Lib.hid b1
      clear b1
      go_wp2_with fail
      go_ret
      exact ⟨rfl, HB.out⟩
  · rw [if_neg h0]
    have e0 : (E != 0) = true := bne_iff_ne.2 h0
    clear h0
    go_enter Try.func49, Try.ntmps49
    go_wp2_with fail
    refine C.out.mono ?_
    rintro e w1 ⟨rfl, b1⟩
    have HB := Lib.hid b1
    clear b1
    go_wp2_with fail
    go_ret
    exact ⟨rfl, HB.out⟩
set_option maxHeartbeats 1000000 in
theorem pfind_bad (h : InR w B A c l) (hs : s.size ≤ 9223372036854775807) (h0 : ¬ errPS l s.size = 0) :
    Calls Try.prog 21 #[.slice A l.length c, .string s] w fun e w' => e = .returned (.tuple #[.agg #[.int .i64 0, .int .i64 0], .bool false, .int .i64 (errPS l s.size)]) ∧ Below w.heap.size w w' := by
  obtain ⟨W, hW⟩ : ∃ W, W = w.alloc (.cells #[.int .i64 0, .int .i64 0] 52) := ⟨_, rfl⟩
  have hWb : Below w.heap.size w W := by rw [hW]; exact (Below.refl _ _).alloc (Nat.le_refl _) _
  have hR : Blk W w.heap.size 52 #[.int .i64 0, .int .i64 0] := by rw [hW]; exact Blk.new _ _ _
  have C := Lib.hid (ready_any l A c B s W (h.kept hWb) hs)
  obtain ⟨E, hE⟩ : ∃ E, E = errPS l s.size := ⟨_, rfl⟩
  rw [← hE] at h0 C ⊢
  have e0 : (E != 0) = true := bne_iff_ne.2 h0
  have HW := Lib.hid hW
  have HWB := Lib.hid hWb
  have HR := Lib.hid hR
  clear hW hWb h h0 hR hE
  go_enter Try.func21, Try.ntmps21
  go_wp2_with fail
  rw [← HW.out]
  refine C.out.mono ?_
  rintro e w1 ⟨rfl, b1⟩
  have HB1 := Lib.hid (HWB.out.trans (b1.mono HWB.out.size))
  have hR1 := HR.out.below b1 HR.out.lt
  have HR1 := Lib.hid hR1
  have r0 : w1.cell? ⟨w.heap.size, 0, none⟩ = some (.int .i64 0) := hR1.cell 0
  have r1 : w1.cell? ⟨w.heap.size, 1, none⟩ = some (.int .i64 0) := hR1.cell 1
  have f0 : w1.frozen? ⟨w.heap.size, 0, none⟩ = false := hR1.frozen 0
  have f1 : w1.frozen? ⟨w.heap.size, 1, none⟩ = false := hR1.frozen 1
  clear b1 hR1
  go_wp2_with fail
  obtain ⟨wz, hwz, hz, z0, z1⟩ := span_put (B := w.heap.size) HR1.out (by omega) 0 0
  rw [← hwz]
  refine bodyPost_ret (v := .tuple #[.agg #[.int .i64 0, .int .i64 0], .bool false, .int .i64 E]) (by simp [results, Try.results21, go_sem, z0, z1]) rfl ⟨rfl, HB1.out.trans hz⟩
set_option maxHeartbeats 1000000 in
theorem psome_bad (h : InR w B A c l) (hs : s.size ≤ 9223372036854775807) (h0 : ¬ errPS l s.size = 0) :
    Calls Try.prog 22 #[.slice A l.length c, .string s] w fun e w' => e = .returned (.tuple #[.bool false, .int .i64 (errPS l s.size)]) ∧ Below w.heap.size w w' := by
  have C := Lib.hid (ready_any l A c B s w h hs)
  obtain ⟨E, hE⟩ : ∃ E, E = errPS l s.size := ⟨_, rfl⟩
  rw [← hE] at h0 C ⊢
  have e0 : (E != 0) = true := bne_iff_ne.2 h0
  clear h h0 hE
  go_enter Try.func22, Try.ntmps22
  go_wp2_with fail
  refine C.out.mono ?_
  rintro e w1 ⟨rfl, b1⟩
  have HB1 := Lib.hid b1
  clear b1
  go_wp2_with fail
  go_ret2
  exact ⟨rfl, HB1.out⟩
end
end Go.Proofs.Ytckinkapbfaceaa
