/- Walks: prog.Find, prog.Some of a right list and a text that is not too long. -/
import Derived.Test.YtckinkapbfaceaaPrgG
import Derived.Test.YtckinkapbfaceaaPrgH
import Derived.RegionTactic
namespace Go.Proofs.Ytckinkapbfaceaa
open Go.RowKit
set_option linter.unusedVariables false
set_option linter.unusedSimpArgs false

def PFindRes (l : List In) (s : ByteArray) (w : World) (y : Ending) (w' : World) : Prop :=
  ∃ (i j : Nat) (b : Bool), y = .returned (.tuple #[.agg #[.int .i64 (i : Int), .int .i64 (j : Int)], .bool b, .int .i64 0]) ∧ FirstR (SpanP l s.data.toList) i j b ∧ Below w.heap.size w w'
def PSomeRes (l : List In) (s : ByteArray) (w : World) (y : Ending) (w' : World) : Prop :=
  ∃ b : Bool, y = .returned (.tuple #[.bool b, .int .i64 0]) ∧ (b = true → ∃ i j, SpanP l s.data.toList i j) ∧ (b = false → ∀ i j, ¬ SpanP l s.data.toList i j) ∧ Below w.heap.size w w'
theorem errPS_ok {l : List In} {n : Nat} (h : errPS l n = 0) : errP l = 0 ∧ n ≤ 8192 := by
  unfold errPS at h
  by_cases e : errP l = 0
  · rw [if_pos e] at h
    by_cases k : 8192 < n
    · rw [if_pos k] at h; cases h
    · exact ⟨e, by omega⟩
  · rw [if_neg e] at h; exact absurd h e
theorem errP_ok {l : List In} (h : errP l = 0) : RightP l ∧ 0 < l.length ∧ l.length ≤ 400 := by
  unfold errP at h
  by_cases h1 : 400 < l.length
  · rw [if_pos h1] at h; cases h
  · rw [if_neg h1] at h
    by_cases h2 : l.length = 0
    · rw [if_pos h2] at h; cases h
    · rw [if_neg h2] at h
      by_cases h3 : RightP l
      · exact ⟨h3, by omega, by omega⟩
      · rw [if_neg h3] at h; cases h
section
variable (l : List In) (A : Option Addr) (c B : Nat) (s : ByteArray) (w : World)
set_option maxRecDepth 100000 in
set_option maxHeartbeats 1000000 in
theorem pfind_ok (h : InR w B A c l) (hs : s.size ≤ 9223372036854775807) (h0 : errPS l s.size = 0) :
    Calls Try.prog 21 #[.slice A l.length c, .string s] w (PFindRes l s w) := by
  obtain ⟨e1, e2⟩ := errPS_ok h0
  obtain ⟨e3, e4, e5⟩ := errP_ok e1
  obtain ⟨W, hW⟩ : ∃ W, W = w.alloc (.cells #[.int .i64 0, .int .i64 0] 52) := ⟨_, rfl⟩
  have hWb : Below w.heap.size w W := by rw [hW]; exact (Below.refl _ _).alloc (Nat.le_refl _) _
  have hR : Blk W w.heap.size 52 #[.int .i64 0, .int .i64 0] := by rw [hW]; exact Blk.new _ _ _
  have C := ready_any l A c B s W (h.kept hWb) hs
  rw [h0] at C
  have C := Lib.hid C
  have CR := Lib.hid fun w1 (hb : Below W.heap.size W w1) => run_any l A c B s false w1 e3 e4 e5 ((h.kept hWb).kept hb) e2
  have HW := Lib.hid hW
  have HWB := Lib.hid hWb
  have HR := Lib.hid hR
  clear hW hWb h h0 hR e1 e3
  go_enter Try.func21, Try.ntmps21
  go_wp2_with fail
  rw [← HW.out]
  refine C.out.mono ?_
  rintro y w1 ⟨rfl, b1⟩
  have HB1 := Lib.hid (HWB.out.trans (b1.mono HWB.out.size))
  have HR1 := Lib.hid (HR.out.below b1 HR.out.lt)
  have CR := Lib.hid (CR.out w1 b1)
  clear b1
  go_wp2_with fail
  refine CR.out.mono ?_
  rintro y w2 ⟨f, e, b, rfl, hF, _, _, b2⟩
  have HF := Lib.hid (hF rfl)
  have HB2 := Lib.hid (HB1.out.trans (b2.mono HB1.out.size))
  have hR2 := HR1.out.below b2 HR1.out.lt
  obtain ⟨V, hV⟩ : ∃ V, w2.alloc (.cells #[.int .i64 (f : Int), .int .i64 (e : Int), .bool b] 98) = V := ⟨_, rfl⟩
  have hVb : Below w2.heap.size w2 V := by rw [← hV]; exact (Below.refl _ _).alloc (Nat.le_refl _) _
  have hVk : Blk V w2.heap.size 98 #[.int .i64 (f : Int), .int .i64 (e : Int), .bool b] := by rw [← hV]; exact Blk.new _ _ _
  have hRV := hR2.below hVb hR2.lt
  have HRV := Lib.hid hRV
  have HBV := Lib.hid (HB2.out.trans (hVb.mono HB2.out.size))
  have hlt2 : w.heap.size < w2.heap.size := hR2.lt
  have hVl : w2.heap.size < V.heap.size := hVk.lt
  have k0 : V.cell? ⟨w2.heap.size, 0, none⟩ = some (.int .i64 (f : Int)) := hVk.cell 0
  have k1 : V.cell? ⟨w2.heap.size, 1, none⟩ = some (.int .i64 (e : Int)) := hVk.cell 1
  have k2 : V.cell? ⟨w2.heap.size, 2, none⟩ = some (.bool b) := hVk.cell 2
  have r0 : V.cell? ⟨w.heap.size, 0, none⟩ = some (.int .i64 0) := hRV.cell 0
  have r1 : V.cell? ⟨w.heap.size, 1, none⟩ = some (.int .i64 0) := hRV.cell 1
  have f0 : V.frozen? ⟨w.heap.size, 0, none⟩ = false := hRV.frozen 0
  have f1 : V.frozen? ⟨w.heap.size, 1, none⟩ = false := hRV.frozen 1
  clear hF b2 hR2 hVb hVk hRV
  go_wp2_with fail
  go_region
  all_goals go_wp2_with fail
  all_goals
    obtain ⟨wz, hwz, hz, z0, z1⟩ := span_put (B := w.heap.size) HRV.out (by omega) (f : Int) (e : Int)
    first
      | rw [← hwz]
      | skip
    refine bodyPost_ret (v := .tuple #[.agg #[.int .i64 (f : Int), .int .i64 (e : Int)], .bool b, .int .i64 0]) (by simp [results, Try.results21, go_sem, z0, z1]) rfl ⟨f, e, b, rfl, HF.out, ?_⟩
    exact HBV.out.trans (hz.drew)
theorem best_field (f e : Int) (b : Bool) (w : World) : (Instr.field 98 (.agg #[.int .i64 f, .int .i64 e, .bool b]) 1).run Try.prog w = .ok (.bool b) w := by kernel_rfl
set_option maxRecDepth 100000 in
set_option maxHeartbeats 1000000 in
theorem psome_ok (h : InR w B A c l) (hs : s.size ≤ 9223372036854775807) (h0 : errPS l s.size = 0) :
    Calls Try.prog 22 #[.slice A l.length c, .string s] w (PSomeRes l s w) := by
  obtain ⟨e1, e2⟩ := errPS_ok h0
  obtain ⟨e3, e4, e5⟩ := errP_ok e1
  have C := ready_any l A c B s w h hs
  rw [h0] at C
  have C := Lib.hid C
  have CR := Lib.hid fun w1 (hb : Below w.heap.size w w1) => run_any l A c B s true w1 e3 e4 e5 (h.kept hb) e2
  clear h h0 e1 e3
  have hfd := best_field
  go_enter Try.func22, Try.ntmps22
  go_wp2_with fail
  refine C.out.mono ?_
  rintro y w1 ⟨rfl, b1⟩
  have HB1 := Lib.hid b1
  have CR := Lib.hid (CR.out w1 b1)
  clear b1
  go_wp2_with fail
  refine CR.out.mono ?_
  rintro y w2 ⟨f, e, b, rfl, _, h1, h2, b2⟩
  have HB2 := Lib.hid (HB1.out.trans (b2.mono HB1.out.size))
  have H1 := Lib.hid h1
  have H2 := Lib.hid h2
  clear b2 h1 h2
  go_wp2_with fail
  go_ret2
  exact ⟨b, rfl, H1.out, H2.out, HB2.out⟩
end
end Go.Proofs.Ytckinkapbfaceaa
