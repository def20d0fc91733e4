/- wicklaw.RexReads: for every string Parse returns what the reference returns. No condition. (printed by gen_lawrrd.py) -/
import Derived.Test.YtkdcgkdbieeijaaRfJ
import Derived.Test.YtkdcgkdbieeijaaRfS
import Derived.Test.YtkdcgkdbieeijaaFrame
import Derived.WalkKit
import Derived.ProofKit
import Derived.OpenShut
import Derived.ShutString
import Derived.ChangeOld
import Derived.Below
namespace Go.Proofs.Ytkdcgkdbieeijaa.lawRrd
open Go.ChangeShapes Go.WideShapes Go.ChangeAt Go.RowKit
open Go.ChangeMaps (open_string shut_string)
set_option linter.unusedVariables false
set_option linter.unusedSimpArgs false

theorem rdR_same {s : ByteArray} {n m : Nat} (h : s.size ≤ 200 → (rdY s).e = 0 → Fit n (rd1 s).1) (k : s.size ≤ 200 → (rdY s).e = 0 → Fit m (rd1 s).1) : rdR n s = rdR m s := by
  unfold rdR
  by_cases h1 : 200 < s.size
  · rw [if_pos h1, if_pos h1]
  · rw [if_neg h1, if_neg h1]
    by_cases h2 : (rdY s).e = 0
    · rw [(h (by omega) h2).same (k (by omega) h2)]
    · rw [if_pos h2, if_pos h2]
theorem parse_any (s : ByteArray) (w : World) : Calls Try.prog 5 #[.string s] w (RdRes s w) := by
  by_cases h : 200 < s.size
  · exact parse_big s w h
  · exact parse_small s w (by omega)
theorem read_any (s : ByteArray) (w : World) : Calls Try.prog 6 #[.string s] w (RdRes s w) := by
  by_cases h : 200 < s.size
  · exact read_big s w h
  · exact read_small s w (by omega)
set_option maxHeartbeats 2000000 in
theorem walk (s : ByteArray) (w : World) (hs : s.size ≤ maxLen) :
    Calls Try.prog 3 #[.string s] w fun e w' => e = .returned (.bool true) ∧ Below w.heap.size w w' := by
  have C1 := Lib.hid (parse_any s w)
  go_enter Try.func3, Try.ntmps3
  go_wp2_with fail
  refine C1.out.mono ?_
  rintro e w1 ⟨n1, m1, x0, x1, x2, x3, x4, xA, xl, xc, rfl, ht1, hf1, hb1⟩
  have hba1 : Below w1.heap.size w1 (w1.alloc (.cells #[.int .i64 x0, .int .u64 x1, .int .u64 x2, .int .u64 x3, .int .u64 x4, .slice xA xl xc] 27)) := (Below.refl _ _).alloc (Nat.le_refl _) _
  have hk1 : Blk (w1.alloc (.cells #[.int .i64 x0, .int .u64 x1, .int .u64 x2, .int .u64 x3, .int .u64 x4, .slice xA xl xc] 27)) w1.heap.size 27 #[.int .i64 x0, .int .u64 x1, .int .u64 x2, .int .u64 x3, .int .u64 x4, .slice xA xl xc] := Blk.new w1 _ _
  have hr1 : RxT (w1.alloc (.cells #[.int .i64 x0, .int .u64 x1, .int .u64 x2, .int .u64 x3, .int .u64 x4, .slice xA xl xc] 27)) (fun b => b < (w1.alloc (.cells #[.int .i64 x0, .int .u64 x1, .int .u64 x2, .int .u64 x3, .int .u64 x4, .slice xA xl xc] 27)).heap.size) m1 (rdR n1 s).1 (six x0 x1 x2 x3 x4 xA xl xc) := (ht1.below hba1 fun b hb => hb.2).weak fun b hb => by have := hb.2; simp; omega
  have hB1 : Below w.heap.size w (w1.alloc (.cells #[.int .i64 x0, .int .u64 x1, .int .u64 x2, .int .u64 x3, .int .u64 x4, .slice xA xl xc] 27)) := hb1.trans (hba1.mono hb1.size)
  have HF1 := Lib.hid hf1
  clear ht1 hb1 hba1 hf1
  go_upto_region 2 with fail
  obtain ⟨gA, hgA⟩ : ∃ gA, w1.heap.size = gA := ⟨_, rfl⟩
  obtain ⟨W1, hW1⟩ : ∃ W1, (w1.alloc (.cells #[.int .i64 x0, .int .u64 x1, .int .u64 x2, .int .u64 x3, .int .u64 x4, .slice xA xl xc] 27)) = W1 := ⟨_, rfl⟩
  rw [hW1] at hk1 hr1 hB1 ⊢
  rw [hgA] at hk1 ⊢
  have HK1 := Lib.hid hk1
  have HR1 := Lib.hid hr1
  have HB1 := Lib.hid hB1
  clear hW1 hgA hk1 hr1 hB1
  have C2 := Lib.hid (read_any s W1)
  go_wp2_with fail
  refine C2.out.mono ?_
  rintro e w2 ⟨n2, m2, v0, v1, v2, v3, v4, vA, vl, vc, rfl, ht2, hf2, hb2⟩
  have hba2 : Below w2.heap.size w2 (w2.alloc (.cells #[.int .i64 v0, .int .u64 v1, .int .u64 v2, .int .u64 v3, .int .u64 v4, .slice vA vl vc] 27)) := (Below.refl _ _).alloc (Nat.le_refl _) _
  have hk2 : Blk (w2.alloc (.cells #[.int .i64 v0, .int .u64 v1, .int .u64 v2, .int .u64 v3, .int .u64 v4, .slice vA vl vc] 27)) w2.heap.size 27 #[.int .i64 v0, .int .u64 v1, .int .u64 v2, .int .u64 v3, .int .u64 v4, .slice vA vl vc] := Blk.new w2 _ _
  have hk1 : Blk (w2.alloc (.cells #[.int .i64 v0, .int .u64 v1, .int .u64 v2, .int .u64 v3, .int .u64 v4, .slice vA vl vc] 27)) gA 27 #[.int .i64 x0, .int .u64 x1, .int .u64 x2, .int .u64 x3, .int .u64 x4, .slice xA xl xc] := Blk.alloc (HK1.out.below hb2 HK1.out.lt) _
  have hz2 := hb2.size
  have hzz : w2.heap.size ≤ (w2.alloc (.cells #[.int .i64 v0, .int .u64 v1, .int .u64 v2, .int .u64 v3, .int .u64 v4, .slice vA vl vc] 27)).heap.size := hba2.size
  have hr2 : RxT (w2.alloc (.cells #[.int .i64 v0, .int .u64 v1, .int .u64 v2, .int .u64 v3, .int .u64 v4, .slice vA vl vc] 27)) (fun b => b < (w2.alloc (.cells #[.int .i64 v0, .int .u64 v1, .int .u64 v2, .int .u64 v3, .int .u64 v4, .slice vA vl vc] 27)).heap.size) m2 (rdR n2 s).1 (six v0 v1 v2 v3 v4 vA vl vc) := (ht2.below hba2 fun b hb => hb.2).weak fun b hb => by have := hb.2; omega
  have hr1 : RxT (w2.alloc (.cells #[.int .i64 v0, .int .u64 v1, .int .u64 v2, .int .u64 v3, .int .u64 v4, .slice vA vl vc] 27)) (fun b => b < (w2.alloc (.cells #[.int .i64 v0, .int .u64 v1, .int .u64 v2, .int .u64 v3, .int .u64 v4, .slice vA vl vc] 27)).heap.size) m1 (rdR n1 s).1 (six x0 x1 x2 x3 x4 xA xl xc) := ((HR1.out.below hb2 fun b hb => hb).below hba2 fun b hb => by omega).weak fun b hb => by omega
  have hB2 : Below w.heap.size w (w2.alloc (.cells #[.int .i64 v0, .int .u64 v1, .int .u64 v2, .int .u64 v3, .int .u64 v4, .slice vA vl vc] 27)) := HB1.out.trans ((hb2.trans (hba2.mono hb2.size)).mono HB1.out.size)
  have hsame : rdR n1 s = rdR n2 s := rdR_same HF1.out hf2
  rw [← hsame] at hr2
  clear ht2 hb2 hba2 hf2
  go_upto_region 3 with fail
  obtain ⟨gB, hgB⟩ : ∃ gB, w2.heap.size = gB := ⟨_, rfl⟩
  obtain ⟨W2, hW2⟩ : ∃ W2, (w2.alloc (.cells #[.int .i64 v0, .int .u64 v1, .int .u64 v2, .int .u64 v3, .int .u64 v4, .slice vA vl vc] 27)) = W2 := ⟨_, rfl⟩
  rw [hW2] at hk1 hk2 hr1 hr2 hB2 ⊢
  rw [hgB] at hk2 ⊢
  rw [← hsame]
  obtain ⟨Q, hQ⟩ : ∃ Q, Q = rdR n1 s := ⟨_, rfl⟩
  rw [← hQ] at hr1 hr2 ⊢
  obtain ⟨qr, qa, qe⟩ := Q
  dsimp only at hr1 hr2 ⊢
  have c1 : RxC W2 W2.heap.size (max m1 m2) qr (six x0 x1 x2 x3 x4 xA xl xc) := (hr1.up (Nat.le_max_left m1 m2)).rxC fun b hb => hb
  have c2 : RxC W2 W2.heap.size (max m1 m2) qr (six v0 v1 v2 v3 v4 vA vl vc) := (hr2.up (Nat.le_max_right m1 m2)).rxC fun b hb => hb
  have C3 : Hid (Calls Try.prog 7 #[.agg #[.int .i64 x0, .int .u64 x1, .int .u64 x2, .int .u64 x3, .int .u64 x4, .slice xA xl xc], .agg #[.int .i64 v0, .int .u64 v1, .int .u64 v2, .int .u64 v3, .int .u64 v4, .slice vA vl vc]] W2 fun e w' => e = .returned (.bool true) ∧ Below W2.heap.size W2 w') := Lib.hid (same_any (max m1 m2) qr (six x0 x1 x2 x3 x4 xA xl xc) (six v0 v1 v2 v3 v4 vA vl vc) W2.heap.size W2 c1 c2 (Nat.le_refl _))
  have HB2 := Lib.hid hB2
  have s0 : W2.cell? ⟨gA, 0, none⟩ = some (.int .i64 x0) := hk1.cell 0
  have s1 : W2.cell? ⟨gA, 1, none⟩ = some (.int .u64 x1) := hk1.cell 1
  have s2 : W2.cell? ⟨gA, 2, none⟩ = some (.int .u64 x2) := hk1.cell 2
  have s3 : W2.cell? ⟨gA, 3, none⟩ = some (.int .u64 x3) := hk1.cell 3
  have s4 : W2.cell? ⟨gA, 4, none⟩ = some (.int .u64 x4) := hk1.cell 4
  have s5 : W2.cell? ⟨gA, 5, none⟩ = some (.slice xA xl xc) := hk1.cell 5
  have u0 : W2.cell? ⟨gB, 0, none⟩ = some (.int .i64 v0) := hk2.cell 0
  have u1 : W2.cell? ⟨gB, 1, none⟩ = some (.int .u64 v1) := hk2.cell 1
  have u2 : W2.cell? ⟨gB, 2, none⟩ = some (.int .u64 v2) := hk2.cell 2
  have u3 : W2.cell? ⟨gB, 3, none⟩ = some (.int .u64 v3) := hk2.cell 3
  have u4 : W2.cell? ⟨gB, 4, none⟩ = some (.int .u64 v4) := hk2.cell 4
  have u5 : W2.cell? ⟨gB, 5, none⟩ = some (.slice vA vl vc) := hk2.cell 5
  clear c1 c2 hr1 hr2 hk1 hk2 hQ hsame hW2 hgB hB2 hz2 hzz
  go_wp2_with fail
  refine C3.out.mono ?_
  rintro e w3 ⟨rfl, hb3⟩
  have HB3 := Lib.hid (HB2.out.trans (hb3.mono HB2.out.size))
  clear hb3
  go_wp2_with fail
  go_ret
  exact ⟨rfl, HB3.out⟩

set_option maxRecDepth 100000 in
theorem own : ownKnob Try.prog.godebug = none := by kernel_rfl
set_option maxRecDepth 100000 in
theorem contract (H : Type) (enc : TypeId × Value → H) (W : World) (base : Nat) (args : Array Value) (ds gs : List (DataW H)) (before : List MemPlace)
    (hval : ∀ (j : Nat) t v, Try.f3.params[j]? = some t → args[j]? = some v → Value.okWide Try.prog W .any base t v)
    (hW : DataW.Whole enc Try.prog Try.f3.params.toList Rows.rexReadsSpec.vars false W args.toList ds gs before) :
    Calls Try.prog 3 args W fun e W' => ∃ v, e = .returned v ∧ Rows.rexReadsSpec.post enc Try.prog Try.f3 false true false false W args v W' := by
  have hW' := hW
  obtain ⟨p, q, hA0, hV, rfl, hfz, hnd⟩ := hW
  have hA : DataW.TrodAll enc Try.prog W 0 (fun _ => true) true Try.f3.params.toList args.toList ds p := hA0
  rw [Try.params3] at hA hval
  obtain ⟨v0, vs0, d0, ds0, p0, q0, hargs, rfl, rfl, h0, r0⟩ := trodAll_cons hA
  obtain ⟨rfl, rfl, rfl⟩ := trodAll_nil r0
  obtain rfl : args = #[v0] := by cases args; simp_all
  obtain ⟨rfl, rfl⟩ := trodVars_none hV
  obtain ⟨a0, rfl, rfl, rfl, w0⟩ := open_string Try.underlying9 (hval 0 9 v0 rfl rfl) h0
  clear hA0
  simp only [List.append_nil] at hW'
  refine (walk a0 W w0).mono fun e W' ⟨he, hg⟩ => ?_
  subst he
  exact ⟨_, rfl, post_of_below (pa := []) (pv := []) hW' (fun _ _ _ => (trodAll_cons_mk (shut_bool Try.underlying4 _) trodAll_mk0)) (fun sp _ => (trodAll_cons_mk (shut_string Try.underlying9 w0) trodAll_mk0)) (fun _ _ => rfl) rfl hg (ok_one (by kernel_rfl) rfl (okWide_bool_mk Try.underlying4 _))⟩

set_option maxRecDepth 100000 in
theorem lifted (os : Os) (started : os.Started) (H : Type) (enc : TypeId × Value → H) :
    ReturnsInHanded {} Try.checked os 3 .any (Rows.rexReadsSpec.pre6 enc Try.prog Try.f3 Rows.rexReadsRow.domain false) (Rows.rexReadsSpec.post enc Try.prog Try.f3 false true false false) := by
  refine returnsInHanded_of_change (C := Try.checked) own started (by kernel_rfl) Try.func3
    (ChangeSpec.witness6 (enc := enc) (C := Try.checked) false ⟨#[], #[.string ByteArray.empty], []⟩ 8 (by kernel_rfl) (by kernel_rfl) (by kernel_rfl) (by kernel_rfl)) ?_
  intro W base args ds gs before hval hW _ _
  exact contract H enc W base args ds gs before hval hW

set_option maxRecDepth 100000 in
theorem proved : Rows.RexReadsSaid :=
  OpenClaim.holds_of_wide 3 Try.f3 rfl rfl rfl rfl rfl rfl rfl ⟨rfl, rfl, rfl, rfl, rfl⟩ rfl rfl rfl rfl rfl (by kernel_rfl) Try.func3 (by kernel_rfl)
    (of_decide_eq_true (by kernel_rfl)) (by unfold Func.isWrapper; first | (rw [if_pos (by decide +kernel)]; kernel_rfl) | (rw [if_neg (by decide +kernel)]; exact ⟨rfl, rfl⟩))
    (fun os started H enc _ => lifted os started H enc)
