/- wicklaw.AuditSays: for all records Check and Encode return what the reference returns. Condition: none. -/
import Derived.Test.YtahcgajipnkojaaFrmB
import Derived.Test.YtahcgajipnkojaaAudF
import Derived.Lib.SmallJoins
namespace Go.Proofs.Ytahcgajipnkojaa.lawAudit
open Go.ChangeShapes Go.WideShapes Go.ChangeAt Go.RowKit Go.Joins Go.Deep
open Go.ChangeMaps (open_string shut_string)
set_option linter.unusedVariables false
set_option linter.unusedSimpArgs false

section
variable {H : Type} {enc : TypeId × Value → H} {P : Program} {w : World} {base : Nat} {spare : Nat → Bool} {held : Bool}
/-- a struct of six one-cell fields, by value -/
theorem open_agg6 {r : Reach} {b0 : Nat} {t : TypeId} {f0 f1 f2 f3 f4 f5 : Field} {v : Value} {d : DataW H} {p : List MemPlace} (hs : P.underlying t = some (.struct #[f0, f1, f2, f3, f4, f5])) (hone : oneCellFields P #[f0, f1, f2, f3, f4, f5] = true) (hC : P.cellsOf t = 6)
    (hv : Value.okWide P w r b0 t v) (h : DataW.Trod enc P w base spare held t v d p) :
    ∃ (v0 v1 v2 v3 v4 v5 : Value) (y0 y1 y2 y3 y4 y5 : DataW H × List MemPlace) (n : Nat), v = .agg #[v0, v1, v2, v3, v4, v5] ∧
      DataW.trod enc P w base spare held n f0.type [v0] = some y0 ∧ DataW.trod enc P w base spare held n f1.type [v1] = some y1 ∧ DataW.trod enc P w base spare held n f2.type [v2] = some y2 ∧ DataW.trod enc P w base spare held n f3.type [v3] = some y3 ∧ DataW.trod enc P w base spare held n f4.type [v4] = some y4 ∧ DataW.trod enc P w base spare held n f5.type [v5] = some y5 := by
  obtain ⟨cs, rfl, hsz⟩ := okWide_struct hs hv
  obtain ⟨l⟩ := cs
  match l, hsz.trans hC with
  | [c0, c1, c2, c3, c4, c5], _ =>
    obtain ⟨fuel, hf⟩ := h
    obtain ⟨xs, n, _, hx, _, hlen, hg⟩ := DataW.trod_struct hs hf
    obtain ⟨o0, k0⟩ := hone_of hone 0 f0 rfl
    obtain ⟨o1, k1⟩ := hone_of hone 1 f1 rfl
    obtain ⟨o2, k2⟩ := hone_of hone 2 f2 rfl
    obtain ⟨o3, k3⟩ := hone_of hone 3 f3 rfl
    obtain ⟨o4, k4⟩ := hone_of hone 4 f4 rfl
    obtain ⟨o5, k5⟩ := hone_of hone 5 f5 rfl
    match xs, hlen with
    | [y0, y1, y2, y3, y4, y5], _ =>
      exact ⟨c0, c1, c2, c3, c4, c5, y0, y1, y2, y3, y4, y5, n, rfl, by simpa [Value.cells, o0, k0] using hg 0 f0 rfl, by simpa [Value.cells, o1, k1] using hg 1 f1 rfl, by simpa [Value.cells, o2, k2] using hg 2 f2 rfl, by simpa [Value.cells, o3, k3] using hg 3 f3 rfl, by simpa [Value.cells, o4, k4] using hg 4 f4 rfl, by simpa [Value.cells, o5, k5] using hg 5 f5 rfl⟩
end

/-- a record that came in -/
theorem open_record {H : Type} {enc : TypeId × Value → H} {W : World} {v : Value} {d : DataW H} {p : List MemPlace} {base : Nat}
    (hv : Value.okWide Try.prog W .any base 32 v) (h : DataW.Trod enc Try.prog W 0 (fun _ => true) true 32 v d p) :
    ∃ (c o b s : Int) (A : Option Addr) (cap : Nat) (ms : List Int) (t : ByteArray), v = recV c o b s A ms.length cap t ∧ ms.length ≤ 9223372036854775807 ∧ t.size ≤ 9223372036854775807 ∧ Reads W W.heap.size 1 A ms.length (ms.map (Value.int .i64)) := by
  obtain ⟨v0, v1, v2, v3, v4, v5, y0, y1, y2, y3, y4, y5, n, rfl, h0, h1, h2, h3, h4, h5⟩ := open_agg6 Try.underlying32 (by kernel_rfl) (by kernel_rfl) hv h
  obtain ⟨c, e0, _⟩ := DataW.trod_int Try.underlying3 h0
  obtain ⟨o, e1, _⟩ := DataW.trod_int Try.underlying3 h1
  obtain ⟨b, e2, _⟩ := DataW.trod_int Try.underlying3 h2
  obtain ⟨s, e3, _⟩ := DataW.trod_int Try.underlying3 h3
  obtain ⟨A, cap, ms, e4, hl, hc, hR, _⟩ := open_intsR h4
  obtain ⟨t, e5, _, ht⟩ := DataW.trod_string Try.underlying9 h5
  simp only [List.cons.injEq, and_true] at e0 e1 e2 e3 e4 e5
  subst e0; subst e1; subst e2; subst e3; subst e4; subst e5
  unfold maxLen at hc ht
  exact ⟨c, o, b, s, A, cap, ms, t, rfl, by omega, by omega, hR⟩

set_option maxHeartbeats 2000000 in
theorem walk (c o b s : Int) (A : Option Addr) (cap : Nat) (ms : List Int) (t : ByteArray) (w : World) (hl : ms.length ≤ 9223372036854775807) (ht : t.size ≤ 9223372036854775807) (hR : Reads w w.heap.size 1 A ms.length (ms.map (Value.int .i64))) :
    Calls Try.prog 5 #[recV c o b s A ms.length cap t] w fun e w' => e = .returned (.bool true) ∧ Below w.heap.size w w' := by
  have HR := Lib.hid hR
  clear hR
  obtain ⟨E, hE⟩ : ∃ E, recE c o b s ms t.size = E := ⟨_, rfl⟩
  have HE := Lib.hid hE
  obtain ⟨box, hbox⟩ : ∃ box : Array Value, box = #[.int .i64 c, .int .i64 o, .int .i64 b, .int .i64 s, .slice A ms.length cap, .string t] := ⟨_, rfl⟩
  have HBox := Lib.hid hbox
  clear hE hbox
  by_cases h0 : E = 0
  · subst h0
    go_enter Try.func5, Try.ntmps5
    go_wp2_with fail
    refine (recR_any c o b s A cap ms t w.heap.size _ hl ht (HR.out.alloc (Nat.le_refl _) _) (by simp)).mono ?_
    rintro e w1 ⟨rfl, hb1⟩
    rw [HE.out]
    have HK1 : Hid (Blk w1 w.heap.size 32 #[.int .i64 c, .int .i64 o, .int .i64 b, .int .i64 s, .slice A ms.length cap, .string t]) := (Blk.new w _ _).below hb1 (by simp)
    have HB1 := Lib.hid (((Below.refl w.heap.size w).alloc (Nat.le_refl _) _).trans (hb1.mono (by simp)))
    have hz1 : w.heap.size < w1.heap.size := HK1.out.lt
    clear hb1
    have k10 : w1.cell? ⟨w.heap.size, 0, none⟩ = some (.int .i64 c) := HK1.out.cell 0
    have k11 : w1.cell? ⟨w.heap.size, 1, none⟩ = some (.int .i64 o) := HK1.out.cell 1
    have k12 : w1.cell? ⟨w.heap.size, 2, none⟩ = some (.int .i64 b) := HK1.out.cell 2
    have k13 : w1.cell? ⟨w.heap.size, 3, none⟩ = some (.int .i64 s) := HK1.out.cell 3
    have k14 : w1.cell? ⟨w.heap.size, 4, none⟩ = some (.slice A ms.length cap) := HK1.out.cell 4
    have k15 : w1.cell? ⟨w.heap.size, 5, none⟩ = some (.string t) := HK1.out.cell 5
    go_wp2_with fail
    refine (recText_any c o b s A cap ms t w.heap.size _ HE.out (HR.out.below HB1.out) (by omega)).mono ?_
    rintro e w2 ⟨rfl, hb2⟩
    have HK2 := Lib.hid (HK1.out.below hb2 hz1)
    have HB2 := Lib.hid (HB1.out.trans (hb2.mono (Nat.le_of_lt hz1)))
    have hz2 : w.heap.size < w2.heap.size := HK2.out.lt
    clear hb2 k10 k11 k12 k13 k14 k15
    have k20 : w2.cell? ⟨w.heap.size, 0, none⟩ = some (.int .i64 c) := HK2.out.cell 0
    have k21 : w2.cell? ⟨w.heap.size, 1, none⟩ = some (.int .i64 o) := HK2.out.cell 1
    have k22 : w2.cell? ⟨w.heap.size, 2, none⟩ = some (.int .i64 b) := HK2.out.cell 2
    have k23 : w2.cell? ⟨w.heap.size, 3, none⟩ = some (.int .i64 s) := HK2.out.cell 3
    have k24 : w2.cell? ⟨w.heap.size, 4, none⟩ = some (.slice A ms.length cap) := HK2.out.cell 4
    have k25 : w2.cell? ⟨w.heap.size, 5, none⟩ = some (.string t) := HK2.out.cell 5
    go_wp2_with fail
    refine (encode_ok c o b s A cap ms t w.heap.size _ HE.out (HR.out.below HB2.out) (by omega)).mono ?_
    rintro e w3 ⟨rfl, hb3⟩
    have HK3 := Lib.hid (HK2.out.below hb3 hz2)
    have HB3 := Lib.hid (HB2.out.trans (hb3.mono (Nat.le_of_lt hz2)))
    have hz3 : w.heap.size < w3.heap.size := HK3.out.lt
    clear hb3 k20 k21 k22 k23 k24 k25
    have k30 : w3.cell? ⟨w.heap.size, 0, none⟩ = some (.int .i64 c) := HK3.out.cell 0
    have k31 : w3.cell? ⟨w.heap.size, 1, none⟩ = some (.int .i64 o) := HK3.out.cell 1
    have k32 : w3.cell? ⟨w.heap.size, 2, none⟩ = some (.int .i64 b) := HK3.out.cell 2
    have k33 : w3.cell? ⟨w.heap.size, 3, none⟩ = some (.int .i64 s) := HK3.out.cell 3
    have k34 : w3.cell? ⟨w.heap.size, 4, none⟩ = some (.slice A ms.length cap) := HK3.out.cell 4
    have k35 : w3.cell? ⟨w.heap.size, 5, none⟩ = some (.string t) := HK3.out.cell 5
    go_wp2_with fail
    refine (check_any c o b s A cap ms t w.heap.size _ hl ht (HR.out.below HB3.out) (by omega)).mono ?_
    rintro e w4 ⟨rfl, hb4⟩
    rw [HE.out]
    have HB4 := Lib.hid (HB3.out.trans (hb4.mono (Nat.le_of_lt hz3)))
    clear hb4
    go_wp2_with fail
    go_ret
    exact ⟨rfl, HB4.out⟩
  · have n1 : (E == 0) = false := by rw [beq_eq_false_iff_ne]; exact h0
    go_enter Try.func5, Try.ntmps5
    go_wp2_with fail
    refine (recR_any c o b s A cap ms t w.heap.size _ hl ht (HR.out.alloc (Nat.le_refl _) _) (by simp)).mono ?_
    rintro e w1 ⟨rfl, hb1⟩
    rw [HE.out]
    have HK1 : Hid (Blk w1 w.heap.size 32 #[.int .i64 c, .int .i64 o, .int .i64 b, .int .i64 s, .slice A ms.length cap, .string t]) := (Blk.new w _ _).below hb1 (by simp)
    have HB1 := Lib.hid (((Below.refl w.heap.size w).alloc (Nat.le_refl _) _).trans (hb1.mono (by simp)))
    have hz1 : w.heap.size < w1.heap.size := HK1.out.lt
    clear hb1
    have k10 : w1.cell? ⟨w.heap.size, 0, none⟩ = some (.int .i64 c) := HK1.out.cell 0
    have k11 : w1.cell? ⟨w.heap.size, 1, none⟩ = some (.int .i64 o) := HK1.out.cell 1
    have k12 : w1.cell? ⟨w.heap.size, 2, none⟩ = some (.int .i64 b) := HK1.out.cell 2
    have k13 : w1.cell? ⟨w.heap.size, 3, none⟩ = some (.int .i64 s) := HK1.out.cell 3
    have k14 : w1.cell? ⟨w.heap.size, 4, none⟩ = some (.slice A ms.length cap) := HK1.out.cell 4
    have k15 : w1.cell? ⟨w.heap.size, 5, none⟩ = some (.string t) := HK1.out.cell 5
    go_wp2_with fail
    refine (encode_bad c o b s A cap ms t w.heap.size _ E HE.out h0 hl ht (HR.out.below HB1.out) (by omega)).mono ?_
    rintro e w3 ⟨rfl, hb3⟩
    have HK3 := Lib.hid (HK1.out.below hb3 hz1)
    have HB3 := Lib.hid (HB1.out.trans (hb3.mono (Nat.le_of_lt hz1)))
    have hz3 : w.heap.size < w3.heap.size := HK3.out.lt
    clear hb3 k10 k11 k12 k13 k14 k15
    have k30 : w3.cell? ⟨w.heap.size, 0, none⟩ = some (.int .i64 c) := HK3.out.cell 0
    have k31 : w3.cell? ⟨w.heap.size, 1, none⟩ = some (.int .i64 o) := HK3.out.cell 1
    have k32 : w3.cell? ⟨w.heap.size, 2, none⟩ = some (.int .i64 b) := HK3.out.cell 2
    have k33 : w3.cell? ⟨w.heap.size, 3, none⟩ = some (.int .i64 s) := HK3.out.cell 3
    have k34 : w3.cell? ⟨w.heap.size, 4, none⟩ = some (.slice A ms.length cap) := HK3.out.cell 4
    have k35 : w3.cell? ⟨w.heap.size, 5, none⟩ = some (.string t) := HK3.out.cell 5
    go_wp2_with fail
    refine (check_any c o b s A cap ms t w.heap.size _ hl ht (HR.out.below HB3.out) (by omega)).mono ?_
    rintro e w4 ⟨rfl, hb4⟩
    rw [HE.out]
    have HB4 := Lib.hid (HB3.out.trans (hb4.mono (Nat.le_of_lt hz3)))
    clear hb4
    go_wp2_with fail
    go_ret
    exact ⟨rfl, HB4.out⟩

theorem own : ownKnob Try.prog.godebug = none := by kernel_rfl
theorem contract (H : Type) (enc : TypeId × Value → H) (W : World) (base : Nat) (args : Array Value) (ds gs : List (DataW H)) (before : List MemPlace)
    (hval : ∀ (j : Nat) t v, Try.f5.params[j]? = some t → args[j]? = some v → Value.okWide Try.prog W .any base t v)
    (hW : DataW.Whole enc Try.prog Try.f5.params.toList Rows.auditSaysSpec.vars false W args.toList ds gs before) :
    Calls Try.prog 5 args W fun e W' => ∃ v, e = .returned v ∧ Rows.auditSaysSpec.post enc Try.prog Try.f5 false true false false W args v W' := by
  have hW' := hW
  obtain ⟨p, q, hA0, hV, rfl, hfz, hnd⟩ := hW
  have hA : DataW.TrodAll enc Try.prog W 0 (fun _ => true) true Try.f5.params.toList args.toList ds p := hA0
  rw [Try.params5] at hA hval
  obtain ⟨v0, vs0, d0, ds0, p0, q0, hargs, rfl, rfl, h0, r0⟩ := trodAll_cons hA
  obtain ⟨rfl, rfl, rfl⟩ := trodAll_nil r0
  obtain rfl : args = #[v0] := by cases args; simp_all
  obtain ⟨rfl, rfl⟩ := trodVars_none hV
  obtain ⟨c, o, b, s, A, cap, ms, t, rfl, hl, ht, hR⟩ := open_record (hval 0 32 v0 rfl rfl) h0
  clear hA0
  refine (walk c o b s A cap ms t W hl ht hR).mono fun e W' ⟨he, hg⟩ => ?_
  subst he
  exact ⟨_, rfl, post_true 4 Try.underlying4 (by kernel_rfl) (by kernel_rfl) (by kernel_rfl) rfl rfl hW' hg⟩

set_option maxRecDepth 100000 in
theorem lifted (os : Os) (started : os.Started) (H : Type) (enc : TypeId × Value → H) :
    ReturnsInHanded {} Try.checked os 5 .any (Rows.auditSaysSpec.pre6 enc Try.prog Try.f5 Rows.auditSaysRow.domain false) (Rows.auditSaysSpec.post enc Try.prog Try.f5 false true false false) := by
  refine returnsInHanded_of_change (C := Try.checked) own started (by kernel_rfl) Try.func5
    (ChangeSpec.witness6 (enc := enc) (C := Try.checked) false ⟨#[], #[.agg #[.int .i64 0, .int .i64 0, .int .i64 0, .int .i64 0, .slice none 0 0, .string ByteArray.empty]], []⟩ 8 (by kernel_rfl) (by kernel_rfl) (by kernel_rfl) (by kernel_rfl)) ?_
  intro W base args ds gs before hval hW _ _
  exact contract H enc W base args ds gs before hval hW

theorem proved : Rows.AuditSaysSaid :=
  OpenClaim.holds_of_wide 5 Try.f5 rfl rfl rfl rfl rfl rfl rfl ⟨rfl, rfl, rfl, rfl, rfl⟩ rfl rfl rfl rfl rfl (by kernel_rfl) Try.func5 (by kernel_rfl)
    (of_decide_eq_true (by kernel_rfl)) (by unfold Func.isWrapper; first | (rw [if_pos (by decide +kernel)]; kernel_rfl) | (rw [if_neg (by decide +kernel)]; exact ⟨rfl, rfl⟩))
    (fun os started H enc _ => lifted os started H enc)
#print axioms proved
end Go.Proofs.Ytahcgajipnkojaa.lawAudit
