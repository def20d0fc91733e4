/- wicklaw.AuditReads: for all strings of bulk at most 1048576 Decode and All return what the reference returns. Condition: that bulk. -/
import Derived.Test.YtahcgajipnkojaaFrame
import Derived.Test.YtahcgajipnkojaaArdJ
namespace Go.Proofs.Ytahcgajipnkojaa.lawReads
open Go.ChangeShapes Go.WideShapes Go.ChangeAt Go.RowKit
open Go.ChangeMaps (open_string shut_string)
set_option linter.unusedVariables false
set_option linter.unusedSimpArgs false

theorem norm {l : List UInt8} {w w' : World} {e : Ending} (h : DecRes l w e w') {E : Int} {r : Rc} {n : Nat} (hd : decF l = (E, r, n)) : Below w.heap.size w w' ∧
    ∃ (A : Option Addr) (cap : Nat), e = .returned (.tuple #[recV r.c r.o r.b r.s A r.ms.length cap (str r.t), .int .i64 n, .int .i64 E]) ∧ OI w' w.heap.size (.slice A r.ms.length cap) r.ms := by
  obtain ⟨hb, h⟩ := h
  refine ⟨hb, ?_⟩
  rcases h with ⟨E', hE, hd', rfl⟩ | ⟨r', n', A, cap, hd', rfl, ho, _, _⟩
  · rw [hd] at hd'
    injection hd' with h1 h2
    injection h2 with h2 h3
    subst h1 h2 h3
    exact ⟨none, 0, rfl, OI.nil _ _⟩
  · rw [hd] at hd'
    injection hd' with h1 h2
    injection h2 with h2 h3
    subst h1 h2 h3
    exact ⟨A, cap, rfl, ho⟩

set_option maxHeartbeats 2000000 in
theorem walk (s : ByteArray) (w : World) (_ : s.size ≤ maxLen) (hs : s.size ≤ 1048576) :
    Calls Try.prog 6 #[.string s] w fun e w' => e = .returned (.bool true) ∧ Below w.heap.size w w' := by
  obtain ⟨E, r, n, hd⟩ : ∃ E r n, decF s.data.toList = (E, r, n) := ⟨_, _, _, rfl⟩
  obtain ⟨F, rs, hf⟩ : ∃ F rs, allG s.data.toList.length [] s.data.toList = (F, rs) := ⟨_, _, rfl⟩
  have HD := Lib.hid hd
  have HF := Lib.hid hf
  clear hd hf
  go_enter Try.func6, Try.ntmps6
  go_wp2_with fail
  refine (decode_any s w hs).mono ?_
  rintro e w1 h
  obtain ⟨hb1, A1, cap1, rfl, ho1⟩ := norm h HD.out
  clear h
  unfold recV
  go_wp2_with fail
  obtain ⟨w2, hw2⟩ : ∃ w2, w2 = w1.alloc (.cells #[.int .i64 r.c, .int .i64 r.o, .int .i64 r.b, .int .i64 r.s, .slice A1 r.ms.length cap1, .string (str r.t)] 32) := ⟨_, rfl⟩
  have HB2 : Hid (Below w.heap.size w w2) := by rw [hw2]; exact hb1.alloc hb1.size _
  have HK2 : Hid (Blk w2 w1.heap.size 32 #[.int .i64 r.c, .int .i64 r.o, .int .i64 r.b, .int .i64 r.s, .slice A1 r.ms.length cap1, .string (str r.t)]) := by rw [hw2]; exact Blk.new _ _ _
  have HO2 : Hid (OI w2 w.heap.size (.slice A1 r.ms.length cap1) r.ms) := by rw [hw2]; exact ho1.alloc _
  rw [← hw2]
  have hz2 : w1.heap.size < w2.heap.size := HK2.out.lt
  clear hw2 hb1 ho1
  refine (read_any s w2 hs).mono ?_
  rintro e w3 h
  obtain ⟨hb3, A3, cap3, rfl, ho3⟩ := norm h HD.out
  clear h
  unfold recV
  go_wp2_with fail
  obtain ⟨w4, hw4⟩ : ∃ w4, w4 = w3.alloc (.cells #[.int .i64 r.c, .int .i64 r.o, .int .i64 r.b, .int .i64 r.s, .slice A3 r.ms.length cap3, .string (str r.t)] 32) := ⟨_, rfl⟩
  have hb24 : Below w2.heap.size w2 w4 := by rw [hw4]; exact hb3.alloc hb3.size _
  have HB4 : Hid (Below w.heap.size w w4) := HB2.out.trans (hb24.mono HB2.out.size)
  have HK4 : Hid (Blk w4 w1.heap.size 32 #[.int .i64 r.c, .int .i64 r.o, .int .i64 r.b, .int .i64 r.s, .slice A1 r.ms.length cap1, .string (str r.t)]) := HK2.out.below hb24 hz2
  have HL4 : Hid (Blk w4 w3.heap.size 32 #[.int .i64 r.c, .int .i64 r.o, .int .i64 r.b, .int .i64 r.s, .slice A3 r.ms.length cap3, .string (str r.t)]) := by rw [hw4]; exact Blk.new _ _ _
  have HO4 : Hid (OI w4 w.heap.size (.slice A1 r.ms.length cap1) r.ms) := OI.kept HO2.out hb24
  have HP4 : Hid (OI w4 w2.heap.size (.slice A3 r.ms.length cap3) r.ms) := by rw [hw4]; exact ho3.alloc _
  rw [← hw4]
  have hz4 : w3.heap.size < w4.heap.size := HL4.out.lt
  have hz14 : w1.heap.size < w4.heap.size := HK4.out.lt
  clear hw4 hb3 ho3 hb24 HK2 HO2
  refine (all_any s w4 hs).mono ?_
  rintro e w5 ⟨hb5, v5, ps5, rfl, hR5⟩
  rw [HF.out] at hR5 ⊢
  dsimp only at hR5 ⊢
  have HB5 := Lib.hid (HB4.out.trans (hb5.mono HB4.out.size))
  have HK5 := Lib.hid (HK4.out.below hb5 hz14)
  have HL5 := Lib.hid (HL4.out.below hb5 hz4)
  have HO5 := Lib.hid (OI.kept HO4.out hb5)
  have HP5 := Lib.hid (OI.kept HP4.out hb5)
  have HR5 := Lib.hid hR5
  have hz5 : w3.heap.size < w5.heap.size := HL5.out.lt
  have hz15 : w1.heap.size < w5.heap.size := HK5.out.lt
  clear hb5 hR5 HK4 HL4 HO4 HP4
  go_wp2_with fail
  refine (records_any s w5 hs).mono ?_
  rintro e w6 ⟨hb6, v6, ps6, rfl, hR6⟩
  rw [HF.out] at hR6 ⊢
  dsimp only at hR6 ⊢
  have HB6 := Lib.hid (HB5.out.trans (hb6.mono HB5.out.size))
  have HK6 := Lib.hid (HK5.out.below hb6 hz15)
  have HL6 := Lib.hid (HL5.out.below hb6 hz5)
  have HO6 := Lib.hid (OI.kept HO5.out hb6)
  have HP6 := Lib.hid (OI.kept HP5.out hb6)
  have HQ6 := Lib.hid (HR5.out.below hb6)
  have HR6 := Lib.hid hR6
  clear hb6 hR6 HK5 HL5 HO5 HP5 HR5
  obtain ⟨A5, c5, rfl⟩ := HQ6.out.form
  obtain ⟨A6, c6, rfl⟩ := HR6.out.form
  have x0 : w6.cell? ⟨w1.heap.size, 0, none⟩ = some (.int .i64 r.c) := HK6.out.cell 0
  have x1 : w6.cell? ⟨w1.heap.size, 1, none⟩ = some (.int .i64 r.o) := HK6.out.cell 1
  have x2 : w6.cell? ⟨w1.heap.size, 2, none⟩ = some (.int .i64 r.b) := HK6.out.cell 2
  have x3 : w6.cell? ⟨w1.heap.size, 3, none⟩ = some (.int .i64 r.s) := HK6.out.cell 3
  have x4 : w6.cell? ⟨w1.heap.size, 4, none⟩ = some (.slice A1 r.ms.length cap1) := HK6.out.cell 4
  have x5 : w6.cell? ⟨w1.heap.size, 5, none⟩ = some (.string (str r.t)) := HK6.out.cell 5
  have y0 : w6.cell? ⟨w3.heap.size, 0, none⟩ = some (.int .i64 r.c) := HL6.out.cell 0
  have y1 : w6.cell? ⟨w3.heap.size, 1, none⟩ = some (.int .i64 r.o) := HL6.out.cell 1
  have y2 : w6.cell? ⟨w3.heap.size, 2, none⟩ = some (.int .i64 r.b) := HL6.out.cell 2
  have y3 : w6.cell? ⟨w3.heap.size, 3, none⟩ = some (.int .i64 r.s) := HL6.out.cell 3
  have y4 : w6.cell? ⟨w3.heap.size, 4, none⟩ = some (.slice A3 r.ms.length cap3) := HL6.out.cell 4
  have y5 : w6.cell? ⟨w3.heap.size, 5, none⟩ = some (.string (str r.t)) := HL6.out.cell 5
  clear HK6 HL6
  go_wp2_with fail
  refine (same_yes r.c r.o r.b r.s A1 A3 cap1 cap3 r.ms (str r.t) w6 _ _ HO6.out HP6.out).mono ?_
  rintro e w7 ⟨rfl, hb7⟩
  have HB7 := Lib.hid (HB6.out.trans (hb7.mono HB6.out.size))
  have HQ7 := Lib.hid (HQ6.out.below hb7)
  have HR7 := Lib.hid (HR6.out.below hb7)
  clear hb7 x0 x1 x2 x3 x4 x5 y0 y1 y2 y3 y4 y5
  go_wp2_with fail
  refine (eqF_any A5 A6 c5 c6 rs ps5 ps6 w7 _ _ HQ7.out HR7.out).mono ?_
  rintro e w8 ⟨rfl, hb8⟩
  have HB8 := Lib.hid (HB7.out.trans (hb8.mono HB7.out.size))
  clear hb8
  go_wp2_with fail
  go_ret
  exact ⟨rfl, HB8.out⟩

theorem own : ownKnob Try.prog.godebug = none := by kernel_rfl
theorem contract (H : Type) (enc : TypeId × Value → H) (W : World) (base : Nat) (args : Array Value) (ds gs : List (DataW H)) (before : List MemPlace)
    (hval : ∀ (j : Nat) t v, Try.f6.params[j]? = some t → args[j]? = some v → Value.okWide Try.prog W .any base t v)
    (hW : DataW.Whole enc Try.prog Try.f6.params.toList Rows.auditReadsSpec.vars false W args.toList ds gs before) (hk : Rows.uptoSmall H (ds ++ gs) = true) :
    Calls Try.prog 6 args W fun e W' => ∃ v, e = .returned v ∧ Rows.auditReadsSpec.post enc Try.prog Try.f6 false true false false W args v W' := by
  have hW' := hW
  obtain ⟨p, q, hA0, hV, rfl, hfz, hnd⟩ := hW
  have hA : DataW.TrodAll enc Try.prog W 0 (fun _ => true) true Try.f6.params.toList args.toList ds p := hA0
  rw [Try.params6] at hA hval
  obtain ⟨v0, vs0, d0, ds0, p0, q0, hargs, rfl, rfl, h0, r0⟩ := trodAll_cons hA
  obtain ⟨rfl, rfl, rfl⟩ := trodAll_nil r0
  obtain rfl : args = #[v0] := by cases args; simp_all
  obtain ⟨rfl, rfl⟩ := trodVars_none hV
  obtain ⟨a0, rfl, rfl, rfl, w0⟩ := open_string Try.underlying9 (hval 0 9 v0 rfl rfl) h0
  clear hA0
  simp only [List.append_nil] at hW' hk
  have hb : Rows.uptoBulkAll (H := H) [.lit (.string a0.data.toList)] ≤ 1048576 := of_decide_eq_true hk
  simp only [Rows.uptoBulkAll, Rows.uptoBulk, lst_len] at hb
  refine (walk a0 W w0 (by omega)).mono fun e W' ⟨he, hg⟩ => ?_
  subst he
  exact ⟨_, rfl, post_of_below (pa := []) (pv := []) hW' (fun _ _ _ => (trodAll_cons_mk (shut_bool Try.underlying4 _) trodAll_mk0)) (fun sp _ => (trodAll_cons_mk (shut_string Try.underlying9 w0) trodAll_mk0)) (fun _ _ => rfl) rfl hg (ok_one (by kernel_rfl) rfl (okWide_bool_mk Try.underlying4 _))⟩

set_option maxRecDepth 100000 in
theorem lifted (os : Os) (started : os.Started) (H : Type) (enc : TypeId × Value → H) (F : Stop.Interp) :
    ReturnsInHanded {} Try.checked os 6 .any ((Rows.OpenSpec.upto Rows.auditReadsSpec).pre6 enc Try.prog Try.f6 Rows.auditReadsUptoRow.domain false) (((Rows.OpenSpec.upto Rows.auditReadsSpec).at F).post enc Try.prog Try.f6 false true false false) := by
  refine returnsInHanded_of_cond (C := Try.checked) (s := Rows.OpenSpec.upto Rows.auditReadsSpec) (k := Rows.uptoSmall) rfl own started (by kernel_rfl) Try.func6
    (OpenSpec.witness (enc := enc) (C := Try.checked) (s := Rows.OpenSpec.upto Rows.auditReadsSpec) (k := Rows.uptoSmall) rfl false ⟨#[], #[.string ByteArray.empty], []⟩ 8 (by kernel_rfl) (by kernel_rfl) (by kernel_rfl)
      (x := ([.lit (.string [])], [], [])) (by kernel_rfl) rfl (by kernel_rfl)) ?_
  intro W base args ds gs before hval hW _ hk _
  exact contract H enc W base args ds gs before hval hW hk

theorem proved : Rows.AuditReadsUptoSaid :=
  OpenClaim.holds_of_cond 6 Try.f6 rfl rfl rfl rfl rfl rfl rfl ⟨rfl, rfl, rfl, rfl, rfl⟩ rfl rfl rfl rfl rfl (by kernel_rfl) Try.func6 (by kernel_rfl)
    (of_decide_eq_true (by kernel_rfl)) (by unfold Func.isWrapper; first | (rw [if_pos (by decide +kernel)]; kernel_rfl) | (rw [if_neg (by decide +kernel)]; exact ⟨rfl, rfl⟩))
    (fun os started H enc _ F => lifted os started H enc F)
#print axioms proved
end Go.Proofs.Ytahcgajipnkojaa.lawReads
