/- wicklaw.MultiReads: for all bodies and boundaries of bulk at most 1048576 and all counts multi.Parts returns what the reference returns. Condition: that bulk. -/
import Derived.Test.YtnpjmaoidkofeaaFrame
import Derived.Test.YtnpjmaoidkofeaaMrdE
namespace Go.Proofs.Ytnpjmaoidkofeaa.lawMrd
open Go.ChangeShapes Go.WideShapes Go.ChangeAt Go.RowKit
open Go.ChangeMaps (open_string shut_string)
set_option linter.unusedVariables false
set_option linter.unusedSimpArgs false

theorem readN_len (b : ByteArray) (most : Int) : ∀ (n : Nat) (s : ByteArray) (out : List Fd), (readN b most n s out).1.length ≤ out.length + n
  | 0, s, out => by rw [readN]; exact Nat.zero_le _
  | n + 1, s, out => by
    rw [readN]
    split
    · exact Nat.le_add_right _ _
    · split
      · exact Nat.zero_le _
      · split
        · exact Nat.zero_le _
        · split
          · exact Nat.zero_le _
          · rename_i x _ _
            have := readN_len b most n x.2 (out ++ [x.1])
            rw [List.length_append, List.length_singleton] at this; omega
theorem readR_len (b s : ByteArray) (most : Int) : (readR b s most).1.length ≤ 4097 := by
  unfold readR
  split
  · exact Nat.zero_le _
  · split
    · exact Nat.zero_le _
    · split
      · exact Nat.zero_le _
      · have := readN_len b most (s.size + 1) (s.extract (ddB b).size s.size) []
        rw [List.length_nil] at this; omega
set_option maxHeartbeats 2000000 in
theorem walk (s b : ByteArray) (most : Int) (w : World) (_ : s.size ≤ maxLen) (_ : b.size ≤ maxLen) (hmo : (Lit.int .i64 most).wf = true) (hs : s.size ≤ 1048576) (hb : b.size ≤ 1048576) (hm : ∃ m, w.cell? ⟨0, 0, none⟩ = some (.int .i64 m)) :
    Calls Try.prog 4 #[.string s, .string b, .int .i64 most] w fun e w' => e = .returned (.bool true) ∧ Below w.heap.size w w' := by
  obtain ⟨m, hm⟩ := hm
  have C1 := parts_any b s most m w hb hm
  have C2 := fun w' => readMulti_any b s most w' hb hmo
  have hlen := readR_len b s most
  unfold PsRes at C1 C2
  obtain ⟨R, hR⟩ : ∃ R, R = readR b s most := ⟨_, rfl⟩
  rw [← hR] at hlen
  have C1 := Lib.hid (show Calls Try.prog 10 #[.string s, .string b, .int .i64 most] w fun e w' => ∃ v, e = .returned (.tuple #[v, .int .i64 R.2]) ∧ OP 33 w' w.heap.size v R.1 ∧ Below w.heap.size w w' by rw [hR]; exact C1)
  have C2 := Lib.hid (show ∀ w, Calls Try.prog 11 #[.string s, .string b, .int .i64 most] w fun e w' => ∃ v, e = .returned (.tuple #[v, .int .i64 R.2]) ∧ OP 33 w' w.heap.size v R.1 ∧ Below w.heap.size w w' by rw [hR]; exact C2)
  clear hR hm hmo
  obtain ⟨l, E⟩ := R
  dsimp only at C1 C2 hlen
  go_enter Try.func4, Try.ntmps4
  go_wp2_with fail
  refine C1.out.mono ?_
  rintro e w1 ⟨v, rfl, ho1, b1⟩
  obtain ⟨A1, c1, rfl⟩ := ho1.form
  have HO1 := Lib.hid ho1
  have HB1 := Lib.hid b1
  clear ho1 b1
  go_wp2_with fail
  refine (C2.out _).mono ?_
  rintro e w2 ⟨v, rfl, ho2, b2⟩
  obtain ⟨A2, c2, rfl⟩ := ho2.form
  have CE := Lib.hid (eqAr_any A1 A2 c1 c2 l w2 _ _ (by omega) (HO1.out.kept b2) ho2)
  have HB2 := Lib.hid (HB1.out.trans (b2.mono HB1.out.size))
  clear ho2 b2
  go_wp2_with fail
  refine CE.out.mono ?_
  rintro e w3 ⟨rfl, b3⟩
  have HB3 := Lib.hid (HB2.out.trans (b3.mono HB2.out.size))
  clear b3
  have ee : (E == E) = true := by simp
  go_wp2_with fail
  go_ret
  exact ⟨rfl, HB3.out⟩

theorem own : ownKnob Try.prog.godebug = none := by kernel_rfl
set_option maxRecDepth 100000 in
theorem contract (H : Type) (enc : TypeId × Value → H) (W : World) (base : Nat) (args : Array Value) (ds gs : List (DataW H)) (before : List MemPlace)
    (hval : ∀ (j : Nat) t v, Try.f4.params[j]? = some t → args[j]? = some v → Value.okWide Try.prog W .any base t v)
    (hW : DataW.Whole enc Try.prog Try.f4.params.toList Rows.multiReadsSpec.vars false W args.toList ds gs before) (hk : Rows.uptoSmall H (ds ++ gs) = true) (hm : ∃ m, W.cell? ⟨0, 0, none⟩ = some (.int .i64 m)) :
    Calls Try.prog 4 args W fun e W' => ∃ v, e = .returned v ∧ Rows.multiReadsSpec.post enc Try.prog Try.f4 false true false false W args v W' := by
  have hW' := hW
  obtain ⟨p, q, hA0, hV, rfl, hfz, hnd⟩ := hW
  have hA : DataW.TrodAll enc Try.prog W 0 (fun _ => true) true Try.f4.params.toList args.toList ds p := hA0
  rw [Try.params4] at hA hval
  obtain ⟨v0, vs0, d0, ds0, p0, q0, hargs, rfl, rfl, h0, r0⟩ := trodAll_cons hA
  obtain ⟨v1, vs1, d1, ds1, p1, q1, rfl, rfl, rfl, h1, r1⟩ := trodAll_cons r0
  obtain ⟨v2, vs2, d2, ds2, p2, q2, rfl, rfl, rfl, h2, r2⟩ := trodAll_cons r1
  obtain ⟨rfl, rfl, rfl⟩ := trodAll_nil r2
  obtain rfl : args = #[v0, v1, v2] := by cases args; simp_all
  obtain ⟨rfl, rfl⟩ := trodVars_none hV
  obtain ⟨a0, rfl, rfl, rfl, w0⟩ := open_string Try.underlying9 (hval 0 9 v0 rfl rfl) h0
  obtain ⟨a1, rfl, rfl, rfl, w1⟩ := open_string Try.underlying9 (hval 1 9 v1 rfl rfl) h1
  obtain ⟨a2, rfl, rfl, rfl, w2⟩ := open_int Try.underlying3 (hval 2 3 v2 rfl rfl) h2
  clear hA0
  simp only [List.append_nil] at hW' hk
  have hb : Rows.uptoBulkAll (H := H) [.lit (.string a0.data.toList), .lit (.string a1.data.toList), .lit (.int .i64 a2)] ≤ 1048576 := of_decide_eq_true hk
  simp only [Rows.uptoBulkAll, Rows.uptoBulk, lst_len] at hb
  refine (walk a0 a1 a2 W w0 w1 w2 (by omega) (by omega) hm).mono fun e W' ⟨he, hg⟩ => ?_
  subst he
  exact ⟨_, rfl, post_of_below (pa := []) (pv := []) hW' (fun _ _ _ => (trodAll_cons_mk (shut_bool Try.underlying4 _) trodAll_mk0)) (fun sp _ => (trodAll_cons_mk (shut_string Try.underlying9 w0) (trodAll_cons_mk (shut_string Try.underlying9 w1) (trodAll_cons_mk (shut_int Try.underlying3 w2) trodAll_mk0)))) (fun _ _ => rfl) rfl hg (ok_one (by kernel_rfl) rfl (okWide_bool_mk Try.underlying4 _))⟩

set_option maxRecDepth 100000 in
theorem lifted (os : Os) (started : os.Started) (H : Type) (enc : TypeId × Value → H) (F : Stop.Interp) :
    ReturnsInHanded {} Try.checked os 4 .any ((Rows.OpenSpec.upto Rows.multiReadsSpec).pre6 enc Try.prog Try.f4 Rows.multiReadsUptoRow.domain false) (((Rows.OpenSpec.upto Rows.multiReadsSpec).at F).post enc Try.prog Try.f4 false true false false) := by
  refine cond_shaped (C := Try.checked) (s := Rows.OpenSpec.upto Rows.multiReadsSpec) (k := Rows.uptoSmall) rfl own started (by kernel_rfl) Try.func4
    (OpenSpec.witness (enc := enc) (C := Try.checked) (s := Rows.OpenSpec.upto Rows.multiReadsSpec) (k := Rows.uptoSmall) rfl false ⟨#[], #[.string ByteArray.empty, .string ByteArray.empty, .int .i64 0], []⟩ 8 (by kernel_rfl) (by kernel_rfl) (by kernel_rfl)
      (x := ([.lit (.string []), .lit (.string []), .lit (.int .i64 0)], [], [])) (by kernel_rfl) rfl (by kernel_rfl)) ?_
  intro W base args ds gs before hval hW hk hsh
  exact contract H enc W base args ds gs before hval hW hk (cell_of_shapedOpen_int (zero := #[.int .i64 0]) (t := 3) hsh (of_decide_eq_true (by kernel_rfl)) (by kernel_rfl) rfl (by kernel_rfl) (by kernel_rfl) Try.underlying3)

theorem proved : Rows.MultiReadsUptoSaid :=
  OpenClaim.holds_of_cond 4 Try.f4 rfl rfl rfl rfl rfl rfl rfl ⟨rfl, rfl, rfl, rfl, rfl⟩ rfl rfl rfl rfl rfl (by kernel_rfl) Try.func4 (by kernel_rfl)
    (of_decide_eq_true (by kernel_rfl)) (by unfold Func.isWrapper; first | (rw [if_pos (by decide +kernel)]; kernel_rfl) | (rw [if_neg (by decide +kernel)]; exact ⟨rfl, rfl⟩))
    (fun os started H enc _ F => lifted os started H enc F)
#print axioms proved
end Go.Proofs.Ytnpjmaoidkofeaa.lawMrd
