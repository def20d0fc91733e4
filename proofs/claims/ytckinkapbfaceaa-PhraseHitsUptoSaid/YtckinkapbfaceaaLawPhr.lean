/- wicklaw.PhraseHits: for all automata (of bulk at most 1048576) Check, Hits and Some return what the reference returns (texts of at most 200 bytes). (Printed by gen_lawphr.py.) -/
import Derived.Test.YtckinkapbfaceaaPhrG
namespace Go.Proofs.Ytckinkapbfaceaa.lawPhr
open Go.ChangeShapes Go.WideShapes Go.ChangeAt Go.RowKit Go.Joins Go.Deep
open Go.ChangeMaps (open_string shut_string)
set_option linter.unusedVariables false
set_option linter.unusedSimpArgs false

section
variable (l : List Nd) (A : Option Addr) (cap B : Nat) (words : Int) (s : ByteArray) (w : World)
set_option maxRecDepth 100000 in
set_option maxHeartbeats 2000000 in
theorem walk_bad (h : NdR w B A cap l) (hs : s.size ≤ 9223372036854775807) (h0 : ¬ errTS l words s.size = 0) :
    Calls Try.prog 4 #[.slice A l.length cap, .int .i64 words, .string s] w fun e w' => e = .returned (.bool true) ∧ Below w.heap.size w w' := by
  have CR := Lib.hid (righttrie_any l A cap B words w h)
  have CF := Lib.hid fun w1 (hb : Below w.heap.size w w1) => thits_bad l A cap B words s w1 (h.kept hb) hs h0
  have CS := Lib.hid fun w1 (hb : Below w.heap.size w w1) => tsome_bad l A cap B words s w1 (h.kept hb) hs h0
  have CC := Lib.hid fun w1 (hb : Below w.heap.size w w1) => pcheck_any l A cap B words w1 (h.kept hb)
  have HE : Hid (errTS l words s.size = if errT l words = 0 then (if 8192 < s.size then 2 else 0) else errT l words) := rfl
  obtain ⟨E, hE⟩ : ∃ E, E = errT l words := ⟨_, rfl⟩
  obtain ⟨F, hF⟩ : ∃ F, F = errTS l words s.size := ⟨_, rfl⟩
  rw [← hE] at CR CC HE
  rw [← hF] at CF CS HE h0
  have hw : (E = F ∧ (F != 0) = true ∧ (F == 0) = false) ∨ (E = 0 ∧ F = 2 ∧ (8192 : Int) < (s.size : Int)) := by
    have h1 := HE.out
    by_cases hz : E = 0
    · rw [if_pos hz] at h1
      by_cases h2 : 8192 < s.size
      · rw [if_pos h2] at h1; exact .inr ⟨hz, h1, by omega⟩
      · rw [if_neg h2] at h1; exact absurd h1 h0
    · rw [if_neg hz] at h1
      exact .inl ⟨h1.symm, bne_iff_ne.2 h0, beq_eq_false_iff_ne.2 h0⟩
  clear hE hF h h0 HE
  rcases hw with ⟨rfl, e0, e1⟩ | ⟨rfl, rfl, e0⟩
  all_goals
    go_enter Try.func4, Try.ntmps4
    go_wp2_with fail
    refine CR.out.mono ?_
    rintro e w1 ⟨rfl, b1⟩
    have HB1 := Lib.hid b1
    clear b1
    go_wp2_with fail
    refine (CF.out _ HB1.out).mono ?_
    rintro e w2 ⟨rfl, b2⟩
    have HB2 := Lib.hid (HB1.out.trans (b2.mono HB1.out.size))
    clear b2
    go_wp2_with fail
    refine (CS.out _ HB2.out).mono ?_
    rintro e w3 ⟨rfl, b3⟩
    have HB3 := Lib.hid (HB2.out.trans (b3.mono HB2.out.size))
    clear b3
    go_wp2_with fail
    refine (CC.out _ HB3.out).mono ?_
    rintro e w4 ⟨rfl, b4⟩
    have HB4 := Lib.hid (HB3.out.trans (b4.mono HB3.out.size))
    clear b4
    go_wp2_with fail
    go_ret
    exact ⟨rfl, HB4.out⟩
set_option maxRecDepth 100000 in
set_option maxHeartbeats 2000000 in
theorem walk_ok (h : NdR w B A cap l) (hl : ∀ x ∈ l, x.ends.length ≤ 1048576) (hs : s.size ≤ 9223372036854775807) (h0 : errTS l words s.size = 0) :
    Calls Try.prog 4 #[.slice A l.length cap, .int .i64 words, .string s] w fun e w' => e = .returned (.bool true) ∧ Below w.heap.size w w' := by
  have hE : errT l words = 0 := by
    unfold errTS at h0
    split at h0
    · assumption
    · exact h0
  obtain ⟨ht, hs2⟩ := errTS_ok h0
  obtain ⟨ad, rfl⟩ : ∃ ad, A = some ad := ⟨_, (h.at_ (List.getElem?_eq_getElem ht.pos)).choose_spec.1⟩
  have CR := righttrie_any l (some ad) cap B words w h
  rw [hE] at CR
  have CR := Lib.hid CR
  have CF := Lib.hid fun w1 (hb : Below w.heap.size w w1) => thits_ok l (some ad) cap B words s w1 (h.kept hb) hl hs h0
  have CS := Lib.hid fun w1 (hb : Below w.heap.size w w1) => tsome_ok l (some ad) cap B words s w1 (h.kept hb) hl hs h0
  have CC := Lib.hid fun w1 (hb : Below w.heap.size w w1) => pcheck_any l (some ad) cap B words w1 (h.kept hb)
  rw [hE] at CC
  have CH := Lib.hid fun w1 (hb : Below w.heap.size w w1) => refhits_any l ad cap B w1 s (h.kept hb) ht hs2 hl
  have HLen : Hid ((hitsT l s.data.toList).length ≤ 9000000000) := by
    show _ ≤ _
    have h1 := hitK_len hl s.data.toList s.data.toList.length
    rw [lst_len] at h1
    have h2 : s.size * 1048576 ≤ 8192 * 1048576 := Nat.mul_le_mul_right _ hs2
    unfold hitsT
    rw [lst_len]
    exact Nat.le_trans h1 (Nat.le_trans h2 (by decide))
  unfold RefRes at CH
  obtain ⟨T, hT⟩ : ∃ T, T = hitsT l s.data.toList := ⟨_, rfl⟩
  rw [← hT] at CF CS CH HLen
  have d1 : ¬ (8192 : Int) < (s.size : Int) := by omega
  clear h h0 hE ht hl hT
  have step : ∀ (p : Bool), p = p := fun _ => rfl
  clear step
  by_cases h2 : 200 < s.size
  · have d2 : (200 : Int) < (s.size : Int) := by omega
    clear h2
    go_enter Try.func4, Try.ntmps4
    go_wp2_with fail
    refine CR.out.mono ?_
    rintro e w1 ⟨rfl, b1⟩
    have HB1 := Lib.hid b1
    clear b1
    go_wp2_with fail
    refine (CF.out _ HB1.out).mono ?_
    rintro e w2 ⟨A1, c1, rfl, ho, b2⟩
    have HO := Lib.hid ho
    have HB2 := Lib.hid (HB1.out.trans (b2.mono HB1.out.size))
    clear b2 ho
    go_wp2_with fail
    refine (CS.out _ HB2.out).mono ?_
    rintro e w3 ⟨rfl, b3⟩
    have HB3 := Lib.hid (HB2.out.trans (b3.mono HB2.out.size))
    have HO3 := Lib.hid (HO.out.below b3)
    clear b3
    go_wp2_with fail
    refine (CC.out _ HB3.out).mono ?_
    rintro e w4 ⟨rfl, b4⟩
    have HB4 := Lib.hid (HB3.out.trans (b4.mono HB3.out.size))
    have HO4 := Lib.hid (HO3.out.below b4)
    clear b4
    go_wp2_with fail
    go_ret
    exact ⟨rfl, HB4.out⟩
  · have d2 : ¬ (200 : Int) < (s.size : Int) := by omega
    clear h2
    go_enter Try.func4, Try.ntmps4
    go_wp2_with fail
    refine CR.out.mono ?_
    rintro e w1 ⟨rfl, b1⟩
    have HB1 := Lib.hid b1
    clear b1
    go_wp2_with fail
    refine (CF.out _ HB1.out).mono ?_
    rintro e w2 ⟨A1, c1, rfl, ho, b2⟩
    have HO := Lib.hid ho
    have HB2 := Lib.hid (HB1.out.trans (b2.mono HB1.out.size))
    clear b2 ho
    go_wp2_with fail
    refine (CS.out _ HB2.out).mono ?_
    rintro e w3 ⟨rfl, b3⟩
    have HB3 := Lib.hid (HB2.out.trans (b3.mono HB2.out.size))
    have HO3 := Lib.hid (HO.out.below b3)
    clear b3
    go_wp2_with fail
    refine (CC.out _ HB3.out).mono ?_
    rintro e w4 ⟨rfl, b4⟩
    have HB4 := Lib.hid (HB3.out.trans (b4.mono HB3.out.size))
    have HO4 := Lib.hid (HO3.out.below b4)
    clear b4
    go_wp2_with fail
    refine (CH.out _ HB4.out).mono ?_
    rintro e w5 ⟨v, rfl, ho5, b5⟩
    obtain ⟨A2, c2, rfl⟩ := ho5.form
    have HB5 := Lib.hid (HB4.out.trans (b5.mono HB4.out.size))
    have CE := Lib.hid (eqHit_any A1 A2 c1 c2 T w5 _ _ HLen.out (HO4.out.below b5) ho5)
    clear ho5 b5
    go_wp2_with fail
    refine CE.out.mono ?_
    rintro e w6 ⟨rfl, b6⟩
    have HB6 := Lib.hid (HB5.out.trans (b6.mono HB5.out.size))
    clear b6
    go_wp2_with fail
    go_ret
    exact ⟨rfl, HB6.out⟩
theorem walk (h : NdR w B A cap l) (hl : ∀ x ∈ l, x.ends.length ≤ 1048576) (hs : s.size ≤ 9223372036854775807) :
    Calls Try.prog 4 #[.slice A l.length cap, .int .i64 words, .string s] w fun e w' => e = .returned (.bool true) ∧ Below w.heap.size w w' := by
  by_cases h0 : errTS l words s.size = 0
  · exact walk_ok l A cap B words s w h hl hs h0
  · exact walk_bad l A cap B words s w h hs h0
end
theorem own : ownKnob Try.prog.godebug = none := by kernel_rfl
set_option maxRecDepth 100000 in
theorem contract (H : Type) (enc : TypeId × Value → H) (W : World) (base : Nat) (args : Array Value) (ds gs : List (DataW H)) (before : List MemPlace)
    (hval : ∀ (j : Nat) t v, Try.f4.params[j]? = some t → args[j]? = some v → Value.okWide Try.prog W .any base t v)
    (hW : DataW.Whole enc Try.prog Try.f4.params.toList Rows.phraseHitsSpec.vars false W args.toList ds gs before) (hk : Rows.uptoSmall H (ds ++ gs) = true) :
    Calls Try.prog 4 args W fun e W' => ∃ v, e = .returned v ∧ Rows.phraseHitsSpec.post enc Try.prog Try.f4 false true false false W args v W' := by
  have hW' := hW
  obtain ⟨p, q, hA0, hV, rfl, hfz, hnd⟩ := hW
  have hA : DataW.TrodAll enc Try.prog W 0 (fun _ => true) true Try.f4.params.toList args.toList ds p := hA0
  rw [Try.params4] at hA hval
  obtain ⟨v0, vs0, d0, ds0, p0, q0, hargs, rfl, rfl, h0, r0⟩ := trodAll_cons hA
  obtain ⟨v1, vs1, d1, ds1, p1, q1, rfl, rfl, rfl, h1, r1⟩ := trodAll_cons r0
  obtain ⟨v2, vs2, d2, ds2, p2, q2, rfl, rfl, rfl, h2, r2⟩ := trodAll_cons r1
  obtain ⟨rfl, rfl, rfl⟩ := trodAll_nil r2
  obtain rfl : args = #[v0, v1, v2] := by cases args; simp_all
  obtain ⟨rfl, rfl⟩ := trodVars_none hV
  obtain ⟨a1, rfl, rfl, rfl, w1⟩ := open_string Try.underlying9 (hval 2 9 v2 rfl rfl) h2
  obtain ⟨z, rfl, rfl, rfl, w2⟩ := open_int Try.underlying3 (hval 1 3 v1 rfl rfl) h1
  unfold maxLen at w1
  clear hA0
  simp only [List.append_nil] at hk
  have hb : Rows.uptoBulkAll (H := H) [d0, .lit (.int .i64 z), .lit (.string a1.data.toList)] ≤ 1048576 := of_decide_eq_true hk
  simp only [Rows.uptoBulkAll, Rows.uptoBulk, lst_len] at hb
  obtain ⟨A, cap, l, rfl, hR, hl⟩ := open_nodesV (hval 0 38 v0 rfl rfl) h0 (by omega)
  refine (walk l A cap _ z a1 W hR hl (by omega)).mono fun e W' ⟨he, hg⟩ => ?_
  subst he
  exact ⟨_, rfl, post_true 4 Try.underlying4 (by kernel_rfl) (by kernel_rfl) (by kernel_rfl) rfl rfl hW' hg⟩

set_option maxRecDepth 100000 in
theorem lifted (os : Os) (started : os.Started) (H : Type) (enc : TypeId × Value → H) (F : Stop.Interp) :
    ReturnsInHanded {} Try.checked os 4 .any ((Rows.OpenSpec.upto Rows.phraseHitsSpec).pre6 enc Try.prog Try.f4 Rows.phraseHitsUptoRow.domain false) (((Rows.OpenSpec.upto Rows.phraseHitsSpec).at F).post enc Try.prog Try.f4 false true false false) := by
  refine returnsInHanded_of_cond (C := Try.checked) (s := Rows.OpenSpec.upto Rows.phraseHitsSpec) (k := Rows.uptoSmall) rfl own started (by kernel_rfl) Try.func4
    (OpenSpec.witness (enc := enc) (C := Try.checked) (s := Rows.OpenSpec.upto Rows.phraseHitsSpec) (k := Rows.uptoSmall) rfl false ⟨#[], #[.slice none 0 0, .int .i64 0, .string ByteArray.empty], []⟩ 8 (by kernel_rfl) (by kernel_rfl) (by kernel_rfl)
      (x := ([.nil, .lit (.int .i64 0), .lit (.string [])], [], [])) (by kernel_rfl) rfl (by kernel_rfl)) ?_
  intro W base args ds gs before hval hW _ hk _
  exact contract H enc W base args ds gs before hval hW hk

theorem proved : Rows.PhraseHitsUptoSaid :=
  OpenClaim.holds_of_cond 4 Try.f4 rfl rfl rfl rfl rfl rfl rfl ⟨rfl, rfl, rfl, rfl, rfl⟩ rfl rfl rfl rfl rfl (by kernel_rfl) Try.func4 (by kernel_rfl)
    (of_decide_eq_true (by kernel_rfl)) (by unfold Func.isWrapper; first | (rw [if_pos (by decide +kernel)]; kernel_rfl) | (rw [if_neg (by decide +kernel)]; exact ⟨rfl, rfl⟩))
    (fun os started H enc _ F => lifted os started H enc F)
#print axioms proved
end Go.Proofs.Ytckinkapbfaceaa.lawPhr
