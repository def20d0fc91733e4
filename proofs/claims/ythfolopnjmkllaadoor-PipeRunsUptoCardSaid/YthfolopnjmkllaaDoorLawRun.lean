/- wicklaw.PipeRuns: for all pipes and strings of bulk at most 1048576 pipe.Check and pipe.Run return what the reference returns; the card. Condition: that bulk. -/
import Derived.Test.YthfolopnjmkllaaDoorCards
import Derived.Test.YthfolopnjmkllaaDoorTie
import Derived.Test.YthfolopnjmkllaaDoorFrame
import Derived.Test.YthfolopnjmkllaaDoorPost
import Derived.Test.YthfolopnjmkllaaDoorRunC
import Derived.Test.YthfolopnjmkllaaDoorRunD
import Derived.Test.YthfolopnjmkllaaDoorIntV
import Derived.Deep.DeepHandedRow
import Derived.Lib.LaidTab
import Derived.Lib.SmallJoins
import Derived.MakeChecks
import Derived.WideShapes
namespace Go.Proofs.YthfolopnjmkllaaDoor.lawRun
open Go.ChangeShapes Go.WideShapes Go.ChangeAt Go.RowKit Go.Joins
open Go.ChangeMaps (open_string shut_string)
set_option linter.unusedVariables false
set_option linter.unusedSimpArgs false

/-- the table of powers, out of what is laid -/
theorem tow_of_laid {W : World} (h : laidMetH Tryd.prog Rows.pipeRunsUptoRow.laid W) : TabP W := by
  rw [MakeChecks.laidMetH_plain _ _ _ (by kernel_rfl)] at h
  obtain ⟨ps, hv, _, _⟩ := h
  obtain ⟨_, _, _, _, _, _, _, _, _, _, hv2, _⟩ := hv
  obtain ⟨_, _, _, _, _, _, _, _, _, _, hv3, _⟩ := hv2
  obtain ⟨g, t, cs, fuel, p, q, hg, ht, hvar, hd, _, _⟩ := hv3
  obtain rfl : 116 = t := Option.some.inj ((show (Tryd.prog.globals[1]?).map (·.type) = some 116 by kernel_rfl).symm.trans (by rw [show g = 1 from (Option.some.inj ((show Tryd.prog.globalNamed "internal/strconv.uint64pow10" = some 1 by kernel_rfl).symm.trans hg)).symm] at ht; exact ht))
  show _ = _
  rw [hvar, ← Lib.cells_of_tab Tryd.underlying116 Tryd.underlying82 (by kernel_rfl) (by kernel_rfl) (zs := Lib.pow10Tab) hd]
set_option maxRecDepth 100000 in
set_option maxHeartbeats 4000000 in
theorem walk (zs : List Int) (s : ByteArray) (A : Option Addr) (c : Nat) (w : World) (hl : zs.length ≤ 9223372036854775807) (hR : IR w A zs) (hs : s.size ≤ 1048576) (hm : ∃ m, w.cell? ⟨0, 0, none⟩ = some (.int .i64 m)) (hT : TabP w) :
    Calls Tryd.prog 4 #[.slice A zs.length c, .string s] w fun e w' => e = .returned (.bool true) ∧ Below w.heap.size w w' := by
  obtain ⟨m, hm⟩ := hm
  have CP := refPipe_any zs A c w hR hl
  have CR := pipeRun_any zs A c s m w hR hl hs hm hT
  have CC := fun w' (hb : Below w.heap.size w w') => pipeCheck_any zs A c w' (hR.below hb) hl
  have CD := Lib.hid fun w' (hb : Below w.heap.size w w') h0 h2 => piped_any zs A c s m w' (hR.below hb) h0 h2 ((hb.cell (p := ⟨0, 0, none⟩) (World.block_lt_of_cell? _ _ hm)).trans hm) (hT.below hb)
  clear hR hm hT
  by_cases h0 : pipE zs = 0
  · by_cases h2 : 8192 < s.size
    · rw [runR_large h0 h2] at CR
      rw [h0] at CP CC
      have d2 : (8192 : Int) < (s.size : Int) := by omega
      have CP := Lib.hid CP
      have CR := Lib.hid CR
      have CC := Lib.hid CC
      clear h0 h2
      go_enter Tryd.func4, Tryd.ntmps4
      go_wp2_with fail
      refine CP.out.mono ?_
      rintro e w' ⟨rfl, rfl⟩
      go_wp2_with fail
      refine CR.out.mono ?_
      rintro e w1 ⟨rfl, b1⟩
      have HB1 := Lib.hid b1
      clear b1
      go_wp2_with fail
      refine (CC.out _ HB1.out).mono ?_
      rintro e w' ⟨rfl, rfl⟩
      go_wp2_with fail
      go_ret
      exact ⟨rfl, HB1.out⟩
    · rw [runR_ok h0 h2] at CR
      have CD := CD.out
      have CD := Lib.hid fun w' hb => CD w' hb h0 (by omega)
      rw [h0] at CP CC
      obtain ⟨R, hR⟩ : ∃ R, R = runF zs s := ⟨_, rfl⟩
      rw [← hR] at CR CD
      have d2 : ¬ (8192 : Int) < (s.size : Int) := by omega
      have CP := Lib.hid CP
      have CR := Lib.hid CR
      have CC := Lib.hid CC
      clear h0 h2 hR
      go_enter Tryd.func4, Tryd.ntmps4
      go_wp2_with fail
      refine CP.out.mono ?_
      rintro e w' ⟨rfl, rfl⟩
      go_wp2_with fail
      refine CR.out.mono ?_
      rintro e w1 ⟨rfl, b1⟩
      have HB1 := Lib.hid b1
      clear b1
      go_wp2_with fail
      refine (CC.out _ HB1.out).mono ?_
      rintro e w' ⟨rfl, rfl⟩
      go_wp2_with fail
      refine (CD.out _ HB1.out).mono ?_
      rintro e w2 ⟨rfl, b2⟩
      have HB2 := Lib.hid (HB1.out.trans (b2.mono HB1.out.size))
      clear b2
      go_wp2_with fail
      go_ret
      exact ⟨rfl, HB2.out⟩
  · rw [runR_bad h0] at CR
    obtain ⟨E, hE⟩ : ∃ E, E = pipE zs := ⟨_, rfl⟩
    rw [← hE] at CP CR CC h0
    have f0 : (E == 0) = false := by rw [beq_eq_false_iff_ne]; exact h0
    have CP := Lib.hid CP
    have CR := Lib.hid CR
    have CC := Lib.hid CC
    clear hE h0
    go_enter Tryd.func4, Tryd.ntmps4
    go_wp2_with fail
    refine CP.out.mono ?_
    rintro e w' ⟨rfl, rfl⟩
    go_wp2_with fail
    refine CR.out.mono ?_
    rintro e w1 ⟨rfl, b1⟩
    have HB1 := Lib.hid b1
    clear b1
    go_wp2_with fail
    refine (CC.out _ HB1.out).mono ?_
    rintro e w' ⟨rfl, rfl⟩
    go_wp2_with fail
    go_ret
    exact ⟨rfl, HB1.out⟩

theorem own : ownKnob Tryd.prog.godebug = none := by kernel_rfl
set_option maxRecDepth 100000 in
theorem contract (H : Type) (enc : TypeId × Value → H) (W : World) (base : Nat) (args : Array Value) (ds gs : List (DataW H)) (before : List MemPlace)
    (hval : ∀ (j : Nat) t v, Tryd.f4.params[j]? = some t → args[j]? = some v → Value.okWide Tryd.prog W .any base t v)
    (hW : DataW.Whole enc Tryd.prog Tryd.f4.params.toList Rows.pipeRunsSpec.vars false W args.toList ds gs before) (hk : Rows.uptoSmall H (ds ++ gs) = true) (hm : ∃ m, W.cell? ⟨0, 0, none⟩ = some (.int .i64 m)) (hT : TabP W) :
    Calls Tryd.prog 4 args W fun e W' => ∃ v, e = .returned v ∧ Rows.pipeRunsSpec.post enc Tryd.prog Tryd.f4 false true false false W args v W' := by
  have hW' := hW
  obtain ⟨p, q, hA0, hV, rfl, hfz, hnd⟩ := hW
  have hA : DataW.TrodAll enc Tryd.prog W 0 (fun _ => true) true Tryd.f4.params.toList args.toList ds p := hA0
  rw [Tryd.params4] at hA hval
  obtain ⟨v0, vs0, d0, ds0, p0, q0, hargs, rfl, rfl, h0, r0⟩ := trodAll_cons hA
  obtain ⟨v1, vs1, d1, ds1, p1, q1, rfl, rfl, rfl, h1, r1⟩ := trodAll_cons r0
  obtain ⟨rfl, rfl, rfl⟩ := trodAll_nil r1
  obtain rfl : args = #[v0, v1] := by cases args; simp_all
  obtain ⟨rfl, rfl⟩ := trodVars_none hV
  clear hA0
  simp only [List.append_nil] at hk
  have hb : Rows.uptoBulkAll (H := H) [d0, d1] ≤ 1048576 := of_decide_eq_true hk
  simp only [Rows.uptoBulkAll] at hb
  obtain ⟨A, c, zs, rfl, hl, hR, _⟩ := open_intsIR (hval 0 38 v0 rfl rfl) h0
  obtain ⟨s, rfl, rfl, rfl, w1⟩ := open_string Tryd.underlying9 (hval 1 9 v1 rfl rfl) h1
  simp only [Rows.uptoBulk, lst_len] at hb
  refine (walk zs s A c W hl hR (by omega) hm hT).mono fun e W' ⟨he, hg⟩ => ?_
  subst he
  exact ⟨_, rfl, post_true 4 Tryd.underlying4 (by kernel_rfl) (by kernel_rfl) (by kernel_rfl) rfl rfl hW' hg⟩

/-- a table laid -/
def layObj (cs : Array Value) : Obj → Obj
  | .cells _ t frozen => .cells cs t frozen
  | o => o
def layIn (w : World) (b : Nat) (cs : Array Value) : World := { w with heap := w.heap.modify b (layObj cs) }
/-- a world for the witness: the tables as they are laid -/
noncomputable def laidWorld (os : Os) : World :=
  layIn (layIn (layIn (layIn (layIn (World.holding Tryd.prog os ⟨#[], #[], []⟩) 5 (([128, 191, 160, 191, 128, 159, 144, 191, 128, 143] ++ List.replicate 22 0).map fun n : Nat => Value.int .u8 (n : Int)).toArray) 4 (Go.Pinned.utf8FirstZ.map fun n : Nat => Value.int .u8 (n : Int)).toArray) 1 ([1, 10, 100, 1000, 10000, 100000, 1000000, 10000000, 100000000, 1000000000, 10000000000, 100000000000, 1000000000000, 10000000000000, 100000000000000, 1000000000000000, 10000000000000000, 100000000000000000, 1000000000000000000, 10000000000000000000].map fun n : Nat => Value.int .u64 (n : Int)).toArray) 3 ([0, 1, 56, 2, 57, 49, 28, 3, 61, 58, 42, 50, 38, 29, 17, 4, 62, 47, 59, 36, 45, 43, 51, 22, 53, 39, 33, 30, 24, 18, 12, 5, 63, 55, 48, 27, 60, 41, 37, 16, 46, 35, 44, 21, 52, 32, 23, 11, 54, 26, 40, 15, 34, 20, 31, 10, 25, 14, 19, 9, 13, 8, 7, 6].map fun n : Nat => Value.int .u8 (n : Int)).toArray) 2 ([0, 1, 28, 2, 29, 14, 24, 3, 30, 22, 20, 15, 25, 17, 4, 8, 31, 27, 13, 23, 21, 19, 16, 7, 26, 12, 18, 6, 11, 5, 10, 9].map fun n : Nat => Value.int .u8 (n : Int)).toArray
theorem laid_met (os : Os) : laidMet Tryd.prog Rows.pipeRunsUptoRow.laid ((laidWorld os).forCall (fun _ _ => 0) ⟨#[], #[.slice none 0 0, .string ByteArray.empty], []⟩).memory :=
  laidMet_of_run' 8 (by kernel_rfl) (by kernel_rfl)
theorem reads (os : Os) {H : Type} (enc : TypeId × Value → H) : ∃ places, DataW.whole enc Tryd.prog ((laidWorld os).forCall (fun _ _ => 0) ⟨#[], #[.slice none 0 0, .string ByteArray.empty], []⟩).memory Tryd.f4.params.toList Rows.pipeRunsSpec.vars false #[Value.slice none 0 0, .string ByteArray.empty].toList 8 = some ([.nil, .lit (.string [])], [], places) :=
  ⟨[], by kernel_rfl⟩

set_option maxRecDepth 100000 in
theorem lifted (os : Os) (started : os.Started) (H : Type) (enc : TypeId × Value → H) (F : Stop.Interp) :
    ReturnsInHanded {} Tryd.checked os 4 .any ((Rows.OpenSpec.upto Rows.pipeRunsSpec).preRow enc Tryd.prog Tryd.f4 Rows.pipeRunsUptoRow.domain false Rows.pipeRunsUptoRow.laid) (((Rows.OpenSpec.upto Rows.pipeRunsSpec).at F).post enc Tryd.prog Tryd.f4 false true false false) := by
  obtain ⟨places, hx⟩ := reads os enc
  refine returnsInHanded_of_row (C := Tryd.checked) (s := Rows.OpenSpec.upto Rows.pipeRunsSpec) own started (by kernel_rfl) Tryd.func4
    (witness_row_at (enc := enc) (C := Tryd.checked) false (laidWorld os) #[.slice none 0 0, .string ByteArray.empty] rfl (by kernel_rfl) (by kernel_rfl) (by kernel_rfl)
      (OpenSpec.preRow_of_cond 8 hx (by kernel_rfl) (fun k hk => by cases hk; kernel_rfl) (by kernel_rfl) (laid_met os))) ?_
  intro W base args ds gs before hval hW _ hcond _ hlaid hsh _
  exact contract H enc W base args ds gs before hval hW (hcond _ rfl) (cell_of_shapedOpen_int (zero := #[.int .i64 0]) (t := 3) hsh (of_decide_eq_true (by kernel_rfl)) (by kernel_rfl) rfl (by kernel_rfl) (by kernel_rfl) Tryd.underlying3) (tow_of_laid hlaid)

theorem saidUpto : Rows.PipeRunsUptoSaid :=
  OpenClaim.holds_of_cond 4 Tryd.f4 rfl rfl rfl rfl rfl rfl rfl ⟨rfl, rfl, rfl, rfl, rfl⟩ rfl rfl rfl rfl rfl (by kernel_rfl) Tryd.func4 (by kernel_rfl)
    (of_decide_eq_true (by kernel_rfl)) (by unfold Func.isWrapper; first | (rw [if_pos (by decide +kernel)]; kernel_rfl) | (rw [if_neg (by decide +kernel)]; exact ⟨rfl, rfl⟩))
    (fun os started H enc _ F => by rw [OpenClaim.pre_eq_preRow]; exact lifted os started H enc F)

/-- No parameter wants a stand-in; the program's own looks are off: what the card asks. -/
theorem plain (f : FuncId) (fn : Func) (hf : Tryd.pinned.checked.prog.funcNamed "gatewicket/wicklaw.PipeRuns" = some f) (hfn : Tryd.pinned.checked.prog.funcs[f]? = some fn) :
    false = Tryd.pinned.checked.prog.looks [] ∧ ∀ (j : Nat) t, fn.params[j]? = some t → Tryd.pinned.checked.prog.wantsStandIn t = false := by
  obtain rfl : f = 4 := Option.some.inj ((show Tryd.prog.funcNamed "gatewicket/wicklaw.PipeRuns" = some 4 by kernel_rfl).symm.trans hf) |>.symm
  obtain rfl : fn = Tryd.f4 := (Option.some.inj (Tryd.func4.symm.trans hfn)).symm
  refine ⟨by kernel_rfl, fun j t ht => ?_⟩
  rw [Tryd.params4] at ht
  have ht2 : t = 38 ∨ t = 9 := by
    have := Array.mem_of_getElem? ht
    simp at this; (first | exact this | (rcases this with h | h <;> simp [h]))
  rcases ht2 with rfl | rfl
  · exact (show Tryd.prog.wantsStandIn 38 = false by kernel_rfl)
  · exact (show Tryd.prog.wantsStandIn 9 = false by kernel_rfl)

theorem card : Rows.PipeRunsUptoCardSaid :=
  Claim7.holds_tied_plain_at .later [] _ _ _ _ saidUpto (fun _ h => by cases h) (by kernel_rfl) (fun _ h => by cases h) pipeRunsUpto_row_tie rfl ⟨rfl, rfl⟩ (by kernel_rfl) rfl plain (by kernel_rfl)
#print axioms card
end Go.Proofs.YthfolopnjmkllaaDoor.lawRun
