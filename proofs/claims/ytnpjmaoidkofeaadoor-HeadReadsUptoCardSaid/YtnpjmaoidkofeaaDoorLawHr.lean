/- wicklaw.HeadReads: for all strings of bulk at most 1048576 head.Parse returns what the reference returns; the card. Condition: that bulk. -/
import Derived.Test.YtnpjmaoidkofeaaDoorCards
import Derived.Test.YtnpjmaoidkofeaaDoorTie
import Derived.Test.YtnpjmaoidkofeaaDoorFrame
import Derived.Test.YtnpjmaoidkofeaaDoorHrE
import Derived.Deep.DeepHandedRow
import Derived.Lib.LaidTab
namespace Go.Proofs.YtnpjmaoidkofeaaDoor.lawHr
open Go.ChangeShapes Go.WideShapes Go.ChangeAt Go.RowKit
open Go.ChangeMaps (open_string shut_string)
set_option linter.unusedVariables false
set_option linter.unusedSimpArgs false

set_option maxRecDepth 100000 in
set_option maxHeartbeats 2000000 in
theorem walk (s : ByteArray) (w : World) (_ : s.size ≤ maxLen) (hs : s.size ≤ 1048576) (hm : ∃ m, w.cell? ⟨0, 0, none⟩ = some (.int .i64 m)) :
    Calls Tryd.prog 3 #[.string s] w fun e w' => e = .returned (.bool true) ∧ Below w.heap.size w w' := by
  obtain ⟨m, hm⟩ := hm
  have C1 := Lib.hid (headParse_any s m w hs hm)
  have C2 := Lib.hid fun w' => readHead_any s w'
  have HR := Lib.hid (rhR_len s)
  obtain ⟨E, hE⟩ : ∃ E, E = rhE s := ⟨_, rfl⟩
  obtain ⟨R, hR⟩ : ∃ R, R = rhR s := ⟨_, rfl⟩
  rw [← hR] at HR
  have HRE := Lib.hid hR
  have HEE := Lib.hid hE
  clear hm hR hE
  go_enter Tryd.func3, Tryd.ntmps3
  go_wp2_with fail
  refine C1.out.mono ?_
  rintro e w1 ⟨v, rfl, hv, b1⟩
  rw [← HRE.out] at hv
  rw [← HEE.out]
  obtain ⟨A1, c1, rfl, ho1⟩ := hv
  obtain ⟨V, hV⟩ : ∃ V, w1.alloc (.cells #[.string R.m, .string R.t, .slice A1 R.fs.length c1] 24) = V := ⟨_, rfl⟩
  have hVb : Below w1.heap.size w1 V := by rw [← hV]; exact (Below.refl _ _).alloc (Nat.le_refl _) _
  have hVk : Blk V w1.heap.size 24 #[.string R.m, .string R.t, .slice A1 R.fs.length c1] := by rw [← hV]; exact Blk.new _ _ _
  have HO1 := Lib.hid (ho1.kept hVb)
  have HVK := Lib.hid hVk
  have HBV := Lib.hid (b1.trans (hVb.mono b1.size))
  clear hVb hVk ho1 b1
  go_wp2_with fail
  refine (C2.out _).mono ?_
  rintro e w2 ⟨v, rfl, hv, b2⟩
  rw [← HRE.out] at hv
  rw [← HEE.out]
  obtain ⟨A2, c2, rfl, ho2⟩ := hv
  obtain ⟨U, hU⟩ : ∃ U, w2.alloc (.cells #[.string R.m, .string R.t, .slice A2 R.fs.length c2] 24) = U := ⟨_, rfl⟩
  have hUb : Below w2.heap.size w2 U := by rw [← hU]; exact (Below.refl _ _).alloc (Nat.le_refl _) _
  have hUk : Blk U w2.heap.size 24 #[.string R.m, .string R.t, .slice A2 R.fs.length c2] := by rw [← hU]; exact Blk.new _ _ _
  have hVl : w1.heap.size < V.heap.size := Blk.lt HVK.out
  have hVk2 : Blk U w1.heap.size 24 #[.string R.m, .string R.t, .slice A1 R.fs.length c1] := (HVK.out.below b2 hVl).below hUb (Nat.lt_of_lt_of_le hVl b2.size)
  have HBU := Lib.hid (HBV.out.trans ((b2.trans (hUb.mono b2.size)).mono HBV.out.size))
  have CE := Lib.hid (sameHead_any R.m R.t R.fs A1 A2 c1 c2 _ _ U (by have := HR.out; omega) ((HO1.out.kept b2).kept hUb) (ho2.kept hUb))
  have x0 : U.cell? ⟨w1.heap.size, 0, none⟩ = some (.string R.m) := hVk2.cell 0
  have x1 : U.cell? ⟨w1.heap.size, 1, none⟩ = some (.string R.t) := hVk2.cell 1
  have x2 : U.cell? ⟨w1.heap.size, 2, none⟩ = some (.slice A1 R.fs.length c1) := hVk2.cell 2
  have y0 : U.cell? ⟨w2.heap.size, 0, none⟩ = some (.string R.m) := hUk.cell 0
  have y1 : U.cell? ⟨w2.heap.size, 1, none⟩ = some (.string R.t) := hUk.cell 1
  have y2 : U.cell? ⟨w2.heap.size, 2, none⟩ = some (.slice A2 R.fs.length c2) := hUk.cell 2
  clear hVk2 hUk hUb b2 ho2 hVl hV
  go_wp2_with fail
  refine CE.out.mono ?_
  rintro e w3 ⟨rfl, b3⟩
  have HB3 := Lib.hid (HBU.out.trans (b3.mono HBU.out.size))
  clear b3
  have ee : (E == E) = true := by simp
  go_wp2_with fail
  go_ret
  exact ⟨rfl, HB3.out⟩

theorem own : ownKnob Tryd.prog.godebug = none := by kernel_rfl
set_option maxRecDepth 100000 in
theorem contract (H : Type) (enc : TypeId × Value → H) (W : World) (base : Nat) (args : Array Value) (ds gs : List (DataW H)) (before : List MemPlace)
    (hval : ∀ (j : Nat) t v, Tryd.f3.params[j]? = some t → args[j]? = some v → Value.okWide Tryd.prog W .any base t v)
    (hW : DataW.Whole enc Tryd.prog Tryd.f3.params.toList Rows.headReadsSpec.vars false W args.toList ds gs before) (hk : Rows.uptoSmall H (ds ++ gs) = true) (hm : ∃ m, W.cell? ⟨0, 0, none⟩ = some (.int .i64 m)) :
    Calls Tryd.prog 3 args W fun e W' => ∃ v, e = .returned v ∧ Rows.headReadsSpec.post enc Tryd.prog Tryd.f3 false true false false W args v W' := by
  have hW' := hW
  obtain ⟨p, q, hA0, hV, rfl, hfz, hnd⟩ := hW
  have hA : DataW.TrodAll enc Tryd.prog W 0 (fun _ => true) true Tryd.f3.params.toList args.toList ds p := hA0
  rw [Tryd.params3] at hA hval
  obtain ⟨v0, vs0, d0, ds0, p0, q0, hargs, rfl, rfl, h0, r0⟩ := trodAll_cons hA
  obtain ⟨rfl, rfl, rfl⟩ := trodAll_nil r0
  obtain rfl : args = #[v0] := by cases args; simp_all
  obtain ⟨rfl, rfl⟩ := trodVars_none hV
  obtain ⟨a0, rfl, rfl, rfl, w0⟩ := open_string Tryd.underlying9 (hval 0 9 v0 rfl rfl) h0
  clear hA0
  simp only [List.append_nil] at hW' hk
  have hb : Rows.uptoBulkAll (H := H) [.lit (.string a0.data.toList)] ≤ 1048576 := of_decide_eq_true hk
  simp only [Rows.uptoBulkAll, Rows.uptoBulk, lst_len] at hb
  refine (walk a0 W w0 (by omega) hm).mono fun e W' ⟨he, hg⟩ => ?_
  subst he
  exact ⟨_, rfl, post_of_below (pa := []) (pv := []) hW' (fun _ _ _ => (trodAll_cons_mk (shut_bool Tryd.underlying4 _) trodAll_mk0)) (fun sp _ => (trodAll_cons_mk (shut_string Tryd.underlying9 w0) trodAll_mk0)) (fun _ _ => rfl) rfl hg (ok_one (by kernel_rfl) rfl (okWide_bool_mk Tryd.underlying4 _))⟩

/-- a table laid -/
def layObj (cs : Array Value) : Obj → Obj
  | .cells _ t frozen => .cells cs t frozen
  | o => o
def layIn (w : World) (b : Nat) (cs : Array Value) : World := { w with heap := w.heap.modify b (layObj cs) }
/-- a world for the witness: the two tables of unicode/utf8 as they are laid -/
noncomputable def laidWorld (os : Os) : World :=
  layIn (layIn (World.holding Tryd.prog os ⟨#[], #[], []⟩) 3 (([128, 191, 160, 191, 128, 159, 144, 191, 128, 143] ++ List.replicate 22 0).map fun n : Nat => Value.int .u8 (n : Int)).toArray)
    2 (Go.Pinned.utf8FirstZ.map fun n : Nat => Value.int .u8 (n : Int)).toArray
theorem laid_met (os : Os) : laidMet Tryd.prog Rows.headReadsUptoRow.laid ((laidWorld os).forCall (fun _ _ => 0) ⟨#[], #[.string ByteArray.empty], []⟩).memory :=
  laidMet_of_run' 8 (by kernel_rfl) (by kernel_rfl)
theorem reads (os : Os) {H : Type} (enc : TypeId × Value → H) : ∃ places, DataW.whole enc Tryd.prog ((laidWorld os).forCall (fun _ _ => 0) ⟨#[], #[.string ByteArray.empty], []⟩).memory Tryd.f3.params.toList Rows.headReadsSpec.vars false #[Value.string ByteArray.empty].toList 8 = some ([.lit (.string [])], [], places) :=
  ⟨[], by kernel_rfl⟩

set_option maxRecDepth 100000 in
theorem lifted (os : Os) (started : os.Started) (H : Type) (enc : TypeId × Value → H) (F : Stop.Interp) :
    ReturnsInHanded {} Tryd.checked os 3 .any ((Rows.OpenSpec.upto Rows.headReadsSpec).preRow enc Tryd.prog Tryd.f3 Rows.headReadsUptoRow.domain false Rows.headReadsUptoRow.laid) (((Rows.OpenSpec.upto Rows.headReadsSpec).at F).post enc Tryd.prog Tryd.f3 false true false false) := by
  obtain ⟨places, hx⟩ := reads os enc
  refine returnsInHanded_of_row (C := Tryd.checked) (s := Rows.OpenSpec.upto Rows.headReadsSpec) own started (by kernel_rfl) Tryd.func3
    (witness_row_at (enc := enc) (C := Tryd.checked) false (laidWorld os) #[.string ByteArray.empty] rfl (by kernel_rfl) (by kernel_rfl) (by kernel_rfl)
      (OpenSpec.preRow_of_cond 8 hx (by kernel_rfl) (fun k hk => by cases hk; kernel_rfl) (by kernel_rfl) (laid_met os))) ?_
  intro W base args ds gs before hval hW _ hcond _ _ hsh _
  exact contract H enc W base args ds gs before hval hW (hcond _ rfl) (cell_of_shapedOpen_int (zero := #[.int .i64 0]) (t := 3) hsh (of_decide_eq_true (by kernel_rfl)) (by kernel_rfl) rfl (by kernel_rfl) (by kernel_rfl) Tryd.underlying3)

theorem saidUpto : Rows.HeadReadsUptoSaid :=
  OpenClaim.holds_of_cond 3 Tryd.f3 rfl rfl rfl rfl rfl rfl rfl ⟨rfl, rfl, rfl, rfl, rfl⟩ rfl rfl rfl rfl rfl (by kernel_rfl) Tryd.func3 (by kernel_rfl)
    (of_decide_eq_true (by kernel_rfl)) (by unfold Func.isWrapper; first | (rw [if_pos (by decide +kernel)]; kernel_rfl) | (rw [if_neg (by decide +kernel)]; exact ⟨rfl, rfl⟩))
    (fun os started H enc _ F => by rw [OpenClaim.pre_eq_preRow]; exact lifted os started H enc F)

/-- No parameter wants a stand-in; the program's own looks are off: what the card asks. -/
theorem plain (f : FuncId) (fn : Func) (hf : Tryd.pinned.checked.prog.funcNamed "gatewicket/wicklaw.HeadReads" = some f) (hfn : Tryd.pinned.checked.prog.funcs[f]? = some fn) :
    false = Tryd.pinned.checked.prog.looks [] ∧ ∀ (j : Nat) t, fn.params[j]? = some t → Tryd.pinned.checked.prog.wantsStandIn t = false := by
  obtain rfl : f = 3 := Option.some.inj ((show Tryd.prog.funcNamed "gatewicket/wicklaw.HeadReads" = some 3 by kernel_rfl).symm.trans hf) |>.symm
  obtain rfl : fn = Tryd.f3 := (Option.some.inj (Tryd.func3.symm.trans hfn)).symm
  refine ⟨by kernel_rfl, fun j t ht => ?_⟩
  rw [Tryd.params3] at ht
  obtain rfl : t = 9 := by simpa using Array.mem_of_getElem? ht
  exact (show Tryd.prog.wantsStandIn 9 = false by kernel_rfl)

theorem card : Rows.HeadReadsUptoCardSaid :=
  Claim7.holds_tied_plain_at .later [] _ _ _ _ saidUpto (fun _ h => by cases h) (by kernel_rfl) (fun _ h => by cases h) headReadsUpto_row_tie rfl ⟨rfl, rfl⟩ (by kernel_rfl) rfl plain (by kernel_rfl)
#print axioms card
end Go.Proofs.YtnpjmaoidkofeaaDoor.lawHr
