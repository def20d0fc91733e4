/- wicklaw.NetsBytes: for all strings of bulk at most 1048576 nets.Bytes returns what the reference returns; the card. Condition: that bulk. -/
import Derived.Test.YthnbhpchemjioaaDoorCards
import Derived.Test.YthnbhpchemjioaaDoorTie
import Derived.Test.YthnbhpchemjioaaDoorFrame
import Derived.Test.YthnbhpchemjioaaDoorNbC
import Derived.Laws.StructEq
import Derived.Test.YthnbhpchemjioaaDoorSet
import Derived.Deep.DeepHandedRow
import Derived.Lib.LaidTab
namespace Go.Proofs.YthnbhpchemjioaaDoor.lawNb
open Go.ChangeShapes Go.WideShapes Go.ChangeAt Go.RowKit
open Go.ChangeMaps (open_string shut_string)
set_option linter.unusedVariables false
set_option linter.unusedSimpArgs false

theorem rgU_same {L : List ByteArray} {p q : Q4} (h : SetOf p (rgU L)) (k : SetOf q (rgU L)) : p = q := h.same k fun _ _ => rfl
set_option maxRecDepth 100000 in
set_option maxHeartbeats 1000000 in
theorem walk (s : ByteArray) (w : World) (_ : s.size ≤ maxLen) (hs : s.size ≤ 1048576) (hm : ∃ m, w.cell? ⟨1, 0, none⟩ = some (.int .i64 m)) :
    Calls Tryd.prog 3 #[.string s] w fun e w' => e = .returned (.bool true) ∧ Below w.heap.size w w' := by
  obtain ⟨m, hm⟩ := hm
  have C1 := Lib.hid (netBytes_any s m w hs hm)
  have C2 := Lib.hid fun w' => ranges_any s w' hs
  clear hm
  go_enter Tryd.func3, Tryd.ntmps3
  go_wp2_with fail
  refine C1.out.mono ?_
  rintro e w1 ⟨hr, b1⟩
  have HB1 := Lib.hid b1
  clear b1
  obtain ⟨p, E, e1, HP⟩ : ∃ (p : Q4) (E : Int), e = .returned (.tuple #[setV p, .int .i64 E]) ∧ Hid ((E = 0 ∧ (∀ x ∈ pcs s ⟨#[44]⟩, rgOk x) ∧ SetOf p (rgU (pcs s ⟨#[44]⟩))) ∨ (E = 3 ∧ p = ⟨0, 0, 0, 0⟩ ∧ ∃ x ∈ pcs s ⟨#[44]⟩, ¬ rgOk x)) := by
    rcases hr with ⟨h1, q, rfl, h2⟩ | ⟨h1, rfl⟩
    · exact ⟨q, 0, rfl, .inl ⟨rfl, h1, h2⟩⟩
    · exact ⟨⟨0, 0, 0, 0⟩, 3, rfl, .inr ⟨rfl, rfl, h1⟩⟩
  subst e1
  clear hr
  unfold setV
  obtain ⟨V, hV⟩ : ∃ V, w1.alloc (.cells #[.int .u64 (p.a : Int), .int .u64 (p.b : Int), .int .u64 (p.c : Int), .int .u64 (p.d : Int)] 24) = V := ⟨_, rfl⟩
  have hVb : Below w1.heap.size w1 V := by rw [← hV]; exact (Below.refl _ _).alloc (Nat.le_refl _) _
  have hVk : SBlk V w1.heap.size p := by rw [← hV]; exact Blk.new _ _ _
  have HVK := Lib.hid hVk
  have HBV := Lib.hid (HB1.out.trans (hVb.mono HB1.out.size))
  clear hVb hVk
  go_wp2_with fail
  refine (C2.out _).mono ?_
  rintro e w2 ⟨hr, b2⟩
  have HB2 := Lib.hid (HBV.out.trans (b2.mono HBV.out.size))
  have hVK2 : SBlk w2 w1.heap.size p := Blk.below HVK.out b2 (Blk.lt HVK.out)
  have hl2 : w1.heap.size < w2.heap.size := Blk.lt hVK2
  have e2 : e = .returned (.tuple #[setV p, .int .i64 E]) := by
    rcases HP.out with ⟨h1, h2, h3⟩ | ⟨h1, h2, x, h3, h4⟩ <;> rcases hr with ⟨k1, q, rfl, k2⟩ | ⟨⟨y, k1, k3⟩, rfl⟩
    · rw [h1, rgU_same h3 k2]
    · exact absurd (h2 y k1) k3
    · exact absurd (k1 x h3) h4
    · rw [h1, h2]
  subst e2
  have r0 : w2.cell? ⟨w1.heap.size, 0, none⟩ = some (.int .u64 (p.a : Int)) := hVK2.cell (k := 0) (by omega)
  have r1 : w2.cell? ⟨w1.heap.size, 1, none⟩ = some (.int .u64 (p.b : Int)) := hVK2.cell (k := 1) (by omega)
  have r2 : w2.cell? ⟨w1.heap.size, 2, none⟩ = some (.int .u64 (p.c : Int)) := hVK2.cell (k := 2) (by omega)
  have r3 : w2.cell? ⟨w1.heap.size, 3, none⟩ = some (.int .u64 (p.d : Int)) := hVK2.cell (k := 3) (by omega)
  clear b2 hVK2 hr hV
  unfold setV
  go_wp2_with fail
  go_ret
  exact ⟨rfl, HB2.out.alloc HB2.out.size _⟩

theorem own : ownKnob Tryd.prog.godebug = none := by kernel_rfl
set_option maxRecDepth 100000 in
theorem contract (H : Type) (enc : TypeId × Value → H) (W : World) (base : Nat) (args : Array Value) (ds gs : List (DataW H)) (before : List MemPlace)
    (hval : ∀ (j : Nat) t v, Tryd.f3.params[j]? = some t → args[j]? = some v → Value.okWide Tryd.prog W .any base t v)
    (hW : DataW.Whole enc Tryd.prog Tryd.f3.params.toList Rows.netsBytesSpec.vars false W args.toList ds gs before) (hk : Rows.uptoSmall H (ds ++ gs) = true) (hm : ∃ m, W.cell? ⟨1, 0, none⟩ = some (.int .i64 m)) :
    Calls Tryd.prog 3 args W fun e W' => ∃ v, e = .returned v ∧ Rows.netsBytesSpec.post enc Tryd.prog Tryd.f3 false true false false W args v W' := by
  have hW' := hW
  obtain ⟨p, q, hA0, hV, rfl, hfz, hnd⟩ := hW
  have hA : DataW.TrodAll enc Tryd.prog W 0 (fun _ => true) true Tryd.f3.params.toList args.toList ds p := hA0
  rw [Tryd.params3] at hA hval
  obtain ⟨v0, vs0, d0, ds0, p0, q0, hargs, rfl, rfl, h0, r0⟩ := trodAll_cons hA
  obtain ⟨rfl, rfl, rfl⟩ := trodAll_nil r0
  obtain rfl : args = #[v0] := by cases args; simp_all
  obtain ⟨rfl, rfl⟩ := trodVars_none hV
  obtain ⟨a0, rfl, rfl, rfl, w0⟩ := open_string Tryd.underlying9 (hval 0 9 v0 rfl rfl) h0
  clear hA0
  simp only [List.append_nil] at hW' hk
  have hb : Rows.uptoBulkAll (H := H) [.lit (.string a0.data.toList)] ≤ 1048576 := of_decide_eq_true hk
  simp only [Rows.uptoBulkAll, Rows.uptoBulk, lst_len] at hb
  refine (walk a0 W w0 (by omega) hm).mono fun e W' ⟨he, hg⟩ => ?_
  subst he
  exact ⟨_, rfl, post_of_below (pa := []) (pv := []) hW' (fun _ _ _ => (trodAll_cons_mk (shut_bool Tryd.underlying4 _) trodAll_mk0)) (fun sp _ => (trodAll_cons_mk (shut_string Tryd.underlying9 w0) trodAll_mk0)) (fun _ _ => rfl) rfl hg (ok_one (by kernel_rfl) rfl (okWide_bool_mk Tryd.underlying4 _))⟩

/-- a table laid -/
def layObj (cs : Array Value) : Obj → Obj
  | .cells _ t frozen => .cells cs t frozen
  | o => o
def layIn (w : World) (b : Nat) (cs : Array Value) : World := { w with heap := w.heap.modify b (layObj cs) }
/-- a world for the witness: the two tables of unicode/utf8 as they are laid -/
noncomputable def laidWorld (os : Os) : World :=
  layIn (layIn (World.holding Tryd.prog os ⟨#[], #[], []⟩) 4 (([128, 191, 160, 191, 128, 159, 144, 191, 128, 143] ++ List.replicate 22 0).map fun n : Nat => Value.int .u8 (n : Int)).toArray)
    3 (Go.Pinned.utf8FirstZ.map fun n : Nat => Value.int .u8 (n : Int)).toArray
theorem laid_met (os : Os) : laidMet Tryd.prog Rows.netsBytesUptoRow.laid ((laidWorld os).forCall (fun _ _ => 0) ⟨#[], #[.string ByteArray.empty], []⟩).memory :=
  laidMet_of_run' 8 (by kernel_rfl) (by kernel_rfl)
theorem reads (os : Os) {H : Type} (enc : TypeId × Value → H) : ∃ places, DataW.whole enc Tryd.prog ((laidWorld os).forCall (fun _ _ => 0) ⟨#[], #[.string ByteArray.empty], []⟩).memory Tryd.f3.params.toList Rows.netsBytesSpec.vars false #[Value.string ByteArray.empty].toList 8 = some ([.lit (.string [])], [], places) :=
  ⟨[], by kernel_rfl⟩

set_option maxRecDepth 100000 in
theorem lifted (os : Os) (started : os.Started) (H : Type) (enc : TypeId × Value → H) (F : Stop.Interp) :
    ReturnsInHanded {} Tryd.checked os 3 .any ((Rows.OpenSpec.upto Rows.netsBytesSpec).preRow enc Tryd.prog Tryd.f3 Rows.netsBytesUptoRow.domain false Rows.netsBytesUptoRow.laid) (((Rows.OpenSpec.upto Rows.netsBytesSpec).at F).post enc Tryd.prog Tryd.f3 false true false false) := by
  obtain ⟨places, hx⟩ := reads os enc
  refine returnsInHanded_of_row (C := Tryd.checked) (s := Rows.OpenSpec.upto Rows.netsBytesSpec) own started (by kernel_rfl) Tryd.func3
    (witness_row_at (enc := enc) (C := Tryd.checked) false (laidWorld os) #[.string ByteArray.empty] rfl (by kernel_rfl) (by kernel_rfl) (by kernel_rfl)
      (OpenSpec.preRow_of_cond 8 hx (by kernel_rfl) (fun k hk => by cases hk; kernel_rfl) (by kernel_rfl) (laid_met os))) ?_
  intro W base args ds gs before hval hW _ hcond _ _ hsh _
  exact contract H enc W base args ds gs before hval hW (hcond _ rfl) (cell_of_shapedOpen_int (zero := #[.int .i64 0]) (t := 3) hsh (of_decide_eq_true (by kernel_rfl)) (by kernel_rfl) rfl (by kernel_rfl) (by kernel_rfl) Tryd.underlying3)

theorem saidUpto : Rows.NetsBytesUptoSaid :=
  OpenClaim.holds_of_cond 3 Tryd.f3 rfl rfl rfl rfl rfl rfl rfl ⟨rfl, rfl, rfl, rfl, rfl⟩ rfl rfl rfl rfl rfl (by kernel_rfl) Tryd.func3 (by kernel_rfl)
    (of_decide_eq_true (by kernel_rfl)) (by unfold Func.isWrapper; first | (rw [if_pos (by decide +kernel)]; kernel_rfl) | (rw [if_neg (by decide +kernel)]; exact ⟨rfl, rfl⟩))
    (fun os started H enc _ F => by rw [OpenClaim.pre_eq_preRow]; exact lifted os started H enc F)

/-- No parameter wants a stand-in; the program's own looks are off: what the card asks. -/
theorem plain (f : FuncId) (fn : Func) (hf : Tryd.pinned.checked.prog.funcNamed "gatewicket/wicklaw.NetsBytes" = some f) (hfn : Tryd.pinned.checked.prog.funcs[f]? = some fn) :
    false = Tryd.pinned.checked.prog.looks [] ∧ ∀ (j : Nat) t, fn.params[j]? = some t → Tryd.pinned.checked.prog.wantsStandIn t = false := by
  obtain rfl : f = 3 := Option.some.inj ((show Tryd.prog.funcNamed "gatewicket/wicklaw.NetsBytes" = some 3 by kernel_rfl).symm.trans hf) |>.symm
  obtain rfl : fn = Tryd.f3 := (Option.some.inj (Tryd.func3.symm.trans hfn)).symm
  refine ⟨by kernel_rfl, fun j t ht => ?_⟩
  rw [Tryd.params3] at ht
  obtain rfl : t = 9 := by simpa using Array.mem_of_getElem? ht
  exact (show Tryd.prog.wantsStandIn 9 = false by kernel_rfl)

theorem card : Rows.NetsBytesUptoCardSaid :=
  Claim7.holds_tied_plain_at .later [] _ _ _ _ saidUpto (fun _ h => by cases h) (by kernel_rfl) (fun _ h => by cases h) netsBytesUpto_row_tie rfl ⟨rfl, rfl⟩ (by kernel_rfl) rfl plain (by kernel_rfl)
#print axioms card
end Go.Proofs.YthnbhpchemjioaaDoor.lawNb
