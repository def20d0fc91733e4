/- wicklaw.SerialSays: for all requests of bulk at most 1048576 serial.Strip and serial.Forward return what the reference returns; the card. Condition: that bulk. -/
import Derived.Test.YtkcncgdgicffhaaDoorCards
import Derived.Test.YtkcncgdgicffhaaDoorTie
import Derived.Test.YtkcncgdgicffhaaDoorFrame
import Derived.Test.YtkcncgdgicffhaaDoorPost
import Derived.Test.YtkcncgdgicffhaaDoorFwdC
import Derived.Test.YtkcncgdgicffhaaDoorSam
import Derived.Deep.RegionHeld3
import Derived.Deep.DeepHandedRow
import Derived.Test.YtkcncgdgicffhaaDoorReqV
import Derived.Deep.DeepHandedRow
import Derived.Lib.LaidTab
namespace Go.Proofs.YtkcncgdgicffhaaDoor.lawSer
open Go.ChangeShapes Go.WideShapes Go.ChangeAt Go.RowKit Go.Joins
open Go.ChangeMaps (open_string shut_string)
set_option linter.unusedVariables false
set_option linter.unusedSimpArgs false

set_option maxRecDepth 100000 in
set_option maxHeartbeats 4000000 in
theorem walk (mm t : ByteArray) (A : Option Addr) (cap : Nat) (fs : List Fd) (body : ByteArray) (w : World) (hmz : mm.size ≤ 1048576) (htz : t.size ≤ 1048576) (hbz : body.size ≤ 1048576) (hf : FdR w w.heap.size A cap fs) (hfl : fs.length ≤ 1048576) (hsum : (fs.map fun f => f.n.size + f.v.size + 3).sum ≤ 1048576) (hm : ∃ m, w.cell? ⟨1, 0, none⟩ = some (.int .i64 m)) (hT : ToW w) :
    Calls Tryd.prog 4 #[.agg #[.string mm, .string t, .slice A fs.length cap, .string body]] w fun e w' => e = .returned (.bool true) ∧ Below w.heap.size w w' := by
  obtain ⟨m, hm⟩ := hm
  have hmb := World.block_lt_of_cell? _ _ hm
  have HM := Lib.hid fun w' (hb : Below w.heap.size w w') => (hb.cell (p := ⟨1, 0, none⟩) hmb).trans hm
  have C1 := fun w' (h : Rq w mm t A cap fs body w') => forward_any mm t A cap fs body m w' hmz htz hbz (h.fds.more h.be.size) hfl hsum (HM.out w' h.be) (hT.below h.be)
  have C2 := fun w' (h : Rq w mm t A cap fs body w') => rforward_any mm t A cap fs body w' hmz htz hbz (h.fds.more h.be.size) hfl hsum (hT.below h.be)
  have CA := fun w' (h : Rq w mm t A cap fs body w') => strip_any mm t A cap fs m w' (h.fds.more h.be.size) hfl hsum (HM.out w' h.be)
  have CB := fun w' (h : Rq w mm t A cap fs body w') => rstrip_any mm t A cap fs w' (h.fds.more h.be.size) hfl hsum
  have hlen := Nat.le_trans (strip_len fs) hfl
  unfold FwdRes at C1 C2
  unfold StripRes at CA CB
  obtain ⟨R, hR⟩ : ∃ R, R = fwdR mm t fs body := ⟨_, rfl⟩
  obtain ⟨L, hL⟩ : ∃ L, L = stripL fs := ⟨_, rfl⟩
  simp only [← hR] at C1 C2
  simp only [← hL] at CA CB hlen
  obtain ⟨X, E⟩ := R
  dsimp only at C1 C2
  obtain ⟨W, hW⟩ : ∃ W, w.alloc (.cells #[.string mm, .string t, .slice A fs.length cap, .string body] 36) = W := ⟨_, rfl⟩
  have hQ : Rq w mm t A cap fs body W := by rw [← hW]; exact Rq.start hf
  have HQ := Lib.hid hQ
  obtain ⟨r0, r1, r2, r3⟩ := hQ.facts
  have C1 := Lib.hid C1
  have C2 := Lib.hid C2
  have CA := Lib.hid CA
  have CB := Lib.hid CB
  clear hR hL hm hmb hf hsum hQ hT HM
  go_enter Tryd.func4, Tryd.ntmps4
  go_wp2_with fail
  refine (C1.out _ HQ.out).mono ?_
  rintro e w1 ⟨rfl, b1⟩
  have HQ1 := Lib.hid (HQ.out.step b1)
  clear b1 hW r0 r1 r2 r3
  obtain ⟨r0, r1, r2, r3⟩ := HQ1.out.facts
  go_wp2_with fail
  refine (C2.out _ HQ1.out).mono ?_
  rintro e w2 ⟨rfl, b2⟩
  have hQ2 := HQ1.out.step b2
  clear b2 r0 r1 r2 r3
  obtain ⟨r0, r1, r2, r3⟩ := hQ2.facts
  have hQd : Rq w mm t A cap fs body w2.drew := hQ2.step (below_drewN (Below.refl _ _) 1)
  have HS : Hid (∀ w', Rq w mm t A cap fs body w' → w'.cell? ⟨w.heap.size, 0, none⟩ = some (.string mm) ∧ w'.cell? ⟨w.heap.size, 1, none⟩ = some (.string t) ∧ w'.cell? ⟨w.heap.size, 2, none⟩ = some (.slice A fs.length cap)) := fun w' h => ⟨h.blk.cell 0, h.blk.cell 1, h.blk.cell 2⟩
  clear hQ2 HQ1 HQ
  have ee : (E == E) = true := by simp
  have xx : (X.toList == X.toList) = true := by simp
  go_wp2_with fail
  go_region_held3 (fun w' => w'.cell? ⟨w.heap.size, 0, none⟩ = some (.string mm) ∧ w'.cell? ⟨w.heap.size, 1, none⟩ = some (.string t) ∧ w'.cell? ⟨w.heap.size, 2, none⟩ = some (.slice A fs.length cap)) (exact HS.out _ (by assumption))
    (first
      | (go_at_call 18; (with_reducible refine (CA.out _ (by assumption)).mono ?_); rintro e w' ⟨v', rfl, ho', hb'⟩; have hs' := Rq.step (by assumption) hb'; (try have hk' := OP.kept (by assumption) hb'); obtain ⟨A', c', rfl⟩ := ho'.form)
      | (go_at_call 19; (with_reducible refine (CB.out _ (by assumption)).mono ?_); rintro e w' ⟨v', rfl, ho', hb'⟩; have hs' := Rq.step (by assumption) hb'; (try have hk' := OP.kept (by assumption) hb'); obtain ⟨A', c', rfl⟩ := ho'.form)
      | (go_at_call 17; refine (sameHead_any mm t L _ _ _ _ _ _ _ (by omega) (by assumption) (by assumption)).mono ?_; rintro e w' ⟨rfl, hb'⟩; have hs' := Rq.step (by assumption) hb')
      | fail)
  all_goals go_wp2_with fail
  all_goals go_ret
  all_goals exact ⟨rfl, (by assumption : Rq w _ _ _ _ _ _ _).be⟩

/-- the table of powers, out of what is laid -/
theorem tow_of_laid {W : World} (h : laidMetH Tryd.prog Rows.serialSaysUptoRow.laid W) : ToW W := by
  rw [MakeChecks.laidMetH_plain _ _ _ (by kernel_rfl)] at h
  obtain ⟨ps, hv, _, _⟩ := h
  obtain ⟨_, _, _, _, _, _, _, _, _, _, hv2, _⟩ := hv
  obtain ⟨_, _, _, _, _, _, _, _, _, _, hv3, _⟩ := hv2
  obtain ⟨g, t, cs, fuel, p, q, hg, ht, hvar, hd, _, _⟩ := hv3
  obtain rfl : 154 = t := Option.some.inj ((show (Tryd.prog.globals[0]?).map (·.type) = some 154 by kernel_rfl).symm.trans (by rw [show g = 0 from (Option.some.inj ((show Tryd.prog.globalNamed "internal/strconv.uint64pow10" = some 0 by kernel_rfl).symm.trans hg)).symm] at ht; exact ht))
  show _ = _
  rw [hvar, ← Lib.cells_of_tab Tryd.underlying154 Tryd.underlying139 (by kernel_rfl) (by kernel_rfl) (zs := Lib.pow10Tab) hd]

theorem own : ownKnob Tryd.prog.godebug = none := by kernel_rfl
set_option maxRecDepth 100000 in
theorem contract (H : Type) (enc : TypeId × Value → H) (W : World) (base : Nat) (args : Array Value) (ds gs : List (DataW H)) (before : List MemPlace)
    (hval : ∀ (j : Nat) t v, Tryd.f4.params[j]? = some t → args[j]? = some v → Value.okWide Tryd.prog W .any base t v)
    (hW : DataW.Whole enc Tryd.prog Tryd.f4.params.toList Rows.serialSaysSpec.vars false W args.toList ds gs before) (hk : Rows.uptoSmall H (ds ++ gs) = true) (hm : ∃ m, W.cell? ⟨1, 0, none⟩ = some (.int .i64 m)) (hT : ToW W) :
    Calls Tryd.prog 4 args W fun e W' => ∃ v, e = .returned v ∧ Rows.serialSaysSpec.post enc Tryd.prog Tryd.f4 false true false false W args v W' := by
  have hW' := hW
  obtain ⟨p, q, hA0, hV, rfl, hfz, hnd⟩ := hW
  have hA : DataW.TrodAll enc Tryd.prog W 0 (fun _ => true) true Tryd.f4.params.toList args.toList ds p := hA0
  rw [Tryd.params4] at hA hval
  obtain ⟨v0, vs0, d0, ds0, p0, q0, hargs, rfl, rfl, h0, r0⟩ := trodAll_cons hA
  obtain ⟨rfl, rfl, rfl⟩ := trodAll_nil r0
  obtain rfl : args = #[v0] := by cases args; simp_all
  obtain ⟨rfl, rfl⟩ := trodVars_none hV
  clear hA0
  simp only [List.append_nil] at hk
  have hb : Rows.uptoBulkAll (H := H) [d0] ≤ 1048576 := of_decide_eq_true hk
  simp only [Rows.uptoBulkAll, Rows.uptoBulk, lst_len] at hb
  obtain ⟨mm, t, A, cap, fs, body, rfl, hmz, htz, hbz, hf, hfl, hsum⟩ := open_request (hval 0 36 v0 rfl rfl) h0 (by omega)
  refine (walk mm t A cap fs body W hmz htz hbz hf hfl (by omega) hm hT).mono fun e W' ⟨he, hg⟩ => ?_
  subst he
  exact ⟨_, rfl, post_true 4 Tryd.underlying4 (by kernel_rfl) (by kernel_rfl) (by kernel_rfl) rfl rfl hW' hg⟩

/-- a table laid -/
def layObj (cs : Array Value) : Obj → Obj
  | .cells _ t frozen => .cells cs t frozen
  | o => o
def layIn (w : World) (b : Nat) (cs : Array Value) : World := { w with heap := w.heap.modify b (layObj cs) }
/-- a world for the witness: the two tables of unicode/utf8 as they are laid -/
noncomputable def laidWorld (os : Os) : World :=
  layIn (layIn (layIn (layIn (layIn (World.holding Tryd.prog os ⟨#[], #[], []⟩) 5 (([128, 191, 160, 191, 128, 159, 144, 191, 128, 143] ++ List.replicate 22 0).map fun n : Nat => Value.int .u8 (n : Int)).toArray)
    4 (Go.Pinned.utf8FirstZ.map fun n : Nat => Value.int .u8 (n : Int)).toArray)
    0 ([1, 10, 100, 1000, 10000, 100000, 1000000, 10000000, 100000000, 1000000000, 10000000000, 100000000000, 1000000000000, 10000000000000, 100000000000000, 1000000000000000, 10000000000000000, 100000000000000000, 1000000000000000000, 10000000000000000000].map fun n : Nat => Value.int .u64 (n : Int)).toArray)
    3 ([0, 1, 56, 2, 57, 49, 28, 3, 61, 58, 42, 50, 38, 29, 17, 4, 62, 47, 59, 36, 45, 43, 51, 22, 53, 39, 33, 30, 24, 18, 12, 5, 63, 55, 48, 27, 60, 41, 37, 16, 46, 35, 44, 21, 52, 32, 23, 11, 54, 26, 40, 15, 34, 20, 31, 10, 25, 14, 19, 9, 13, 8, 7, 6].map fun n : Nat => Value.int .u8 (n : Int)).toArray)
    2 ([0, 1, 28, 2, 29, 14, 24, 3, 30, 22, 20, 15, 25, 17, 4, 8, 31, 27, 13, 23, 21, 19, 16, 7, 26, 12, 18, 6, 11, 5, 10, 9].map fun n : Nat => Value.int .u8 (n : Int)).toArray
theorem laid_met (os : Os) : laidMet Tryd.prog Rows.serialSaysUptoRow.laid ((laidWorld os).forCall (fun _ _ => 0) ⟨#[], #[.agg #[.string ByteArray.empty, .string ByteArray.empty, .slice none 0 0, .string ByteArray.empty]], []⟩).memory :=
  laidMet_of_run' 8 (by kernel_rfl) (by kernel_rfl)
theorem reads (os : Os) {H : Type} (enc : TypeId × Value → H) : ∃ places, DataW.whole enc Tryd.prog ((laidWorld os).forCall (fun _ _ => 0) ⟨#[], #[.agg #[.string ByteArray.empty, .string ByteArray.empty, .slice none 0 0, .string ByteArray.empty]], []⟩).memory Tryd.f4.params.toList Rows.serialSaysSpec.vars false #[Value.agg #[.string ByteArray.empty, .string ByteArray.empty, .slice none 0 0, .string ByteArray.empty]].toList 8 = some ([.agg [.agg [.lit (.string []), .lit (.string []), .nil], .lit (.string [])]], [], places) :=
  ⟨[], by kernel_rfl⟩

set_option maxRecDepth 100000 in
theorem lifted (os : Os) (started : os.Started) (H : Type) (enc : TypeId × Value → H) (F : Stop.Interp) :
    ReturnsInHanded {} Tryd.checked os 4 .any ((Rows.OpenSpec.upto Rows.serialSaysSpec).preRow enc Tryd.prog Tryd.f4 Rows.serialSaysUptoRow.domain false Rows.serialSaysUptoRow.laid) (((Rows.OpenSpec.upto Rows.serialSaysSpec).at F).post enc Tryd.prog Tryd.f4 false true false false) := by
  obtain ⟨places, hx⟩ := reads os enc
  refine returnsInHanded_of_row (C := Tryd.checked) (s := Rows.OpenSpec.upto Rows.serialSaysSpec) own started (by kernel_rfl) Tryd.func4
    (witness_row_at (enc := enc) (C := Tryd.checked) false (laidWorld os) #[.agg #[.string ByteArray.empty, .string ByteArray.empty, .slice none 0 0, .string ByteArray.empty]] rfl (by kernel_rfl) (by kernel_rfl) (by kernel_rfl)
      (OpenSpec.preRow_of_cond 8 hx (by kernel_rfl) (fun k hk => by cases hk; kernel_rfl) (by kernel_rfl) (laid_met os))) ?_
  intro W base args ds gs before hval hW _ hcond _ hlaid hsh _
  exact contract H enc W base args ds gs before hval hW (hcond _ rfl) (cell_of_shapedOpen_int (zero := #[.int .i64 0]) (t := 3) hsh (of_decide_eq_true (by kernel_rfl)) (by kernel_rfl) rfl (by kernel_rfl) (by kernel_rfl) Tryd.underlying3) (tow_of_laid hlaid)

theorem saidUpto : Rows.SerialSaysUptoSaid :=
  OpenClaim.holds_of_cond 4 Tryd.f4 rfl rfl rfl rfl rfl rfl rfl ⟨rfl, rfl, rfl, rfl, rfl⟩ rfl rfl rfl rfl rfl (by kernel_rfl) Tryd.func4 (by kernel_rfl)
    (of_decide_eq_true (by kernel_rfl)) (by unfold Func.isWrapper; first | (rw [if_pos (by decide +kernel)]; kernel_rfl) | (rw [if_neg (by decide +kernel)]; exact ⟨rfl, rfl⟩))
    (fun os started H enc _ F => by rw [OpenClaim.pre_eq_preRow]; exact lifted os started H enc F)

/-- No parameter wants a stand-in; the program's own looks are off: what the card asks. -/
theorem plain (f : FuncId) (fn : Func) (hf : Tryd.pinned.checked.prog.funcNamed "gatewicket/wicklaw.SerialSays" = some f) (hfn : Tryd.pinned.checked.prog.funcs[f]? = some fn) :
    false = Tryd.pinned.checked.prog.looks [] ∧ ∀ (j : Nat) t, fn.params[j]? = some t → Tryd.pinned.checked.prog.wantsStandIn t = false := by
  obtain rfl : f = 4 := Option.some.inj ((show Tryd.prog.funcNamed "gatewicket/wicklaw.SerialSays" = some 4 by kernel_rfl).symm.trans hf) |>.symm
  obtain rfl : fn = Tryd.f4 := (Option.some.inj (Tryd.func4.symm.trans hfn)).symm
  refine ⟨by kernel_rfl, fun j t ht => ?_⟩
  rw [Tryd.params4] at ht
  have ht2 : t = 36 := by simpa using Array.mem_of_getElem? ht
  subst ht2
  exact (show Tryd.prog.wantsStandIn 36 = false by kernel_rfl)

theorem card : Rows.SerialSaysUptoCardSaid :=
  Claim7.holds_tied_plain_at .later [] _ _ _ _ saidUpto (fun _ h => by cases h) (by kernel_rfl) (fun _ h => by cases h) serialSaysUpto_row_tie rfl ⟨rfl, rfl⟩ (by kernel_rfl) rfl plain (by kernel_rfl)
#print axioms card
end Go.Proofs.YtkcncgdgicffhaaDoor.lawSer
