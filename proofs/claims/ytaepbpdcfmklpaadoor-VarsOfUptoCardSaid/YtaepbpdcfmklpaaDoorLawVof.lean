/- wicklaw.VarsOf: for all requests, clients and counts of bulk at most 1048576 vars.Of returns what the reference returns; the card. Condition: that bulk. -/
import Derived.Test.YtaepbpdcfmklpaaDoorCards
import Derived.Test.YtaepbpdcfmklpaaDoorTie
import Derived.Test.YtaepbpdcfmklpaaDoorFrame
import Derived.Test.YtaepbpdcfmklpaaDoorPost
import Derived.Test.YtaepbpdcfmklpaaDoorVofD
import Derived.Test.YtaepbpdcfmklpaaDoorReqV
import Derived.Deep.DeepHandedRow
import Derived.Lib.LaidTab
namespace Go.Proofs.YtaepbpdcfmklpaaDoor.lawVof
open Go.ChangeShapes Go.WideShapes Go.ChangeAt Go.RowKit Go.Joins
open Go.ChangeMaps (open_string shut_string)
set_option linter.unusedVariables false
set_option linter.unusedSimpArgs false

theorem sum_vs : ∀ fs : List Fd, sumV fs ≤ (fs.map fun f => f.n.size + f.v.size + 3).sum
  | [] => Nat.le_refl _
  | f :: fs => by
    have := sum_vs fs
    unfold sumV at this ⊢
    rw [List.map_cons, List.map_cons, List.sum_cons, List.sum_cons]; omega
theorem args_len {fs : List Fd} {t body : ByteArray} {M : Int} (ht : t.size ≤ 1048576) (hb : body.size ≤ 1048576) (hs : sumV fs ≤ 1048576) : (argsR fs t body M).1.length ≤ 9000000 ∧ (argsR fs t body M).2.1.length ≤ 9000000 := by
  have h1 := formA_len (s := queS t) (by have := queS_size t; omega)
  have h2 := bodyR_len (ct := getL fs ctB) (body := body) (most := M - (formA (queS t)).length) hb
  have h3 := cook_le (getL fs ckB)
  have h4 := getL_sum ckB fs
  unfold argsR
  split
  · exact ⟨Nat.zero_le _, Nat.zero_le _⟩
  · split
    · exact ⟨Nat.zero_le _, Nat.zero_le _⟩
    · split
      · exact ⟨Nat.zero_le _, Nat.zero_le _⟩
      · dsimp only
        rw [List.length_append]
        omega
set_option maxRecDepth 100000 in
set_option maxHeartbeats 4000000 in
theorem walk (mm t : ByteArray) (A : Option Addr) (cap : Nat) (fs : List Fd) (body : ByteArray) (client : Value) (most : Int) (w : World) (hmo : (Lit.int .i64 most).wf = true) (htz : t.size ≤ 1048576) (hbz : body.size ≤ 1048576) (hf : FdR w w.heap.size A cap fs) (hfl : fs.length ≤ 1048576) (hsum : (fs.map fun f => f.n.size + f.v.size + 3).sum ≤ 1048576) (hm : ∃ m, w.cell? ⟨0, 0, none⟩ = some (.int .i64 m)) :
    Calls Tryd.prog 3 #[.agg #[.string mm, .string t, .slice A fs.length cap, .string body], client, .int .i64 most] w fun e w' => e = .returned (.bool true) ∧ Below w.heap.size w w' := by
  obtain ⟨m, hm⟩ := hm
  have hmb := World.block_lt_of_cell? _ _ hm
  have hsv := Nat.le_trans (sum_vs fs) hsum
  have C1 := fun w' (h : Rq w mm t A cap fs body w') => of_any mm t A cap fs body client most m w' hmo htz hbz ⟨h.fds.1.more h.be.size, h.fds.2⟩ hfl hsv ((h.be.cell (p := ⟨0, 0, none⟩) hmb).trans hm)
  have C2 := fun w' (h : Rq w mm t A cap fs body w') => rargs_any mm t A cap fs body most w' hmo htz hbz ⟨h.fds.1.more h.be.size, h.fds.2⟩ hfl hsv
  have hlen := args_len (fs := fs) (M := max most 0) htz hbz hsv
  unfold VoRes at C1 C2
  obtain ⟨R, hR⟩ : ∃ R, R = argsR fs t body (max most 0) := ⟨_, rfl⟩
  rw [← hR] at hlen
  simp only [← hR] at C1 C2
  obtain ⟨l, k, E⟩ := R
  dsimp only at C1 C2 hlen
  obtain ⟨hl1, hl2⟩ := hlen
  obtain ⟨W, hW⟩ : ∃ W, w.alloc (.cells #[.string mm, .string t, .slice A fs.length cap, .string body] 26) = W := ⟨_, rfl⟩
  have hQ : Rq w mm t A cap fs body W := by rw [← hW]; exact Rq.start hf
  have HQ := Lib.hid hQ
  obtain ⟨r0, r1, r2, r3⟩ := hQ.facts
  have C1 := Lib.hid C1
  have C2 := Lib.hid C2
  clear hR hmo hm hmb hf hsum hsv hQ
  go_enter Tryd.func3, Tryd.ntmps3
  go_wp2_with fail
  refine (C1.out _ HQ.out).mono ?_
  rintro e w1 ⟨v1, u1, rfl, ho1, hk1, b1⟩
  obtain ⟨A1, c1, rfl⟩ := ho1.form
  obtain ⟨A2, c2, rfl⟩ := hk1.form
  have HQ1 := Lib.hid (HQ.out.step b1)
  have HO1 := Lib.hid ho1
  have HK1 := Lib.hid hk1
  clear ho1 hk1 b1 hW r0 r1 r2 r3
  obtain ⟨r0, r1, r2, r3⟩ := HQ1.out.facts
  go_wp2_with fail
  refine (C2.out _ HQ1.out).mono ?_
  rintro e w2 ⟨v2, u2, rfl, ho2, hk2, b2⟩
  obtain ⟨A3, c3, rfl⟩ := ho2.form
  obtain ⟨A4, c4, rfl⟩ := hk2.form
  have HQ2 := Lib.hid (HQ1.out.step b2)
  have HO1b := Lib.hid (HO1.out.kept b2)
  have HK1b := Lib.hid (HK1.out.kept b2)
  have HO2 := Lib.hid ho2
  have HK2 := Lib.hid hk2
  clear ho2 hk2 b2 r0 r1 r2 r3
  go_wp2_with fail
  refine (eqAr_any A1 A3 c1 c3 l _ _ _ (by omega) HO1b.out HO2.out).mono ?_
  rintro e w3 ⟨rfl, b3⟩
  have HB3 := Lib.hid (HQ2.out.be.trans (b3.mono HQ2.out.be.size))
  have HK1c := Lib.hid (HK1b.out.kept b3)
  have HK2c := Lib.hid (HK2.out.kept b3)
  clear b3
  go_wp2_with fail
  refine (eqAr_any A2 A4 c2 c4 k _ _ _ (by omega) HK1c.out HK2c.out).mono ?_
  rintro e w4 ⟨rfl, b4⟩
  have HB4 := Lib.hid (HB3.out.trans (b4.mono HB3.out.size))
  clear b4
  have ee : (E == E) = true := by simp
  go_wp2_with fail
  go_ret
  exact ⟨rfl, HB4.out⟩

theorem own : ownKnob Tryd.prog.godebug = none := by kernel_rfl
set_option maxRecDepth 100000 in
theorem contract (H : Type) (enc : TypeId × Value → H) (W : World) (base : Nat) (args : Array Value) (ds gs : List (DataW H)) (before : List MemPlace)
    (hval : ∀ (j : Nat) t v, Tryd.f3.params[j]? = some t → args[j]? = some v → Value.okWide Tryd.prog W .any base t v)
    (hW : DataW.Whole enc Tryd.prog Tryd.f3.params.toList Rows.varsOfSpec.vars false W args.toList ds gs before) (hk : Rows.uptoSmall H (ds ++ gs) = true) (hm : ∃ m, W.cell? ⟨0, 0, none⟩ = some (.int .i64 m)) :
    Calls Tryd.prog 3 args W fun e W' => ∃ v, e = .returned v ∧ Rows.varsOfSpec.post enc Tryd.prog Tryd.f3 false true false false W args v W' := by
  have hW' := hW
  obtain ⟨p, q, hA0, hV, rfl, hfz, hnd⟩ := hW
  have hA : DataW.TrodAll enc Tryd.prog W 0 (fun _ => true) true Tryd.f3.params.toList args.toList ds p := hA0
  rw [Tryd.params3] at hA hval
  obtain ⟨v0, vs0, d0, ds0, p0, q0, hargs, rfl, rfl, h0, r0⟩ := trodAll_cons hA
  obtain ⟨v1, vs1, d1, ds1, p1, q1, rfl, rfl, rfl, h1, r1⟩ := trodAll_cons r0
  obtain ⟨v2, vs2, d2, ds2, p2, q2, rfl, rfl, rfl, h2, r2⟩ := trodAll_cons r1
  obtain ⟨rfl, rfl, rfl⟩ := trodAll_nil r2
  obtain rfl : args = #[v0, v1, v2] := by cases args; simp_all
  obtain ⟨rfl, rfl⟩ := trodVars_none hV
  obtain ⟨a1, rfl, rfl, rfl, w1⟩ := open_int Tryd.underlying27 (hval 1 27 v1 rfl rfl) h1
  obtain ⟨a2, rfl, rfl, rfl, w2⟩ := open_int Tryd.underlying3 (hval 2 3 v2 rfl rfl) h2
  clear hA0
  simp only [List.append_nil] at hk
  have hb : Rows.uptoBulkAll (H := H) [d0, .lit (.int .u32 a1), .lit (.int .i64 a2)] ≤ 1048576 := of_decide_eq_true hk
  simp only [Rows.uptoBulkAll, Rows.uptoBulk, lst_len] at hb
  obtain ⟨mm, t, A, cap, fs, body, rfl, hmz, htz, hbz, hf, hfl, hsum⟩ := open_request (hval 0 26 v0 rfl rfl) h0 (by omega)
  refine (walk mm t A cap fs body (.int .u32 a1) a2 W w2 htz hbz hf hfl hsum hm).mono fun e W' ⟨he, hg⟩ => ?_
  subst he
  exact ⟨_, rfl, post_true 4 Tryd.underlying4 (by kernel_rfl) (by kernel_rfl) (by kernel_rfl) rfl rfl hW' hg⟩

/-- a table laid -/
def layObj (cs : Array Value) : Obj → Obj
  | .cells _ t frozen => .cells cs t frozen
  | o => o
def layIn (w : World) (b : Nat) (cs : Array Value) : World := { w with heap := w.heap.modify b (layObj cs) }
/-- a world for the witness: the two tables of unicode/utf8 as they are laid -/
noncomputable def laidWorld (os : Os) : World :=
  layIn (layIn (World.holding Tryd.prog os ⟨#[], #[], []⟩) 3 (([128, 191, 160, 191, 128, 159, 144, 191, 128, 143] ++ List.replicate 22 0).map fun n : Nat => Value.int .u8 (n : Int)).toArray)
    2 (Go.Pinned.utf8FirstZ.map fun n : Nat => Value.int .u8 (n : Int)).toArray
theorem laid_met (os : Os) : laidMet Tryd.prog Rows.varsOfUptoRow.laid ((laidWorld os).forCall (fun _ _ => 0) ⟨#[], #[.agg #[.string ByteArray.empty, .string ByteArray.empty, .slice none 0 0, .string ByteArray.empty], .int .u32 0, .int .i64 0], []⟩).memory :=
  laidMet_of_run' 8 (by kernel_rfl) (by kernel_rfl)
theorem reads (os : Os) {H : Type} (enc : TypeId × Value → H) : ∃ places, DataW.whole enc Tryd.prog ((laidWorld os).forCall (fun _ _ => 0) ⟨#[], #[.agg #[.string ByteArray.empty, .string ByteArray.empty, .slice none 0 0, .string ByteArray.empty], .int .u32 0, .int .i64 0], []⟩).memory Tryd.f3.params.toList Rows.varsOfSpec.vars false #[Value.agg #[.string ByteArray.empty, .string ByteArray.empty, .slice none 0 0, .string ByteArray.empty], Value.int .u32 0, Value.int .i64 0].toList 8 = some ([.agg [.agg [.lit (.string []), .lit (.string []), .nil], .lit (.string [])], .lit (.int .u32 0), .lit (.int .i64 0)], [], places) :=
  ⟨[], by kernel_rfl⟩

set_option maxRecDepth 100000 in
theorem lifted (os : Os) (started : os.Started) (H : Type) (enc : TypeId × Value → H) (F : Stop.Interp) :
    ReturnsInHanded {} Tryd.checked os 3 .any ((Rows.OpenSpec.upto Rows.varsOfSpec).preRow enc Tryd.prog Tryd.f3 Rows.varsOfUptoRow.domain false Rows.varsOfUptoRow.laid) (((Rows.OpenSpec.upto Rows.varsOfSpec).at F).post enc Tryd.prog Tryd.f3 false true false false) := by
  obtain ⟨places, hx⟩ := reads os enc
  refine returnsInHanded_of_row (C := Tryd.checked) (s := Rows.OpenSpec.upto Rows.varsOfSpec) own started (by kernel_rfl) Tryd.func3
    (witness_row_at (enc := enc) (C := Tryd.checked) false (laidWorld os) #[.agg #[.string ByteArray.empty, .string ByteArray.empty, .slice none 0 0, .string ByteArray.empty], .int .u32 0, .int .i64 0] rfl (by kernel_rfl) (by kernel_rfl) (by kernel_rfl)
      (OpenSpec.preRow_of_cond 8 hx (by kernel_rfl) (fun k hk => by cases hk; kernel_rfl) (by kernel_rfl) (laid_met os))) ?_
  intro W base args ds gs before hval hW _ hcond _ _ hsh _
  exact contract H enc W base args ds gs before hval hW (hcond _ rfl) (cell_of_shapedOpen_int (zero := #[.int .i64 0]) (t := 3) hsh (of_decide_eq_true (by kernel_rfl)) (by kernel_rfl) rfl (by kernel_rfl) (by kernel_rfl) Tryd.underlying3)

theorem saidUpto : Rows.VarsOfUptoSaid :=
  OpenClaim.holds_of_cond 3 Tryd.f3 rfl rfl rfl rfl rfl rfl rfl ⟨rfl, rfl, rfl, rfl, rfl⟩ rfl rfl rfl rfl rfl (by kernel_rfl) Tryd.func3 (by kernel_rfl)
    (of_decide_eq_true (by kernel_rfl)) (by unfold Func.isWrapper; first | (rw [if_pos (by decide +kernel)]; kernel_rfl) | (rw [if_neg (by decide +kernel)]; exact ⟨rfl, rfl⟩))
    (fun os started H enc _ F => by rw [OpenClaim.pre_eq_preRow]; exact lifted os started H enc F)

/-- No parameter wants a stand-in; the program's own looks are off: what the card asks. -/
theorem plain (f : FuncId) (fn : Func) (hf : Tryd.pinned.checked.prog.funcNamed "gatewicket/wicklaw.VarsOf" = some f) (hfn : Tryd.pinned.checked.prog.funcs[f]? = some fn) :
    false = Tryd.pinned.checked.prog.looks [] ∧ ∀ (j : Nat) t, fn.params[j]? = some t → Tryd.pinned.checked.prog.wantsStandIn t = false := by
  obtain rfl : f = 3 := Option.some.inj ((show Tryd.prog.funcNamed "gatewicket/wicklaw.VarsOf" = some 3 by kernel_rfl).symm.trans hf) |>.symm
  obtain rfl : fn = Tryd.f3 := (Option.some.inj (Tryd.func3.symm.trans hfn)).symm
  refine ⟨by kernel_rfl, fun j t ht => ?_⟩
  rw [Tryd.params3] at ht
  have ht2 : t = 26 ∨ t = 27 ∨ t = 3 := by simpa using Array.mem_of_getElem? ht
  rcases ht2 with rfl | rfl | rfl
  · exact (show Tryd.prog.wantsStandIn 26 = false by kernel_rfl)
  · exact (show Tryd.prog.wantsStandIn 27 = false by kernel_rfl)
  · exact (show Tryd.prog.wantsStandIn 3 = false by kernel_rfl)

theorem card : Rows.VarsOfUptoCardSaid :=
  Claim7.holds_tied_plain_at .later [] _ _ _ _ saidUpto (fun _ h => by cases h) (by kernel_rfl) (fun _ h => by cases h) varsOfUpto_row_tie rfl ⟨rfl, rfl⟩ (by kernel_rfl) rfl plain (by kernel_rfl)
#print axioms card
end Go.Proofs.YtaepbpdcfmklpaaDoor.lawVof
