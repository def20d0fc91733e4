/- wicklaw.PipeReads: for all pipes and strings of bulk at most 1048576 Print and Parse return what the reference returns; the card. Condition: that bulk. -/
import Derived.Test.YthnbhpchemjioaaDoorCards
import Derived.Test.YthnbhpchemjioaaDoorTie
import Derived.Test.YthnbhpchemjioaaDoorFrmB
import Derived.Test.YthnbhpchemjioaaDoorPipC
import Derived.Deep.DeepHandedRow
import Derived.Lib.LaidTab
import Derived.LaidSub
import Derived.MakeChecks
namespace Go.Proofs.YthnbhpchemjioaaDoor.lawPip
open Go.ChangeShapes Go.WideShapes Go.ChangeAt Go.RowKit
open Go.ChangeMaps (open_string shut_string)
set_option linter.unusedVariables false
set_option linter.unusedSimpArgs false

/-- an array of strings that reads as a table holds its strings -/
theorem strs_of_tab {H : Type} {enc : TypeId × Value → H} {P : Program} {w : World} {base : Nat} {sp : Nat → Bool} {held : Bool} {fuel : Nat} {t e : TypeId} {n : Nat} {cs : List Value} {ss : List (List UInt8)} {p : List MemPlace}
    (ht : P.underlying t = some (.array n e)) (he : P.underlying e = some .string) (hce : P.cellsOf e = 1) (hct : P.cellsOf t = n)
    (h : DataW.trod enc P w base sp held fuel t cs = some (.agg (ss.map fun s => .lit (.string s)), p)) (i : Nat) (hi : i < ss.length) : cs[i]? = some (.string (str ss[i])) := by
  cases fuel with
  | zero => simp [DataW.trod] at h
  | succ fuel =>
    simp only [DataW.trod, ht, hce, hct, Nat.mul_one] at h
    split at h
    · rename_i hl
      obtain ⟨xs, hm, hx⟩ := Option.map_eq_some_iff.1 h
      have hxs : xs.map (·.1) = ss.map fun s => (DataW.lit (.string s) : DataW H) := by
        have := congrArg Prod.fst hx
        simpa using this
      have hxl : xs.length = n := by simpa using Lib.mapM_length hm
      have hzl : ss.length = n := by
        have := congrArg List.length hxs
        simp at this
        omega
      have hin : i < n := by omega
      obtain ⟨b, hb, hf⟩ := Lib.mapM_at hm i i (by simp [hin])
      obtain ⟨z, hc, rfl, _⟩ := DataW.trod_string he hf
      have h1 : cs[i]? = some (.string z) := by
        have := congrArg (·[0]?) hc
        simpa [List.getElem?_take, List.getElem?_drop] using this
      have h2 : (xs.map (·.1))[i]? = some (DataW.lit (.string z.data.toList) : DataW H) := by simp [hb]
      rw [hxs, List.getElem?_map, List.getElem?_eq_getElem hi, Option.map_some] at h2
      injection h2 with h2
      injection h2 with h2
      injection h2 with h2
      rw [h1, h2]
    · cases h
theorem pw_of_laid {W : World} (h : laidMetH Tryd.prog Rows.pipeReadsUptoRow.laid W) : PW W := by
  rw [MakeChecks.laidMetH_plain _ _ _ (by kernel_rfl)] at h
  obtain ⟨ps, hv, _, _⟩ := h
  obtain ⟨g1, t1, cs1, fu1, p1, q1, _, _, _, _, hv2, _⟩ := hv
  obtain ⟨g, t, cs, fuel, p, q, hg, ht, hvar, hd, _, _⟩ := hv2
  obtain rfl : 0 = g := Option.some.inj ((show Tryd.prog.globalNamed "gatewicket/wickref.pipeWords" = some 0 by kernel_rfl).symm.trans hg)
  obtain rfl : 116 = t := Option.some.inj ((show (Tryd.prog.globals[0]?).map (·.type) = some 116 by kernel_rfl).symm.trans ht)
  have hc : ∀ i, i < 12 → W.cell? ⟨0, i, none⟩ = some (.string (pwB i)) := fun i hi => by
    have h1 := strs_of_tab (ss := pwL) Tryd.underlying116 Tryd.underlying9 (by kernel_rfl) (by kernel_rfl) hd i hi
    have h2 := World.var?_cell hg hvar i
    rw [← Array.getElem?_toList] at h2
    rw [h2, h1]
    unfold pwB List.getD
    rw [List.getElem?_eq_getElem (show i < pwL.length from hi)]; rfl
  exact ⟨World.block_lt_of_cell? _ _ (hc 0 (by omega)), hc⟩
theorem eqI_any {A A' : Option Addr} {c c' B B' : Nat} {l : List Int} {w : World} (h : OI w B (.slice A l.length c) l) (h' : OI w B' (.slice A' l.length c') l) (hl : l.length ≤ 9223372036854775807) :
    Calls Tryd.prog 29 #[.slice A l.length c, .slice A' l.length c'] w fun e w' => e = .returned (.bool true) ∧ ∃ q, w' = w.drewN q := by
  by_cases h0 : l.length = 0
  · rw [h0]
    exact (Tryd.slices_Equal_int_empty A A' c 0 c' w (by omega)).mono fun e w' ⟨h1, h2⟩ => ⟨by rw [h1]; rfl, 0, h2⟩
  · have hf : ∀ {A : Option Addr} {c B : Nat}, OI w B (.slice A l.length c) l → ∃ g, A = some ⟨g, 0, none⟩ ∧ ∀ j, j < l.length → w.cell? ⟨g, 0 + j, none⟩ = some (.int .i64 (l.getD j 0)) := by
      intro A c B h
      have h2 := h
      rcases h2.2 with ⟨h3, h4⟩ | ⟨g, cap, cur, e1, hb, hh, _⟩
      · exact absurd h4 h0
      · injection e1 with e1 e2 e3
        subst e1
        subst e3
        refine ⟨g, rfl, fun j hj => ?_⟩
        rw [Nat.zero_add, World.ownsRow.cellAt h j (by omega), List.getElem?_map, List.getElem?_eq_getElem hj]
        simp [iv, List.getD, hj]
    obtain ⟨g, rfl, hc⟩ := hf h
    obtain ⟨g', rfl, hc'⟩ := hf h'
    refine (Tryd.slices_Equal_int g 0 l.length c g' 0 l.length c' l l w (Nat.le_refl _) (Nat.le_refl _) hl hl hc hc').mono fun e w' ⟨h1, h2⟩ => ⟨by rw [h1]; simp, h2⟩
set_option maxRecDepth 100000 in
theorem open_intsV {H : Type} {enc : TypeId × Value → H} {W : World} {v : Value} {d : DataW H} {p : List MemPlace} {base : Nat}
    (hv : Value.okWide Tryd.prog W .any base 43 v) (h : DataW.Trod enc Tryd.prog W 0 (fun _ => true) true 43 v d p) :
    ∃ (A : Option Addr) (cap : Nat) (zs : List Int), v = .slice A zs.length cap ∧ zs.length ≤ 9223372036854775807 ∧ IR W A zs ∧ ∀ n ∈ zs, (Lit.int .i64 n).wf = true := by
  obtain ⟨a0, len, cap, rfl⟩ := okWide_slice Tryd.underlying43 hv
  obtain ⟨fuel, hf⟩ := h
  have hf2 : DataW.trod enc Tryd.prog W 0 (fun _ => true) true fuel 43 [.slice a0 len cap] = some (d, p) := by simpa [Value.cells] using hf
  obtain ⟨A, cap', zs, e, h1, h2, h3, h4⟩ := open_intsR hf2
  simp only [List.cons.injEq, and_true] at e
  unfold maxLen at h2
  exact ⟨A, cap', zs, e, by omega, h3, h4⟩
set_option maxRecDepth 100000 in
set_option maxHeartbeats 2000000 in
theorem walk (zs : List Int) (s : ByteArray) (A : Option Addr) (c : Nat) (w : World) (hl : zs.length ≤ 9223372036854775807) (hR : IR w A zs) (hs : s.size ≤ 1048576) (hP : PW w) (hm : ∃ m, w.cell? ⟨1, 0, none⟩ = some (.int .i64 m)) :
    Calls Tryd.prog 5 #[.slice A zs.length c, .string s] w fun e w' => e = .returned (.bool true) ∧ Below w.heap.size w w' := by
  obtain ⟨m, hm⟩ := hm
  have hm0 := World.block_lt_of_cell? _ _ hm
  have CP := refPipe_any zs A c w hR hl
  have CT := Lib.hid fun h0 => pipeText_any zs A c w hR hP h0
  have CB := Lib.hid fun w1 (hb : Below w.heap.size w w1) h0 => pipePrint_bad zs A c w1 (hR.below hb) hl h0
  have CO := Lib.hid fun w1 (hb : Below w.heap.size w w1) h0 => pipePrint_ok zs A c w1 (hR.below hb) hl h0
  have C1 := Lib.hid fun w1 (hb : Below w.heap.size w w1) => pipeParse_any s m w1 hs ((hb.cell (p := ⟨1, 0, none⟩) hm0).trans hm)
  have C2 := Lib.hid fun w1 (hb : Below w.heap.size w w1) => readPipe_any s w1 hs (hP.below hb)
  obtain ⟨T, hT⟩ : ∃ T, T = textP zs := ⟨_, rfl⟩
  obtain ⟨R, hR'⟩ : ∃ R, R = rpE s := ⟨_, rfl⟩
  clear hR hP hm
  by_cases h0 : pipE zs = 0
  · have CT := CT.out h0
    rw [h0] at CP
    rw [← hT] at CT
    have CP := Lib.hid CP
    have CT := Lib.hid CT
    have CO1 : Hid (∀ w1, Below w.heap.size w w1 → Calls Tryd.prog 26 #[.slice A zs.length c] w1 fun e w' => e = .returned (.tuple #[.string (str T), .int .i64 0]) ∧ Below w1.heap.size w1 w') := fun w1 hb => by rw [hT]; exact CO.out w1 hb h0
    clear h0 hT
    go_enter Tryd.func5, Tryd.ntmps5
    go_wp2_with fail
    refine CP.out.mono ?_
    rintro e w' ⟨rfl, rfl⟩
    go_wp2_with fail
    refine CT.out.mono ?_
    rintro e w1 ⟨rfl, b1⟩
    have HB1 := Lib.hid b1
    clear b1
    go_wp2_with fail
    refine (CO1.out _ HB1.out).mono ?_
    rintro e w2 ⟨rfl, b2⟩
    have HB2 := Lib.hid (HB1.out.trans (b2.mono HB1.out.size))
    clear b2
    go_wp2_with fail
    refine (C1.out _ HB2.out).mono ?_
    rintro e w3 ⟨v, rfl, ho3, b3⟩
    rw [← hR']
    obtain ⟨A3, c3, rfl⟩ := ho3.form
    have HO3 := Lib.hid ho3
    have HB3 := Lib.hid (HB2.out.trans (b3.mono HB2.out.size))
    clear ho3 b3
    go_wp2_with fail
    refine (C2.out _ HB3.out).mono ?_
    rintro e w4 ⟨v, rfl, ho4, b4⟩
    rw [← hR']
    obtain ⟨A4, c4, rfl⟩ := ho4.form
    have CE := Lib.hid (eqI_any (HO3.out.kept b4) ho4 (by have := (HO3.out.kept b4); rcases this.2 with ⟨_, h⟩ | ⟨g, cap, cur, _, _, _, h1, h2, _⟩ <;> unfold maxLen at * <;> omega))
    have HB4 := Lib.hid (HB3.out.trans (b4.mono HB3.out.size))
    clear ho4 b4 hR'
    go_wp2_with fail
    refine CE.out.mono ?_
    rintro e w5 ⟨rfl, q, hq⟩
    have HB5 : Hid (Below w.heap.size w w5) := by show Below _ _ _; rw [hq]; exact below_drewN HB4.out q
    clear hq CE
    go_wp2_with fail
    go_ret
    exact ⟨rfl, HB5.out⟩
  · have CB1 : Hid (∀ w1, Below w.heap.size w w1 → Calls Tryd.prog 26 #[.slice A zs.length c] w1 fun e w' => e = .returned (.tuple #[.string ByteArray.empty, .int .i64 (pipE zs)]) ∧ Below w1.heap.size w1 w') := fun w1 hb => CB.out w1 hb h0
    obtain ⟨E, hE⟩ : ∃ E, E = pipE zs := ⟨_, rfl⟩
    rw [← hE] at CP CB1 h0
    have e0 : (E == 0) = false := beq_eq_false_iff_ne.2 h0
    have CP := Lib.hid CP
    clear h0 hE hT
    go_enter Tryd.func5, Tryd.ntmps5
    go_wp2_with fail
    refine CP.out.mono ?_
    rintro e w' ⟨rfl, rfl⟩
    go_wp2_with fail
    refine (CB1.out _ (Below.refl _ _)).mono ?_
    rintro e w2 ⟨rfl, b2⟩
    have HB2 := Lib.hid b2
    clear b2
    go_wp2_with fail
    refine (C1.out _ HB2.out).mono ?_
    rintro e w3 ⟨v, rfl, ho3, b3⟩
    rw [← hR']
    obtain ⟨A3, c3, rfl⟩ := ho3.form
    have HO3 := Lib.hid ho3
    have HB3 := Lib.hid (HB2.out.trans (b3.mono HB2.out.size))
    clear ho3 b3
    go_wp2_with fail
    refine (C2.out _ HB3.out).mono ?_
    rintro e w4 ⟨v, rfl, ho4, b4⟩
    rw [← hR']
    obtain ⟨A4, c4, rfl⟩ := ho4.form
    have CE := Lib.hid (eqI_any (HO3.out.kept b4) ho4 (by have := (HO3.out.kept b4); rcases this.2 with ⟨_, h⟩ | ⟨g, cap, cur, _, _, _, h1, h2, _⟩ <;> unfold maxLen at * <;> omega))
    have HB4 := Lib.hid (HB3.out.trans (b4.mono HB3.out.size))
    clear ho4 b4 hR'
    go_wp2_with fail
    refine CE.out.mono ?_
    rintro e w5 ⟨rfl, q, hq⟩
    have HB5 : Hid (Below w.heap.size w w5) := by show Below _ _ _; rw [hq]; exact below_drewN HB4.out q
    clear hq CE
    go_wp2_with fail
    go_ret
    exact ⟨rfl, HB5.out⟩

theorem own : ownKnob Tryd.prog.godebug = none := by kernel_rfl
set_option maxRecDepth 100000 in
theorem contract (H : Type) (enc : TypeId × Value → H) (W : World) (base : Nat) (args : Array Value) (ds gs : List (DataW H)) (before : List MemPlace)
    (hval : ∀ (j : Nat) t v, Tryd.f5.params[j]? = some t → args[j]? = some v → Value.okWide Tryd.prog W .any base t v)
    (hW : DataW.Whole enc Tryd.prog Tryd.f5.params.toList Rows.pipeReadsSpec.vars false W args.toList ds gs before) (hk : Rows.uptoSmall H (ds ++ gs) = true) (hm : ∃ m, W.cell? ⟨1, 0, none⟩ = some (.int .i64 m)) (hP : PW W) :
    Calls Tryd.prog 5 args W fun e W' => ∃ v, e = .returned v ∧ Rows.pipeReadsSpec.post enc Tryd.prog Tryd.f5 false true false false W args v W' := by
  have hW' := hW
  obtain ⟨p, q, hA0, hV, rfl, hfz, hnd⟩ := hW
  have hA : DataW.TrodAll enc Tryd.prog W 0 (fun _ => true) true Tryd.f5.params.toList args.toList ds p := hA0
  rw [Tryd.params5] at hA hval
  obtain ⟨v0, vs0, d0, ds0, p0, q0, hargs, rfl, rfl, h0, r0⟩ := trodAll_cons hA
  obtain ⟨v1, vs1, d1, ds1, p1, q1, rfl, rfl, rfl, h1, r1⟩ := trodAll_cons r0
  obtain ⟨rfl, rfl, rfl⟩ := trodAll_nil r1
  obtain rfl : args = #[v0, v1] := by cases args; simp_all
  obtain ⟨rfl, rfl⟩ := trodVars_none hV
  obtain ⟨A, cap, zs, rfl, hzl, hR, hz⟩ := open_intsV (hval 0 43 v0 rfl rfl) h0
  obtain ⟨a1, rfl, rfl, rfl, w1⟩ := open_string Tryd.underlying9 (hval 1 9 v1 rfl rfl) h1
  clear hA0
  simp only [List.append_nil] at hk
  have hb : Rows.uptoBulkAll (H := H) [d0, .lit (.string a1.data.toList)] ≤ 1048576 := of_decide_eq_true hk
  simp only [Rows.uptoBulkAll, Rows.uptoBulk, lst_len] at hb
  refine (walk zs a1 A cap W hzl hR (by omega) hP hm).mono fun e W' ⟨he, hg⟩ => ?_
  subst he
  exact ⟨_, rfl, post_true 4 Tryd.underlying4 (by kernel_rfl) (by kernel_rfl) (by kernel_rfl) rfl rfl hW' hg⟩

/-- a table laid -/
def layObj (cs : Array Value) : Obj → Obj
  | .cells _ t frozen => .cells cs t frozen
  | o => o
def layIn (w : World) (b : Nat) (cs : Array Value) : World := { w with heap := w.heap.modify b (layObj cs) }
/-- a world for the witness: the two tables of unicode/utf8 as they are laid -/
noncomputable def laidWorld (os : Os) : World :=
  layIn (layIn (layIn (World.holding Tryd.prog os ⟨#[], #[], []⟩) 4 (([128, 191, 160, 191, 128, 159, 144, 191, 128, 143] ++ List.replicate 22 0).map fun n : Nat => Value.int .u8 (n : Int)).toArray)
    0 (pwL.map fun s => Value.string (str s)).toArray)
    3 (Go.Pinned.utf8FirstZ.map fun n : Nat => Value.int .u8 (n : Int)).toArray
theorem laid_met (os : Os) : laidMet Tryd.prog Rows.pipeReadsUptoRow.laid ((laidWorld os).forCall (fun _ _ => 0) ⟨#[], #[.slice none 0 0, .string ByteArray.empty], []⟩).memory :=
  laidMet_of_run' 8 (by kernel_rfl) (by kernel_rfl)
theorem reads (os : Os) {H : Type} (enc : TypeId × Value → H) : ∃ places, DataW.whole enc Tryd.prog ((laidWorld os).forCall (fun _ _ => 0) ⟨#[], #[.slice none 0 0, .string ByteArray.empty], []⟩).memory Tryd.f5.params.toList Rows.pipeReadsSpec.vars false #[Value.slice none 0 0, Value.string ByteArray.empty].toList 8 = some ([.nil, .lit (.string [])], [], places) :=
  ⟨[], by kernel_rfl⟩

set_option maxRecDepth 100000 in
theorem lifted (os : Os) (started : os.Started) (H : Type) (enc : TypeId × Value → H) (F : Stop.Interp) :
    ReturnsInHanded {} Tryd.checked os 5 .any ((Rows.OpenSpec.upto Rows.pipeReadsSpec).preRow enc Tryd.prog Tryd.f5 Rows.pipeReadsUptoRow.domain false Rows.pipeReadsUptoRow.laid) (((Rows.OpenSpec.upto Rows.pipeReadsSpec).at F).post enc Tryd.prog Tryd.f5 false true false false) := by
  obtain ⟨places, hx⟩ := reads os enc
  refine returnsInHanded_of_row (C := Tryd.checked) (s := Rows.OpenSpec.upto Rows.pipeReadsSpec) own started (by kernel_rfl) Tryd.func5
    (witness_row_at (enc := enc) (C := Tryd.checked) false (laidWorld os) #[.slice none 0 0, .string ByteArray.empty] rfl (by kernel_rfl) (by kernel_rfl) (by kernel_rfl)
      (OpenSpec.preRow_of_cond 8 hx (by kernel_rfl) (fun k hk => by cases hk; kernel_rfl) (by kernel_rfl) (laid_met os))) ?_
  intro W base args ds gs before hval hW _ hcond _ hlaid hsh _
  exact contract H enc W base args ds gs before hval hW (hcond _ rfl) (cell_of_shapedOpen_int (zero := #[.int .i64 0]) (t := 3) hsh (of_decide_eq_true (by kernel_rfl)) (by kernel_rfl) rfl (by kernel_rfl) (by kernel_rfl) Tryd.underlying3) (pw_of_laid hlaid)

theorem saidUpto : Rows.PipeReadsUptoSaid :=
  OpenClaim.holds_of_cond 5 Tryd.f5 rfl rfl rfl rfl rfl rfl rfl ⟨rfl, rfl, rfl, rfl, rfl⟩ rfl rfl rfl rfl rfl (by kernel_rfl) Tryd.func5 (by kernel_rfl)
    (of_decide_eq_true (by kernel_rfl)) (by unfold Func.isWrapper; first | (rw [if_pos (by decide +kernel)]; kernel_rfl) | (rw [if_neg (by decide +kernel)]; exact ⟨rfl, rfl⟩))
    (fun os started H enc _ F => by rw [OpenClaim.pre_eq_preRow]; exact lifted os started H enc F)

/-- No parameter wants a stand-in; the program's own looks are off: what the card asks. -/
theorem plain (f : FuncId) (fn : Func) (hf : Tryd.pinned.checked.prog.funcNamed "gatewicket/wicklaw.PipeReads" = some f) (hfn : Tryd.pinned.checked.prog.funcs[f]? = some fn) :
    false = Tryd.pinned.checked.prog.looks [] ∧ ∀ (j : Nat) t, fn.params[j]? = some t → Tryd.pinned.checked.prog.wantsStandIn t = false := by
  obtain rfl : f = 5 := Option.some.inj ((show Tryd.prog.funcNamed "gatewicket/wicklaw.PipeReads" = some 5 by kernel_rfl).symm.trans hf) |>.symm
  obtain rfl : fn = Tryd.f5 := (Option.some.inj (Tryd.func5.symm.trans hfn)).symm
  refine ⟨by kernel_rfl, fun j t ht => ?_⟩
  rw [Tryd.params5] at ht
  have ht2 : t = 43 ∨ t = 9 := by simpa using Array.mem_of_getElem? ht
  rcases ht2 with rfl | rfl
  · exact (show Tryd.prog.wantsStandIn 43 = false by kernel_rfl)
  · exact (show Tryd.prog.wantsStandIn 9 = false by kernel_rfl)

theorem card : Rows.PipeReadsUptoCardSaid :=
  Claim7.holds_tied_plain_at .later [] _ _ _ _ saidUpto (fun _ h => by cases h) (by kernel_rfl) (fun _ h => by cases h) pipeReadsUpto_row_tie rfl ⟨rfl, rfl⟩ (by kernel_rfl) rfl plain (by kernel_rfl)
#print axioms card
end Go.Proofs.YthnbhpchemjioaaDoor.lawPip
