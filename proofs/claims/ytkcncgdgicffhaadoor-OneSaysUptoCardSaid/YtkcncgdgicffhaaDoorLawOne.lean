/- wicklaw.OneSays: for all strings and bounds of bulk at most 1048576 one.Check and one.One return what the reference returns; the card. Condition: that bulk. -/
import Derived.Test.YtkcncgdgicffhaaDoorCards
import Derived.Test.YtkcncgdgicffhaaDoorTie
import Derived.Test.YtkcncgdgicffhaaDoorGb
import Derived.Test.YtkcncgdgicffhaaDoorGd
import Derived.Test.YtkcncgdgicffhaaDoorGaw
import Derived.Deep.DeepHandedRow
import Derived.Lib.LaidTab
import Derived.Lib.SmallJoins
import Derived.WideShapes
namespace Go.Proofs.YtkcncgdgicffhaaDoor.lawOne
open Go.ChangeShapes Go.WideShapes Go.ChangeAt Go.RowKit Go.Joins
open Go.ChangeMaps (open_string shut_string)
set_option linter.unusedVariables false
set_option linter.unusedSimpArgs false

set_option maxRecDepth 100000 in
/-- bounds that came in -/
theorem open_bounds {Hh : Type} {enc : TypeId × Value → Hh} {W : World} {v : Value} {d : DataW Hh} {p : List MemPlace} {base : Nat}
    (hv : Value.okWide Tryd.prog W .any base 43 v) (h : DataW.Trod enc Tryd.prog W 0 (fun _ => true) true 43 v d p) :
    ∃ H B A : Int, v = .agg #[.int .i64 H, .int .i64 B, .int .i64 A] := by
  obtain ⟨v0, v1, v2, y0, y1, y2, n, rfl, rfl, _, h0, h1, h2⟩ := open_agg3 Tryd.underlying43 (by kernel_rfl) (by kernel_rfl) hv h
  obtain ⟨H, e0, _⟩ := DataW.trod_int Tryd.underlying3 h0
  obtain ⟨B, e1, _⟩ := DataW.trod_int Tryd.underlying3 h1
  obtain ⟨A, e2, _⟩ := DataW.trod_int Tryd.underlying3 h2
  simp only [List.cons.injEq, and_true] at e0 e1 e2
  subst e0; subst e1; subst e2
  exact ⟨H, B, A, rfl⟩

/-- how long the fields are of what is read -/
theorem req_len (s : ByteArray) (H B : Int) : (reqR s H B).2.1.fs.length ≤ 30 := by
  have hz : zHd.fs.length ≤ 30 := Nat.zero_le 30
  unfold reqR
  split
  · exact hz
  · split
    · exact hz
    · dsimp only
      split
      · exact hz
      · exact rhR_len _

/-- the bounds' box -/
structure Bx (w wr : World) (H B A : Int) : Prop where
  bx : Blk wr w.heap.size 43 #[.int .i64 H, .int .i64 B, .int .i64 A]
  be : Below w.heap.size w wr
section
variable {w wr wr' : World} {H B A : Int}
theorem Bx.start : Bx w (w.alloc (.cells #[.int .i64 H, .int .i64 B, .int .i64 A] 43)) H B A := ⟨Blk.new _ _ _, (Below.refl _ _).alloc (Nat.le_refl _) _⟩
theorem Bx.step (h : Bx w wr H B A) (hb : Below wr.heap.size wr wr') : Bx w wr' H B A := ⟨h.bx.below hb h.bx.lt, h.be.trans (hb.mono h.be.size)⟩
theorem Bx.alloc (h : Bx w wr H B A) (o : Obj) : Bx w (wr.alloc o) H B A := h.step ((Below.refl _ _).alloc (Nat.le_refl _) _)
theorem Bx.facts (h : Bx w wr H B A) : wr.cell? ⟨w.heap.size, 0, none⟩ = some (.int .i64 H) ∧ wr.cell? ⟨w.heap.size, 1, none⟩ = some (.int .i64 B) ∧ wr.cell? ⟨w.heap.size, 2, none⟩ = some (.int .i64 A) := ⟨h.bx.cell 0, h.bx.cell 1, h.bx.cell 2⟩
end
/-- a request's box, made by the call -/
structure Qb (wr : World) (g Bz : Nat) (mm tt : ByteArray) (A1 : Option Addr) (c1 : Nat) (ff : List Fd) (x : ByteArray) : Prop where
  blk : Blk wr g 36 #[.string mm, .string tt, .slice A1 ff.length c1, .string x]
  ho : OP 108 wr Bz (.slice A1 ff.length c1) ff
section
variable {wr wr' : World} {g Bz : Nat} {mm tt : ByteArray} {A1 : Option Addr} {c1 : Nat} {ff : List Fd} {x : ByteArray}
theorem Qb.make (ho : OP 108 wr Bz (.slice A1 ff.length c1) ff) : Qb (wr.alloc (.cells #[.string mm, .string tt, .slice A1 ff.length c1, .string x] 36)) wr.heap.size Bz mm tt A1 c1 ff x := ⟨Blk.new _ _ _, ho.alloc _⟩
theorem Qb.step (h : Qb wr g Bz mm tt A1 c1 ff x) (hb : Below wr.heap.size wr wr') : Qb wr' g Bz mm tt A1 c1 ff x := ⟨h.blk.below hb h.blk.lt, h.ho.kept hb⟩
theorem Qb.facts (h : Qb wr g Bz mm tt A1 c1 ff x) : wr.cell? ⟨g, 0, none⟩ = some (.string mm) ∧ wr.cell? ⟨g, 1, none⟩ = some (.string tt) ∧ wr.cell? ⟨g, 2, none⟩ = some (.slice A1 ff.length c1) ∧ wr.cell? ⟨g, 3, none⟩ = some (.string x) := ⟨h.blk.cell 0, h.blk.cell 1, h.blk.cell 2, h.blk.cell 3⟩
end

set_option maxRecDepth 100000 in
set_option maxHeartbeats 4000000 in
theorem walk (s : ByteArray) (H B A : Int) (w : World) (hs : s.size ≤ 1048576) (hm : ∃ m, w.cell? ⟨1, 0, none⟩ = some (.int .i64 m)) :
    Calls Tryd.prog 5 #[.string s, .agg #[.int .i64 H, .int .i64 B, .int .i64 A]] w fun e w' => e = .returned (.bool true) ∧ Below w.heap.size w w' := by
  obtain ⟨m, hm⟩ := hm
  obtain ⟨W, hW⟩ : ∃ W, w.alloc (.cells #[.int .i64 H, .int .i64 B, .int .i64 A] 43) = W := ⟨_, rfl⟩
  have hX : Bx w W H B A := by rw [← hW]; exact Bx.start
  have hM : ∀ w', Bx w w' H B A → w'.cell? ⟨1, 0, none⟩ = some (.int .i64 m) := fun w' h => (h.be.cell (p := ⟨1, 0, none⟩) (World.block_lt_of_cell? _ _ hm)).trans hm
  have CB := fun w' => bounds_any H B A w'
  have CC := fun w' => check_any H B A w'
  have CO := fun w' (h : Bx w w' H B A) => One_any s H B A m w' hs (hM w' h)
  unfold ReqRes at CO
  obtain ⟨x0, x1, x2⟩ := hX.facts
  have HX := Lib.hid hX
  clear hX hm hM
  rcases bd_cases H B A with hb | ⟨hb, hb1, hb2, hb3, hb4⟩
  · have hR : oneR s H B A = (1, ⟨⟨#[]⟩, ⟨#[]⟩, []⟩, ⟨#[]⟩, 0) := by unfold oneR; rw [hb]; rfl
    rw [hR] at CO
    rw [hb] at CB CC
    have CO := Lib.hid CO
    have CB := Lib.hid CB
    have CC := Lib.hid CC
    clear hb hR
    go_enter Tryd.func5, Tryd.ntmps5
    go_wp2_with fail
    refine (CB.out _).mono ?_
    rintro e w1 ⟨rfl, b1⟩
    have hX1 := HX.out.step b1
    clear b1 x0 x1 x2 HX hW
    obtain ⟨x0, x1, x2⟩ := hX1.facts
    have HX1 := Lib.hid hX1
    clear hX1
    go_wp2_with fail
    refine (CO.out _ HX1.out).mono ?_
    rintro e w2 ⟨v, rfl, ⟨A1, c1, rfl, ho1⟩, b2⟩
    have hX2 := (HX1.out.step b2).alloc (.cells #[.string { data := #[] }, .string { data := #[] }, .slice A1 0 c1, .string { data := #[] }] 36)
    have hQ2 := Qb.make (mm := { data := #[] }) (tt := { data := #[] }) (x := { data := #[] }) ho1
    clear b2 x0 x1 x2 HX1 ho1
    go_upto_region 3 with fail
    obtain ⟨V, hV⟩ : ∃ V, w2.alloc (.cells #[.string { data := #[] }, .string { data := #[] }, .slice A1 0 c1, .string { data := #[] }] 36) = V := ⟨_, rfl⟩
    have hQ3 : Qb V w2.heap.size w1.heap.size { data := #[] } { data := #[] } A1 c1 [] { data := #[] } := by rw [← hV]; exact hQ2
    rw [hV] at hX2 ⊢
    clear hV hQ2
    obtain ⟨x0, x1, x2⟩ := hX2.facts
    have HX2 := Lib.hid hX2
    have HQ3 := Lib.hid hQ3
    clear hX2 hQ3
    go_wp2_with fail
    refine (CC.out _).mono ?_
    rintro e w3 ⟨rfl, b3⟩
    have hX3 := HX2.out.step b3
    have hQ4 := HQ3.out.step b3
    clear b3 x0 x1 x2 HX2 HQ3
    obtain ⟨y0, y1, y2, y3⟩ := hQ4.facts
    have HX3 := Lib.hid hX3
    have CE := Lib.hid (sameReq_any { data := #[] } { data := #[] } { data := #[] } [] A1 none c1 0 _ _ w3 (Nat.zero_le _) hQ4.ho (OP.nil _ _ 0))
    clear hX3 hQ4
    go_wp2_with fail
    refine CE.out.mono ?_
    rintro e w4 ⟨rfl, b4⟩
    have HX4 := Lib.hid (HX3.out.step b4)
    clear b4
    go_wp2_with fail
    go_ret
    exact ⟨rfl, HX4.out.be⟩
  · have hR : oneR s H B A = reqR s H B := by unfold oneR; rw [if_pos hb]
    have CR := fun w' => request_any s H B A w' hs ⟨by omega, by omega⟩ ⟨by omega, by omega⟩
    have hl := req_len s H B
    unfold ReqRes at CR
    rw [hR] at CO
    rw [hb] at CB CC
    obtain ⟨E, h, x, n, hRR⟩ : ∃ E h x n, reqR s H B = (E, h, x, n) := ⟨_, _, _, _, rfl⟩
    rw [hRR] at CO CR hl
    obtain ⟨mm, tt, ff⟩ := h
    dsimp only at hl
    have CO := Lib.hid CO
    have CR := Lib.hid CR
    have CB := Lib.hid CB
    have CC := Lib.hid CC
    clear hb hR hRR
    go_enter Tryd.func5, Tryd.ntmps5
    go_wp2_with fail
    refine (CB.out _).mono ?_
    rintro e w1 ⟨rfl, b1⟩
    have hX1 := HX.out.step b1
    clear b1 x0 x1 x2 HX hW
    obtain ⟨x0, x1, x2⟩ := hX1.facts
    have HX1 := Lib.hid hX1
    clear hX1
    go_wp2_with fail
    refine (CO.out _ HX1.out).mono ?_
    rintro e w2 ⟨v, rfl, ⟨A1, c1, rfl, ho1⟩, b2⟩
    have hX2 := (HX1.out.step b2).alloc (.cells #[.string mm, .string tt, .slice A1 ff.length c1, .string x] 36)
    have hQ2 : Qb _ _ _ _ _ _ _ ff _ := Qb.make (mm := mm) (tt := tt) (x := x) ho1
    clear b2 x0 x1 x2 HX1 ho1
    go_upto_region 3 with fail
    obtain ⟨V, hV⟩ : ∃ V, w2.alloc (.cells #[.string mm, .string tt, .slice A1 ff.length c1, .string x] 36) = V := ⟨_, rfl⟩
    have hQ3 : Qb V w2.heap.size w1.heap.size mm tt A1 c1 ff x := by rw [← hV]; exact hQ2
    rw [hV] at hX2 ⊢
    clear hV hQ2
    obtain ⟨x0, x1, x2⟩ := hX2.facts
    have HX2 := Lib.hid hX2
    have HQ3 := Lib.hid hQ3
    clear hX2 hQ3
    go_wp2_with fail
    refine (CC.out _).mono ?_
    rintro e w3 ⟨rfl, b3⟩
    have hX3 := HX2.out.step b3
    have hQ4 := HQ3.out.step b3
    clear b3 x0 x1 x2 HX2 HQ3
    obtain ⟨x0, x1, x2⟩ := hX3.facts
    have HX3 := Lib.hid hX3
    have HQ4 := Lib.hid hQ4
    clear hX3 hQ4
    go_wp2_with fail
    refine (CR.out _).mono ?_
    rintro e w4 ⟨v, rfl, ⟨A2, c2, rfl, ho2⟩, b4⟩
    have hal := (Below.refl w4.heap.size w4).alloc (Nat.le_refl _) (.cells #[.string mm, .string tt, .slice A2 ff.length c2, .string x] 36)
    have hX5 := (HX3.out.step b4).step hal
    have hQ5 := (HQ4.out.step b4).step hal
    have hP5 : Qb _ _ _ _ _ _ _ ff _ := Qb.make (mm := mm) (tt := tt) (x := x) ho2
    clear b4 x0 x1 x2 HX3 HQ4 ho2 hal
    go_upto_region 8 with fail
    obtain ⟨U, hU⟩ : ∃ U, w4.alloc (.cells #[.string mm, .string tt, .slice A2 ff.length c2, .string x] 36) = U := ⟨_, rfl⟩
    have hP6 : Qb U w4.heap.size w3.heap.size mm tt A2 c2 ff x := by rw [← hU]; exact hP5
    rw [hU] at hX5 hQ5 ⊢
    clear hU hP5
    obtain ⟨y0, y1, y2, y3⟩ := hQ5.facts
    obtain ⟨z0, z1, z2, z3⟩ := hP6.facts
    have CE := Lib.hid (sameReq_any mm tt x ff A1 A2 c1 c2 _ _ U (by omega) hQ5.ho hP6.ho)
    have HX5 := Lib.hid hX5
    have en : ((n : Int) == (n : Int)) = true := by simp
    have ee : (E == E) = true := by simp
    clear hX5 hQ5 hP6
    go_wp2_with fail
    refine CE.out.mono ?_
    rintro e w6 ⟨rfl, b6⟩
    have HX6 := Lib.hid (HX5.out.step b6)
    clear b6
    go_wp2_with fail
    go_ret
    exact ⟨rfl, HX6.out.be⟩

theorem own : ownKnob Tryd.prog.godebug = none := by kernel_rfl
set_option maxRecDepth 100000 in
theorem contract (H : Type) (enc : TypeId × Value → H) (W : World) (base : Nat) (args : Array Value) (ds gs : List (DataW H)) (before : List MemPlace)
    (hval : ∀ (j : Nat) t v, Tryd.f5.params[j]? = some t → args[j]? = some v → Value.okWide Tryd.prog W .any base t v)
    (hW : DataW.Whole enc Tryd.prog Tryd.f5.params.toList Rows.oneSaysSpec.vars false W args.toList ds gs before) (hk : Rows.uptoSmall H (ds ++ gs) = true) (hm : ∃ m, W.cell? ⟨1, 0, none⟩ = some (.int .i64 m)) :
    Calls Tryd.prog 5 args W fun e W' => ∃ v, e = .returned v ∧ Rows.oneSaysSpec.post enc Tryd.prog Tryd.f5 false true false false W args v W' := by
  have hW' := hW
  obtain ⟨p, q, hA0, hV, rfl, hfz, hnd⟩ := hW
  have hA : DataW.TrodAll enc Tryd.prog W 0 (fun _ => true) true Tryd.f5.params.toList args.toList ds p := hA0
  rw [Tryd.params5] at hA hval
  obtain ⟨v0, vs0, d0, ds0, p0, q0, hargs, rfl, rfl, h0, r0⟩ := trodAll_cons hA
  obtain ⟨v1, vs1, d1, ds1, p1, q1, rfl, rfl, rfl, h1, r1⟩ := trodAll_cons r0
  obtain ⟨rfl, rfl, rfl⟩ := trodAll_nil r1
  obtain rfl : args = #[v0, v1] := by cases args; simp_all
  obtain ⟨rfl, rfl⟩ := trodVars_none hV
  clear hA0
  simp only [List.append_nil] at hk
  have hb : Rows.uptoBulkAll (H := H) [d0, d1] ≤ 1048576 := of_decide_eq_true hk
  simp only [Rows.uptoBulkAll] at hb
  obtain ⟨s, rfl, rfl, rfl, w0⟩ := open_string Tryd.underlying9 (hval 0 9 v0 rfl rfl) h0
  obtain ⟨Hh, Bb, Aa, rfl⟩ := open_bounds (hval 1 43 v1 rfl rfl) h1
  simp only [Rows.uptoBulk, lst_len] at hb
  refine (walk s Hh Bb Aa W (by omega) hm).mono fun e W' ⟨he, hg⟩ => ?_
  subst he
  exact ⟨_, rfl, post_true 4 Tryd.underlying4 (by kernel_rfl) (by kernel_rfl) (by kernel_rfl) rfl rfl hW' hg⟩

/-- a table laid -/
def layObj (cs : Array Value) : Obj → Obj
  | .cells _ t frozen => .cells cs t frozen
  | o => o
def layIn (w : World) (b : Nat) (cs : Array Value) : World := { w with heap := w.heap.modify b (layObj cs) }
/-- a world for the witness: the tables as they are laid -/
noncomputable def laidWorld (os : Os) : World :=
  layIn (layIn (World.holding Tryd.prog os ⟨#[], #[], []⟩) 5 (([128, 191, 160, 191, 128, 159, 144, 191, 128, 143] ++ List.replicate 22 0).map fun n : Nat => Value.int .u8 (n : Int)).toArray) 4 (Go.Pinned.utf8FirstZ.map fun n : Nat => Value.int .u8 (n : Int)).toArray
theorem laid_met (os : Os) : laidMet Tryd.prog Rows.oneSaysUptoRow.laid ((laidWorld os).forCall (fun _ _ => 0) ⟨#[], #[.string ByteArray.empty, .agg #[.int .i64 0, .int .i64 0, .int .i64 0]], []⟩).memory :=
  laidMet_of_run' 8 (by kernel_rfl) (by kernel_rfl)
theorem reads (os : Os) {H : Type} (enc : TypeId × Value → H) : ∃ places, DataW.whole enc Tryd.prog ((laidWorld os).forCall (fun _ _ => 0) ⟨#[], #[.string ByteArray.empty, .agg #[.int .i64 0, .int .i64 0, .int .i64 0]], []⟩).memory Tryd.f5.params.toList Rows.oneSaysSpec.vars false #[Value.string ByteArray.empty, .agg #[.int .i64 0, .int .i64 0, .int .i64 0]].toList 8 = some ([.lit (.string []), .agg [.lit (.int .i64 0), .lit (.int .i64 0), .lit (.int .i64 0)]], [], places) :=
  ⟨[], by kernel_rfl⟩

set_option maxRecDepth 100000 in
theorem lifted (os : Os) (started : os.Started) (H : Type) (enc : TypeId × Value → H) (F : Stop.Interp) :
    ReturnsInHanded {} Tryd.checked os 5 .any ((Rows.OpenSpec.upto Rows.oneSaysSpec).preRow enc Tryd.prog Tryd.f5 Rows.oneSaysUptoRow.domain false Rows.oneSaysUptoRow.laid) (((Rows.OpenSpec.upto Rows.oneSaysSpec).at F).post enc Tryd.prog Tryd.f5 false true false false) := by
  obtain ⟨places, hx⟩ := reads os enc
  refine returnsInHanded_of_row (C := Tryd.checked) (s := Rows.OpenSpec.upto Rows.oneSaysSpec) own started (by kernel_rfl) Tryd.func5
    (witness_row_at (enc := enc) (C := Tryd.checked) false (laidWorld os) #[.string ByteArray.empty, .agg #[.int .i64 0, .int .i64 0, .int .i64 0]] rfl (by kernel_rfl) (by kernel_rfl) (by kernel_rfl)
      (OpenSpec.preRow_of_cond 8 hx (by kernel_rfl) (fun k hk => by cases hk; kernel_rfl) (by kernel_rfl) (laid_met os))) ?_
  intro W base args ds gs before hval hW _ hcond _ hlaid hsh _
  exact contract H enc W base args ds gs before hval hW (hcond _ rfl) (cell_of_shapedOpen_int (zero := #[.int .i64 0]) (t := 3) hsh (of_decide_eq_true (by kernel_rfl)) (by kernel_rfl) rfl (by kernel_rfl) (by kernel_rfl) Tryd.underlying3)

theorem saidUpto : Rows.OneSaysUptoSaid :=
  OpenClaim.holds_of_cond 5 Tryd.f5 rfl rfl rfl rfl rfl rfl rfl ⟨rfl, rfl, rfl, rfl, rfl⟩ rfl rfl rfl rfl rfl (by kernel_rfl) Tryd.func5 (by kernel_rfl)
    (of_decide_eq_true (by kernel_rfl)) (by unfold Func.isWrapper; first | (rw [if_pos (by decide +kernel)]; kernel_rfl) | (rw [if_neg (by decide +kernel)]; exact ⟨rfl, rfl⟩))
    (fun os started H enc _ F => by rw [OpenClaim.pre_eq_preRow]; exact lifted os started H enc F)

/-- No parameter wants a stand-in; the program's own looks are off: what the card asks. -/
theorem plain (f : FuncId) (fn : Func) (hf : Tryd.pinned.checked.prog.funcNamed "gatewicket/wicklaw.OneSays" = some f) (hfn : Tryd.pinned.checked.prog.funcs[f]? = some fn) :
    false = Tryd.pinned.checked.prog.looks [] ∧ ∀ (j : Nat) t, fn.params[j]? = some t → Tryd.pinned.checked.prog.wantsStandIn t = false := by
  obtain rfl : f = 5 := Option.some.inj ((show Tryd.prog.funcNamed "gatewicket/wicklaw.OneSays" = some 5 by kernel_rfl).symm.trans hf) |>.symm
  obtain rfl : fn = Tryd.f5 := (Option.some.inj (Tryd.func5.symm.trans hfn)).symm
  refine ⟨by kernel_rfl, fun j t ht => ?_⟩
  rw [Tryd.params5] at ht
  have ht2 : t = 9 ∨ t = 43 := by
    have := Array.mem_of_getElem? ht
    simp at this; (first | exact this | (rcases this with h | h <;> simp [h]))
  rcases ht2 with rfl | rfl
  · exact (show Tryd.prog.wantsStandIn 9 = false by kernel_rfl)
  · exact (show Tryd.prog.wantsStandIn 43 = false by kernel_rfl)

theorem card : Rows.OneSaysUptoCardSaid :=
  Claim7.holds_tied_plain_at .later [] _ _ _ _ saidUpto (fun _ h => by cases h) (by kernel_rfl) (fun _ h => by cases h) oneSaysUpto_row_tie rfl ⟨rfl, rfl⟩ (by kernel_rfl) rfl plain (by kernel_rfl)
#print axioms card
end Go.Proofs.YtkcncgdgicffhaaDoor.lawOne
