/- wicklaw.FrameSays: for all heads, strings, bounds and lists of sizes of bulk at most 1048576 frame.Of, frame.Chunks and frame.Chunked return what the reference returns; the card. Condition: that bulk. -/
import Derived.Test.YtkcncgdgicffhaaDoorCards
import Derived.Test.YtkcncgdgicffhaaDoorTie
import Derived.Test.YtkcncgdgicffhaaDoorGb
import Derived.Test.YtkcncgdgicffhaaDoorGd
import Derived.Test.YtkcncgdgicffhaaDoorGv
import Derived.Test.YtkcncgdgicffhaaDoorGad
import Derived.Test.YtkcncgdgicffhaaDoorGak
import Derived.Test.YtkcncgdgicffhaaDoorGau
import Derived.Test.YtkcncgdgicffhaaDoorGaw
import Derived.Test.YtkcncgdgicffhaaDoorGav
import Derived.Deep.DeepHandedRow
import Derived.Lib.LaidTab
import Derived.Lib.SmallJoins
import Derived.WideShapes
namespace Go.Proofs.YtkcncgdgicffhaaDoor.lawFra
open Go.ChangeShapes Go.WideShapes Go.ChangeAt Go.RowKit Go.Joins
open Go.ChangeMaps (open_string shut_string)
set_option linter.unusedVariables false
set_option linter.unusedSimpArgs false

theorem i64_range {n : Int} (h : (Lit.int .i64 n).wf = true) : -9223372036854775808 ≤ n ∧ n ≤ 9223372036854775807 := by
  simpa [Lit.wf, IntKind.min, IntKind.max, IntKind.signed, IntKind.bits] using h
set_option maxRecDepth 100000 in
/-- numbers that came in, with their bulk -/
theorem open_intsL {H : Type} {enc : TypeId × Value → H} {W : World} {v : Value} {d : DataW H} {p : List MemPlace} {base : Nat}
    (hv : Value.okWide Tryd.prog W .any base 25 v) (h : DataW.Trod enc Tryd.prog W 0 (fun _ => true) true 25 v d p) (hb : Rows.uptoBulk d ≤ 1048576) :
    ∃ (A : Option Addr) (cap : Nat) (ns : List Int), v = .slice A ns.length cap ∧ ns.length ≤ cap ∧ cap ≤ 9223372036854775807 ∧ Reads W W.heap.size 1 A ns.length (ns.map (Value.int .i64)) ∧ ns.length ≤ 1048576 := by
  obtain ⟨a0, len, cap, rfl⟩ := okWide_slice Tryd.underlying25 hv
  obtain ⟨fuel, hf⟩ := h
  have hf2 : DataW.trod enc Tryd.prog W 0 (fun _ => true) true fuel 25 [.slice a0 len cap] = some (d, p) := by simpa [Value.cells] using hf
  obtain ⟨A, cap', zs, e, h1, h2, h3, h4⟩ := open_intsR hf2
  rcases open_ints Tryd.underlying25 Tryd.underlying3 (by kernel_rfl) hf2 with ⟨e2, e3⟩ | ⟨a, len', cap2, zs2, e2, _, hl2, hm2, hz2, e3, _, _⟩
  · rw [e] at e2
    simp only [List.cons.injEq, and_true, Value.slice.injEq] at e2 e
    unfold maxLen at h2
    refine ⟨A, cap', zs, ?_, by omega, by omega, h3, by omega⟩
    obtain ⟨rfl, rfl, rfl⟩ := e
    rfl
  · injection e3 with e4 e5
    subst e4
    have hlz : zs.length ≤ 1048576 := by
      rw [e] at e2
      simp only [List.cons.injEq, and_true, Value.slice.injEq] at e2
      have hlen := bulk_len (lits (H := H) .i64 (zs2.take len'))
      simp only [Rows.uptoBulk] at hb
      have hll : (lits (H := H) .i64 (zs2.take len')).length = len' := by
        unfold lits
        rw [List.length_map, List.length_take]
        simp at hz2
        omega
      omega
    simp only [List.cons.injEq, and_true, Value.slice.injEq] at e
    unfold maxLen at h2
    refine ⟨A, cap', zs, ?_, by omega, by omega, h3, hlz⟩
    obtain ⟨rfl, rfl, rfl⟩ := e
    rfl
def dbTab : List Int := [0, 1, 56, 2, 57, 49, 28, 3, 61, 58, 42, 50, 38, 29, 17, 4, 62, 47, 59, 36, 45, 43, 51, 22, 53, 39, 33, 30, 24, 18, 12, 5, 63, 55, 48, 27, 60, 41, 37, 16, 46, 35, 44, 21, 52, 32, 23, 11, 54, 26, 40, 15, 34, 20, 31, 10, 25, 14, 19, 9, 13, 8, 7, 6]
theorem tob_of_laid {W : World} (h : laidMetH Tryd.prog Rows.frameSaysUptoRow.laid W) : ToB W := by
  rw [MakeChecks.laidMetH_plain _ _ _ (by kernel_rfl)] at h
  obtain ⟨ps, hv, _, _⟩ := h
  obtain ⟨_, _, _, _, _, _, _, _, _, _, hv2, _⟩ := hv
  obtain ⟨g, t, cs, fuel, p, q, hg, ht, hvar, hd, _, _⟩ := hv2
  obtain rfl : 168 = t := Option.some.inj ((show (Tryd.prog.globals[3]?).map (·.type) = some 168 by kernel_rfl).symm.trans (by rw [show g = 3 from (Option.some.inj ((show Tryd.prog.globalNamed "math/bits.deBruijn64tab" = some 3 by kernel_rfl).symm.trans hg)).symm] at ht; exact ht))
  have h : Lib.TabIs Tryd.prog W "math/bits.deBruijn64tab" .u8 dbTab := by
    show _ = _
    rw [hvar, ← Lib.cells_of_tab Tryd.underlying168 Tryd.underlying5 (by kernel_rfl) (by kernel_rfl) (zs := dbTab) hd]
  exact h.cell (by kernel_rfl) 15 (by decide)

/-- the head's box -/
structure Fx (w : World) (mm tt : ByteArray) (A : Option Addr) (cap : Nat) (fs : List Fd) (wr : World) : Prop where
  hd : Blk wr w.heap.size 24 #[.string mm, .string tt, .slice A fs.length cap]
  fds : FdR wr w.heap.size A cap fs
  be : Below w.heap.size w wr
section
variable {w wr wr' : World} {mm tt : ByteArray} {A : Option Addr} {cap : Nat} {fs : List Fd}
theorem Fx.start (h : FdR w w.heap.size A cap fs) : Fx w mm tt A cap fs (w.alloc (.cells #[.string mm, .string tt, .slice A fs.length cap] 24)) := ⟨Blk.new _ _ _, h.alloc (Nat.le_refl _) _, (Below.refl _ _).alloc (Nat.le_refl _) _⟩
theorem Fx.step (h : Fx w mm tt A cap fs wr) (hb : Below wr.heap.size wr wr') : Fx w mm tt A cap fs wr' := ⟨h.hd.below hb h.hd.lt, h.fds.below (hb.mono h.be.size), h.be.trans (hb.mono h.be.size)⟩
theorem Fx.facts (h : Fx w mm tt A cap fs wr) : wr.cell? ⟨w.heap.size, 0, none⟩ = some (.string mm) ∧ wr.cell? ⟨w.heap.size, 1, none⟩ = some (.string tt) ∧ wr.cell? ⟨w.heap.size, 2, none⟩ = some (.slice A fs.length cap) := ⟨h.hd.cell 0, h.hd.cell 1, h.hd.cell 2⟩
end

set_option maxRecDepth 100000 in
set_option maxHeartbeats 8000000 in
theorem walk (mm tt : ByteArray) (A : Option Addr) (cap : Nat) (fs : List Fd) (s : ByteArray) (most : Int) (A2 : Option Addr) (cap2 : Nat) (ns : List Int) (w : World) (hf : FdR w w.heap.size A cap fs) (hfl : fs.length ≤ 1048576) (hs : s.size ≤ 1048576) (hm : -9223372036854775808 ≤ most ∧ most ≤ 9223372036854775807) (hnl : ns.length ≤ 1048576) (hlc : ns.length ≤ cap2 ∧ cap2 ≤ 9223372036854775807) (hR : Reads w w.heap.size 1 A2 ns.length (ns.map (Value.int .i64))) (hT : ToB w) :
    Calls Tryd.prog 3 #[.agg #[.string mm, .string tt, .slice A fs.length cap], .string s, .int .i64 most, .slice A2 ns.length cap2] w fun e w' => e = .returned (.bool true) ∧ Below w.heap.size w w' := by
  have hg := World.block_lt_of_cell? _ _ hT
  obtain ⟨W, hW⟩ : ∃ W, w.alloc (.cells #[.string mm, .string tt, .slice A fs.length cap] 24) = W := ⟨_, rfl⟩
  have hX : Fx w mm tt A cap fs W := by rw [← hW]; exact Fx.start hf
  have C1 := fun w' (h : Fx w mm tt A cap fs w') => frameOf_any mm tt A cap fs w' (h.fds.more h.be.size) hfl
  have C2 := fun w' (h : Fx w mm tt A cap fs w') => framed_any mm tt A cap fs w' (h.fds.more h.be.size) hfl
  have C3 := fun w' => chunks_any s most w' hs hm
  have C4 := fun w' => rchunks_any s most w' hs hm
  have C5 := fun w' (h : Below w.heap.size w w') => chunked_any s ns A2 cap2 w' hs hnl hlc ((hR.below h).more h.size) (hT.below h hg) (Nat.lt_of_lt_of_le hg h.size)
  have C6 := fun w' (h : Below w.heap.size w w') => rchunked_any s ns A2 cap2 w' hs hnl hlc ((hR.below h).more h.size) (hT.below h hg) (Nat.lt_of_lt_of_le hg h.size)
  unfold FrRes at C1 C2
  unfold ChkRes at C3 C4
  obtain ⟨F, hF⟩ : ∃ F, F = frR (getL fs clB) (getL fs teB) := ⟨_, rfl⟩
  rw [← hF] at C1 C2
  obtain ⟨K, Z, E⟩ := F
  obtain ⟨R, hRR⟩ : ∃ R, R = chkR s.data.toList most := ⟨_, rfl⟩
  rw [← hRR] at C3 C4
  obtain ⟨X, n, E2⟩ := R
  dsimp only at C1 C2 C3 C4
  obtain ⟨x, hx⟩ : ∃ x, x = str X := ⟨_, rfl⟩
  rw [← hx] at C3 C4
  obtain ⟨y, hy⟩ : ∃ y, y = str (chunkedL s.data.toList ns) := ⟨_, rfl⟩
  rw [← hy] at C5 C6
  obtain ⟨x0, x1, x2⟩ := hX.facts
  have HX := Lib.hid hX
  have C1 := Lib.hid C1
  have C2 := Lib.hid C2
  have C3 := Lib.hid C3
  have C4 := Lib.hid C4
  have C5 := Lib.hid C5
  have C6 := Lib.hid C6
  clear hX hf hR hT hF hRR hx hy hg
  go_enter Tryd.func3, Tryd.ntmps3
  go_wp2_with fail
  refine (C1.out _ HX.out).mono ?_
  rintro e w1 ⟨rfl, b1⟩
  have hX1 := (HX.out.step b1).step ((Below.refl w1.heap.size w1).alloc (Nat.le_refl _) (.cells #[.int .i64 K, .int .i64 Z] 27))
  have hY1 := Blk.new w1 27 #[.int .i64 K, .int .i64 Z]
  clear b1 x0 x1 x2 HX hW
  go_upto_region 2 with fail
  obtain ⟨V, hV⟩ : ∃ V, w1.alloc (.cells #[.int .i64 K, .int .i64 Z] 27) = V := ⟨_, rfl⟩
  rw [hV] at hX1 hY1 ⊢
  clear hV
  obtain ⟨x0, x1, x2⟩ := hX1.facts
  have HX1 := Lib.hid hX1
  have HY1 := Lib.hid hY1
  clear hX1 hY1
  go_wp2_with fail
  refine (C2.out _ HX1.out).mono ?_
  rintro e w2 ⟨rfl, b2⟩
  have hal := (Below.refl w2.heap.size w2).alloc (Nat.le_refl _) (.cells #[.int .i64 K, .int .i64 Z] 27)
  have hX2 := (HX1.out.step b2).step hal
  have hY2 := (HY1.out.below b2 HY1.out.lt).alloc (.cells #[.int .i64 K, .int .i64 Z] 27)
  have hZ2 := Blk.new w2 27 #[.int .i64 K, .int .i64 Z]
  clear b2 x0 x1 x2 HX1 HY1 hal
  go_upto_region 3 with fail
  obtain ⟨U, hU⟩ : ∃ U, w2.alloc (.cells #[.int .i64 K, .int .i64 Z] 27) = U := ⟨_, rfl⟩
  rw [hU] at hX2 hY2 hZ2 ⊢
  clear hU
  have HX2 := Lib.hid hX2
  have HY2 := Lib.hid hY2
  have HZ2 := Lib.hid hZ2
  clear hX2 hY2 hZ2
  go_wp2_with fail
  refine (C3.out _).mono ?_
  rintro e w3 ⟨rfl, b3⟩
  have hX3 := HX2.out.step b3
  have hY3 := HY2.out.below b3 HY2.out.lt
  have hZ3 := HZ2.out.below b3 HZ2.out.lt
  have HX3 := Lib.hid hX3
  have HY3 := Lib.hid hY3
  have HZ3 := Lib.hid hZ3
  clear hX3 hY3 hZ3 b3 HX2 HY2 HZ2
  go_wp2_with fail
  refine (C4.out _).mono ?_
  rintro e w4 ⟨rfl, q, hq⟩
  have b4 : Below w3.heap.size w3 w4 := by rw [hq]; exact below_drewN (Below.refl _ _) q
  have hX4 := HX3.out.step b4
  have hY4 := HY3.out.below b4 HY3.out.lt
  have hZ4 := HZ3.out.below b4 HZ3.out.lt
  have y0 := hY4.cell 0
  have y1 := hY4.cell 1
  have z0 := hZ4.cell 0
  have z1 := hZ4.cell 1
  have HX4 := Lib.hid hX4
  have ek : (K == K) = true := by simp
  have ez : (Z == Z) = true := by simp
  have ee : (E == E) = true := by simp
  have ee2 : (E2 == E2) = true := by simp
  have en : ((n : Int) == (n : Int)) = true := by simp
  have ex : (x.toList == x.toList) = true := by simp
  have ey : (y.toList == y.toList) = true := by simp
  clear hX4 hY4 hZ4 b4 HX3 HY3 HZ3 hq
  go_wp2_with fail
  refine (C5.out _ HX4.out.be).mono ?_
  rintro e w5 ⟨rfl, b5⟩
  have HX5 := Lib.hid (HX4.out.step b5)
  clear b5
  go_wp2_with fail
  refine (C6.out _ HX5.out.be).mono ?_
  rintro e w6 ⟨rfl, b6⟩
  have HX6 := Lib.hid (HX5.out.step b6)
  clear b6
  go_wp2_with fail
  go_ret
  exact ⟨rfl, HX6.out.be⟩

theorem own : ownKnob Tryd.prog.godebug = none := by kernel_rfl
set_option maxRecDepth 100000 in
theorem contract (H : Type) (enc : TypeId × Value → H) (W : World) (base : Nat) (args : Array Value) (ds gs : List (DataW H)) (before : List MemPlace)
    (hval : ∀ (j : Nat) t v, Tryd.f3.params[j]? = some t → args[j]? = some v → Value.okWide Tryd.prog W .any base t v)
    (hW : DataW.Whole enc Tryd.prog Tryd.f3.params.toList Rows.frameSaysSpec.vars false W args.toList ds gs before) (hk : Rows.uptoSmall H (ds ++ gs) = true) (hT : ToB W) :
    Calls Tryd.prog 3 args W fun e W' => ∃ v, e = .returned v ∧ Rows.frameSaysSpec.post enc Tryd.prog Tryd.f3 false true false false W args v W' := by
  have hW' := hW
  obtain ⟨p, q, hA0, hV, rfl, hfz, hnd⟩ := hW
  have hA : DataW.TrodAll enc Tryd.prog W 0 (fun _ => true) true Tryd.f3.params.toList args.toList ds p := hA0
  rw [Tryd.params3] at hA hval
  obtain ⟨v0, vs0, d0, ds0, p0, q0, hargs, rfl, rfl, h0, r0⟩ := trodAll_cons hA
  obtain ⟨v1, vs1, d1, ds1, p1, q1, rfl, rfl, rfl, h1, r1⟩ := trodAll_cons r0
  obtain ⟨v2, vs2, d2, ds2, p2, q2, rfl, rfl, rfl, h2, r2⟩ := trodAll_cons r1
  obtain ⟨v3, vs3, d3, ds3, p3, q3, rfl, rfl, rfl, h3, r3⟩ := trodAll_cons r2
  obtain ⟨rfl, rfl, rfl⟩ := trodAll_nil r3
  obtain rfl : args = #[v0, v1, v2, v3] := by cases args; simp_all
  obtain ⟨rfl, rfl⟩ := trodVars_none hV
  clear hA0
  simp only [List.append_nil] at hk
  have hb : Rows.uptoBulkAll (H := H) [d0, d1, d2, d3] ≤ 1048576 := of_decide_eq_true hk
  simp only [Rows.uptoBulkAll] at hb
  have hb0 : Rows.uptoBulk d0 ≤ 1048576 := by omega
  obtain ⟨mm, tt, A, cap, fs, rfl, hmz, htz, hf, hfl⟩ := open_head (hval 0 24 v0 rfl rfl) h0 hb0
  obtain ⟨s, rfl, rfl, rfl, w1⟩ := open_string Tryd.underlying9 (hval 1 9 v1 rfl rfl) h1
  obtain ⟨most, rfl, rfl, rfl, w2⟩ := open_int Tryd.underlying3 (hval 2 3 v2 rfl rfl) h2
  obtain ⟨A2, cap2, ns, rfl, hlc, hcm, hR, hnl⟩ := open_intsL (hval 3 25 v3 rfl rfl) h3 (by omega)
  simp only [Rows.uptoBulk, lst_len] at hb
  have hmr := i64_range w2
  refine (walk mm tt A cap fs s most A2 cap2 ns W hf hfl (by omega) hmr hnl ⟨hlc, hcm⟩ hR hT).mono fun e W' ⟨he, hg⟩ => ?_
  subst he
  exact ⟨_, rfl, post_true 4 Tryd.underlying4 (by kernel_rfl) (by kernel_rfl) (by kernel_rfl) rfl rfl hW' hg⟩

/-- a table laid -/
def layObj (cs : Array Value) : Obj → Obj
  | .cells _ t frozen => .cells cs t frozen
  | o => o
def layIn (w : World) (b : Nat) (cs : Array Value) : World := { w with heap := w.heap.modify b (layObj cs) }
/-- a world for the witness: the tables as they are laid -/
noncomputable def laidWorld (os : Os) : World :=
  layIn (layIn (layIn (World.holding Tryd.prog os ⟨#[], #[], []⟩) 0 ([1, 10, 100, 1000, 10000, 100000, 1000000, 10000000, 100000000, 1000000000, 10000000000, 100000000000, 1000000000000, 10000000000000, 100000000000000, 1000000000000000, 10000000000000000, 100000000000000000, 1000000000000000000, 10000000000000000000].map fun n : Nat => Value.int .u64 (n : Int)).toArray) 3 ([0, 1, 56, 2, 57, 49, 28, 3, 61, 58, 42, 50, 38, 29, 17, 4, 62, 47, 59, 36, 45, 43, 51, 22, 53, 39, 33, 30, 24, 18, 12, 5, 63, 55, 48, 27, 60, 41, 37, 16, 46, 35, 44, 21, 52, 32, 23, 11, 54, 26, 40, 15, 34, 20, 31, 10, 25, 14, 19, 9, 13, 8, 7, 6].map fun n : Nat => Value.int .u8 (n : Int)).toArray) 2 ([0, 1, 28, 2, 29, 14, 24, 3, 30, 22, 20, 15, 25, 17, 4, 8, 31, 27, 13, 23, 21, 19, 16, 7, 26, 12, 18, 6, 11, 5, 10, 9].map fun n : Nat => Value.int .u8 (n : Int)).toArray
theorem laid_met (os : Os) : laidMet Tryd.prog Rows.frameSaysUptoRow.laid ((laidWorld os).forCall (fun _ _ => 0) ⟨#[], #[.agg #[.string ByteArray.empty, .string ByteArray.empty, .slice none 0 0], .string ByteArray.empty, .int .i64 0, .slice none 0 0], []⟩).memory :=
  laidMet_of_run' 8 (by kernel_rfl) (by kernel_rfl)
theorem reads (os : Os) {H : Type} (enc : TypeId × Value → H) : ∃ places, DataW.whole enc Tryd.prog ((laidWorld os).forCall (fun _ _ => 0) ⟨#[], #[.agg #[.string ByteArray.empty, .string ByteArray.empty, .slice none 0 0], .string ByteArray.empty, .int .i64 0, .slice none 0 0], []⟩).memory Tryd.f3.params.toList Rows.frameSaysSpec.vars false #[Value.agg #[.string ByteArray.empty, .string ByteArray.empty, .slice none 0 0], .string ByteArray.empty, .int .i64 0, .slice none 0 0].toList 8 = some ([.agg [.lit (.string []), .lit (.string []), .nil], .lit (.string []), .lit (.int .i64 0), .nil], [], places) :=
  ⟨[], by kernel_rfl⟩

set_option maxRecDepth 100000 in
theorem lifted (os : Os) (started : os.Started) (H : Type) (enc : TypeId × Value → H) (F : Stop.Interp) :
    ReturnsInHanded {} Tryd.checked os 3 .any ((Rows.OpenSpec.upto Rows.frameSaysSpec).preRow enc Tryd.prog Tryd.f3 Rows.frameSaysUptoRow.domain false Rows.frameSaysUptoRow.laid) (((Rows.OpenSpec.upto Rows.frameSaysSpec).at F).post enc Tryd.prog Tryd.f3 false true false false) := by
  obtain ⟨places, hx⟩ := reads os enc
  refine returnsInHanded_of_row (C := Tryd.checked) (s := Rows.OpenSpec.upto Rows.frameSaysSpec) own started (by kernel_rfl) Tryd.func3
    (witness_row_at (enc := enc) (C := Tryd.checked) false (laidWorld os) #[.agg #[.string ByteArray.empty, .string ByteArray.empty, .slice none 0 0], .string ByteArray.empty, .int .i64 0, .slice none 0 0] rfl (by kernel_rfl) (by kernel_rfl) (by kernel_rfl)
      (OpenSpec.preRow_of_cond 8 hx (by kernel_rfl) (fun k hk => by cases hk; kernel_rfl) (by kernel_rfl) (laid_met os))) ?_
  intro W base args ds gs before hval hW _ hcond _ hlaid hsh _
  exact contract H enc W base args ds gs before hval hW (hcond _ rfl) (tob_of_laid hlaid)

theorem saidUpto : Rows.FrameSaysUptoSaid :=
  OpenClaim.holds_of_cond 3 Tryd.f3 rfl rfl rfl rfl rfl rfl rfl ⟨rfl, rfl, rfl, rfl, rfl⟩ rfl rfl rfl rfl rfl (by kernel_rfl) Tryd.func3 (by kernel_rfl)
    (of_decide_eq_true (by kernel_rfl)) (by unfold Func.isWrapper; first | (rw [if_pos (by decide +kernel)]; kernel_rfl) | (rw [if_neg (by decide +kernel)]; exact ⟨rfl, rfl⟩))
    (fun os started H enc _ F => by rw [OpenClaim.pre_eq_preRow]; exact lifted os started H enc F)

/-- No parameter wants a stand-in; the program's own looks are off: what the card asks. -/
theorem plain (f : FuncId) (fn : Func) (hf : Tryd.pinned.checked.prog.funcNamed "gatewicket/wicklaw.FrameSays" = some f) (hfn : Tryd.pinned.checked.prog.funcs[f]? = some fn) :
    false = Tryd.pinned.checked.prog.looks [] ∧ ∀ (j : Nat) t, fn.params[j]? = some t → Tryd.pinned.checked.prog.wantsStandIn t = false := by
  obtain rfl : f = 3 := Option.some.inj ((show Tryd.prog.funcNamed "gatewicket/wicklaw.FrameSays" = some 3 by kernel_rfl).symm.trans hf) |>.symm
  obtain rfl : fn = Tryd.f3 := (Option.some.inj (Tryd.func3.symm.trans hfn)).symm
  refine ⟨by kernel_rfl, fun j t ht => ?_⟩
  rw [Tryd.params3] at ht
  have ht2 : t = 24 ∨ t = 9 ∨ t = 3 ∨ t = 25 := by
    have := Array.mem_of_getElem? ht
    simp at this; (first | exact this | (rcases this with h | h | h | h <;> simp [h]))
  rcases ht2 with rfl | rfl | rfl | rfl
  · exact (show Tryd.prog.wantsStandIn 24 = false by kernel_rfl)
  · exact (show Tryd.prog.wantsStandIn 9 = false by kernel_rfl)
  · exact (show Tryd.prog.wantsStandIn 3 = false by kernel_rfl)
  · exact (show Tryd.prog.wantsStandIn 25 = false by kernel_rfl)

theorem card : Rows.FrameSaysUptoCardSaid :=
  Claim7.holds_tied_plain_at .later [] _ _ _ _ saidUpto (fun _ h => by cases h) (by kernel_rfl) (fun _ h => by cases h) frameSaysUpto_row_tie rfl ⟨rfl, rfl⟩ (by kernel_rfl) rfl plain (by kernel_rfl)
#print axioms card
end Go.Proofs.YtkcncgdgicffhaaDoor.lawFra
