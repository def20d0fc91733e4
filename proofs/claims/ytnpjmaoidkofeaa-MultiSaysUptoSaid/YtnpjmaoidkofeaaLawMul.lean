/- wicklaw.MultiSays: for all values, parts and boundaries of bulk at most 1048576 multi.Boundary and multi.Join return what the reference returns. Condition: that bulk. -/
import Derived.Test.YtnpjmaoidkofeaaFrame
import Derived.Test.YtnpjmaoidkofeaaPost
import Derived.Test.YtnpjmaoidkofeaaMulB
import Derived.Test.YtnpjmaoidkofeaaMulD
import Derived.Test.YtnpjmaoidkofeaaPrV
namespace Go.Proofs.Ytnpjmaoidkofeaa.lawMul
open Go.ChangeShapes Go.WideShapes Go.ChangeAt Go.RowKit Go.Joins
open Go.ChangeMaps (open_string shut_string)
set_option linter.unusedVariables false
set_option linter.unusedSimpArgs false

theorem pairArg : ∃ f0 f1, PairT 22 33 9 f0 f1 := ⟨_, _, Try.underlying22, Try.underlying33, Try.underlying9, by kernel_rfl, by kernel_rfl, rfl, by kernel_rfl, rfl, rfl, rfl⟩
set_option maxRecDepth 100000 in
theorem open_args {H : Type} {enc : TypeId × Value → H} {W : World} {v : Value} {d : DataW H} {p : List MemPlace} {base : Nat}
    (hv : Value.okWide Try.prog W .any base 22 v) (h : DataW.Trod enc Try.prog W 0 (fun _ => true) true 22 v d p) (hb : Rows.uptoBulk d ≤ 1048576) :
    ∃ (A : Option Addr) (cap : Nat) (fs : List Fd), v = .slice A fs.length cap ∧ FdR W W.heap.size A cap fs ∧ fs.length ≤ 1048576 := by
  obtain ⟨a0, len, cap, rfl⟩ := okWide_slice Try.underlying22 hv
  obtain ⟨fuel, hf⟩ := h
  have hf2 : DataW.trod enc Try.prog W 0 (fun _ => true) true fuel 22 [.slice a0 len cap] = some (d, p) := by simpa [Value.cells] using hf
  obtain ⟨_, _, hp⟩ := pairArg
  exact open_pairs hp hf2 hb
set_option maxHeartbeats 2000000 in
theorem walk (v b : ByteArray) (fs : List Fd) (A : Option Addr) (cap : Nat) (w : World) (hv : v.size ≤ 1048576) (hb : b.size ≤ 1048576) (hf : FdR w w.heap.size A cap fs) (hm : ∃ m, w.cell? ⟨0, 0, none⟩ = some (.int .i64 m)) :
    Calls Try.prog 3 #[.string v, .slice A fs.length cap, .string b] w fun e w' => e = .returned (.bool true) ∧ Below w.heap.size w w' := by
  obtain ⟨m, hm⟩ := hm
  have hmb := World.block_lt_of_cell? _ _ hm
  have C1 := boundary_any v m w hv hm
  have C2 := fun w' => rboundary_any v w' hv
  obtain ⟨S1, h1⟩ : ∃ S, S = (bndR v).1 := ⟨_, rfl⟩
  obtain ⟨b1, h2⟩ : ∃ S, S = (bndR v).2 := ⟨_, rfl⟩
  rw [← h1, ← h2] at C1 C2
  have C3 := fun w' (hbl : Below w.heap.size w w') => join_any b fs A cap w.heap.size m w' hb (hf.below hbl) hbl.size ((hbl.cell (p := ⟨0, 0, none⟩) hmb).trans hm)
  have C4 := fun w' (hbl : Below w.heap.size w w') => rmulti_any b fs A cap w.heap.size w' hb (hf.below hbl) hbl.size
  unfold JoinRes at C3 C4
  obtain ⟨S2, h3⟩ : ∃ S, S = joinS b fs := ⟨_, rfl⟩
  obtain ⟨e2, h4⟩ : ∃ S, S = joinE b fs := ⟨_, rfl⟩
  rw [← h3, ← h4] at C3 C4
  have C1 := Lib.hid C1
  have C2 := Lib.hid C2
  have C3 := Lib.hid C3
  have C4 := Lib.hid C4
  clear h1 h2 h3 h4 hf hm hmb
  go_enter Try.func3, Try.ntmps3
  go_wp2_with fail
  refine C1.out.mono ?_
  rintro e w1 ⟨rfl, hb1⟩
  have HB1 := Lib.hid hb1
  clear hb1
  go_wp2_with fail
  refine (C2.out _).mono ?_
  rintro e w2 ⟨rfl, q, hw2⟩
  have HB2 : Hid (Below w.heap.size w w2) := Lib.hid (by rw [hw2]; exact below_drewN HB1.out q)
  clear hw2
  go_wp2_with fail
  refine (C3.out _ HB2.out).mono ?_
  rintro e w3 ⟨rfl, hb3⟩
  have HB3 := Lib.hid (HB2.out.trans (hb3.mono HB2.out.size))
  clear hb3
  go_wp2_with fail
  refine (C4.out _ HB3.out).mono ?_
  rintro e w4 ⟨rfl, hb4⟩
  have HB4 := Lib.hid (HB3.out.trans (hb4.mono HB3.out.size))
  clear hb4
  have x1 : (S1.toList == S1.toList) = true := by simp
  have x2 : (S2.toList == S2.toList) = true := by simp
  have x3 : (b1 == b1) = true := by simp
  have x4 : (e2 == e2) = true := by simp
  go_wp2_with fail
  go_ret
  exact ⟨rfl, HB4.out⟩

theorem own : ownKnob Try.prog.godebug = none := by kernel_rfl
set_option maxRecDepth 100000 in
theorem contract (H : Type) (enc : TypeId × Value → H) (W : World) (base : Nat) (args : Array Value) (ds gs : List (DataW H)) (before : List MemPlace)
    (hval : ∀ (j : Nat) t v, Try.f3.params[j]? = some t → args[j]? = some v → Value.okWide Try.prog W .any base t v)
    (hW : DataW.Whole enc Try.prog Try.f3.params.toList Rows.multiSaysSpec.vars false W args.toList ds gs before) (hk : Rows.uptoSmall H (ds ++ gs) = true) (hm : ∃ m, W.cell? ⟨0, 0, none⟩ = some (.int .i64 m)) :
    Calls Try.prog 3 args W fun e W' => ∃ v, e = .returned v ∧ Rows.multiSaysSpec.post enc Try.prog Try.f3 false true false false W args v W' := by
  have hW' := hW
  obtain ⟨p, q, hA0, hV, rfl, hfz, hnd⟩ := hW
  have hA : DataW.TrodAll enc Try.prog W 0 (fun _ => true) true Try.f3.params.toList args.toList ds p := hA0
  rw [Try.params3] at hA hval
  obtain ⟨v0, vs0, d0, ds0, p0, q0, hargs, rfl, rfl, h0, r0⟩ := trodAll_cons hA
  obtain ⟨v1, vs1, d1, ds1, p1, q1, rfl, rfl, rfl, h1, r1⟩ := trodAll_cons r0
  obtain ⟨v2, vs2, d2, ds2, p2, q2, rfl, rfl, rfl, h2, r2⟩ := trodAll_cons r1
  obtain ⟨rfl, rfl, rfl⟩ := trodAll_nil r2
  obtain rfl : args = #[v0, v1, v2] := by cases args; simp_all
  obtain ⟨rfl, rfl⟩ := trodVars_none hV
  obtain ⟨a0, rfl, rfl, rfl, w0⟩ := open_string Try.underlying9 (hval 0 9 v0 rfl rfl) h0
  obtain ⟨a2, rfl, rfl, rfl, w2⟩ := open_string Try.underlying9 (hval 2 9 v2 rfl rfl) h2
  clear hA0
  simp only [List.append_nil] at hk
  have hb : Rows.uptoBulkAll (H := H) [.lit (.string a0.data.toList), d1, .lit (.string a2.data.toList)] ≤ 1048576 := of_decide_eq_true hk
  simp only [Rows.uptoBulkAll, Rows.uptoBulk, lst_len] at hb
  obtain ⟨A, cap, fs, rfl, hf, hfl⟩ := open_args (hval 1 22 v1 rfl rfl) h1 (by omega)
  refine (walk a0 a2 fs A cap W (by omega) (by omega) hf hm).mono fun e W' ⟨he, hg⟩ => ?_
  subst he
  exact ⟨_, rfl, post_true 4 Try.underlying4 (by kernel_rfl) (by kernel_rfl) (by kernel_rfl) rfl rfl hW' hg⟩

set_option maxRecDepth 100000 in
theorem lifted (os : Os) (started : os.Started) (H : Type) (enc : TypeId × Value → H) (F : Stop.Interp) :
    ReturnsInHanded {} Try.checked os 3 .any ((Rows.OpenSpec.upto Rows.multiSaysSpec).pre6 enc Try.prog Try.f3 Rows.multiSaysUptoRow.domain false) (((Rows.OpenSpec.upto Rows.multiSaysSpec).at F).post enc Try.prog Try.f3 false true false false) := by
  refine cond_shaped (C := Try.checked) (s := Rows.OpenSpec.upto Rows.multiSaysSpec) (k := Rows.uptoSmall) rfl own started (by kernel_rfl) Try.func3
    (OpenSpec.witness (enc := enc) (C := Try.checked) (s := Rows.OpenSpec.upto Rows.multiSaysSpec) (k := Rows.uptoSmall) rfl false ⟨#[], #[.string ByteArray.empty, .slice none 0 0, .string ByteArray.empty], []⟩ 8 (by kernel_rfl) (by kernel_rfl) (by kernel_rfl)
      (x := ([.lit (.string []), .nil, .lit (.string [])], [], [])) (by kernel_rfl) rfl (by kernel_rfl)) ?_
  intro W base args ds gs before hval hW hk hsh
  exact contract H enc W base args ds gs before hval hW hk (cell_of_shapedOpen_int (zero := #[.int .i64 0]) (t := 3) hsh (of_decide_eq_true (by kernel_rfl)) (by kernel_rfl) rfl (by kernel_rfl) (by kernel_rfl) Try.underlying3)

theorem proved : Rows.MultiSaysUptoSaid :=
  OpenClaim.holds_of_cond 3 Try.f3 rfl rfl rfl rfl rfl rfl rfl ⟨rfl, rfl, rfl, rfl, rfl⟩ rfl rfl rfl rfl rfl (by kernel_rfl) Try.func3 (by kernel_rfl)
    (of_decide_eq_true (by kernel_rfl)) (by unfold Func.isWrapper; first | (rw [if_pos (by decide +kernel)]; kernel_rfl) | (rw [if_neg (by decide +kernel)]; exact ⟨rfl, rfl⟩))
    (fun os started H enc _ F => lifted os started H enc F)
#print axioms proved
end Go.Proofs.Ytnpjmaoidkofeaa.lawMul
