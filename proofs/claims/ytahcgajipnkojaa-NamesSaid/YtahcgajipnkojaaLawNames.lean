/- wicklaw.Names: the error codes, kinds and limits have the specified values. No condition. -/
import Derived.Test.YtahcgajipnkojaaFrame
import Derived.Test.YtahcgajipnkojaaMem
import Derived.WalkSpells
import Derived.WalkLawsBesides
import Derived.Lib.Hide
import Derived.Test.YtahcgajipnkojaaRows
namespace Go.Proofs.Ytahcgajipnkojaa.lawNames
open Go.ChangeShapes Go.WideShapes Go.ChangeAt Go.RowKit
set_option linter.unusedVariables false
set_option linter.unusedSimpArgs false

/-- n numbers from m on -/
def nums (m n : Nat) : Array Value := ((List.range n).map fun k => Value.int .i64 ((m + k : Nat) : Int)).toArray
theorem nums_get {m n k : Nat} (h : k < n) : (nums m n)[k]? = some (.int .i64 ((m + k : Nat) : Int)) := by simp [nums, h]
theorem cell_nums {w : World} {g t m n k : Nat} (h : Blk w g t (nums m n)) (hk : k < n) : w.cell? ⟨g, k, none⟩ = some (.int .i64 ((m + k : Nat) : Int)) := by rw [h.cell, nums_get hk]
/-- the lengths of the eight lists -/
def lens (j : Nat) : Nat := ([11, 8, 6, 3, 12, 12, 5, 6] : List Nat).getD j 0

/-- behind the first list: what is known of the world -/
structure One (w w1 : World) : Prop where
  below : Below w.heap.size w w1
  size : w1.heap.size = w.heap.size + 1
  cell : ∀ k : Nat, k < 12 → w1.cell? ⟨w.heap.size, k, none⟩ = some (.int .i64 k)
theorem one_mk (w : World) : One w (w.alloc (Obj.cells #[Value.int IntKind.i64 0, Value.int IntKind.i64 1, Value.int IntKind.i64 2, Value.int IntKind.i64 3, Value.int IntKind.i64 4, Value.int IntKind.i64 5, Value.int IntKind.i64 6, Value.int IntKind.i64 7, Value.int IntKind.i64 8, Value.int IntKind.i64 9, Value.int IntKind.i64 10, Value.int IntKind.i64 11] 22)) := by
  refine ⟨(Below.refl _ _).alloc (Nat.le_refl _) _, by simp, fun k hk => ?_⟩
  have h := cell_nums (k := k) (Blk.new w 22 (nums 0 12)) hk
  rw [Nat.zero_add] at h
  exact h

/-- behind the eight lists and the list of them -/
structure Two (w w1 : World) : Prop where
  below : Below w.heap.size w w1
  out : ∀ j : Nat, j < 8 → w1.cell? ⟨w.heap.size + 1 + 1 + 1 + 1 + 1 + 1 + 1 + 1, j, none⟩ = some (.slice (some ⟨w.heap.size + j, 0, none⟩) (lens j) (lens j))
  cell : ∀ j : Nat, j < 8 → ∀ k : Nat, k < lens j → w1.cell? ⟨w.heap.size + j, k, none⟩ = some (.int .i64 (k + 1))
def eight (w : World) : Nat → World
  | 0 => w
  | j + 1 => (eight w j).alloc (.cells (nums 1 (lens j)) 3)
theorem eight_size (w : World) (j : Nat) : (eight w j).heap.size = w.heap.size + j := by
  induction j with
  | zero => rfl
  | succ j ih => simp [eight, ih]; omega
theorem eight_below (w : World) (j : Nat) : Below w.heap.size w (eight w j) := by
  induction j with
  | zero => exact Below.refl _ _
  | succ j ih => exact ih.alloc (by rw [eight_size]; omega) _
theorem eight_blk (w : World) (j i : Nat) (h : j < i) : Blk (eight w i) (w.heap.size + j) 3 (nums 1 (lens j)) := by
  induction i with
  | zero => omega
  | succ i ih =>
    by_cases e : j = i
    · subst e
      have := Blk.new (eight w j) 3 (nums 1 (lens j))
      rw [eight_size] at this
      exact this
    · exact (ih (by omega)).alloc _
def outs (w : World) : Array Value := #[Value.slice (some { block := w.heap.size, off := 0 }) 11 11, Value.slice (some { block := w.heap.size + 1, off := 0 }) 8 8, Value.slice (some { block := w.heap.size + 1 + 1, off := 0 }) 6 6, Value.slice (some { block := w.heap.size + 1 + 1 + 1, off := 0 }) 3 3, Value.slice (some { block := w.heap.size + 1 + 1 + 1 + 1, off := 0 }) 12 12, Value.slice (some { block := w.heap.size + 1 + 1 + 1 + 1 + 1, off := 0 }) 12 12, Value.slice (some { block := w.heap.size + 1 + 1 + 1 + 1 + 1 + 1, off := 0 }) 5 5, Value.slice (some { block := w.heap.size + 1 + 1 + 1 + 1 + 1 + 1 + 1, off := 0 }) 6 6]
theorem two_mk (w : World) : Two w (((((((((w.alloc (Obj.cells #[Value.int IntKind.i64 1, Value.int IntKind.i64 2, Value.int IntKind.i64 3, Value.int IntKind.i64 4, Value.int IntKind.i64 5, Value.int IntKind.i64 6, Value.int IntKind.i64 7, Value.int IntKind.i64 8, Value.int IntKind.i64 9, Value.int IntKind.i64 10, Value.int IntKind.i64 11] 3)).alloc (Obj.cells #[Value.int IntKind.i64 1, Value.int IntKind.i64 2, Value.int IntKind.i64 3, Value.int IntKind.i64 4, Value.int IntKind.i64 5, Value.int IntKind.i64 6, Value.int IntKind.i64 7, Value.int IntKind.i64 8] 3)).alloc (Obj.cells #[Value.int IntKind.i64 1, Value.int IntKind.i64 2, Value.int IntKind.i64 3, Value.int IntKind.i64 4, Value.int IntKind.i64 5, Value.int IntKind.i64 6] 3)).alloc (Obj.cells #[Value.int IntKind.i64 1, Value.int IntKind.i64 2, Value.int IntKind.i64 3] 3)).alloc (Obj.cells #[Value.int IntKind.i64 1, Value.int IntKind.i64 2, Value.int IntKind.i64 3, Value.int IntKind.i64 4, Value.int IntKind.i64 5, Value.int IntKind.i64 6, Value.int IntKind.i64 7, Value.int IntKind.i64 8, Value.int IntKind.i64 9, Value.int IntKind.i64 10, Value.int IntKind.i64 11, Value.int IntKind.i64 12] 3)).alloc (Obj.cells #[Value.int IntKind.i64 1, Value.int IntKind.i64 2, Value.int IntKind.i64 3, Value.int IntKind.i64 4, Value.int IntKind.i64 5, Value.int IntKind.i64 6, Value.int IntKind.i64 7, Value.int IntKind.i64 8, Value.int IntKind.i64 9, Value.int IntKind.i64 10, Value.int IntKind.i64 11, Value.int IntKind.i64 12] 3)).alloc (Obj.cells #[Value.int IntKind.i64 1, Value.int IntKind.i64 2, Value.int IntKind.i64 3, Value.int IntKind.i64 4, Value.int IntKind.i64 5] 3)).alloc (Obj.cells #[Value.int IntKind.i64 1, Value.int IntKind.i64 2, Value.int IntKind.i64 3, Value.int IntKind.i64 4, Value.int IntKind.i64 5, Value.int IntKind.i64 6] 3)).alloc (Obj.cells #[Value.slice (some { block := w.heap.size, off := 0 }) 11 11, Value.slice (some { block := w.heap.size + 1, off := 0 }) 8 8, Value.slice (some { block := w.heap.size + 1 + 1, off := 0 }) 6 6, Value.slice (some { block := w.heap.size + 1 + 1 + 1, off := 0 }) 3 3, Value.slice (some { block := w.heap.size + 1 + 1 + 1 + 1, off := 0 }) 12 12, Value.slice (some { block := w.heap.size + 1 + 1 + 1 + 1 + 1, off := 0 }) 12 12, Value.slice (some { block := w.heap.size + 1 + 1 + 1 + 1 + 1 + 1, off := 0 }) 5 5, Value.slice (some { block := w.heap.size + 1 + 1 + 1 + 1 + 1 + 1 + 1, off := 0 }) 6 6] 24)) := by
  show Two w ((eight w 8).alloc (Obj.cells (outs w) 24))
  refine ⟨(eight_below w 8).alloc (by rw [eight_size]; omega) _, fun j hj => ?_, fun j hj k hk => ?_⟩
  · have h := Blk.new (eight w 8) 24 (outs w)
    rw [eight_size] at h
    rw [h.cell]
    match j, hj with
    | 0, _ => rfl
    | 1, _ => rfl
    | 2, _ => rfl
    | 3, _ => rfl
    | 4, _ => rfl
    | 5, _ => rfl
    | 6, _ => rfl
    | 7, _ => rfl
  · have h := cell_nums ((eight_blk w j 8 hj).alloc (Obj.cells (outs w) 24)) hk
    rw [h]
    simp; omega

set_option maxHeartbeats 1000000 in
set_option maxRecDepth 100000 in
theorem walk (w : World) :
    Calls Try.prog 3 #[] w fun e w' => e = .returned (.bool true) ∧ Below w.heap.size w w' := by
  have H1 := Lib.hid (one_mk w)
  go_enter Try.func3, Try.ntmps3
  go_wp2
  obtain ⟨w1, e1⟩ : ∃ w1, w1 = (w.alloc (Obj.cells #[Value.int IntKind.i64 0, Value.int IntKind.i64 1, Value.int IntKind.i64 2, Value.int IntKind.i64 3, Value.int IntKind.i64 4, Value.int IntKind.i64 5, Value.int IntKind.i64 6, Value.int IntKind.i64 7, Value.int IntKind.i64 8, Value.int IntKind.i64 9, Value.int IntKind.i64 10, Value.int IntKind.i64 11] 22)) := ⟨_, rfl⟩
  rw [← e1] at H1 ⊢
  clear e1
  go_loop [10] (fun i => ∃ k : Nat, k ≤ 12 ∧ i = .int .i64 k) (fun i => 12 - (intOf i).toNat)
  case atStart => exact ⟨0, by omega, rfl⟩
  case round =>
    obtain ⟨k, hk, rfl⟩ := hrel
    by_cases hlt : k < 12
    · have hc := H1.out.cell k hlt
      go_wp2
      go_round
      case rel => exact ⟨k + 1, by omega, by go_num⟩
      case measure => simp [intOf]; omega
    · have H2 := Lib.hid (two_mk w1)
      go_wp2
      obtain ⟨w2, e2⟩ : ∃ w2, w2 = (((((((((w1.alloc (Obj.cells #[Value.int IntKind.i64 1, Value.int IntKind.i64 2, Value.int IntKind.i64 3, Value.int IntKind.i64 4, Value.int IntKind.i64 5, Value.int IntKind.i64 6, Value.int IntKind.i64 7, Value.int IntKind.i64 8, Value.int IntKind.i64 9, Value.int IntKind.i64 10, Value.int IntKind.i64 11] 3)).alloc (Obj.cells #[Value.int IntKind.i64 1, Value.int IntKind.i64 2, Value.int IntKind.i64 3, Value.int IntKind.i64 4, Value.int IntKind.i64 5, Value.int IntKind.i64 6, Value.int IntKind.i64 7, Value.int IntKind.i64 8] 3)).alloc (Obj.cells #[Value.int IntKind.i64 1, Value.int IntKind.i64 2, Value.int IntKind.i64 3, Value.int IntKind.i64 4, Value.int IntKind.i64 5, Value.int IntKind.i64 6] 3)).alloc (Obj.cells #[Value.int IntKind.i64 1, Value.int IntKind.i64 2, Value.int IntKind.i64 3] 3)).alloc (Obj.cells #[Value.int IntKind.i64 1, Value.int IntKind.i64 2, Value.int IntKind.i64 3, Value.int IntKind.i64 4, Value.int IntKind.i64 5, Value.int IntKind.i64 6, Value.int IntKind.i64 7, Value.int IntKind.i64 8, Value.int IntKind.i64 9, Value.int IntKind.i64 10, Value.int IntKind.i64 11, Value.int IntKind.i64 12] 3)).alloc (Obj.cells #[Value.int IntKind.i64 1, Value.int IntKind.i64 2, Value.int IntKind.i64 3, Value.int IntKind.i64 4, Value.int IntKind.i64 5, Value.int IntKind.i64 6, Value.int IntKind.i64 7, Value.int IntKind.i64 8, Value.int IntKind.i64 9, Value.int IntKind.i64 10, Value.int IntKind.i64 11, Value.int IntKind.i64 12] 3)).alloc (Obj.cells #[Value.int IntKind.i64 1, Value.int IntKind.i64 2, Value.int IntKind.i64 3, Value.int IntKind.i64 4, Value.int IntKind.i64 5] 3)).alloc (Obj.cells #[Value.int IntKind.i64 1, Value.int IntKind.i64 2, Value.int IntKind.i64 3, Value.int IntKind.i64 4, Value.int IntKind.i64 5, Value.int IntKind.i64 6] 3)).alloc (Obj.cells #[Value.slice (some { block := w1.heap.size, off := 0 }) 11 11, Value.slice (some { block := w1.heap.size + 1, off := 0 }) 8 8, Value.slice (some { block := w1.heap.size + 1 + 1, off := 0 }) 6 6, Value.slice (some { block := w1.heap.size + 1 + 1 + 1, off := 0 }) 3 3, Value.slice (some { block := w1.heap.size + 1 + 1 + 1 + 1, off := 0 }) 12 12, Value.slice (some { block := w1.heap.size + 1 + 1 + 1 + 1 + 1, off := 0 }) 12 12, Value.slice (some { block := w1.heap.size + 1 + 1 + 1 + 1 + 1 + 1, off := 0 }) 5 5, Value.slice (some { block := w1.heap.size + 1 + 1 + 1 + 1 + 1 + 1 + 1, off := 0 }) 6 6] 24)) := ⟨_, rfl⟩
      rw [← e2] at H2 ⊢
      clear e2
      go_loop [31] (fun i => ∃ j : Nat, j ≤ 8 ∧ i = .int .i64 j) (fun i => 8 - (intOf i).toNat)
      case atStart => exact ⟨0, by omega, rfl⟩
      case round =>
        obtain ⟨j, hj, rfl⟩ := hrel
        by_cases hjt : j < 8
        · have ho := H2.out.out j hjt
          go_wp2
          go_loop [37] (fun i => ∃ k : Nat, k ≤ lens j ∧ i = .int .i64 k) (fun i => lens j - (intOf i).toNat)
          case atStart => exact ⟨0, by omega, rfl⟩
          case round =>
            obtain ⟨k, hk, rfl⟩ := hrel
            have hl : lens j ≤ 12 := by
              match j, hjt with
              | 0, _ | 1, _ | 2, _ | 3, _ | 4, _ | 5, _ | 6, _ | 7, _ => decide
            by_cases hkt : k < lens j
            · have hc := H2.out.cell j hjt k hkt
              go_wp2
              go_round
              case rel => exact ⟨k + 1, by omega, by go_num⟩
              case measure => simp [intOf]; omega
            · go_wp2
              go_round
              case rel => exact ⟨j + 1, by omega, by go_num⟩
              case measure => simp [intOf]; omega
        · go_wp2
          go_ret
          exact ⟨rfl, H1.out.below.trans (H2.out.below.mono (by rw [H1.out.size]; omega))⟩
theorem own : ownKnob Try.prog.godebug = none := by kernel_rfl
theorem contract (H : Type) (enc : TypeId × Value → H) (W : World) (base : Nat) (args : Array Value) (ds gs : List (DataW H)) (before : List MemPlace)
    (hval : ∀ (j : Nat) t v, Try.f3.params[j]? = some t → args[j]? = some v → Value.okWide Try.prog W .any base t v)
    (hW : DataW.Whole enc Try.prog Try.f3.params.toList Rows.namesSpec.vars false W args.toList ds gs before) :
    Calls Try.prog 3 args W fun e W' => ∃ v, e = .returned v ∧ Rows.namesSpec.post enc Try.prog Try.f3 false true false false W args v W' := by
  have hW' := hW
  obtain ⟨p, q, hA0, hV, rfl, hfz, hnd⟩ := hW
  have hA : DataW.TrodAll enc Try.prog W 0 (fun _ => true) true Try.f3.params.toList args.toList ds p := hA0
  rw [Try.params3] at hA hval
  obtain ⟨rfl, rfl, rfl⟩ := trodAll_none hA
  obtain ⟨rfl, rfl⟩ := trodVars_none hV
  clear hA0
  simp only [List.append_nil] at hW'
  refine (walk  W ).mono fun e W' ⟨he, hg⟩ => ?_
  subst he
  exact ⟨_, rfl, post_of_below (pa := []) (pv := []) hW' (fun _ _ _ => (trodAll_cons_mk (shut_bool Try.underlying4 _) trodAll_mk0)) (fun sp _ => trodAll_mk0) (fun _ _ => rfl) rfl hg (ok_one (by kernel_rfl) rfl (okWide_bool_mk Try.underlying4 _))⟩

set_option maxRecDepth 100000 in
theorem lifted (os : Os) (started : os.Started) (H : Type) (enc : TypeId × Value → H) :
    ReturnsInHanded {} Try.checked os 3 .any (Rows.namesSpec.pre6 enc Try.prog Try.f3 Rows.namesRow.domain false) (Rows.namesSpec.post enc Try.prog Try.f3 false true false false) := by
  refine returnsInHanded_of_change (C := Try.checked) own started (by kernel_rfl) Try.func3
    (ChangeSpec.witness6 (enc := enc) (C := Try.checked) false ⟨#[], #[], []⟩ 8 (by kernel_rfl) (by kernel_rfl) (by kernel_rfl) (by kernel_rfl)) ?_
  intro W base args ds gs before hval hW _ _
  exact contract H enc W base args ds gs before hval hW

theorem proved : Rows.NamesSaid :=
  OpenClaim.holds_of_wide 3 Try.f3 rfl rfl rfl rfl rfl rfl rfl ⟨rfl, rfl, rfl, rfl, rfl⟩ rfl rfl rfl rfl rfl (by kernel_rfl) Try.func3 (by kernel_rfl)
    (of_decide_eq_true (by kernel_rfl)) (by unfold Func.isWrapper; first | (rw [if_pos (by decide +kernel)]; kernel_rfl) | (rw [if_neg (by decide +kernel)]; exact ⟨rfl, rfl⟩))
    (fun os started H enc _ => lifted os started H enc)
#print axioms proved
end Go.Proofs.Ytahcgajipnkojaa.lawNames
