/- Walk: rex.shown. (Printed by gen_rsyg.py.) -/
import Derived.Test.YtckinkapbfaceaaRsyF
import Derived.Test.YtckinkapbfaceaaEndD
import Derived.Deep.RegionHeld3
namespace Go.Proofs.Ytckinkapbfaceaa
open Go.RowKit
set_option linter.unusedVariables false
set_option linter.unusedSimpArgs false

/-- block g holds the ints ks -/
structure KB (w : World) (g : Nat) (ks : List Int) : Prop where
  lt : g < w.heap.size
  cell : ∀ i (h : i < ks.length), w.cell? ⟨g, i, none⟩ = some (.int .i64 ks[i])
section
variable {w w' : World} {g : Nat} {ks : List Int}
theorem KB.kept (h : KB w g ks) (hb : Below w.heap.size w w') : KB w' g ks := ⟨Nat.lt_of_lt_of_le h.lt hb.size, fun i hi => (hb.cell (p := ⟨g, i, none⟩) h.lt).trans (h.cell i hi)⟩
theorem KB.alloc (h : KB w g ks) (o : Obj) : KB (w.alloc o) g ks := h.kept ((Below.refl _ _).alloc (Nat.le_refl _) _)
theorem KB.drew (h : KB w g ks) : KB w.drew g ks := ⟨h.lt, h.cell⟩
theorem KB.new (hg : g = w.heap.size) (ks : List Int) : KB (w.alloc (.cells (ks.map (Value.int .i64)).toArray 3)) g ks := by
  subst hg
  have h := Blk.new w 3 (ks.map (Value.int .i64)).toArray
  exact ⟨h.lt, fun i hi => by rw [h.cell i, List.getElem?_toArray, List.getElem?_map, List.getElem?_eq_getElem hi]; rfl⟩
end
/-- the box of the expression, made by the call -/
structure ShB (w wr : World) (box : Array Value) : Prop where
  blk : Blk wr w.heap.size 27 box
  be : Below w.heap.size w wr
section
variable {w wr w' : World} {box : Array Value}
theorem ShB.new (w : World) (box : Array Value) : ShB w (w.alloc (.cells box 27)) box := ⟨Blk.new _ _ _, (Below.refl _ _).alloc (Nat.le_refl _) _⟩
theorem ShB.kept (h : ShB w wr box) (hb : Below wr.heap.size wr w') : ShB w w' box := ⟨h.blk.below hb h.blk.lt, h.be.trans (hb.mono h.be.size)⟩
theorem ShB.alloc (h : ShB w wr box) (o : Obj) : ShB w (wr.alloc o) box := h.kept ((Below.refl _ _).alloc (Nat.le_refl _) _)
theorem ShB.drew (h : ShB w wr box) : ShB w wr.drew box := ⟨h.blk, h.be.drew⟩
end
def SLk (w : World) (A : Option Addr) (ks : List Int) : Prop := ks = [] ∨ ∃ g, A = some ⟨g, 0, none⟩ ∧ KB w g ks
theorem SLk.at_ {w : World} {A : Option Addr} {ks : List Int} (h : SLk w A ks) {k : Nat} (hk : k < ks.length) : ∃ g, A = some ⟨g, 0, none⟩ ∧ g < w.heap.size ∧ w.cell? ⟨g, k, none⟩ = some (.int .i64 ks[k]) := by
  rcases h with rfl | ⟨g, e, h⟩
  · exact absurd hk (by simp)
  · exact ⟨g, e, h.lt, h.cell k hk⟩
theorem SLk.kept {w w' : World} {A : Option Addr} {ks : List Int} (h : SLk w A ks) (hb : Below w.heap.size w w') : SLk w' A ks := by
  rcases h with h | ⟨g, e, h⟩
  · exact .inl h
  · exact .inr ⟨g, e, h.kept hb⟩
theorem brT_le (ks : List Int) (k : Int) (t : List UInt8) : (brT ks k t).length ≤ t.length + 2 := by
  unfold brT
  split
  · simp
  · omega
theorem brT_nil (k : Int) (t : List UInt8) : brT [] k t = t := by unfold brT; rw [if_neg (by simp)]
theorem brT_in {ks : List Int} {k : Int} (t : List UInt8) (h : k ∈ ks) : brT ks k t = 40 :: t ++ [41] := by unfold brT; rw [if_pos h]
theorem brT_no {ks : List Int} {k : Int} (t : List UInt8) (h : ¬ k ∈ ks) : brT ks k t = t := by unfold brT; rw [if_neg h]
theorem size_pos : ∀ q : Re, 1 ≤ q.size
  | .none => Nat.le_refl _ | .empty => Nat.le_refl _ | .byte _ => Nat.le_refl _ | .beg => Nat.le_refl _ | .fin => Nat.le_refl _
  | .cat a b => by simp [Re.size]
  | .alt a b => by simp [Re.size]
  | .star a => by simp [Re.size]
theorem textR_le : ∀ q : Re, (textR q).length ≤ 2320 * q.size
  | .none => by simp [textR, Re.size]
  | .empty => by simp [textR, Re.size]
  | .byte s => by have := bytesF_le (setB s); simp only [textR, Re.size]; omega
  | .beg => by simp [textR, Re.size]
  | .fin => by simp [textR, Re.size]
  | .star a => by
    have h1 := textR_le a
    have h2 := brT_le [2, 4, 5, 6] a.kind (textR a)
    simp only [textR, Re.size, List.length_append, List.length_singleton]; omega
  | .cat a b => by
    have h1 := textR_le a
    have h2 := brT_le [2, 5] a.kind (textR a)
    have h3 := textR_le b
    have h4 := brT_le [2, 5, 4] b.kind (textR b)
    simp only [textR, Re.size, List.length_append]; omega
  | .alt a b => by
    have h1 := textR_le a
    have h2 := brT_le [] a.kind (textR a)
    have h3 := textR_le b
    have h4 := brT_le [5] b.kind (textR b)
    simp only [textR, Re.size, List.length_append, List.length_cons]; omega
def ShowOk (q : Re) : Prop := ∀ (cs : List Value) (D : Nat) (w : World) (ks : List Int) (A : Option Addr) (c : Nat), ReC w D q cs → D ≤ w.heap.size → SLk w A ks → ks.length ≤ 4 → q.size ≤ 80 →
  Calls Try.prog 71 #[.agg cs.toArray, .slice A ks.length c] w fun e w' => e = .returned (.string (str (brT ks q.kind (textR q)))) ∧ Below w.heap.size w w'
def ShowNo (q : Re) : Prop := ∀ (cs : List Value) (D : Nat) (w : World) (ks : List Int) (A : Option Addr) (c : Nat), ReC w D q cs → D ≤ w.heap.size → SLk w A ks → ks.length ≤ 4 → q.size ≤ 80 → ¬ q.kind ∈ ks →
  Calls Try.prog 71 #[.agg cs.toArray, .slice A ks.length c] w fun e w' => e = .returned (.string (str (textR q))) ∧ Below w.heap.size w w'
theorem re_kind {w : World} {D : Nat} {q : Re} {cs : List Value} (h : ReC w D q cs) : ∃ a1 a2 a3 a4 A5 l5 cap5, cs = [.int .i64 q.kind, .int .u64 a1, .int .u64 a2, .int .u64 a3, .int .u64 a4, .slice A5 l5 cap5] := by
  cases q with
  | none => obtain ⟨A, c, rfl⟩ := h; exact ⟨_, _, _, _, _, _, _, rfl⟩
  | empty => obtain ⟨A, c, rfl⟩ := h; exact ⟨_, _, _, _, _, _, _, rfl⟩
  | byte s => obtain ⟨_, _, A, c, rfl⟩ := h; exact ⟨_, _, _, _, _, _, _, rfl⟩
  | beg => obtain ⟨A, c, rfl⟩ := h; exact ⟨_, _, _, _, _, _, _, rfl⟩
  | fin => obtain ⟨A, c, rfl⟩ := h; exact ⟨_, _, _, _, _, _, _, rfl⟩
  | cat a b => obtain ⟨A, c, _, _, rfl, _⟩ := h; exact ⟨_, _, _, _, _, _, _, rfl⟩
  | alt a b => obtain ⟨A, c, _, _, rfl, _⟩ := h; exact ⟨_, _, _, _, _, _, _, rfl⟩
  | star a => obtain ⟨A, c, _, rfl, _⟩ := h; exact ⟨_, _, _, _, _, _, _, rfl⟩
theorem cat_par {A : List UInt8} : (⟨#[40]⟩ : ByteArray) ++ str A ++ ⟨#[41]⟩ = str (40 :: A ++ [41]) := by
  have e1 : (⟨#[40]⟩ : ByteArray) = str [40] := rfl
  have e2 : (⟨#[41]⟩ : ByteArray) = str [41] := rfl
  rw [e1, e2, cat_str, cat_str]; rfl
set_option maxRecDepth 100000 in
set_option maxHeartbeats 4000000 in
/-- in brackets -/
theorem show_of (q : Re) (HN : ShowNo q) : ShowOk q := by
  intro cs D w ks A c h hD hA hl hz
  by_cases hin : q.kind ∈ ks
  · rw [brT_in _ hin]
    obtain ⟨a1, a2, a3, a4, A5, l5, cap5, rfl⟩ := re_kind h
    have hbx := ShB.new w #[.int .i64 q.kind, .int .u64 a1, .int .u64 a2, .int .u64 a3, .int .u64 a4, .slice A5 l5 cap5]
    obtain ⟨W, hW⟩ : ∃ W, w.alloc (.cells #[.int .i64 q.kind, .int .u64 a1, .int .u64 a2, .int .u64 a3, .int .u64 a4, .slice A5 l5 cap5] 27) = W := ⟨_, rfl⟩
    rw [hW] at hbx
    have C := Lib.hid (HN _ D W [] none 0 (h.below (hbx.be.mono hD)) (Nat.le_trans hD hbx.be.size) (.inl rfl) (by simp) hz (by simp))
    have HA := Lib.hid (hA.kept hbx.be)
    have ht := textR_le q
    have ht1 : (str (textR q)).size ≤ 185600 := by rw [size_str]; omega
    have ht2 : (textR q).length ≤ 185600 := by omega
    obtain ⟨T, hT⟩ : ∃ T, T = textR q := ⟨_, rfl⟩
    rw [← hT] at C ht1 ht2 ⊢
    obtain ⟨K, hK⟩ : ∃ K, K = q.kind := ⟨_, rfl⟩
    rw [← hK] at C hin hbx ⊢
    have HIn := Lib.hid hin
    have b0 : W.cell? ⟨w.heap.size, 0, none⟩ = some (.int .i64 K) := hbx.blk.cell 0
    have b1 : W.cell? ⟨w.heap.size, 1, none⟩ = some (.int .u64 a1) := hbx.blk.cell 1
    have b2 : W.cell? ⟨w.heap.size, 2, none⟩ = some (.int .u64 a2) := hbx.blk.cell 2
    have b3 : W.cell? ⟨w.heap.size, 3, none⟩ = some (.int .u64 a3) := hbx.blk.cell 3
    have b4 : W.cell? ⟨w.heap.size, 4, none⟩ = some (.int .u64 a4) := hbx.blk.cell 4
    have b5 : W.cell? ⟨w.heap.size, 5, none⟩ = some (.slice A5 l5 cap5) := hbx.blk.cell 5
    have HB := Lib.hid hbx
    rw [← hK] at hW
    clear h hA hin hbx HN ht hT hK hz
    go_enter Try.func71, Try.ntmps71
    go_wp2_with fail
    go_loop [9] (fun u => ∃ k : Nat, u = .int .i64 (k : Int) ∧ k ≤ ks.length ∧ Hid (∀ j (hj : j < ks.length), j < k → ¬ ks[j] = K)) (fun u => ks.length - (intOf u).toNat)
    case atStart => exact ⟨0, rfl, by omega, fun j hj h => absurd h (by omega)⟩
    case round =>
      obtain ⟨k, rfl, hk, HNo⟩ := hrel
      by_cases hlk : k < ks.length
      · have k1 : (k : Int) < (ks.length : Int) := by omega
        obtain ⟨g, rfl, hg, y0⟩ := HA.out.at_ hlk
        by_cases he : ks[k] = K
        · rw [he] at y0
          clear he
          go_wp2_with fail
          refine C.out.mono ?_
          rintro e w1 ⟨rfl, hb1⟩
          have HB1 := Lib.hid (HB.out.be.trans (hb1.mono HB.out.be.size))
          clear hb1
          go_wp2_with fail
          go_ret
          exact ⟨ret_str cat_par, HB1.out⟩
        · have e1 : (K == ks[k]) = false := by rw [beq_eq_false_iff_ne]; exact fun h => he h.symm
          have HNo2 : Hid (∀ j (hj : j < ks.length), j < k + 1 → ¬ ks[j] = K) := fun j hj h => by
            by_cases ej : j = k
            · subst ej; exact he
            · exact HNo.out j hj (by omega)
          clear he
          go_wp2_with fail
          go_round
          case rel => exact ⟨k + 1, by go_num, by omega, HNo2⟩
          case measure => simp [intOf]; omega
      · exfalso
        obtain ⟨i, hi, e⟩ := List.mem_iff_getElem.1 HIn.out
        exact HNo.out i hi (by omega) e
  · rw [brT_no _ hin]
    exact HN cs D w ks A c h hD hA hl hz hin
set_option maxRecDepth 100000 in
set_option maxHeartbeats 2000000 in
theorem show_none (w : World) (ks : List Int) (A : Option Addr) (c : Nat) (A5 : Option Addr) (cap5 : Nat) (hA : SLk w A ks) (hl : ks.length ≤ 4) (hin : ¬ (1 : Int) ∈ ks) :
    Calls Try.prog 71 #[.agg #[.int .i64 1, .int .u64 0, .int .u64 0, .int .u64 0, .int .u64 0, .slice A5 0 cap5], .slice A ks.length c] w fun e w' => e = .returned (.string (str [91, 94, 92, 120, 48, 48, 45, 92, 120, 102, 102, 93])) ∧ Below w.heap.size w w' := by
  have hbx := ShB.new w #[.int .i64 1, .int .u64 0, .int .u64 0, .int .u64 0, .int .u64 0, .slice A5 0 cap5]
  obtain ⟨W, hW⟩ : ∃ W, w.alloc (.cells #[.int .i64 1, .int .u64 0, .int .u64 0, .int .u64 0, .int .u64 0, .slice A5 0 cap5] 27) = W := ⟨_, rfl⟩
  rw [hW] at hbx
  have HA := Lib.hid (hA.kept hbx.be)
  have HIn := Lib.hid hin
  have b0 : W.cell? ⟨w.heap.size, 0, none⟩ = some (.int .i64 1) := hbx.blk.cell 0
  have HB := Lib.hid hbx
  clear hA hin hbx
  go_enter Try.func71, Try.ntmps71
  go_wp2_with fail
  go_loop [9] (fun u => ∃ k : Nat, u = .int .i64 (k : Int) ∧ k ≤ ks.length) (fun u => ks.length - (intOf u).toNat)
  case atStart => exact ⟨0, rfl, by omega⟩
  case round =>
    obtain ⟨k, rfl, hk⟩ := hrel
    by_cases hlk : k < ks.length
    · have k1 : (k : Int) < (ks.length : Int) := by omega
      obtain ⟨g, rfl, hg, y0⟩ := HA.out.at_ hlk
      have e1 : ((1 : Int) == ks[k]) = false := by rw [beq_eq_false_iff_ne]; exact fun h => HIn.out (by rw [h]; exact List.getElem_mem _)
      go_wp2_with fail
      go_round
      case rel => exact ⟨k + 1, by go_num, by omega⟩
      case measure => simp [intOf]; omega
    · obtain rfl : k = ks.length := by omega
      clear hlk
      go_wp2_with fail
      go_ret
      exact ⟨rfl, HB.out.be⟩
set_option maxRecDepth 100000 in
set_option maxHeartbeats 2000000 in
theorem show_empty (w : World) (ks : List Int) (A : Option Addr) (c : Nat) (A5 : Option Addr) (cap5 : Nat) (hA : SLk w A ks) (hl : ks.length ≤ 4) (hin : ¬ (2 : Int) ∈ ks) :
    Calls Try.prog 71 #[.agg #[.int .i64 2, .int .u64 0, .int .u64 0, .int .u64 0, .int .u64 0, .slice A5 0 cap5], .slice A ks.length c] w fun e w' => e = .returned (.string (str [])) ∧ Below w.heap.size w w' := by
  have hbx := ShB.new w #[.int .i64 2, .int .u64 0, .int .u64 0, .int .u64 0, .int .u64 0, .slice A5 0 cap5]
  obtain ⟨W, hW⟩ : ∃ W, w.alloc (.cells #[.int .i64 2, .int .u64 0, .int .u64 0, .int .u64 0, .int .u64 0, .slice A5 0 cap5] 27) = W := ⟨_, rfl⟩
  rw [hW] at hbx
  have HA := Lib.hid (hA.kept hbx.be)
  have HIn := Lib.hid hin
  have b0 : W.cell? ⟨w.heap.size, 0, none⟩ = some (.int .i64 2) := hbx.blk.cell 0
  have HB := Lib.hid hbx
  clear hA hin hbx
  go_enter Try.func71, Try.ntmps71
  go_wp2_with fail
  go_loop [9] (fun u => ∃ k : Nat, u = .int .i64 (k : Int) ∧ k ≤ ks.length) (fun u => ks.length - (intOf u).toNat)
  case atStart => exact ⟨0, rfl, by omega⟩
  case round =>
    obtain ⟨k, rfl, hk⟩ := hrel
    by_cases hlk : k < ks.length
    · have k1 : (k : Int) < (ks.length : Int) := by omega
      obtain ⟨g, rfl, hg, y0⟩ := HA.out.at_ hlk
      have e1 : ((2 : Int) == ks[k]) = false := by rw [beq_eq_false_iff_ne]; exact fun h => HIn.out (by rw [h]; exact List.getElem_mem _)
      go_wp2_with fail
      go_round
      case rel => exact ⟨k + 1, by go_num, by omega⟩
      case measure => simp [intOf]; omega
    · obtain rfl : k = ks.length := by omega
      clear hlk
      go_wp2_with fail
      go_ret
      exact ⟨rfl, HB.out.be⟩
set_option maxRecDepth 100000 in
set_option maxHeartbeats 2000000 in
theorem show_beg (w : World) (ks : List Int) (A : Option Addr) (c : Nat) (A5 : Option Addr) (cap5 : Nat) (hA : SLk w A ks) (hl : ks.length ≤ 4) (hin : ¬ (7 : Int) ∈ ks) :
    Calls Try.prog 71 #[.agg #[.int .i64 7, .int .u64 0, .int .u64 0, .int .u64 0, .int .u64 0, .slice A5 0 cap5], .slice A ks.length c] w fun e w' => e = .returned (.string (str [94])) ∧ Below w.heap.size w w' := by
  have hbx := ShB.new w #[.int .i64 7, .int .u64 0, .int .u64 0, .int .u64 0, .int .u64 0, .slice A5 0 cap5]
  obtain ⟨W, hW⟩ : ∃ W, w.alloc (.cells #[.int .i64 7, .int .u64 0, .int .u64 0, .int .u64 0, .int .u64 0, .slice A5 0 cap5] 27) = W := ⟨_, rfl⟩
  rw [hW] at hbx
  have HA := Lib.hid (hA.kept hbx.be)
  have HIn := Lib.hid hin
  have b0 : W.cell? ⟨w.heap.size, 0, none⟩ = some (.int .i64 7) := hbx.blk.cell 0
  have HB := Lib.hid hbx
  clear hA hin hbx
  go_enter Try.func71, Try.ntmps71
  go_wp2_with fail
  go_loop [9] (fun u => ∃ k : Nat, u = .int .i64 (k : Int) ∧ k ≤ ks.length) (fun u => ks.length - (intOf u).toNat)
  case atStart => exact ⟨0, rfl, by omega⟩
  case round =>
    obtain ⟨k, rfl, hk⟩ := hrel
    by_cases hlk : k < ks.length
    · have k1 : (k : Int) < (ks.length : Int) := by omega
      obtain ⟨g, rfl, hg, y0⟩ := HA.out.at_ hlk
      have e1 : ((7 : Int) == ks[k]) = false := by rw [beq_eq_false_iff_ne]; exact fun h => HIn.out (by rw [h]; exact List.getElem_mem _)
      go_wp2_with fail
      go_round
      case rel => exact ⟨k + 1, by go_num, by omega⟩
      case measure => simp [intOf]; omega
    · obtain rfl : k = ks.length := by omega
      clear hlk
      go_wp2_with fail
      go_ret
      exact ⟨rfl, HB.out.be⟩
set_option maxRecDepth 100000 in
set_option maxHeartbeats 2000000 in
theorem show_fin (w : World) (ks : List Int) (A : Option Addr) (c : Nat) (A5 : Option Addr) (cap5 : Nat) (hA : SLk w A ks) (hl : ks.length ≤ 4) (hin : ¬ (8 : Int) ∈ ks) :
    Calls Try.prog 71 #[.agg #[.int .i64 8, .int .u64 0, .int .u64 0, .int .u64 0, .int .u64 0, .slice A5 0 cap5], .slice A ks.length c] w fun e w' => e = .returned (.string (str [36])) ∧ Below w.heap.size w w' := by
  have hbx := ShB.new w #[.int .i64 8, .int .u64 0, .int .u64 0, .int .u64 0, .int .u64 0, .slice A5 0 cap5]
  obtain ⟨W, hW⟩ : ∃ W, w.alloc (.cells #[.int .i64 8, .int .u64 0, .int .u64 0, .int .u64 0, .int .u64 0, .slice A5 0 cap5] 27) = W := ⟨_, rfl⟩
  rw [hW] at hbx
  have HA := Lib.hid (hA.kept hbx.be)
  have HIn := Lib.hid hin
  have b0 : W.cell? ⟨w.heap.size, 0, none⟩ = some (.int .i64 8) := hbx.blk.cell 0
  have HB := Lib.hid hbx
  clear hA hin hbx
  go_enter Try.func71, Try.ntmps71
  go_wp2_with fail
  go_loop [9] (fun u => ∃ k : Nat, u = .int .i64 (k : Int) ∧ k ≤ ks.length) (fun u => ks.length - (intOf u).toNat)
  case atStart => exact ⟨0, rfl, by omega⟩
  case round =>
    obtain ⟨k, rfl, hk⟩ := hrel
    by_cases hlk : k < ks.length
    · have k1 : (k : Int) < (ks.length : Int) := by omega
      obtain ⟨g, rfl, hg, y0⟩ := HA.out.at_ hlk
      have e1 : ((8 : Int) == ks[k]) = false := by rw [beq_eq_false_iff_ne]; exact fun h => HIn.out (by rw [h]; exact List.getElem_mem _)
      go_wp2_with fail
      go_round
      case rel => exact ⟨k + 1, by go_num, by omega⟩
      case measure => simp [intOf]; omega
    · obtain rfl : k = ks.length := by omega
      clear hlk
      go_wp2_with fail
      go_ret
      exact ⟨rfl, HB.out.be⟩
set_option maxRecDepth 100000 in
set_option maxHeartbeats 2000000 in
theorem show_byte (q : Q4) (hq : q.ok) (w : World) (ks : List Int) (A : Option Addr) (c : Nat) (A5 : Option Addr) (cap5 : Nat) (hA : SLk w A ks) (hl : ks.length ≤ 4) (hin : ¬ (3 : Int) ∈ ks) :
    Calls Try.prog 71 #[.agg #[.int .i64 3, .int .u64 (q.a : Int), .int .u64 (q.b : Int), .int .u64 (q.c : Int), .int .u64 (q.d : Int), .slice A5 0 cap5], .slice A ks.length c] w fun e w' => e = .returned (.string (str (bytesF (setB q)))) ∧ Below w.heap.size w w' := by
  have hbx := ShB.new w #[.int .i64 3, .int .u64 (q.a : Int), .int .u64 (q.b : Int), .int .u64 (q.c : Int), .int .u64 (q.d : Int), .slice A5 0 cap5]
  obtain ⟨W, hW⟩ : ∃ W, w.alloc (.cells #[.int .i64 3, .int .u64 (q.a : Int), .int .u64 (q.b : Int), .int .u64 (q.c : Int), .int .u64 (q.d : Int), .slice A5 0 cap5] 27) = W := ⟨_, rfl⟩
  rw [hW] at hbx
  have HA := Lib.hid (hA.kept hbx.be)
  have HIn := Lib.hid hin
  have b0 : W.cell? ⟨w.heap.size, 0, none⟩ = some (.int .i64 3) := hbx.blk.cell 0
  have b1 : W.cell? ⟨w.heap.size, 1, none⟩ = some (.int .u64 (q.a : Int)) := hbx.blk.cell 1
  have b2 : W.cell? ⟨w.heap.size, 2, none⟩ = some (.int .u64 (q.b : Int)) := hbx.blk.cell 2
  have b3 : W.cell? ⟨w.heap.size, 3, none⟩ = some (.int .u64 (q.c : Int)) := hbx.blk.cell 3
  have b4 : W.cell? ⟨w.heap.size, 4, none⟩ = some (.int .u64 (q.d : Int)) := hbx.blk.cell 4
  have C := bytes_any q hq W
  unfold setV at C
  have C := Lib.hid C
  have HB := Lib.hid hbx
  clear hA hin hbx
  go_enter Try.func71, Try.ntmps71
  go_wp2_with fail
  go_loop [9] (fun u => ∃ k : Nat, u = .int .i64 (k : Int) ∧ k ≤ ks.length) (fun u => ks.length - (intOf u).toNat)
  case atStart => exact ⟨0, rfl, by omega⟩
  case round =>
    obtain ⟨k, rfl, hk⟩ := hrel
    by_cases hlk : k < ks.length
    · have k1 : (k : Int) < (ks.length : Int) := by omega
      obtain ⟨g, rfl, hg, y0⟩ := HA.out.at_ hlk
      have e1 : ((3 : Int) == ks[k]) = false := by rw [beq_eq_false_iff_ne]; exact fun h => HIn.out (by rw [h]; exact List.getElem_mem _)
      go_wp2_with fail
      go_round
      case rel => exact ⟨k + 1, by go_num, by omega⟩
      case measure => simp [intOf]; omega
    · obtain rfl : k = ks.length := by omega
      clear hlk
      go_wp2_with fail
      refine C.out.mono ?_
      rintro e w1 ⟨rfl, hb1⟩
      have HB1 := Lib.hid (HB.out.be.trans (hb1.mono HB.out.be.size))
      clear hb1
      go_wp2_with fail
      go_ret
      exact ⟨rfl, HB1.out⟩
set_option maxRecDepth 100000 in
set_option maxHeartbeats 4000000 in
theorem show_star (a : Re) (ca : List Value) (IHa : ShowOk a) (D : Nat) (w : World) (ks : List Int) (A : Option Addr) (c : Nat) (A5 : Option Addr) (cap5 : Nat) (hD : D ≤ w.heap.size) (h1 : At6 w D A5 0 ca) (ha : ReC w D a ca) (hcap : 1 ≤ cap5) (hcap2 : cap5 ≤ 9223372036854775807) (hz : a.size ≤ 79) (hA : SLk w A ks) (hl : ks.length ≤ 4) (hin : ¬ (6 : Int) ∈ ks) :
    Calls Try.prog 71 #[.agg #[.int .i64 6, .int .u64 0, .int .u64 0, .int .u64 0, .int .u64 0, .slice A5 1 cap5], .slice A ks.length c] w fun e w' => e = .returned (.string (str (textR (.star a)))) ∧ Below w.heap.size w w' := by
  obtain ⟨ad, rfl⟩ : ∃ ad, A5 = some ad := ⟨_, h1.choose_spec.1⟩
  obtain ⟨a0, a1, a2, a3, a4, A6, l6, cap6, rfl⟩ := re_cs ha
  have hbx := ShB.new w #[.int .i64 6, .int .u64 0, .int .u64 0, .int .u64 0, .int .u64 0, .slice (some ad) 1 cap5]
  obtain ⟨W, hW⟩ : ∃ W, w.alloc (.cells #[.int .i64 6, .int .u64 0, .int .u64 0, .int .u64 0, .int .u64 0, .slice (some ad) 1 cap5] 27) = W := ⟨_, rfl⟩
  rw [hW] at hbx
  have HA := Lib.hid (hA.kept hbx.be)
  have HIn := Lib.hid hin
  have b0 : W.cell? ⟨w.heap.size, 0, none⟩ = some (.int .i64 6) := hbx.blk.cell 0
  have b5 : W.cell? ⟨w.heap.size, 5, none⟩ = some (.slice (some ad) 1 cap5) := hbx.blk.cell 5
  obtain ⟨d0, d1, d2, d3, d4, d5⟩ := kid0 h1 (hbx.be.mono hD)
  obtain ⟨V, hV⟩ : ∃ V, W.alloc (.cells #[.int .i64 2, .int .i64 4, .int .i64 5, .int .i64 6] 3) = V := ⟨_, rfl⟩
  have hVb : Below W.heap.size W V := by rw [← hV]; exact (Below.refl _ _).alloc (Nat.le_refl _) _
  have hVk : KB V W.heap.size [2, 4, 5, 6] := by rw [← hV]; exact KB.new rfl [2, 4, 5, 6]
  have hBV := hbx.kept hVb
  have C := IHa _ D V [2, 4, 5, 6] (some ⟨W.heap.size, 0, none⟩) 4 (ha.below (hBV.be.mono hD)) (Nat.le_trans hD hBV.be.size) (.inr ⟨_, rfl, hVk⟩) (by simp) (by omega)
  have ht := textR_le a
  have ht2 := brT_le [2, 4, 5, 6] a.kind (textR a)
  have ht3 : (str (brT [2, 4, 5, 6] a.kind (textR a))).size ≤ 190000 := by rw [size_str]; omega
  have ht4 : (brT [2, 4, 5, 6] a.kind (textR a)).length ≤ 190000 := by omega
  have HT : Hid (textR (.star a) = brT [2, 4, 5, 6] a.kind (textR a) ++ [42]) := rfl
  obtain ⟨T, hT⟩ : ∃ T, T = brT [2, 4, 5, 6] a.kind (textR a) := ⟨_, rfl⟩
  rw [← hT] at C HT ht3 ht4
  have C := Lib.hid C
  have HB := Lib.hid hbx
  have HBV := Lib.hid hBV
  clear hA hin hbx hVb hVk hBV ha h1 IHa hT ht ht2
  go_enter Try.func71, Try.ntmps71
  go_wp2_with fail
  go_loop [9] (fun u => ∃ k : Nat, u = .int .i64 (k : Int) ∧ k ≤ ks.length) (fun u => ks.length - (intOf u).toNat)
  case atStart => exact ⟨0, rfl, by omega⟩
  case round =>
    obtain ⟨k, rfl, hk⟩ := hrel
    by_cases hlk : k < ks.length
    · have k1 : (k : Int) < (ks.length : Int) := by omega
      obtain ⟨g, rfl, hg, y0⟩ := HA.out.at_ hlk
      have e1 : ((6 : Int) == ks[k]) = false := by rw [beq_eq_false_iff_ne]; exact fun h => HIn.out (by rw [h]; exact List.getElem_mem _)
      go_wp2_with fail
      go_round
      case rel => exact ⟨k + 1, by go_num, by omega⟩
      case measure => simp [intOf]; omega
    · obtain rfl : k = ks.length := by omega
      clear hlk
      go_wp2_with fail
      refine C.out.mono ?_
      rintro e w1 ⟨rfl, hb1⟩
      have HB1 := Lib.hid (HBV.out.be.trans (hb1.mono HBV.out.be.size))
      clear hb1
      go_wp2_with fail
      go_ret
      exact ⟨ret_str (by rw [HT.out]; exact cat_str T [42]), HB1.out⟩
set_option maxRecDepth 100000 in
set_option maxHeartbeats 16000000 in
theorem show_cat (a b : Re) (ca cc : List Value) (IHa : ShowOk a) (IHc : ShowOk b) (D : Nat) (w : World) (ks : List Int) (A : Option Addr) (c : Nat) (A5 : Option Addr) (cap5 : Nat) (hD : D ≤ w.heap.size) (h1 : At6 w D A5 0 ca) (h2 : At6 w D A5 1 cc) (ha : ReC w D a ca) (hc : ReC w D b cc) (hcap : 2 ≤ cap5) (hcap2 : cap5 ≤ 9223372036854775807) (hz : a.size + b.size ≤ 79) (hA : SLk w A ks) (hl : ks.length ≤ 4) (hin : ¬ (4 : Int) ∈ ks) :
    Calls Try.prog 71 #[.agg #[.int .i64 4, .int .u64 0, .int .u64 0, .int .u64 0, .int .u64 0, .slice A5 2 cap5], .slice A ks.length c] w fun e w' => e = .returned (.string (str (textR (.cat a b)))) ∧ Below w.heap.size w w' := by
  obtain ⟨ad, rfl⟩ : ∃ ad, A5 = some ad := ⟨_, h1.choose_spec.1⟩
  obtain ⟨a0, a1, a2, a3, a4, A6, l6, cap6, rfl⟩ := re_cs ha
  obtain ⟨b0, b1, b2, b3, b4, B5, m5, capb, rfl⟩ := re_cs hc
  obtain ⟨box, hbox⟩ : ∃ box : Array Value, box = #[.int .i64 4, .int .u64 0, .int .u64 0, .int .u64 0, .int .u64 0, .slice (some ad) 2 cap5] := ⟨_, rfl⟩
  have hbx := ShB.new w box
  obtain ⟨W, hW⟩ : ∃ W, w.alloc (.cells #[.int .i64 4, .int .u64 0, .int .u64 0, .int .u64 0, .int .u64 0, .slice (some ad) 2 cap5] 27) = W := ⟨_, rfl⟩
  rw [hbox, hW] at hbx
  rw [← hbox] at hbx
  have HA := Lib.hid (hA.kept hbx.be)
  have HIn := Lib.hid hin
  have k0 : W.cell? ⟨w.heap.size, 0, none⟩ = some (.int .i64 4) := by rw [hbx.blk.cell 0, hbox]; rfl
  have H1 := Lib.hid fun w' (hk : Below D w w') => kid0 h1 hk
  have H2 := Lib.hid fun w' (hk : Below D w w') => kid1 h2 hk
  have HS : Hid (∀ w', ShB w w' box → w'.cell? ⟨w.heap.size, 5, none⟩ = some (.slice (some ad) 2 cap5) ∧ (w'.cell? ad = some (.int .i64 a0) ∧ w'.cell? ⟨ad.block, ad.off + 1, none⟩ = some (.int .u64 a1) ∧ w'.cell? ⟨ad.block, ad.off + 2, none⟩ = some (.int .u64 a2) ∧ w'.cell? ⟨ad.block, ad.off + 3, none⟩ = some (.int .u64 a3) ∧ w'.cell? ⟨ad.block, ad.off + 4, none⟩ = some (.int .u64 a4) ∧ w'.cell? ⟨ad.block, ad.off + 5, none⟩ = some (.slice A6 l6 cap6)) ∧ (w'.cell? ⟨ad.block, ad.off + 6, none⟩ = some (.int .i64 b0) ∧ w'.cell? ⟨ad.block, ad.off + 6 + 1, none⟩ = some (.int .u64 b1) ∧ w'.cell? ⟨ad.block, ad.off + 6 + 2, none⟩ = some (.int .u64 b2) ∧ w'.cell? ⟨ad.block, ad.off + 6 + 3, none⟩ = some (.int .u64 b3) ∧ w'.cell? ⟨ad.block, ad.off + 6 + 4, none⟩ = some (.int .u64 b4) ∧ w'.cell? ⟨ad.block, ad.off + 6 + 5, none⟩ = some (.slice B5 m5 capb))) :=
    fun w' h => ⟨by rw [h.blk.cell 5, hbox]; rfl, H1.out w' (h.be.mono hD), H2.out w' (h.be.mono hD)⟩
  have CA0 : ∀ w', ShB w w' box → ∀ A c, SLk w' A [2, 5] → Calls Try.prog 71 #[.agg #[.int .i64 a0, .int .u64 a1, .int .u64 a2, .int .u64 a3, .int .u64 a4, .slice A6 l6 cap6], .slice A 2 c] w' fun e w'' => e = .returned (.string (str (brT [2, 5] a.kind (textR a)))) ∧ Below w'.heap.size w' w'' := fun w' h A c hk => IHa _ D w' [2, 5] A c (ha.below (h.be.mono hD)) (Nat.le_trans hD h.be.size) hk (by simp) (by omega)
  have CC0 : ∀ w', ShB w w' box → ∀ A c, SLk w' A [2, 5, 4] → Calls Try.prog 71 #[.agg #[.int .i64 b0, .int .u64 b1, .int .u64 b2, .int .u64 b3, .int .u64 b4, .slice B5 m5 capb], .slice A 3 c] w' fun e w'' => e = .returned (.string (str (brT [2, 5, 4] b.kind (textR b)))) ∧ Below w'.heap.size w' w'' := fun w' h A c hk => IHc _ D w' [2, 5, 4] A c (hc.below (h.be.mono hD)) (Nat.le_trans hD h.be.size) hk (by simp) (by omega)
  have hta := textR_le a
  have hta2 := brT_le [2, 5] a.kind (textR a)
  have htb := textR_le b
  have htb2 := brT_le [2, 5, 4] b.kind (textR b)
  have HT : Hid (textR (.cat a b) = brT [2, 5] a.kind (textR a) ++ brT [2, 5, 4] b.kind (textR b)) := rfl
  have s1 : (str (brT [2, 5] a.kind (textR a))).size ≤ 190000 := by rw [size_str]; omega
  have s2 : (brT [2, 5] a.kind (textR a)).length ≤ 190000 := by omega
  have s3 : (str (brT [2, 5, 4] b.kind (textR b))).size ≤ 190000 := by rw [size_str]; omega
  have s4 : (brT [2, 5, 4] b.kind (textR b)).length ≤ 190000 := by omega
  obtain ⟨T, hT⟩ : ∃ T, T = brT [2, 5] a.kind (textR a) := ⟨_, rfl⟩
  obtain ⟨U, hU⟩ : ∃ U, U = brT [2, 5, 4] b.kind (textR b) := ⟨_, rfl⟩
  rw [← hT, ← hU] at HT
  rw [← hT] at CA0 s1 s2
  rw [← hU] at CC0 s3 s4
  have s5 : ¬ (9223372036854775807 < T.length + U.length) := by omega
  have s6 : ¬ (9223372036854775807 < T.length + 1) := by omega
  have s7 : ¬ (9223372036854775807 < T.length + 1 + U.length) := by omega
  have CA := Lib.hid CA0
  have CC := Lib.hid CC0
  have HB := Lib.hid hbx
  clear hA hin hbx ha hc h1 h2 IHa IHc hT hU hta hta2 htb htb2 CA0 CC0 hbox
  go_enter Try.func71, Try.ntmps71
  go_wp2_with fail
  go_loop [9] (fun u => ∃ k : Nat, u = .int .i64 (k : Int) ∧ k ≤ ks.length) (fun u => ks.length - (intOf u).toNat)
  case atStart => exact ⟨0, rfl, by omega⟩
  case round =>
    obtain ⟨k, rfl, hk⟩ := hrel
    by_cases hlk : k < ks.length
    · have k1 : (k : Int) < (ks.length : Int) := by omega
      obtain ⟨g, rfl, hg, y0⟩ := HA.out.at_ hlk
      have e1 : ((4 : Int) == ks[k]) = false := by rw [beq_eq_false_iff_ne]; exact fun h => HIn.out (by rw [h]; exact List.getElem_mem _)
      go_wp2_with fail
      go_round
      case rel => exact ⟨k + 1, by go_num, by omega⟩
      case measure => simp [intOf]; omega
    · obtain rfl : k = ks.length := by omega
      clear hlk
      go_wp2_with fail
      clear k0
      have hI := HB.out
      go_region_held3 (fun w' => w'.cell? ⟨w.heap.size, 5, none⟩ = some (.slice (some ad) 2 cap5) ∧ (w'.cell? ad = some (.int .i64 a0) ∧ w'.cell? ⟨ad.block, ad.off + 1, none⟩ = some (.int .u64 a1) ∧ w'.cell? ⟨ad.block, ad.off + 2, none⟩ = some (.int .u64 a2) ∧ w'.cell? ⟨ad.block, ad.off + 3, none⟩ = some (.int .u64 a3) ∧ w'.cell? ⟨ad.block, ad.off + 4, none⟩ = some (.int .u64 a4) ∧ w'.cell? ⟨ad.block, ad.off + 5, none⟩ = some (.slice A6 l6 cap6)) ∧ (w'.cell? ⟨ad.block, ad.off + 6, none⟩ = some (.int .i64 b0) ∧ w'.cell? ⟨ad.block, ad.off + 6 + 1, none⟩ = some (.int .u64 b1) ∧ w'.cell? ⟨ad.block, ad.off + 6 + 2, none⟩ = some (.int .u64 b2) ∧ w'.cell? ⟨ad.block, ad.off + 6 + 3, none⟩ = some (.int .u64 b3) ∧ w'.cell? ⟨ad.block, ad.off + 6 + 4, none⟩ = some (.int .u64 b4) ∧ w'.cell? ⟨ad.block, ad.off + 6 + 5, none⟩ = some (.slice B5 m5 capb))) (exact HS.out _ (by (repeat' (first | assumption | with_reducible apply ShB.drew | with_reducible apply ShB.alloc))))
        (first
          | (go_at_call 71; (with_reducible refine (CA.out _ ?_ _ _ ?_).mono ?_); (next => repeat' (first | assumption | with_reducible apply ShB.drew | with_reducible apply ShB.alloc)); (next => refine .inr ⟨_, rfl, ?_⟩; repeat' (first | exact KB.new (by first | rfl | simp) [2, 5] | with_reducible apply KB.drew | with_reducible apply KB.alloc | with_reducible refine KB.kept ?_ (by assumption))); rintro e w1 ⟨rfl, hba⟩; have hIa := ShB.kept (by (repeat' (first | assumption | with_reducible apply ShB.drew | with_reducible apply ShB.alloc))) hba)
          | (go_at_call 71; (with_reducible refine (CC.out _ ?_ _ _ ?_).mono ?_); (next => repeat' (first | assumption | with_reducible apply ShB.drew | with_reducible apply ShB.alloc)); (next => refine .inr ⟨_, rfl, ?_⟩; repeat' (first | exact KB.new (by first | rfl | simp) [2, 5, 4] | with_reducible apply KB.drew | with_reducible apply KB.alloc | with_reducible refine KB.kept ?_ (by assumption))); rintro e w2 ⟨rfl, hbb⟩; have hIb := ShB.kept (by (repeat' (first | assumption | with_reducible apply ShB.drew | with_reducible apply ShB.alloc))) hbb)
          | fail)
      all_goals go_wp2_with fail
      all_goals go_ret
      all_goals exact ⟨ret_str (by rw [HT.out]; exact cat_str T U), (by assumption : ShB w _ box).be⟩
theorem cat_alt {A B : List UInt8} : str A ++ ⟨#[124]⟩ ++ str B = str (A ++ 124 :: B) := by
  have e1 : (⟨#[124]⟩ : ByteArray) = str [124] := rfl
  rw [e1, cat_str, cat_str]; simp
set_option maxRecDepth 100000 in
set_option maxHeartbeats 16000000 in
theorem show_alt (a b : Re) (ca cc : List Value) (IHa : ShowOk a) (IHc : ShowOk b) (D : Nat) (w : World) (ks : List Int) (A : Option Addr) (c : Nat) (A5 : Option Addr) (cap5 : Nat) (hD : D ≤ w.heap.size) (h1 : At6 w D A5 0 ca) (h2 : At6 w D A5 1 cc) (ha : ReC w D a ca) (hc : ReC w D b cc) (hcap : 2 ≤ cap5) (hcap2 : cap5 ≤ 9223372036854775807) (hz : a.size + b.size ≤ 79) (hA : SLk w A ks) (hl : ks.length ≤ 4) (hin : ¬ (5 : Int) ∈ ks) :
    Calls Try.prog 71 #[.agg #[.int .i64 5, .int .u64 0, .int .u64 0, .int .u64 0, .int .u64 0, .slice A5 2 cap5], .slice A ks.length c] w fun e w' => e = .returned (.string (str (textR (.alt a b)))) ∧ Below w.heap.size w w' := by
  obtain ⟨ad, rfl⟩ : ∃ ad, A5 = some ad := ⟨_, h1.choose_spec.1⟩
  obtain ⟨a0, a1, a2, a3, a4, A6, l6, cap6, rfl⟩ := re_cs ha
  obtain ⟨b0, b1, b2, b3, b4, B5, m5, capb, rfl⟩ := re_cs hc
  obtain ⟨box, hbox⟩ : ∃ box : Array Value, box = #[.int .i64 5, .int .u64 0, .int .u64 0, .int .u64 0, .int .u64 0, .slice (some ad) 2 cap5] := ⟨_, rfl⟩
  have hbx := ShB.new w box
  obtain ⟨W, hW⟩ : ∃ W, w.alloc (.cells #[.int .i64 5, .int .u64 0, .int .u64 0, .int .u64 0, .int .u64 0, .slice (some ad) 2 cap5] 27) = W := ⟨_, rfl⟩
  rw [hbox, hW] at hbx
  rw [← hbox] at hbx
  have HA := Lib.hid (hA.kept hbx.be)
  have HIn := Lib.hid hin
  have k0 : W.cell? ⟨w.heap.size, 0, none⟩ = some (.int .i64 5) := by rw [hbx.blk.cell 0, hbox]; rfl
  have H1 := Lib.hid fun w' (hk : Below D w w') => kid0 h1 hk
  have H2 := Lib.hid fun w' (hk : Below D w w') => kid1 h2 hk
  have HS : Hid (∀ w', ShB w w' box → w'.cell? ⟨w.heap.size, 5, none⟩ = some (.slice (some ad) 2 cap5) ∧ (w'.cell? ad = some (.int .i64 a0) ∧ w'.cell? ⟨ad.block, ad.off + 1, none⟩ = some (.int .u64 a1) ∧ w'.cell? ⟨ad.block, ad.off + 2, none⟩ = some (.int .u64 a2) ∧ w'.cell? ⟨ad.block, ad.off + 3, none⟩ = some (.int .u64 a3) ∧ w'.cell? ⟨ad.block, ad.off + 4, none⟩ = some (.int .u64 a4) ∧ w'.cell? ⟨ad.block, ad.off + 5, none⟩ = some (.slice A6 l6 cap6)) ∧ (w'.cell? ⟨ad.block, ad.off + 6, none⟩ = some (.int .i64 b0) ∧ w'.cell? ⟨ad.block, ad.off + 6 + 1, none⟩ = some (.int .u64 b1) ∧ w'.cell? ⟨ad.block, ad.off + 6 + 2, none⟩ = some (.int .u64 b2) ∧ w'.cell? ⟨ad.block, ad.off + 6 + 3, none⟩ = some (.int .u64 b3) ∧ w'.cell? ⟨ad.block, ad.off + 6 + 4, none⟩ = some (.int .u64 b4) ∧ w'.cell? ⟨ad.block, ad.off + 6 + 5, none⟩ = some (.slice B5 m5 capb))) :=
    fun w' h => ⟨by rw [h.blk.cell 5, hbox]; rfl, H1.out w' (h.be.mono hD), H2.out w' (h.be.mono hD)⟩
  have CA0 : ∀ w', ShB w w' box → ∀ A c, SLk w' A [] → Calls Try.prog 71 #[.agg #[.int .i64 a0, .int .u64 a1, .int .u64 a2, .int .u64 a3, .int .u64 a4, .slice A6 l6 cap6], .slice A 0 c] w' fun e w'' => e = .returned (.string (str (brT [] a.kind (textR a)))) ∧ Below w'.heap.size w' w'' := fun w' h A c hk => IHa _ D w' [] A c (ha.below (h.be.mono hD)) (Nat.le_trans hD h.be.size) hk (by simp) (by omega)
  have CC0 : ∀ w', ShB w w' box → ∀ A c, SLk w' A [5] → Calls Try.prog 71 #[.agg #[.int .i64 b0, .int .u64 b1, .int .u64 b2, .int .u64 b3, .int .u64 b4, .slice B5 m5 capb], .slice A 1 c] w' fun e w'' => e = .returned (.string (str (brT [5] b.kind (textR b)))) ∧ Below w'.heap.size w' w'' := fun w' h A c hk => IHc _ D w' [5] A c (hc.below (h.be.mono hD)) (Nat.le_trans hD h.be.size) hk (by simp) (by omega)
  have hta := textR_le a
  have hta2 := brT_le [] a.kind (textR a)
  have htb := textR_le b
  have htb2 := brT_le [5] b.kind (textR b)
  have HT : Hid (textR (.alt a b) = brT [] a.kind (textR a) ++ 124 :: brT [5] b.kind (textR b)) := rfl
  have s1 : (str (brT [] a.kind (textR a))).size ≤ 190000 := by rw [size_str]; omega
  have s2 : (brT [] a.kind (textR a)).length ≤ 190000 := by omega
  have s3 : (str (brT [5] b.kind (textR b))).size ≤ 190000 := by rw [size_str]; omega
  have s4 : (brT [5] b.kind (textR b)).length ≤ 190000 := by omega
  obtain ⟨T, hT⟩ : ∃ T, T = brT [] a.kind (textR a) := ⟨_, rfl⟩
  obtain ⟨U, hU⟩ : ∃ U, U = brT [5] b.kind (textR b) := ⟨_, rfl⟩
  rw [← hT, ← hU] at HT
  rw [← hT] at CA0 s1 s2
  rw [← hU] at CC0 s3 s4
  have s5 : ¬ (9223372036854775807 < T.length + U.length) := by omega
  have s6 : ¬ (9223372036854775807 < T.length + 1) := by omega
  have s7 : ¬ (9223372036854775807 < T.length + 1 + U.length) := by omega
  have CA := Lib.hid CA0
  have CC := Lib.hid CC0
  have HB := Lib.hid hbx
  clear hA hin hbx ha hc h1 h2 IHa IHc hT hU hta hta2 htb htb2 CA0 CC0 hbox
  go_enter Try.func71, Try.ntmps71
  go_wp2_with fail
  go_loop [9] (fun u => ∃ k : Nat, u = .int .i64 (k : Int) ∧ k ≤ ks.length) (fun u => ks.length - (intOf u).toNat)
  case atStart => exact ⟨0, rfl, by omega⟩
  case round =>
    obtain ⟨k, rfl, hk⟩ := hrel
    by_cases hlk : k < ks.length
    · have k1 : (k : Int) < (ks.length : Int) := by omega
      obtain ⟨g, rfl, hg, y0⟩ := HA.out.at_ hlk
      have e1 : ((5 : Int) == ks[k]) = false := by rw [beq_eq_false_iff_ne]; exact fun h => HIn.out (by rw [h]; exact List.getElem_mem _)
      go_wp2_with fail
      go_round
      case rel => exact ⟨k + 1, by go_num, by omega⟩
      case measure => simp [intOf]; omega
    · obtain rfl : k = ks.length := by omega
      clear hlk
      go_wp2_with fail
      clear k0
      have hI := HB.out
      go_region_held3 (fun w' => w'.cell? ⟨w.heap.size, 5, none⟩ = some (.slice (some ad) 2 cap5) ∧ (w'.cell? ad = some (.int .i64 a0) ∧ w'.cell? ⟨ad.block, ad.off + 1, none⟩ = some (.int .u64 a1) ∧ w'.cell? ⟨ad.block, ad.off + 2, none⟩ = some (.int .u64 a2) ∧ w'.cell? ⟨ad.block, ad.off + 3, none⟩ = some (.int .u64 a3) ∧ w'.cell? ⟨ad.block, ad.off + 4, none⟩ = some (.int .u64 a4) ∧ w'.cell? ⟨ad.block, ad.off + 5, none⟩ = some (.slice A6 l6 cap6)) ∧ (w'.cell? ⟨ad.block, ad.off + 6, none⟩ = some (.int .i64 b0) ∧ w'.cell? ⟨ad.block, ad.off + 6 + 1, none⟩ = some (.int .u64 b1) ∧ w'.cell? ⟨ad.block, ad.off + 6 + 2, none⟩ = some (.int .u64 b2) ∧ w'.cell? ⟨ad.block, ad.off + 6 + 3, none⟩ = some (.int .u64 b3) ∧ w'.cell? ⟨ad.block, ad.off + 6 + 4, none⟩ = some (.int .u64 b4) ∧ w'.cell? ⟨ad.block, ad.off + 6 + 5, none⟩ = some (.slice B5 m5 capb))) (exact HS.out _ (by (repeat' (first | assumption | with_reducible apply ShB.drew | with_reducible apply ShB.alloc))))
        (first
          | (go_at_call 71; (with_reducible refine (CA.out _ ?_ _ _ ?_).mono ?_); (next => repeat' (first | assumption | with_reducible apply ShB.drew | with_reducible apply ShB.alloc)); (next => exact .inl rfl); rintro e w1 ⟨rfl, hba⟩; have hIa := ShB.kept (by (repeat' (first | assumption | with_reducible apply ShB.drew | with_reducible apply ShB.alloc))) hba)
          | (go_at_call 71; (with_reducible refine (CC.out _ ?_ _ _ ?_).mono ?_); (next => repeat' (first | assumption | with_reducible apply ShB.drew | with_reducible apply ShB.alloc)); (next => refine .inr ⟨_, rfl, ?_⟩; repeat' (first | exact KB.new (by first | rfl | simp) [5] | with_reducible apply KB.drew | with_reducible apply KB.alloc | with_reducible refine KB.kept ?_ (by assumption))); rintro e w2 ⟨rfl, hbb⟩; have hIb := ShB.kept (by (repeat' (first | assumption | with_reducible apply ShB.drew | with_reducible apply ShB.alloc))) hbb)
          | fail)
      all_goals go_wp2_with fail
      all_goals go_ret
      all_goals exact ⟨ret_str (by rw [HT.out]; exact cat_alt), (by assumption : ShB w _ box).be⟩
theorem show_ok : ∀ q : Re, ShowOk q
  | .none => show_of _ fun cs D w ks A c h hD hA hl hz hin => by obtain ⟨A5, c5, rfl⟩ := h; exact show_none w ks A c A5 c5 hA hl hin
  | .empty => show_of _ fun cs D w ks A c h hD hA hl hz hin => by obtain ⟨A5, c5, rfl⟩ := h; exact show_empty w ks A c A5 c5 hA hl hin
  | .beg => show_of _ fun cs D w ks A c h hD hA hl hz hin => by obtain ⟨A5, c5, rfl⟩ := h; exact show_beg w ks A c A5 c5 hA hl hin
  | .fin => show_of _ fun cs D w ks A c h hD hA hl hz hin => by obtain ⟨A5, c5, rfl⟩ := h; exact show_fin w ks A c A5 c5 hA hl hin
  | .byte s => show_of _ fun cs D w ks A c h hD hA hl hz hin => by obtain ⟨hq, _, A5, c5, rfl⟩ := h; exact show_byte s hq w ks A c A5 c5 hA hl hin
  | .star a => show_of _ fun cs D w ks A c h hD hA hl hz hin => by
    obtain ⟨A5, c5, ca, rfl, h1, h2, h3, h4⟩ := h
    exact show_star a ca (show_ok a) D w ks A c A5 c5 hD h3 h4 h1 h2 (by simp only [Re.size] at hz; omega) hA hl hin
  | .cat a b => show_of _ fun cs D w ks A c h hD hA hl hz hin => by
    obtain ⟨A5, c5, ca, cb, rfl, h1, h2, h3, h4, h5, h6⟩ := h
    exact show_cat a b ca cb (show_ok a) (show_ok b) D w ks A c A5 c5 hD h3 h4 h5 h6 h1 h2 (by simp only [Re.size] at hz; omega) hA hl hin
  | .alt a b => show_of _ fun cs D w ks A c h hD hA hl hz hin => by
    obtain ⟨A5, c5, ca, cb, rfl, h1, h2, h3, h4, h5, h6⟩ := h
    exact show_alt a b ca cb (show_ok a) (show_ok b) D w ks A c A5 c5 hD h3 h4 h5 h6 h1 h2 (by simp only [Re.size] at hz; omega) hA hl hin
end Go.Proofs.Ytckinkapbfaceaa
