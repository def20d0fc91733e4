/- Bodies of parts as they are read (P36), plainly; the result's cells of a call that answers with one pair. -/
import Derived.Test.YtaepbpdcfmklpaaDoorAnyB
import Derived.Test.YtaepbpdcfmklpaaDoorHas1
import Derived.Test.YtaepbpdcfmklpaaDoorCut
import Derived.Test.YtaepbpdcfmklpaaDoorSuf
import Derived.Test.YtaepbpdcfmklpaaDoorPrA
import Derived.Deep.RegionLaw
import Derived.Deep.DeepHandedRow
namespace Go.Proofs.YtaepbpdcfmklpaaDoor
open Go.RowKit
set_option linter.unusedVariables false
set_option linter.unusedSimpArgs false

def crlfB : ByteArray := ⟨#[13, 10]⟩
def begB : ByteArray := ⟨#[99, 111, 110, 116, 101, 110, 116, 45, 100, 105, 115, 112, 111, 115, 105, 116, 105, 111, 110, 58, 32, 102, 111, 114, 109, 45, 100, 97, 116, 97, 59, 32, 110, 97, 109, 101, 61, 34]⟩
def quoQ : ByteArray := ⟨#[34]⟩
/-- what stands ahead of an end that is cut off -/
def sufS (s p : ByteArray) : ByteArray := if sufB s p = true then s.extract 0 (s.size - p.size) else s
theorem cutSuf_any (s p : ByteArray) (w : World) (hs : s.size ≤ 9223372036854775807) :
    Calls Tryd.prog 95 #[.string s, .string p] w fun e w' => e = .returned (.tuple #[.string (sufS s p), .bool (sufB s p)]) ∧ w = w' := by
  cases h : sufB s p with
  | true => unfold sufS; rw [if_pos h]; exact cutSuf_yes s p w hs h
  | false => unfold sufS; rw [if_neg (by rw [h]; decide)]; exact cutSuf_no s p w hs h
theorem sufS_size (s p : ByteArray) : (sufS s p).size ≤ s.size := by
  unfold sufS; split
  · rw [ByteArray.size_extract]; omega
  · exact Nat.le_refl _
theorem frontS_size (s p : ByteArray) : (frontS s p).size ≤ s.size := by
  unfold frontS; split
  · rw [ByteArray.size_extract]; omega
  · exact Nat.le_refl _
/-- a part's name in its first line -/
def nameS (f : ByteArray) : ByteArray := sufS (frontS f begB) quoQ
def nameB (f : ByteArray) : Bool := frontB f begB && sufB (frontS f begB) quoQ && !hasQ (nameS f)
theorem nameS_size (f : ByteArray) : (nameS f).size ≤ f.size := Nat.le_trans (sufS_size _ _) (frontS_size _ _)
/-- the lines up to the empty one -/
def skipN : Nat → ByteArray → Option ByteArray
  | 0, _ => none
  | n + 1, r => if (cutS r crlfB).2.2 = false then none else if (cutS r crlfB).1.size = 0 then some (cutS r crlfB).2.1 else skipN n (cutS r crlfB).2.1
theorem cut_less {s t : ByteArray} (ht : 1 ≤ t.size) (h : (cutS s t).2.2 = true) : (cutS s t).1.size + t.size + (cutS s t).2.1.size = s.size := by
  rcases Lib.indexB_cases s t with h1 | ⟨i, h1, hr⟩
  · rw [cutS_miss h1] at h; cases h
  · rw [cutS_hit h1 hr]
    dsimp only
    rw [ByteArray.size_extract, ByteArray.size_extract]; omega
theorem skip_size : ∀ (n : Nat) (r x : ByteArray), skipN n r = some x → x.size + 2 ≤ r.size
  | 0, _, _, h => by cases h
  | n + 1, r, x, h => by
    unfold skipN at h
    cases h1 : (cutS r crlfB).2.2 with
    | false => rw [if_pos h1] at h; cases h
    | true =>
      have hl := cut_less (s := r) (t := crlfB) (by decide) h1
      have hc : crlfB.size = 2 := rfl
      rw [if_neg (by rw [h1]; decide)] at h
      split at h
      · injection h with h; rw [← h]; omega
      · have := skip_size n _ x h; omega
def valS (v : ByteArray) : ByteArray := str (Lib.trimPrefix v.data.toList [13, 10])
def sepB (b : ByteArray) : ByteArray := ({ data := #[13, 10, 45, 45] } ++ b : ByteArray)
def rawB (r : ByteArray) : ByteArray := ({ data := #[13, 10] } ++ r : ByteArray)
/-- a part at the front of a text, what is left behind the next boundary -/
def partF (b s : ByteArray) : Option (Fd × ByteArray) :=
  if (cutS s crlfB).2.2 = false ∨ nameB (cutS s crlfB).1 = false then none else
    match skipN (s.size + 1) (cutS s crlfB).2.1 with
    | none => none
    | some r => if (cutS (rawB r) (sepB b)).2.2 = false then none else some (⟨nameS (cutS s crlfB).1, valS (cutS (rawB r) (sepB b)).1⟩, (cutS (rawB r) (sepB b)).2.1)
def emp : ByteArray := ⟨#[]⟩
def partV : Option (Fd × ByteArray) → Value
  | none => .tuple #[.agg #[.string emp, .string emp], .string emp, .bool false]
  | some x => .tuple #[.agg #[.string x.1.n, .string x.1.v], .string x.2, .bool true]
theorem part_nocut {b s : ByteArray} (h : (cutS s crlfB).2.2 = false) : partF b s = none := by unfold partF; rw [if_pos (.inl h)]
theorem part_noname {b s : ByteArray} (h : nameB (cutS s crlfB).1 = false) : partF b s = none := by unfold partF; rw [if_pos (.inr h)]
theorem part_noskip {b s : ByteArray} (h : skipN (s.size + 1) (cutS s crlfB).2.1 = none) : partF b s = none := by
  unfold partF; rw [h]; split <;> rfl
theorem part_nosep {b s r : ByteArray} (h : skipN (s.size + 1) (cutS s crlfB).2.1 = some r) (h2 : (cutS (rawB r) (sepB b)).2.2 = false) : partF b s = none := by
  unfold partF; rw [h]; dsimp only; rw [if_pos h2]; split <;> rfl
theorem part_some {b s r : ByteArray} (h0 : (cutS s crlfB).2.2 = true) (h1 : nameB (cutS s crlfB).1 = true) (h : skipN (s.size + 1) (cutS s crlfB).2.1 = some r) (h2 : (cutS (rawB r) (sepB b)).2.2 = true) :
    partF b s = some (⟨nameS (cutS s crlfB).1, valS (cutS (rawB r) (sepB b)).1⟩, (cutS (rawB r) (sepB b)).2.1) := by
  unfold partF
  rw [if_neg (by rw [h0, h1]; decide), h]
  dsimp only
  rw [if_neg (by rw [h2]; decide)]
theorem valS_size (v : ByteArray) : (valS v).size ≤ v.size := by
  unfold valS
  rw [size_str]
  have : (Lib.trimPrefix v.data.toList [13, 10]).length ≤ v.data.toList.length := by
    unfold Lib.trimPrefix; split
    · rw [List.length_drop]; omega
    · exact Nat.le_refl _
  rw [lst_len] at this; exact this
theorem rawB_size (r : ByteArray) : (rawB r).size = r.size + 2 := by
  unfold rawB; rw [← lst_len, lst_app, List.length_append, lst_len, lst_len]; show 2 + _ = _; omega
theorem sepB_size (b : ByteArray) : (sepB b).size = b.size + 4 := by
  unfold sepB; rw [← lst_len, lst_app, List.length_append, lst_len, lst_len]; show 4 + _ = _; omega
theorem part_size {b s : ByteArray} {x : Fd × ByteArray} (h : partF b s = some x) : x.2.size ≤ s.size ∧ x.1.n.size ≤ s.size ∧ x.1.v.size ≤ s.size := by
  cases h0 : (cutS s crlfB).2.2 with
  | false => rw [part_nocut h0] at h; cases h
  | true =>
    cases h1 : nameB (cutS s crlfB).1 with
    | false => rw [part_noname h1] at h; cases h
    | true =>
      cases h2 : skipN (s.size + 1) (cutS s crlfB).2.1 with
      | none => rw [part_noskip h2] at h; cases h
      | some r =>
        cases h3 : (cutS (rawB r) (sepB b)).2.2 with
        | false => rw [part_nosep h2 h3] at h; cases h
        | true =>
          rw [part_some h0 h1 h2 h3] at h
          injection h with h
          have a1 := cut_less (s := s) (t := crlfB) (by decide) h0
          have a2 := skip_size _ _ _ h2
          have a3 := cut_less (s := rawB r) (t := sepB b) (by rw [sepB_size]; omega) h3
          have a4 := nameS_size (cutS s crlfB).1
          have a5 := valS_size (cutS (rawB r) (sepB b)).1
          rw [rawB_size, sepB_size] at a3
          have a6 : crlfB.size = 2 := rfl
          rw [← h]
          dsimp only
          omega
/-- stands t at the front of s? -/
def preB (s t : ByteArray) : Bool := Lib.hasPrefix s.data.toList t.data.toList
def ddB (b : ByteArray) : ByteArray := ({ data := #[45, 45] } ++ b : ByteArray)
def lastB : ByteArray := ⟨#[45, 45, 13, 10]⟩
/-- the parts of a body -/
def readN (b : ByteArray) (most : Int) : Nat → ByteArray → List Fd → List Fd × Int
  | 0, _, _ => ([], 0)
  | n + 1, s, out => if (s.data.toList == lastB.data.toList) = true then (out, 0) else if preB s crlfB = false then ([], 4) else
      match partF b (s.extract 2 s.size) with
      | none => ([], 4)
      | some x => if most ≤ (out.length : Int) then ([], 2) else readN b most n x.2 (out ++ [x.1])
def readR (b s : ByteArray) (most : Int) : List Fd × Int :=
  if bndL b = false then ([], 1) else if 4096 < s.size then ([], 2) else if preB s (ddB b) = false then ([], 4) else readN b most (s.size + 1) (s.extract (ddB b).size s.size) []
theorem read_end {b : ByteArray} {most : Int} {n : Nat} {s : ByteArray} {out : List Fd} (h : (s.data.toList == lastB.data.toList) = true) : readN b most (n + 1) s out = (out, 0) := by rw [readN, if_pos h]
theorem read_pre {b : ByteArray} {most : Int} {n : Nat} {s : ByteArray} {out : List Fd} (h : (s.data.toList == lastB.data.toList) = false) (h2 : preB s crlfB = false) : readN b most (n + 1) s out = ([], 4) := by rw [readN, if_neg (by rw [h]; decide), if_pos h2]
theorem read_none {b : ByteArray} {most : Int} {n : Nat} {s : ByteArray} {out : List Fd} (h : (s.data.toList == lastB.data.toList) = false) (h3 : partF b (s.extract 2 s.size) = none) : readN b most (n + 1) s out = ([], 4) := by
  rw [readN, if_neg (by rw [h]; decide), h3]; split <;> rfl
theorem read_many {b : ByteArray} {most : Int} {n : Nat} {s : ByteArray} {out : List Fd} {x : Fd × ByteArray} (h : (s.data.toList == lastB.data.toList) = false) (h2 : preB s crlfB = true) (h3 : partF b (s.extract 2 s.size) = some x) (h4 : most ≤ (out.length : Int)) : readN b most (n + 1) s out = ([], 2) := by
  rw [readN, if_neg (by rw [h]; decide), if_neg (by rw [h2]; decide), h3]; dsimp only; rw [if_pos h4]
theorem read_more {b : ByteArray} {most : Int} {n : Nat} {s : ByteArray} {out : List Fd} {x : Fd × ByteArray} (h : (s.data.toList == lastB.data.toList) = false) (h2 : preB s crlfB = true) (h3 : partF b (s.extract 2 s.size) = some x) (h4 : ¬ most ≤ (out.length : Int)) : readN b most (n + 1) s out = readN b most n x.2 (out ++ [x.1]) := by
  rw [readN, if_neg (by rw [h]; decide), if_neg (by rw [h2]; decide), h3]; dsimp only; rw [if_neg h4]
theorem readR_arg {b s : ByteArray} {most : Int} (h : bndL b = false) : readR b s most = ([], 1) := by unfold readR; rw [if_pos h]
theorem readR_large {b s : ByteArray} {most : Int} (h : bndL b = true) (h2 : 4096 < s.size) : readR b s most = ([], 2) := by unfold readR; rw [if_neg (by rw [h]; decide), if_pos h2]
theorem readR_form {b s : ByteArray} {most : Int} (h : bndL b = true) (h2 : ¬ 4096 < s.size) (h3 : preB s (ddB b) = false) : readR b s most = ([], 4) := by unfold readR; rw [if_neg (by rw [h]; decide), if_neg h2, if_pos h3]
theorem readR_rest {b s : ByteArray} {most : Int} (h : bndL b = true) (h2 : ¬ 4096 < s.size) (h3 : preB s (ddB b) = true) : readR b s most = readN b most (s.size + 1) (s.extract (ddB b).size s.size) [] := by unfold readR; rw [if_neg (by rw [h]; decide), if_neg h2, if_neg (by rw [h3]; decide)]
theorem preB_size {s t : ByteArray} (h : preB s t = true) : t.size ≤ s.size := by
  unfold preB at h
  rw [← Lib.hasPrefix_raw, Bool.and_eq_true, decide_eq_true_eq] at h
  exact h.1

/-! ### the result's cells -/
structure Az (w wr : World) : Prop where
  res : Blk wr w.heap.size 35 #[.string { data := #[] }, .string { data := #[] }]
  be : Below w.heap.size w wr
theorem Az.start (w : World) : Az w (w.alloc (.cells #[.string { data := #[] }, .string { data := #[] }] 35)) := ⟨Blk.new _ _ _, (Below.refl _ _).alloc (Nat.le_refl _) _⟩
theorem Az.lt {w wr : World} (h : Az w wr) : w.heap.size < wr.heap.size := Blk.lt h.res
theorem Az.kept {w wr wr' : World} (h : Az w wr) (hb : Below wr.heap.size wr wr') : Az w wr' := ⟨h.res.below hb h.lt, h.be.trans (hb.mono (Nat.le_of_lt h.lt))⟩
theorem Az.drewN {w wr : World} (h : Az w wr) (n : Nat) : Az w (wr.drewN n) := ⟨h.res, below_drewN h.be n⟩
theorem Az.facts {w wr : World} (h : Az w wr) : wr.cell? ⟨w.heap.size, 0, none⟩ = some (.string { data := #[] }) ∧ wr.cell? ⟨w.heap.size, 1, none⟩ = some (.string { data := #[] }) ∧ wr.frozen? ⟨w.heap.size, 0, none⟩ = false ∧ wr.frozen? ⟨w.heap.size, 1, none⟩ = false :=
  ⟨h.res.cell 0, h.res.cell 1, h.res.frozen 0, h.res.frozen 1⟩
theorem Az.put {w wr : World} (h : Az w wr) (a b : Value) :
    ∃ wz, wz = (wr.setCell ⟨w.heap.size, 0, none⟩ a).setCell ⟨w.heap.size, 1, none⟩ b ∧ Below w.heap.size w wz ∧ wz.cell? ⟨w.heap.size, 0, none⟩ = some a ∧ wz.cell? ⟨w.heap.size, 1, none⟩ = some b := by
  have h1 := (h.res.set_ 0 a).set_ 1 b
  exact ⟨_, rfl, (h.be.setCell (p := ⟨w.heap.size, 0, none⟩) (Nat.le_refl _) _).setCell (p := ⟨w.heap.size, 1, none⟩) (Nat.le_refl _) _, h1.cell 0, h1.cell 1⟩
end Go.Proofs.YtaepbpdcfmklpaaDoor
