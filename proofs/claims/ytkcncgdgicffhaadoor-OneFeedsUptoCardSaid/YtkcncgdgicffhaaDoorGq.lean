/- Lists of fields that a call makes: slices.Equal of two of them. -/
import Derived.Test.YtkcncgdgicffhaaDoorGp
import Derived.WalkKit
import Derived.WalkSpells
import Derived.WalkLawsBesides
import Derived.Lib.Hide
import Derived.Deep.QuietTactic
import Derived.BigQuiet
import Derived.StillTailTactics
import Derived.Laws.StructEq
import Derived.Test.YtkcncgdgicffhaaDoorGd
import Derived.Test.YtkcncgdgicffhaaDoorShelf
import Derived.Lib.Strings
import Derived.Test.YtkcncgdgicffhaaDoorGo
namespace Go.Proofs.YtkcncgdgicffhaaDoor
open Go.RowKit
set_option linter.unusedVariables false
set_option linter.unusedSimpArgs false

theorem infoField : (Tryd.prog.info? 108).map (fun i => (i.zero, i.size, i.bytes)) = some (some (.agg #[.string ByteArray.empty, .string ByteArray.empty]), 2, 32) := by kernel_rfl
set_option maxHeartbeats 1000000 in
theorem eqFd_any (A A' : Option Addr) (cap cap' : Nat) (l : List Fd) (w : World) (B B' : Nat) (hl : l.length ≤ 9000000000) (h : OP 108 w B (.slice A l.length cap) l) (h' : OP 108 w B' (.slice A' l.length cap') l) :
    Calls Tryd.prog 62 #[.slice A l.length cap, .slice A' l.length cap'] w fun e w' => e = .returned (.bool true) ∧ Below w.heap.size w w' := by
  have hb0 : ((l.length : Int) != (l.length : Int)) = false := by simp
  have H := Lib.hid h
  have H' := Lib.hid h'
  clear h h'
  go_enter Tryd.func62, Tryd.ntmps62
  go_wp2_with fail
  go_loopw [13] (fun i wr => ∃ k q : Nat, k ≤ l.length ∧ i = .int .i64 k ∧ wr = w.drewN q) (fun i _ => l.length - (intOf i).toNat)
  case atStart => exact ⟨0, 0, by omega, rfl, rfl⟩
  case round =>
    obtain ⟨k, q, hk, rfl, rfl⟩ := hrel
    by_cases hlt : k < l.length
    · obtain ⟨i, hi⟩ : ∃ i, l[k]? = some i := ⟨l[k], List.getElem?_eq_getElem hlt⟩
      obtain ⟨g, rfl, _, _, x0, x1⟩ := H.out.at_ hi
      obtain ⟨g', rfl, _, _, y0, y1⟩ := H'.out.at_ hi
      clear hi
      go_wp2_with fail
      go_quiet (fail)
      go_wp2_with fail
      go_roundw
      case rel => exact ⟨k + 1, _, by omega, by go_num, rfl⟩
      case measure => simp [intOf]; omega
    · obtain rfl : k = l.length := by omega
      go_wp2_with fail
      go_ret
      exact ⟨rfl, below_drewN (Below.refl _ _) q⟩
end Go.Proofs.YtkcncgdgicffhaaDoor

/- strings.CutSuffix in plain words. -/
namespace Go.Proofs.YtkcncgdgicffhaaDoor
open Go.RowKit
set_option linter.unusedVariables false
set_option linter.unusedSimpArgs false

/-- does s end with p? -/
def sufB (s p : ByteArray) : Bool := decide (p.size ≤ s.size) && ((s.extract (s.size - p.size) s.size).toList == p.toList)
theorem sufB_yes {s p : ByteArray} (h : sufB s p = true) : p.size ≤ s.size ∧ ((s.extract (s.size - p.size) s.size).toList == p.toList) = true := by
  unfold sufB at h
  rw [Bool.and_eq_true, decide_eq_true_eq] at h
  exact h
theorem cutSuf_yes (s p : ByteArray) (w : World) (hs : s.size ≤ 9223372036854775807) (h : sufB s p = true) :
    Calls Tryd.prog 135 #[.string s, .string p] w fun e w' => e = .returned (.tuple #[.string (s.extract 0 (s.size - p.size)), .bool true]) ∧ w = w' :=
  (Tryd.strings_CutSuffix s p w hs).mono fun e w' ⟨h1, h2⟩ => by
    obtain ⟨a, b⟩ := sufB_yes h
    have hh : Lib.hasSuffix s.data.toList p.data.toList = true := by rw [← Lib.hasSuffix_raw]; exact h
    exact ⟨by rw [h1, Lib.trimSuffix_hit s p a b, hh], h2.symm⟩
theorem cutSuf_no (s p : ByteArray) (w : World) (hs : s.size ≤ 9223372036854775807) (h : sufB s p = false) :
    Calls Tryd.prog 135 #[.string s, .string p] w fun e w' => e = .returned (.tuple #[.string s, .bool false]) ∧ w = w' :=
  (Tryd.strings_CutSuffix s p w hs).mono fun e w' ⟨h1, h2⟩ => by
    have hh : Lib.hasSuffix s.data.toList p.data.toList = false := by rw [← Lib.hasSuffix_raw]; exact h
    exact ⟨by rw [h1, Lib.trimSuffix_miss s p h, hh], h2.symm⟩
end Go.Proofs.YtkcncgdgicffhaaDoor

/- Strings that a call gathers: a []string of its own (a slice of strings that reads as a list). -/
namespace Go.Proofs.YtkcncgdgicffhaaDoor
open Go.RowKit
set_option linter.unusedVariables false
set_option linter.unusedSimpArgs false

theorem infoStr : (Tryd.prog.info? 9).map (fun i => (i.zero, i.size, i.bytes)) = some (some (.string ByteArray.empty), 1, 16) := by kernel_rfl
/-- the slice value v owns the strings l (in a block from B on) -/
def OS (w : World) (B : Nat) (v : Value) (l : List ByteArray) : Prop := w.ownsRow B 9 1 v l.length (l.map Value.string)
theorem OS.nil (w : World) (B : Nat) : OS w B (.slice none 0 0) [] := World.ownsRow_nil _ _ _ _
section
variable {w w' : World} {B : Nat} {v v' : Value} {l : List ByteArray}
theorem OS.drew (h : OS w B v l) : OS w.drew B v l := h
theorem OS.drewN (h : OS w B v l) (n : Nat) : OS (w.drewN n) B v l := h
theorem OS.alloc (h : OS w B v l) (o : Obj) : OS (w.alloc o) B v l := World.ownsRow.alloc h o
theorem OS.mono {B' : Nat} (h : OS w B v l) (hB : B' ≤ B) : OS w B' v l := by
  refine ⟨h.1, ?_⟩
  rcases h.2 with h2 | ⟨g, cap, cur, e1, e2, e3⟩
  · exact .inl h2
  · exact .inr ⟨g, cap, cur, e1, Nat.le_trans hB e2, e3⟩
theorem OS.kept (h : OS w B v l) (hb : Below w.heap.size w w') : OS w' B v l := by
  refine World.ownsRow.kept (row := none) h ⟨hb.os, hb.tape, hb.output, hb.size, fun k hk _ => hb.block k hk⟩ ?_
  cases v.ownBlock <;> simp
theorem OS.form (h : OS w B v l) : ∃ A c, v = .slice A l.length c := by
  rcases h.2 with ⟨rfl, hn⟩ | ⟨g, cap, cur, rfl, _⟩
  · exact ⟨none, 0, by rw [hn]⟩
  · exact ⟨_, _, rfl⟩
theorem OS.len_max (h : OS w B v l) : l.length ≤ 9223372036854775807 := by
  rcases h.2 with ⟨rfl, hn⟩ | ⟨g, cap, cur, rfl, _, _, h1, h2, _⟩
  · omega
  · unfold maxLen at h2; omega
/-- where it lies, and its cells -/
theorem OS.at_ {A : Option Addr} {c : Nat} (h : OS w B (.slice A l.length c) l) (hn : 0 < l.length) : ∃ g, A = some ⟨g, 0, none⟩ ∧ B ≤ g ∧ g < w.heap.size ∧ l.length ≤ c ∧ ∀ k (hk : k < l.length), w.cell? ⟨g, k, none⟩ = some (.string l[k]) := by
  rcases h.2 with ⟨_, h2⟩ | ⟨g, c', cur, e1, hB, hh, hnc, _⟩
  · omega
  · injection e1 with e1 _ e3
    subst e1 e3
    refine ⟨g, rfl, hB, Blk.lt (t := 9) (cs := cur) hh, hnc, fun k hk => ?_⟩
    rw [World.ownsRow.cellAt h k (by omega), List.getElem?_map, List.getElem?_eq_getElem hk]; rfl
/-- a slice of its first n -/
theorem OS.cut {A : Option Addr} {c n : Nat} (h : OS w B (.slice A l.length c) l) (hn : n ≤ l.length) (h0 : 0 < l.length) : OS w B (.slice A n c) (l.take n) := by
  rcases h.2 with ⟨_, h2⟩ | ⟨g, c', cur, e1, hB, hh, hnc, hm, hcs, ht⟩
  · omega
  · injection e1 with e1 _ e3
    subst e1 e3
    have hl : (l.take n).length = n := by rw [List.length_take]; omega
    unfold OS
    rw [hl]
    refine ⟨by simp; omega, .inr ⟨g, c, cur, rfl, hB, hh, by omega, hm, hcs, ?_⟩⟩
    rw [List.map_take, ← ht, List.take_take, Nat.mul_one, Nat.mul_one, Nat.min_eq_left hn]
theorem OS.reads {A : Option Addr} {c : Nat} (h : OS w B (.slice A l.length c) l) : Reads w w.heap.size 1 A l.length (l.map Value.string) := Reads.of_own h

theorem wpL_appS {ops : Array Oper} {rest : List Oper} {o : Oper} {a : Act} {Q : Exit → Act → World → Prop} (hgd : o.guard = none) (s x : Operand)
    (ho : o.op = .call { callee := .builtin .append, args := #[s, x], argTypes := #[81, 81] })
    (h : OS w B v l) (hs : a.eval s = v) (p : ByteArray)
    (hx : a.eval x = .slice (some ⟨w.heap.size, 0, none⟩) 1 1) (hlen : l.length ≤ 1000000000000) (hB : B ≤ w.heap.size)
    (hK : ∀ v' w', OS w' B v' (l ++ [p]) → Grew w w' v v' → Below B w w' → wpList Tryd.prog ops Q rest (a.put o.dst v') w') :
    wpList Tryd.prog ops Q (o :: rest) a (w.alloc (.cells #[.string p] 9)) := by
  obtain ⟨i0, hi0, hz0, hz1, hz2⟩ := info_parts infoStr
  refine wpL_appG (P := Tryd.prog) (Q := Q) (rest := rest) (ops := ops) hgd s x ho Tryd.underlying81 hi0 hz0 hz1 hz2 rfl (by decide) h hs [.string p] 1 1 hx rfl (by
    intro u hu
    rw [List.mem_singleton] at hu; rw [hu]; rfl) (by unfold maxLen; omega) (by omega) hB fun v' w' h2 h3 => hK v' w' ?_ h3 (h3.below hB (own_from h))
  unfold OS
  rw [List.length_append, List.map_append]
  exact h2
end

/-- the strings' bytes -/
abbrev dl (l : List ByteArray) : List (List UInt8) := l.map (·.data.toList)
end Go.Proofs.YtkcncgdgicffhaaDoor
