/- wickref.Has of one byte; a bit; the law's state. -/
import Derived.Test.YtkcncgdgicffhaaDoorGz
import Derived.Test.YtkcncgdgicffhaaDoorGaa
namespace Go.Proofs.YtkcncgdgicffhaaDoor
open Go.RowKit
set_option linter.unusedVariables false
set_option linter.unusedSimpArgs false

theorem hasN_any (x : ByteArray) (b : UInt8) (w : World) (hx : x.size ≤ 140737488355328) :
    Calls Tryd.prog 41 #[.string x, .string ⟨#[b]⟩] w fun e w' => e = .returned (.bool (decide (0 ≤ Lib.indexByte x.data.toList b))) ∧ w = w' := by
  have C := Find_any x ⟨#[b]⟩ 0 w hx (by show 1 ≤ _; omega) (by omega) (by omega)
  rw [show fndL x.data.toList (⟨#[b]⟩ : ByteArray).data.toList (0 : Int).toNat = Lib.index x.data.toList [b] from fnd0 _ _, Lib.index_one] at C
  obtain ⟨i, hi⟩ : ∃ i, i = Lib.indexByte x.data.toList b := ⟨_, rfl⟩
  rw [← hi] at C ⊢
  have C := Lib.hid C
  clear hi
  go_enter Tryd.func41, Tryd.ntmps41
  go_wp2_with fail
  refine C.out.mono ?_
  rintro e w' ⟨rfl, rfl⟩
  go_wp2_with fail
  go_ret
  exact ⟨rfl, rfl⟩
theorem and1 (a : Nat) (ha : a < 4294967296) : Go.bits .and .u32 (a : Int) 1 = ((a % 2 : Nat) : Int) := by
  show IntKind.u32.wrap ((BitVec.ofInt 32 (a : Int) &&& BitVec.ofInt 32 1).toNat : Int) = _
  have h : (BitVec.ofInt 32 (a : Int) &&& BitVec.ofInt 32 1).toNat = a % 2 := by
    rw [show (1 : Int) = ((1 : Nat) : Int) from rfl, BitVec.toNat_and, BitVec.ofInt_natCast, BitVec.ofInt_natCast, BitVec.toNat_ofNat, BitVec.toNat_ofNat, Nat.mod_eq_of_lt (by omega), Nat.mod_eq_of_lt (a := 1) (by decide), show 1 = 2 ^ 1 - 1 from rfl, Nat.and_two_pow_sub_one_eq_mod]
  rw [h]
  exact IntWalk.u32_in _ ⟨by omega, by omega⟩
theorem and_bit {a p : Nat} {x : Bool} (ha : a < 4294967296) (h : a.testBit p = x) : Go.bits .and .u32 ((a : Int) / 2 ^ p) 1 = (x.toNat : Int) := by
  have h1 : (a : Int) / 2 ^ p = ((a / 2 ^ p : Nat) : Int) := by rw [Int.natCast_ediv, Int.natCast_pow]; rfl
  have h2 : a / 2 ^ p ≤ a := Nat.div_le_self _ _
  rw [h1, and1 _ (by omega)]
  rw [Nat.testBit_eq_decide_div_mod_eq] at h
  cases x with
  | true => have := of_decide_eq_true h; show _ = (1 : Int); omega
  | false => have := of_decide_eq_false h; show _ = (0 : Int); omega
theorem ntsF_len (l : List ByteArray) (acc : List (Nat × Int)) : (ntsF l acc).1.length ≤ acc.length + l.length := by
  induction l generalizing acc with
  | nil => simp [ntsF]
  | cons x l ih =>
    unfold ntsF
    split
    · have := ih (acc ++ [((netR x).1, (netR x).2.1)]); simp at this ⊢; omega
    · simp
theorem ntsR_len (s : ByteArray) : (ntsR s).1.length ≤ 30 := by
  unfold ntsR
  split
  · simp
  · have := ntsF_len (pcs s ⟨#[44]⟩) []; simp at this; omega
/-- the law's state: the parameter's box; two nets that are the same; two lists that are -/
structure N5 (w : World) (a : Nat) (b : Int) (g7 g9 : Nat) (A B : Nat × Int) (l m : Value) (L : List (Nat × Int)) (wr : World) : Prop where
  box : Blk wr w.heap.size 70 #[.int .u32 a, .int .i64 b]
  be : Below w.heap.size w wr
  p7 : Blk wr g7 70 #[.int .u32 A.1, .int .i64 A.2]
  p9 : Blk wr g9 70 #[.int .u32 B.1, .int .i64 B.2]
  on : ON wr w.heap.size l L
  om : ON wr w.heap.size m L
section
variable {w wr wr' : World} {a : Nat} {b : Int} {g7 g9 : Nat} {A B : Nat × Int} {l m : Value} {L : List (Nat × Int)}
theorem N5.step (h : N5 w a b g7 g9 A B l m L wr) (hb : Below wr.heap.size wr wr') : N5 w a b g7 g9 A B l m L wr' :=
  ⟨h.box.below hb h.box.lt, h.be.trans (hb.mono h.be.size), h.p7.below hb h.p7.lt, h.p9.below hb h.p9.lt, h.on.kept hb, h.om.kept hb⟩
theorem N5.facts (h : N5 w a b g7 g9 A B l m L wr) : wr.cell? ⟨w.heap.size, 0, none⟩ = some (.int .u32 a) ∧ wr.cell? ⟨w.heap.size, 1, none⟩ = some (.int .i64 b) ∧ wr.cell? ⟨g7, 0, none⟩ = some (.int .u32 A.1) ∧ wr.cell? ⟨g7, 1, none⟩ = some (.int .i64 A.2) ∧ wr.cell? ⟨g9, 0, none⟩ = some (.int .u32 B.1) ∧ wr.cell? ⟨g9, 1, none⟩ = some (.int .i64 B.2) :=
  ⟨h.box.cell 0, h.box.cell 1, h.p7.cell 0, h.p7.cell 1, h.p9.cell 0, h.p9.cell 1⟩
end
/-- the box alone -/
structure N1 (w : World) (a : Nat) (b : Int) (wr : World) : Prop where
  box : Blk wr w.heap.size 70 #[.int .u32 a, .int .i64 b]
  be : Below w.heap.size w wr
section
variable {w wr wr' : World} {a : Nat} {b : Int}
theorem N1.start (w : World) (a : Nat) (b : Int) : N1 w a b (w.alloc (.cells #[.int .u32 a, .int .i64 b] 70)) := ⟨Blk.new _ _ _, (Below.refl _ _).alloc (Nat.le_refl _) _⟩
theorem N1.step (h : N1 w a b wr) (hb : Below wr.heap.size wr wr') : N1 w a b wr' := ⟨h.box.below hb h.box.lt, h.be.trans (hb.mono h.be.size)⟩
theorem N1.facts (h : N1 w a b wr) : wr.cell? ⟨w.heap.size, 0, none⟩ = some (.int .u32 a) ∧ wr.cell? ⟨w.heap.size, 1, none⟩ = some (.int .i64 b) := ⟨h.box.cell 0, h.box.cell 1⟩
end
end Go.Proofs.YtkcncgdgicffhaaDoor
