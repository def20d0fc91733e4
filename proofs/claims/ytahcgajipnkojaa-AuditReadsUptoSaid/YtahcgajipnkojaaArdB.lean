/- Walks: four bytes that are read: the contracts whole. -/
import Derived.Test.YtahcgajipnkojaaArdA
namespace Go.Proofs.Ytahcgajipnkojaa
open Go.RowKit
set_option linter.unusedVariables false
set_option linter.unusedSimpArgs false

section
variable (s : ByteArray) (a : Nat) (e m : Int) (g : Nat) (w : World)
theorem rdA_any (hm : 0 ≤ m) (hk : Blk w g 60 (rdrV s a e)) (hs : s.size ≤ 140737488355320) (ha : a ≤ s.size) {x : Int} {a' : Nat} {e' : Int} (h : rd s.data.toList m (a, e) = (x, a', e')) :
    Calls Try.prog 60 #[.pointer (some ⟨g, 0, none⟩), .int .i64 m] w fun y w' => y = .returned (.int .i64 x) ∧ Blk w' g 60 (rdrV s a' e') ∧ KeptBut w w' g := by
  have key : Calls Try.prog 60 #[.pointer (some ⟨g, 0, none⟩), .int .i64 m] w fun y w' => y = .returned (.int .i64 (rd s.data.toList m (a, e)).1) ∧ Blk w' g 60 (rdrV s (rd s.data.toList m (a, e)).2.1 (rd s.data.toList m (a, e)).2.2) ∧ KeptBut w w' g := by
    by_cases he : e = 0
    · subst he
      by_cases h4 : s.size < a + 4
      · exact rdA_short s a m g w hk ha (by omega) h4
      · exact rdA_go s a m g w hm hk hs (by omega)
    · exact rdA_wrong s a e m g w hk he
  rw [h] at key
  exact key

/-- two blocks may differ -/
structure KeptBut2 (w w' : World) (g1 g2 : Nat) : Prop where
  os : w'.os = w.os
  tape : w'.tape = w.tape
  output : w'.output = w.output
  size : w.heap.size ≤ w'.heap.size
  block : ∀ k, k < w.heap.size → k ≠ g1 → k ≠ g2 → w'.heap[k]? = w.heap[k]?
theorem KeptBut2.refl (w : World) (g1 g2 : Nat) : KeptBut2 w w g1 g2 := ⟨rfl, rfl, rfl, Nat.le_refl _, fun _ _ _ _ => rfl⟩
theorem KeptBut2.tr {w w1 w2 : World} {g1 g2 : Nat} (h : KeptBut2 w w1 g1 g2) (k : KeptBut2 w1 w2 g1 g2) : KeptBut2 w w2 g1 g2 :=
  ⟨k.os.trans h.os, k.tape.trans h.tape, k.output.trans h.output, Nat.le_trans h.size k.size, fun i hi n1 n2 => (k.block i (Nat.lt_of_lt_of_le hi h.size) n1 n2).trans (h.block i hi n1 n2)⟩
theorem KeptBut2.drewN (w : World) (g1 g2 n : Nat) : KeptBut2 w (w.drewN n) g1 g2 := ⟨rfl, rfl, rfl, Nat.le_refl _, fun _ _ _ _ => rfl⟩
theorem KeptBut2.set1 (w : World) (g1 g2 i : Nat) (u : Value) : KeptBut2 w (w.setCell ⟨g1, i, none⟩ u) g1 g2 :=
  ⟨rfl, rfl, rfl, by simp [World.setCell], fun k hk n1 _ => Below.heap_setCell _ _ _ _ n1⟩
theorem KeptBut2.set2 (w : World) (g1 g2 i : Nat) (u : Value) : KeptBut2 w (w.setCell ⟨g2, i, none⟩ u) g1 g2 :=
  ⟨rfl, rfl, rfl, by simp [World.setCell], fun k hk _ n2 => Below.heap_setCell _ _ _ _ n2⟩
theorem KeptBut2.blk {w w' : World} {g1 g2 g : Nat} {t : TypeId} {cs : Array Value} (h : KeptBut2 w w' g1 g2) (hb : Blk w g t cs) (n1 : g ≠ g1) (n2 : g ≠ g2) : Blk w' g t cs := (h.block g hb.lt n1 n2).trans hb

/-- what the closure sees -/
structure Seen (w : World) (ge gs ga : Nat) (s : ByteArray) (a : Nat) (e : Int) : Prop where
  he : Blk w ge 22 #[.int .i64 e]
  hs : Blk w gs 9 #[.string s]
  ha : Blk w ga 3 #[.int .i64 a]
  n1 : ge ≠ gs
  n2 : ge ≠ ga
  n3 : gs ≠ ga
variable (ge gs ga : Nat)
theorem rdR_wrong (hk : Seen w ge gs ga s a e) (h : ¬ e = 0) :
    Calls Try.prog 61 #[.int .i64 m, .pointer (some ⟨ge, 0, none⟩), .pointer (some ⟨gs, 0, none⟩), .pointer (some ⟨ga, 0, none⟩)] w fun y w' => y = .returned (.int .i64 0) ∧ Seen w' ge gs ga s a e ∧ KeptBut2 w w' ge ga := by
  have HK := Lib.hid hk
  have k2 : w.cell? ⟨ge, 0, none⟩ = some (.int .i64 e) := hk.he.cell 0
  have n1 : (e != 0) = true := by rw [bne_iff_ne]; exact h
  have n2 : (e == 0) = false := by rw [beq_eq_false_iff_ne]; exact h
  clear hk h
  go_enter Try.func61, Try.ntmps61
  go_wp2_with fail
  go_ret
  exact ⟨rfl, HK.out, KeptBut2.refl _ _ _⟩

theorem rdR_short (hk : Seen w ge gs ga s a 0) (hs : s.size ≤ 9223372036854775800) (ha : a ≤ s.size) (h : s.size < a + 4) :
    Calls Try.prog 61 #[.int .i64 m, .pointer (some ⟨ge, 0, none⟩), .pointer (some ⟨gs, 0, none⟩), .pointer (some ⟨ga, 0, none⟩)] w fun y w' => y = .returned (.int .i64 0) ∧ Seen w' ge gs ga s a 7 ∧ KeptBut2 w w' ge ga := by
  have HK := Lib.hid hk
  have k0 : w.cell? ⟨ge, 0, none⟩ = some (.int .i64 0) := hk.he.cell 0
  have k1 : w.cell? ⟨gs, 0, none⟩ = some (.string s) := hk.hs.cell 0
  have k2 : w.cell? ⟨ga, 0, none⟩ = some (.int .i64 a) := hk.ha.cell 0
  have f0 : w.frozen? ⟨ge, 0, none⟩ = false := hk.he.frozen 0
  clear hk
  go_enter Try.func61, Try.ntmps61
  go_wp2_with fail
  go_ret
  exact ⟨rfl, ⟨HK.out.he.set_ 0 _, HK.out.hs.far (fun h => HK.out.n1 h.symm) _, HK.out.ha.far (fun h => HK.out.n2 h.symm) _, HK.out.n1, HK.out.n2, HK.out.n3⟩, KeptBut2.set1 _ _ _ _ _⟩

theorem accN4 (l : List UInt8) : ((accN l 4 : Nat) : Int) = ((l.getD 0 0).toNat : Int) * 16777216 + ((l.getD 1 0).toNat : Int) * 65536 + ((l.getD 2 0).toNat : Int) * 256 + ((l.getD 3 0).toNat : Int) := by
  simp only [accN]; omega
theorem getD_drop (s : ByteArray) (a j : Nat) (h : a + j < s.size) : (s.data.toList.drop a).getD j 0 = s[a + j] := by
  rw [List.getD, List.getElem?_drop, lst_get? s (a + j) h]; rfl

end
end Go.Proofs.Ytahcgajipnkojaa
