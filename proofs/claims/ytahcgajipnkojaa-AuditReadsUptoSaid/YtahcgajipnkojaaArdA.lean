/- Walks: four bytes that are read, both sides: (*audit.reader).four, the closure of wickref.ReadRecord. -/
import Derived.Test.YtahcgajipnkojaaMB
import Derived.Test.YtahcgajipnkojaaApp
import Derived.Laws.BitsAllLaws
import Derived.WalkKit
import Derived.WalkSpells
import Derived.WalkLawsBesides
import Derived.Lib.Hide
import Derived.Deep.QuietTactic
import Derived.BigQuiet
import Derived.Deep.RegionHeld3
import Derived.Deep.DrawnRows
namespace Go.Proofs.Ytahcgajipnkojaa
open Go.RowKit
set_option linter.unusedVariables false
set_option linter.unusedSimpArgs false

theorem ofInt_i64 (a : Nat) (ha : a < 4611686018427387904) : (BitVec.ofInt 64 (a : Int)).toNat = a := by
  rw [BitVec.ofInt_natCast, BitVec.toNat_ofNat]; exact Nat.mod_eq_of_lt (by omega)
theorem i64_or_nat (a b : Nat) (ha : a < 4611686018427387904) (hb : b < 4611686018427387904) : bits .or .i64 (a : Int) (b : Int) = ((a ||| b : Nat) : Int) := by
  have hx : a ||| b < 2 ^ 62 := Nat.or_lt_two_pow (by omega) (by omega)
  show IntKind.i64.wrap ((BitVec.ofInt 64 (a : Int) ||| BitVec.ofInt 64 (b : Int)).toNat : Int) = _
  rw [BitVec.toNat_or, ofInt_i64 a ha, ofInt_i64 b hb, IntWalk.i64_in _ (by omega)]
theorem or256 (a b : Nat) (ha : a < 1099511627776) (hb : b < 256) : bits .or .i64 ((a : Int) * 256) ((b : Int)) = ((a * 256 + b : Nat) : Int) := by
  have := i64_or_nat (a * 256) b (by omega) (by omega)
  rw [show ((a * 256 : Nat) : Int) = (a : Int) * 256 by omega] at this
  rw [this]
  have h := Nat.two_pow_add_eq_or_of_lt (i := 8) (b := b) (by omega) a
  rw [Nat.mul_comm a 256, h]

/-- the number of the first j bytes -/
def accN (l : List UInt8) : Nat → Nat
  | 0 => 0
  | j + 1 => accN l j * 256 + (l.getD j 0).toNat
theorem accN_lt (l : List UInt8) : ∀ j, accN l j < 256 ^ j
  | 0 => by simp [accN]
  | j + 1 => by
    have := accN_lt l j
    have h2 := (l.getD j 0).toNat_lt
    rw [accN, Nat.pow_succ]; omega
/-- reading: a number up to a most one (no bound: negative), where it is, what went wrong -/
def rd (l : List UInt8) (most : Int) (st : Nat × Int) : Int × Nat × Int :=
  if st.2 ≠ 0 then (0, st.1, st.2)
  else if l.length < st.1 + 4 then (0, st.1, 7)
  else if 0 ≤ most ∧ most < accN (l.drop st.1) 4 then (0, st.1 + 4, 4)
  else ((accN (l.drop st.1) 4 : Nat), st.1 + 4, 0)
theorem rd_wrong {l : List UInt8} {m : Int} {at_ : Nat} {e : Int} (h : ¬ e = 0) : rd l m (at_, e) = (0, at_, e) := if_pos h
theorem rd_short {l : List UInt8} {m : Int} {at_ : Nat} (h : l.length < at_ + 4) : rd l m (at_, 0) = (0, at_, 7) := by unfold rd; rw [if_neg (by simp), if_pos h]
theorem rd_over {l : List UInt8} {m : Int} {at_ : Nat} (h : ¬ l.length < at_ + 4) (h0 : 0 ≤ m) (h1 : m < accN (l.drop at_) 4) : rd l m (at_, 0) = (0, at_ + 4, 4) := by unfold rd; rw [if_neg (by simp), if_neg h, if_pos ⟨h0, h1⟩]
theorem rd_ok {l : List UInt8} {m : Int} {at_ : Nat} (h : ¬ l.length < at_ + 4) (h1 : ¬ (0 ≤ m ∧ m < accN (l.drop at_) 4)) : rd l m (at_, 0) = (((accN (l.drop at_) 4 : Nat) : Int), at_ + 4, 0) := by unfold rd; rw [if_neg (by simp), if_neg h, if_neg h1]
theorem rd_far (l : List UInt8) (st : Nat × Int) : rd l 4294967296 st = rd l (-1) st := by
  have h := accN_lt (l.drop st.1) 4
  unfold rd
  split
  · rfl
  · split
    · rfl
    · rw [if_neg (by omega), if_neg (by omega)]
theorem rd_at (l : List UInt8) (m : Int) (a : Nat) (e : Int) (h : a ≤ l.length) : (rd l m (a, e)).2.1 ≤ l.length ∧ a ≤ (rd l m (a, e)).2.1 := by
  unfold rd
  dsimp only
  split
  · exact ⟨h, Nat.le_refl _⟩
  · split
    · exact ⟨h, Nat.le_refl _⟩
    · split <;> (constructor <;> (simp only []; omega))

/-- others are kept -/
abbrev KeptBut (w w' : World) (g : Nat) : Prop := w.grownBy w' (some g)
theorem kept_set (w : World) (g i : Nat) (u : Value) : KeptBut w (w.setCell ⟨g, i, none⟩ u) g :=
  ⟨rfl, rfl, rfl, by simp [World.setCell], fun k hk hne => Below.heap_setCell _ _ _ _ (by intro e; exact hne (by rw [e]))⟩
theorem KeptBut.drewL {w w' : World} {g : Nat} (n : Nat) (h : KeptBut (w.drewN n) w' g) : KeptBut w w' g := ⟨h.os, h.tape, h.output, h.size, h.block⟩
theorem KeptBut.tr {w w1 w2 : World} {g : Nat} (h : KeptBut w w1 g) (k : KeptBut w1 w2 g) : KeptBut w w2 g :=
  ⟨k.os.trans h.os, k.tape.trans h.tape, k.output.trans h.output, Nat.le_trans h.size k.size, fun i hi hne => (k.block i (Nat.lt_of_lt_of_le hi h.size) hne).trans (h.block i hi hne)⟩
theorem KeptBut.of_below {w w' : World} {g : Nat} (h : Below w.heap.size w w') : KeptBut w w' g := ⟨h.os, h.tape, h.output, h.size, fun k hk _ => h.block k hk⟩
theorem KeptBut.blk {w w' : World} {g g' : Nat} {t : TypeId} {cs : Array Value} (h : KeptBut w w' g) (hb : Blk w g' t cs) (hne : g' ≠ g) : Blk w' g' t cs := hb.grown h (by intro e; injection e with e; exact hne e)
abbrev rdrV (s : ByteArray) (a : Nat) (e : Int) : Array Value := #[.string s, .int .i64 a, .int .i64 e]

section
variable (s : ByteArray) (a : Nat) (e m : Int) (g : Nat) (w : World)
theorem rdA_wrong (hk : Blk w g 60 (rdrV s a e)) (h : ¬ e = 0) :
    Calls Try.prog 60 #[.pointer (some ⟨g, 0, none⟩), .int .i64 m] w fun x w' => x = .returned (.int .i64 (rd s.data.toList m (a, e)).1) ∧ Blk w' g 60 (rdrV s (rd s.data.toList m (a, e)).2.1 (rd s.data.toList m (a, e)).2.2) ∧ KeptBut w w' g := by
  rw [rd_wrong h]
  have HK := Lib.hid hk
  have k2 : w.cell? ⟨g, 2, none⟩ = some (.int .i64 e) := hk.cell 2
  have n1 : (e != 0) = true := by rw [bne_iff_ne]; exact h
  have n2 : (e == 0) = false := by rw [beq_eq_false_iff_ne]; exact h
  clear hk h
  go_enter Try.func60, Try.ntmps60
  go_wp2_with fail
  go_ret
  exact ⟨rfl, HK.out, World.grownBy.refl _ _⟩

theorem rdA_short (hk : Blk w g 60 (rdrV s a 0)) (ha : a ≤ s.size) (hs : s.size ≤ 9223372036854775800) (h : s.size < a + 4) :
    Calls Try.prog 60 #[.pointer (some ⟨g, 0, none⟩), .int .i64 m] w fun x w' => x = .returned (.int .i64 (rd s.data.toList m (a, 0)).1) ∧ Blk w' g 60 (rdrV s (rd s.data.toList m (a, 0)).2.1 (rd s.data.toList m (a, 0)).2.2) ∧ KeptBut w w' g := by
  rw [rd_short (by rw [lst_len]; exact h)]
  have HK := Lib.hid hk
  have k0 : w.cell? ⟨g, 0, none⟩ = some (.string s) := hk.cell 0
  have k1 : w.cell? ⟨g, 1, none⟩ = some (.int .i64 a) := hk.cell 1
  have k2 : w.cell? ⟨g, 2, none⟩ = some (.int .i64 0) := hk.cell 2
  have f2 : w.frozen? ⟨g, 2, none⟩ = false := hk.frozen 2
  have j1 : IntKind.i64.wrap ((s.size : Int) - (a : Int)) = (s.size : Int) - (a : Int) := IntWalk.i64_in _ (by omega)
  have d1 : decide ((s.size : Int) - (a : Int) < 4) = true := decide_eq_true (by omega)
  clear hk
  go_enter Try.func60, Try.ntmps60
  go_wp2_with fail
  go_quiet (fail)
  go_wp2_with fail
  go_ret
  exact ⟨rfl, (HK.out.drewN nq).set_ 2 _, (kept_set _ _ _ _).drewL nq⟩

theorem rdA_go (hm : 0 ≤ m) (hk : Blk w g 60 (rdrV s a 0)) (hs : s.size ≤ 140737488355320) (h : a + 4 ≤ s.size) :
    Calls Try.prog 60 #[.pointer (some ⟨g, 0, none⟩), .int .i64 m] w fun x w' => x = .returned (.int .i64 (rd s.data.toList m (a, 0)).1) ∧ Blk w' g 60 (rdrV s (rd s.data.toList m (a, 0)).2.1 (rd s.data.toList m (a, 0)).2.2) ∧ KeptBut w w' g := by
  have HK := Lib.hid hk
  have k0 : w.cell? ⟨g, 0, none⟩ = some (.string s) := hk.cell 0
  have k1 : w.cell? ⟨g, 1, none⟩ = some (.int .i64 a) := hk.cell 1
  have k2 : w.cell? ⟨g, 2, none⟩ = some (.int .i64 0) := hk.cell 2
  have f2 : w.frozen? ⟨g, 2, none⟩ = false := hk.frozen 2
  have f1 : w.frozen? ⟨g, 1, none⟩ = false := hk.frozen 1
  have hg := hk.lt
  have j1 : IntKind.i64.wrap ((s.size : Int) - (a : Int)) = (s.size : Int) - (a : Int) := IntWalk.i64_in _ (by omega)
  have d1 : decide ((s.size : Int) - (a : Int) < 4) = false := decide_eq_false (by omega)
  clear hk
  go_enter Try.func60, Try.ntmps60
  go_wp2_with fail
  go_quiet (fail)
  obtain ⟨x, hx⟩ : ∃ x, x = s.extract a (a + 4) := ⟨_, rfl⟩
  have hxl : x.data.toList = (s.data.toList.drop a).take 4 := by rw [hx, Lib.extract_data]; simp
  have hxs : x.size = 4 := by rw [← lst_len, hxl, List.length_take, List.length_drop, lst_len]; omega
  obtain ⟨w2, e2⟩ : ∃ w2, w2 = w.drewN nq := ⟨_, rfl⟩
  rw [← e2]
  have HK2 : Hid (Blk w2 g 60 (rdrV s a 0)) := by rw [e2]; exact HK.out.drewN nq
  have HW : Hid (KeptBut w w2 g) := by rw [e2]; exact KeptBut.drewL nq (World.grownBy.refl _ _)
  have hz2 : w2.heap.size = w.heap.size := by rw [e2]; rfl
  clear e2 k0 k1 k2 f1 f2
  have k0 : w2.cell? ⟨g, 0, none⟩ = some (.string s) := HK2.out.cell 0
  have k1 : w2.cell? ⟨g, 1, none⟩ = some (.int .i64 a) := HK2.out.cell 1
  obtain ⟨c, w3, hrun, hmb, hb3, hz3⟩ := mb_make x w2.drew
  rw [hxs] at hrun
  have HMB := Lib.hid hmb
  have HB3 := Lib.hid hb3
  have j2 : IntKind.i64.wrap ((a : Int) + 4) = (a : Int) + 4 := IntWalk.i64_in _ (by omega)
  have j3 : ((a : Int) + 4).toNat = a + 4 := by omega
  have i1 : (0 : Int) ≤ (a : Int) := by omega
  have i2 : (a : Int) ≤ (a : Int) + 4 := by omega
  have i3 : (a : Int) + 4 ≤ (s.size : Int) := by omega
  rw [hx] at hrun
  have hgz : g < w2.heap.size := HK2.out.lt
  have HK3 : Hid (Blk w3 g 60 (rdrV s a 0)) := (HK2.out.drew).below HB3.out hgz
  have k30 : w3.cell? ⟨g, 0, none⟩ = some (.string s) := HK3.out.cell 0
  have k31 : w3.cell? ⟨g, 1, none⟩ = some (.int .i64 a) := HK3.out.cell 1
  clear hmb hb3
  go_wp2_with fail
  go_region_held (fun w' => w'.cell? ⟨g, 0, none⟩ = some (.string s) ∧ w'.cell? ⟨g, 1, none⟩ = some (.int .i64 a)) (go_keep) (fail)
  obtain ⟨D, hD⟩ : ∃ D, D = s.data.toList.drop a := ⟨_, rfl⟩
  have hDl : 4 ≤ D.length := by rw [hD, List.length_drop, lst_len]; omega
  have HC3 : Hid (∀ j, j < 4 → w3.cell? ⟨w.heap.size, j, none⟩ = some (.int .u8 (D.getD j 0).toNat)) := by
    intro j hj
    have h1 := (HMB.out j (by rw [hxl, List.length_take, ← hD]; omega)).1
    rw [show (w2.drew).heap.size = w.heap.size from hz2] at h1
    rw [h1]
    have h2 : x.data.toList[j]'(by rw [hxl, List.length_take, ← hD]; omega) = D.getD j 0 := by
      rw [List.getD, List.getElem?_eq_getElem (by omega)]
      simp only [hxl, ← hD, List.getElem_take, Option.getD_some]
    rw [h2]; rfl
  have HKB : Hid (KeptBut w w3 g) := HW.out.tr (KeptBut.of_below (w := w2) ⟨HB3.out.os, HB3.out.tape, HB3.out.output, HB3.out.size, HB3.out.block⟩)
  have HR : Hid (rd s.data.toList m (a, 0) = if m < (accN D 4 : Nat) then (0, a + 4, 4) else (((accN D 4 : Nat) : Int), a + 4, 0)) := by
    show _ = _
    split
    · next h => rw [rd_over (by rw [lst_len]; omega) hm (by rw [← hD]; exact h)]
    · next h => rw [rd_ok (by rw [lst_len]; omega) (by rw [← hD]; omega), ← hD]
  clear hrun hxl hxs hD hx k0 k1 HK HMB HW HK2 HB3
  go_wp2_with fail
  go_loop [5, 43] (fun n i => ∃ j : Nat, j ≤ 4 ∧ i = .int .i64 j ∧ n = .int .i64 (accN D j : Nat)) (fun _ i => 4 - (intOf i).toNat)
  case atStart => exact ⟨0, by omega, rfl, rfl⟩
  case round =>
    obtain ⟨j, hj, rfl, rfl⟩ := hrel
    have hac := accN_lt D j
    by_cases hlt : j < 4
    · have hac2 : accN D j < 1099511627776 := Nat.lt_of_lt_of_le hac (Nat.le_trans (Nat.pow_le_pow_right (by decide) (show j ≤ 3 by omega)) (by decide))
      have hb := (D.getD j 0).toNat_lt
      have hcell := HC3.out j hlt
      have HO := Lib.hid (show bits .or .i64 ((accN D j : Int) * 256) ((D.getD j 0).toNat : Int) = ((accN D (j + 1) : Nat) : Int) by rw [or256 _ _ hac2 (by omega), accN])
      obtain ⟨B, hB⟩ : ∃ B, B = (D.getD j 0).toNat := ⟨_, rfl⟩
      rw [← hB] at hcell hb HO
      have h256 : B < 256 := by omega
      clear hac hB
      go_wp2_with fail
      exact ⟨⟨j + 1, by omega, by go_num, by rw [HO.out]⟩, by simp [intOf]; omega⟩
    · obtain rfl : j = 4 := by omega
      have hac2 : accN D 4 < 4294967296 := hac
      have f1 : w3.frozen? ⟨g, 1, none⟩ = false := HK3.out.frozen 1
      have f2 : w3.frozen? ⟨g, 2, none⟩ = false := HK3.out.frozen 2
      have k32 : w3.cell? ⟨g, 2, none⟩ = some (.int .i64 0) := HK3.out.cell 2
      have hN4 : decide ((4 : Int) < 4) = false := rfl
      obtain ⟨N, hN⟩ : ∃ N, N = accN D 4 := ⟨_, rfl⟩
      rw [← hN] at hac2 HR ⊢
      clear hac hN
      by_cases hmN : m < (N : Int)
      · have hr := HR.out
        rw [if_pos hmN] at hr
        have HR2 := Lib.hid hr
        clear hr HR
        go_wp2_with fail
        go_ret
        rw [HR2.out]
        exact ⟨rfl, (HK3.out.set_ 1 _).set_ 2 _, (HKB.out.tr (kept_set _ _ _ _)).tr (kept_set _ _ _ _)⟩
      · have hr := HR.out
        rw [if_neg hmN] at hr
        have HR2 := Lib.hid hr
        clear hr HR
        go_wp2_with fail
        go_ret
        rw [HR2.out]
        exact ⟨rfl, HK3.out.set_ 1 _, HKB.out.tr (kept_set _ _ _ _)⟩
end
end Go.Proofs.Ytahcgajipnkojaa
