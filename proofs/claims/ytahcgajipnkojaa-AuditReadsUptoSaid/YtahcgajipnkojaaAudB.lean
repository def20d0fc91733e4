/- Walks: slices.ContainsFunc at a list of rules' numbers, audit.Check, wickref.Record. (Printed by gen_audb.py.) -/
import Derived.Test.YtahcgajipnkojaaAudA
import Derived.Laws.EntriesVeiled
namespace Go.Proofs.Ytahcgajipnkojaa
open Go.RowKit
set_option linter.unusedVariables false
set_option linter.unusedSimpArgs false

theorem Reads.int_at {w : World} {B : Nat} {A : Option Addr} {ms : List Int} (h : Reads w B 1 A ms.length (ms.map (Value.int .i64))) {k : Nat} (hk : k < ms.length) :
    ∃ ad, A = some ad ∧ ad.block < B ∧ w.cell? (ad.add k) = some (.int .i64 ms[k]) := by
  obtain ⟨ad, u, e1, e2, e3, e4⟩ := h.at_ hk
  refine ⟨ad, e1, e2, e4.trans ?_⟩
  rw [← e3, List.getElem?_map, List.getElem?_eq_getElem hk]; rfl

theorem fstB_step {ms : List Int} {k : Nat} (hk : k < ms.length) (h : inB ms[k] 1 9999 = true) : fstB (ms.drop k) k = fstB (ms.drop (k + 1)) (k + 1) := by
  rw [List.drop_eq_getElem_cons hk, fstB, if_neg (by rw [h]; decide)]
theorem fstB_hit {ms : List Int} {k : Nat} (hk : k < ms.length) (h : inB ms[k] 1 9999 = false) : fstB (ms.drop k) k = k := by
  rw [List.drop_eq_getElem_cons hk, fstB, if_pos (by rw [h]; rfl)]
theorem fstB_end {ms : List Int} {k : Nat} (hk : ms.length ≤ k) : fstB (ms.drop k) k = -1 := by
  rw [List.drop_eq_nil_of_le hk, fstB]
theorem fstB_bad : ∀ (l : List Int) (k : Nat), decide (0 ≤ fstB l k) = badL l
  | [], k => rfl
  | n :: l, k => by
    unfold badL
    rw [List.any_cons, fstB]
    have ih := fstB_bad l (k + 1)
    unfold badL at ih
    cases h : inB n 1 9999 with
    | true => rw [if_neg (by decide), ih]; rfl
    | false => rw [if_pos (by decide)]; simp

theorem idx_any (A : Option Addr) (cap : Nat) (ms : List Int) (p : Addr) (B : Nat) (w : World) (hR : Reads w B 1 A ms.length (ms.map (Value.int .i64))) (hl : ms.length ≤ 9223372036854775807)
    (hc : w.cell? p = some (.func (.func 57) #[] #[])) :
    Calls Try.prog 78 #[.slice A ms.length cap, .func (.func 59) #[] #[.pointer (some p)]] w fun e w' => e = .returned (.int .i64 (fstB ms 0)) ∧ w = w' := by
  have HR := Lib.hid hR
  clear hR
  go_enter Try.func78, Try.ntmps78
  go_wp2
  go_loop [8] (fun i => ∃ k : Nat, k ≤ ms.length ∧ i = .int .i64 k ∧ Hid (fstB ms 0 = fstB (ms.drop k) k)) (fun i => ms.length - (intOf i).toNat)
  case atStart => exact ⟨0, by omega, rfl, rfl⟩
  case round =>
    obtain ⟨k, hk, rfl, HE⟩ := hrel
    by_cases hlt : k < ms.length
    · obtain ⟨ad, rfl, _, hcell⟩ := HR.out.int_at hlt
      cases hb : inB ms[k] 1 9999 with
      | true =>
        have HN := Lib.hid (HE.out.trans (fstB_step hlt hb))
        go_wp2_with (go_at_call 59; refine (bad_any _ _ _ hc).mono ?_; rintro e w' ⟨rfl, rfl⟩)
        go_round
        case rel => exact ⟨k + 1, by omega, by go_num, HN⟩
        case measure => simp [intOf]; omega
      | false =>
        have HN := Lib.hid (HE.out.trans (fstB_hit hlt hb))
        go_wp2_with (go_at_call 59; refine (bad_any _ _ _ hc).mono ?_; rintro e w' ⟨rfl, rfl⟩)
        go_ret
        exact ⟨by rw [HN.out]; rfl, rfl⟩
    · have HN := Lib.hid (HE.out.trans (fstB_end (by omega)))
      go_wp2
      go_ret
      exact ⟨by rw [HN.out]; rfl, rfl⟩

theorem contains_any (A : Option Addr) (cap : Nat) (ms : List Int) (p : Addr) (B : Nat) (w : World) (hR : Reads w B 1 A ms.length (ms.map (Value.int .i64))) (hl : ms.length ≤ 9223372036854775807)
    (hc : w.cell? p = some (.func (.func 57) #[] #[])) :
    Calls Try.prog 58 #[.slice A ms.length cap, .func (.func 59) #[] #[.pointer (some p)]] w fun e w' => e = .returned (.bool (badL ms)) ∧ w = w' := by
  have HC := Lib.hid (idx_any A cap ms p B w hR hl hc)
  have HB := Lib.hid (fstB_bad ms 0)
  clear hR hc
  go_enter Try.func58, Try.ntmps58
  go_wp2_with fail
  refine HC.out.mono ?_
  rintro e w' ⟨rfl, rfl⟩
  go_wp2_with fail
  go_ret
  exact ⟨ret_bool HB.out, rfl⟩

/-- the record is right so far as its numbers go -/
def numsB (c o b s : Int) : Bool := inB c 0 255 && (o == 0 || inB o 400 599) && inB b 0 9999 && inB s 0 1000000
def recE (c o b s : Int) (ms : List Int) (t : Nat) : Int := if 40 < ms.length ∨ 1000 < t then 2 else if numsB c o b s && !badL ms then 0 else 1
abbrev recV (c o b s : Int) (A : Option Addr) (n cap : Nat) (t : ByteArray) : Value := .agg #[.int .i64 c, .int .i64 o, .int .i64 b, .int .i64 s, .slice A n cap, .string t]

section
variable (c o b s : Int) (A : Option Addr) (cap : Nat) (ms : List Int) (t : ByteArray) (B : Nat) (w : World)
theorem check_1 (hl : ms.length ≤ 9223372036854775807) (ht : t.size ≤ 9223372036854775807) (h1 : 40 < ms.length) :
    Calls Try.prog 17 #[recV c o b s A ms.length cap t] w fun e w' => e = .returned (.int .i64 2) ∧ Below w.heap.size w w' := by
  go_enter Try.func17, Try.ntmps17
  go_wp2_with fail
  go_ret
  exact ⟨rfl, (Below.refl _ _).alloc (Nat.le_refl _) _⟩
theorem check_2 (hl : ms.length ≤ 9223372036854775807) (ht : t.size ≤ 9223372036854775807) (h1 : ¬ 40 < ms.length) (h2 : 1000 < t.size) :
    Calls Try.prog 17 #[recV c o b s A ms.length cap t] w fun e w' => e = .returned (.int .i64 2) ∧ Below w.heap.size w w' := by
  have d1 : decide ((40 : Int) < (ms.length : Int)) = false := decide_eq_false (by omega)
  go_enter Try.func17, Try.ntmps17
  go_wp2_with fail
  go_ret
  exact ⟨rfl, (Below.refl _ _).alloc (Nat.le_refl _) _⟩
theorem check_c (hl : ms.length ≤ 9223372036854775807) (ht : t.size ≤ 9223372036854775807) (h1 : ¬ 40 < ms.length) (h2 : ¬ 1000 < t.size) (hc : inB c 0 255 = false) :
    Calls Try.prog 17 #[recV c o b s A ms.length cap t] w fun e w' => e = .returned (.int .i64 1) ∧ Below w.heap.size w w' := by
  have d1 : decide ((40 : Int) < (ms.length : Int)) = false := decide_eq_false (by omega)
  have d2 : decide ((1000 : Int) < (t.size : Int)) = false := decide_eq_false (by omega)
  go_enter Try.func17, Try.ntmps17
  go_wp2_with fail
  refine (inA_any _ _ _ _).mono ?_
  rintro e w' ⟨rfl, rfl⟩
  go_wp2_with fail
  go_ret
  exact ⟨rfl, ((Below.refl _ _).alloc (Nat.le_refl _) _).alloc (by simp) _⟩
theorem check_o (hl : ms.length ≤ 9223372036854775807) (ht : t.size ≤ 9223372036854775807) (h1 : ¬ 40 < ms.length) (h2 : ¬ 1000 < t.size) (hc : inB c 0 255 = true) (ho : ¬ o = 0) (hp : inB o 400 599 = false) :
    Calls Try.prog 17 #[recV c o b s A ms.length cap t] w fun e w' => e = .returned (.int .i64 1) ∧ Below w.heap.size w w' := by
  have ho1 : (o != 0) = true := by rw [bne_iff_ne]; exact ho
  have ho2 : (o == 0) = false := by rw [beq_eq_false_iff_ne]; exact ho
  clear ho
  have d1 : decide ((40 : Int) < (ms.length : Int)) = false := decide_eq_false (by omega)
  have d2 : decide ((1000 : Int) < (t.size : Int)) = false := decide_eq_false (by omega)
  go_enter Try.func17, Try.ntmps17
  go_wp2_with fail
  refine (inA_any _ _ _ _).mono ?_
  rintro e w' ⟨rfl, rfl⟩
  go_wp2_with fail
  refine (inA_any _ _ _ _).mono ?_
  rintro e w' ⟨rfl, rfl⟩
  go_wp2_with fail
  go_ret
  exact ⟨rfl, ((Below.refl _ _).alloc (Nat.le_refl _) _).alloc (by simp) _⟩
theorem check_b0 (hl : ms.length ≤ 9223372036854775807) (ht : t.size ≤ 9223372036854775807) (h1 : ¬ 40 < ms.length) (h2 : ¬ 1000 < t.size) (hc : inB c 0 255 = true) (ho : o = 0) (hb : inB b 0 9999 = false) :
    Calls Try.prog 17 #[recV c o b s A ms.length cap t] w fun e w' => e = .returned (.int .i64 1) ∧ Below w.heap.size w w' := by
  subst ho
  have d1 : decide ((40 : Int) < (ms.length : Int)) = false := decide_eq_false (by omega)
  have d2 : decide ((1000 : Int) < (t.size : Int)) = false := decide_eq_false (by omega)
  go_enter Try.func17, Try.ntmps17
  go_wp2_with fail
  refine (inA_any _ _ _ _).mono ?_
  rintro e w' ⟨rfl, rfl⟩
  go_wp2_with fail
  refine (inA_any _ _ _ _).mono ?_
  rintro e w' ⟨rfl, rfl⟩
  go_wp2_with fail
  go_ret
  exact ⟨rfl, ((Below.refl _ _).alloc (Nat.le_refl _) _).alloc (by simp) _⟩
theorem check_s0 (hl : ms.length ≤ 9223372036854775807) (ht : t.size ≤ 9223372036854775807) (h1 : ¬ 40 < ms.length) (h2 : ¬ 1000 < t.size) (hc : inB c 0 255 = true) (ho : o = 0) (hb : inB b 0 9999 = true) (hs : inB s 0 1000000 = false) :
    Calls Try.prog 17 #[recV c o b s A ms.length cap t] w fun e w' => e = .returned (.int .i64 1) ∧ Below w.heap.size w w' := by
  subst ho
  have d1 : decide ((40 : Int) < (ms.length : Int)) = false := decide_eq_false (by omega)
  have d2 : decide ((1000 : Int) < (t.size : Int)) = false := decide_eq_false (by omega)
  go_enter Try.func17, Try.ntmps17
  go_wp2_with fail
  refine (inA_any _ _ _ _).mono ?_
  rintro e w' ⟨rfl, rfl⟩
  go_wp2_with fail
  refine (inA_any _ _ _ _).mono ?_
  rintro e w' ⟨rfl, rfl⟩
  go_wp2_with fail
  refine (inA_any _ _ _ _).mono ?_
  rintro e w' ⟨rfl, rfl⟩
  go_wp2_with fail
  go_ret
  exact ⟨rfl, ((Below.refl _ _).alloc (Nat.le_refl _) _).alloc (by simp) _⟩
theorem check_m0 (hl : ms.length ≤ 9223372036854775807) (ht : t.size ≤ 9223372036854775807) (h1 : ¬ 40 < ms.length) (h2 : ¬ 1000 < t.size) (hc : inB c 0 255 = true) (ho : o = 0) (hb : inB b 0 9999 = true) (hs : inB s 0 1000000 = true) (hm : badL ms = true) (hR : Reads w B 1 A ms.length (ms.map (Value.int .i64))) (hB : B ≤ w.heap.size) :
    Calls Try.prog 17 #[recV c o b s A ms.length cap t] w fun e w' => e = .returned (.int .i64 1) ∧ Below w.heap.size w w' := by
  subst ho
  have d1 : decide ((40 : Int) < (ms.length : Int)) = false := decide_eq_false (by omega)
  have d2 : decide ((1000 : Int) < (t.size : Int)) = false := decide_eq_false (by omega)
  have HR := Lib.hid hR
  have HM := Lib.hid hm
  clear hR hm
  go_enter Try.func17, Try.ntmps17
  go_wp2_with fail
  refine (inA_any _ _ _ _).mono ?_
  rintro e w' ⟨rfl, rfl⟩
  go_wp2_with fail
  refine (inA_any _ _ _ _).mono ?_
  rintro e w' ⟨rfl, rfl⟩
  go_wp2_with fail
  refine (inA_any _ _ _ _).mono ?_
  rintro e w' ⟨rfl, rfl⟩
  go_wp2_with fail
  refine (contains_any A cap ms _ B _ ((HR.out.alloc hB _).alloc (by simp; omega) _) hl (by go_simp)).mono ?_
  rintro e w' ⟨rfl, rfl⟩
  rw [HM.out]
  go_wp2_with fail
  go_ret
  exact ⟨rfl, ((Below.refl _ _).alloc (Nat.le_refl _) _).alloc (by simp) _⟩
theorem check_g0 (hl : ms.length ≤ 9223372036854775807) (ht : t.size ≤ 9223372036854775807) (h1 : ¬ 40 < ms.length) (h2 : ¬ 1000 < t.size) (hc : inB c 0 255 = true) (ho : o = 0) (hb : inB b 0 9999 = true) (hs : inB s 0 1000000 = true) (hm : badL ms = false) (hR : Reads w B 1 A ms.length (ms.map (Value.int .i64))) (hB : B ≤ w.heap.size) :
    Calls Try.prog 17 #[recV c o b s A ms.length cap t] w fun e w' => e = .returned (.int .i64 0) ∧ Below w.heap.size w w' := by
  subst ho
  have d1 : decide ((40 : Int) < (ms.length : Int)) = false := decide_eq_false (by omega)
  have d2 : decide ((1000 : Int) < (t.size : Int)) = false := decide_eq_false (by omega)
  have HR := Lib.hid hR
  have HM := Lib.hid hm
  clear hR hm
  go_enter Try.func17, Try.ntmps17
  go_wp2_with fail
  refine (inA_any _ _ _ _).mono ?_
  rintro e w' ⟨rfl, rfl⟩
  go_wp2_with fail
  refine (inA_any _ _ _ _).mono ?_
  rintro e w' ⟨rfl, rfl⟩
  go_wp2_with fail
  refine (inA_any _ _ _ _).mono ?_
  rintro e w' ⟨rfl, rfl⟩
  go_wp2_with fail
  refine (contains_any A cap ms _ B _ ((HR.out.alloc hB _).alloc (by simp; omega) _) hl (by go_simp)).mono ?_
  rintro e w' ⟨rfl, rfl⟩
  rw [HM.out]
  go_wp2_with fail
  go_ret
  exact ⟨rfl, ((Below.refl _ _).alloc (Nat.le_refl _) _).alloc (by simp) _⟩
theorem check_b1 (hl : ms.length ≤ 9223372036854775807) (ht : t.size ≤ 9223372036854775807) (h1 : ¬ 40 < ms.length) (h2 : ¬ 1000 < t.size) (hc : inB c 0 255 = true) (ho : ¬ o = 0) (hp : inB o 400 599 = true) (hb : inB b 0 9999 = false) :
    Calls Try.prog 17 #[recV c o b s A ms.length cap t] w fun e w' => e = .returned (.int .i64 1) ∧ Below w.heap.size w w' := by
  have ho1 : (o != 0) = true := by rw [bne_iff_ne]; exact ho
  have ho2 : (o == 0) = false := by rw [beq_eq_false_iff_ne]; exact ho
  clear ho
  have d1 : decide ((40 : Int) < (ms.length : Int)) = false := decide_eq_false (by omega)
  have d2 : decide ((1000 : Int) < (t.size : Int)) = false := decide_eq_false (by omega)
  go_enter Try.func17, Try.ntmps17
  go_wp2_with fail
  refine (inA_any _ _ _ _).mono ?_
  rintro e w' ⟨rfl, rfl⟩
  go_wp2_with fail
  refine (inA_any _ _ _ _).mono ?_
  rintro e w' ⟨rfl, rfl⟩
  go_wp2_with fail
  refine (inA_any _ _ _ _).mono ?_
  rintro e w' ⟨rfl, rfl⟩
  go_wp2_with fail
  go_ret
  exact ⟨rfl, ((Below.refl _ _).alloc (Nat.le_refl _) _).alloc (by simp) _⟩
theorem check_s1 (hl : ms.length ≤ 9223372036854775807) (ht : t.size ≤ 9223372036854775807) (h1 : ¬ 40 < ms.length) (h2 : ¬ 1000 < t.size) (hc : inB c 0 255 = true) (ho : ¬ o = 0) (hp : inB o 400 599 = true) (hb : inB b 0 9999 = true) (hs : inB s 0 1000000 = false) :
    Calls Try.prog 17 #[recV c o b s A ms.length cap t] w fun e w' => e = .returned (.int .i64 1) ∧ Below w.heap.size w w' := by
  have ho1 : (o != 0) = true := by rw [bne_iff_ne]; exact ho
  have ho2 : (o == 0) = false := by rw [beq_eq_false_iff_ne]; exact ho
  clear ho
  have d1 : decide ((40 : Int) < (ms.length : Int)) = false := decide_eq_false (by omega)
  have d2 : decide ((1000 : Int) < (t.size : Int)) = false := decide_eq_false (by omega)
  go_enter Try.func17, Try.ntmps17
  go_wp2_with fail
  refine (inA_any _ _ _ _).mono ?_
  rintro e w' ⟨rfl, rfl⟩
  go_wp2_with fail
  refine (inA_any _ _ _ _).mono ?_
  rintro e w' ⟨rfl, rfl⟩
  go_wp2_with fail
  refine (inA_any _ _ _ _).mono ?_
  rintro e w' ⟨rfl, rfl⟩
  go_wp2_with fail
  refine (inA_any _ _ _ _).mono ?_
  rintro e w' ⟨rfl, rfl⟩
  go_wp2_with fail
  go_ret
  exact ⟨rfl, ((Below.refl _ _).alloc (Nat.le_refl _) _).alloc (by simp) _⟩
theorem check_m1 (hl : ms.length ≤ 9223372036854775807) (ht : t.size ≤ 9223372036854775807) (h1 : ¬ 40 < ms.length) (h2 : ¬ 1000 < t.size) (hc : inB c 0 255 = true) (ho : ¬ o = 0) (hp : inB o 400 599 = true) (hb : inB b 0 9999 = true) (hs : inB s 0 1000000 = true) (hm : badL ms = true) (hR : Reads w B 1 A ms.length (ms.map (Value.int .i64))) (hB : B ≤ w.heap.size) :
    Calls Try.prog 17 #[recV c o b s A ms.length cap t] w fun e w' => e = .returned (.int .i64 1) ∧ Below w.heap.size w w' := by
  have ho1 : (o != 0) = true := by rw [bne_iff_ne]; exact ho
  have ho2 : (o == 0) = false := by rw [beq_eq_false_iff_ne]; exact ho
  clear ho
  have d1 : decide ((40 : Int) < (ms.length : Int)) = false := decide_eq_false (by omega)
  have d2 : decide ((1000 : Int) < (t.size : Int)) = false := decide_eq_false (by omega)
  have HR := Lib.hid hR
  have HM := Lib.hid hm
  clear hR hm
  go_enter Try.func17, Try.ntmps17
  go_wp2_with fail
  refine (inA_any _ _ _ _).mono ?_
  rintro e w' ⟨rfl, rfl⟩
  go_wp2_with fail
  refine (inA_any _ _ _ _).mono ?_
  rintro e w' ⟨rfl, rfl⟩
  go_wp2_with fail
  refine (inA_any _ _ _ _).mono ?_
  rintro e w' ⟨rfl, rfl⟩
  go_wp2_with fail
  refine (inA_any _ _ _ _).mono ?_
  rintro e w' ⟨rfl, rfl⟩
  go_wp2_with fail
  refine (contains_any A cap ms _ B _ ((HR.out.alloc hB _).alloc (by simp; omega) _) hl (by go_simp)).mono ?_
  rintro e w' ⟨rfl, rfl⟩
  rw [HM.out]
  go_wp2_with fail
  go_ret
  exact ⟨rfl, ((Below.refl _ _).alloc (Nat.le_refl _) _).alloc (by simp) _⟩
theorem check_g1 (hl : ms.length ≤ 9223372036854775807) (ht : t.size ≤ 9223372036854775807) (h1 : ¬ 40 < ms.length) (h2 : ¬ 1000 < t.size) (hc : inB c 0 255 = true) (ho : ¬ o = 0) (hp : inB o 400 599 = true) (hb : inB b 0 9999 = true) (hs : inB s 0 1000000 = true) (hm : badL ms = false) (hR : Reads w B 1 A ms.length (ms.map (Value.int .i64))) (hB : B ≤ w.heap.size) :
    Calls Try.prog 17 #[recV c o b s A ms.length cap t] w fun e w' => e = .returned (.int .i64 0) ∧ Below w.heap.size w w' := by
  have ho1 : (o != 0) = true := by rw [bne_iff_ne]; exact ho
  have ho2 : (o == 0) = false := by rw [beq_eq_false_iff_ne]; exact ho
  clear ho
  have d1 : decide ((40 : Int) < (ms.length : Int)) = false := decide_eq_false (by omega)
  have d2 : decide ((1000 : Int) < (t.size : Int)) = false := decide_eq_false (by omega)
  have HR := Lib.hid hR
  have HM := Lib.hid hm
  clear hR hm
  go_enter Try.func17, Try.ntmps17
  go_wp2_with fail
  refine (inA_any _ _ _ _).mono ?_
  rintro e w' ⟨rfl, rfl⟩
  go_wp2_with fail
  refine (inA_any _ _ _ _).mono ?_
  rintro e w' ⟨rfl, rfl⟩
  go_wp2_with fail
  refine (inA_any _ _ _ _).mono ?_
  rintro e w' ⟨rfl, rfl⟩
  go_wp2_with fail
  refine (inA_any _ _ _ _).mono ?_
  rintro e w' ⟨rfl, rfl⟩
  go_wp2_with fail
  refine (contains_any A cap ms _ B _ ((HR.out.alloc hB _).alloc (by simp; omega) _) hl (by go_simp)).mono ?_
  rintro e w' ⟨rfl, rfl⟩
  rw [HM.out]
  go_wp2_with fail
  go_ret
  exact ⟨rfl, ((Below.refl _ _).alloc (Nat.le_refl _) _).alloc (by simp) _⟩

theorem check_any (hl : ms.length ≤ 9223372036854775807) (ht : t.size ≤ 9223372036854775807) (hR : Reads w B 1 A ms.length (ms.map (Value.int .i64))) (hB : B ≤ w.heap.size) :
    Calls Try.prog 17 #[recV c o b s A ms.length cap t] w fun e w' => e = .returned (.int .i64 (recE c o b s ms t.size)) ∧ Below w.heap.size w w' := by
  unfold recE
  by_cases h1 : 40 < ms.length
  · rw [if_pos (.inl h1)]; exact check_1 c o b s A cap ms t w hl ht h1
  by_cases h2 : 1000 < t.size
  · rw [if_pos (.inr h2)]; exact check_2 c o b s A cap ms t w hl ht h1 h2
  rw [if_neg (by omega)]
  cases hc : inB c 0 255 with
  | false => rw [if_neg (by unfold numsB; rw [hc]; simp)]; exact check_c c o b s A cap ms t w hl ht h1 h2 hc
  | true =>
  by_cases ho : o = 0
  · cases hb : inB b 0 9999 with
    | false => rw [if_neg (by unfold numsB; rw [hb]; simp)]; exact check_b0 c o b s A cap ms t w hl ht h1 h2 hc ho hb
    | true =>
    cases hs : inB s 0 1000000 with
    | false => rw [if_neg (by unfold numsB; rw [hs]; simp)]; exact check_s0 c o b s A cap ms t w hl ht h1 h2 hc ho hb hs
    | true =>
    cases hm : badL ms with
    | false => rw [if_pos (by unfold numsB; rw [hc, ho]; rw [hb, hs]; simp)]; exact check_g0 c o b s A cap ms t B w hl ht h1 h2 hc ho hb hs hm hR hB
    | true => rw [if_neg (by simp)]; exact check_m0 c o b s A cap ms t B w hl ht h1 h2 hc ho hb hs hm hR hB
  · cases hp : inB o 400 599 with
    | false => rw [if_neg (by unfold numsB; rw [hp, show (o == 0) = false by rw [beq_eq_false_iff_ne]; exact ho]; simp)]; exact check_o c o b s A cap ms t w hl ht h1 h2 hc ho hp
    | true =>
    cases hb : inB b 0 9999 with
    | false => rw [if_neg (by unfold numsB; rw [hb]; simp)]; exact check_b1 c o b s A cap ms t w hl ht h1 h2 hc ho hp hb
    | true =>
    cases hs : inB s 0 1000000 with
    | false => rw [if_neg (by unfold numsB; rw [hs]; simp)]; exact check_s1 c o b s A cap ms t w hl ht h1 h2 hc ho hp hb hs
    | true =>
    cases hm : badL ms with
    | false => rw [if_pos (by unfold numsB; rw [hc, hp]; rw [hb, hs]; simp)]; exact check_g1 c o b s A cap ms t B w hl ht h1 h2 hc ho hp hb hs hm hR hB
    | true => rw [if_neg (by simp)]; exact check_m1 c o b s A cap ms t B w hl ht h1 h2 hc ho hp hb hs hm hR hB
end
end Go.Proofs.Ytahcgajipnkojaa
