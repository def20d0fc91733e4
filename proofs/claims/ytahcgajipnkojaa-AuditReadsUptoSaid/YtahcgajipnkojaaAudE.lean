/- Walk: wickref.Record. (Printed by gen_aude.py.) -/
import Derived.Test.YtahcgajipnkojaaAudB
namespace Go.Proofs.Ytahcgajipnkojaa
open Go.RowKit
set_option linter.unusedVariables false
set_option linter.unusedSimpArgs false

theorem badL_snoc (l : List Int) (n : Int) : badL (l ++ [n]) = (badL l || !inB n 1 9999) := by unfold badL; simp [List.any_append]

section
variable (c o b s : Int) (A : Option Addr) (cap : Nat) (ms : List Int) (t : ByteArray) (B : Nat) (w : World)
theorem recR_1 (hl : ms.length ≤ 9223372036854775807) (ht : t.size ≤ 9223372036854775807) (h1 : 40 < ms.length) (hR : Reads w B 1 A ms.length (ms.map (Value.int .i64))) (hB : B ≤ w.heap.size) :
    Calls Try.prog 14 #[recV c o b s A ms.length cap t] w fun e w' => e = .returned (.int .i64 2) ∧ Below w.heap.size w w' := by
  have HR := Lib.hid hR
  clear hR
  go_enter Try.func14, Try.ntmps14
  go_wp2_with fail
  go_ret
  exact ⟨rfl, (Below.refl _ _).alloc (Nat.le_refl _) _⟩
theorem recR_2 (hl : ms.length ≤ 9223372036854775807) (ht : t.size ≤ 9223372036854775807) (h1 : ¬ 40 < ms.length) (h2 : 1000 < t.size) (hR : Reads w B 1 A ms.length (ms.map (Value.int .i64))) (hB : B ≤ w.heap.size) :
    Calls Try.prog 14 #[recV c o b s A ms.length cap t] w fun e w' => e = .returned (.int .i64 2) ∧ Below w.heap.size w w' := by
  have HR := Lib.hid hR
  clear hR
  go_enter Try.func14, Try.ntmps14
  go_wp2_with fail
  go_ret
  exact ⟨rfl, (Below.refl _ _).alloc (Nat.le_refl _) _⟩
theorem recR_c (hl : ms.length ≤ 9223372036854775807) (ht : t.size ≤ 9223372036854775807) (h1 : ¬ 40 < ms.length) (h2 : ¬ 1000 < t.size) (hc : inB c 0 255 = false) (hR : Reads w B 1 A ms.length (ms.map (Value.int .i64))) (hB : B ≤ w.heap.size) :
    Calls Try.prog 14 #[recV c o b s A ms.length cap t] w fun e w' => e = .returned (.int .i64 1) ∧ Below w.heap.size w w' := by
  have HR := Lib.hid hR
  clear hR
  go_enter Try.func14, Try.ntmps14
  go_wp2_with (go_at_call 54; refine (inR_any _ _ _ _).mono ?_; rintro e w' ⟨rfl, rfl⟩)
  obtain ⟨w2, e2⟩ : ∃ w2, w2 = w.alloc (.cells #[.int .i64 c, .int .i64 o, .int .i64 b, .int .i64 s, .slice A ms.length cap, .string t] 32) := ⟨_, rfl⟩
  rw [← e2]
  have HR2 : Hid (Reads w2 B 1 A ms.length (ms.map (Value.int .i64))) := by rw [e2]; exact HR.out.alloc hB _
  have HB2 : Hid (Below w.heap.size w w2) := by rw [e2]; exact (Below.refl _ _).alloc (Nat.le_refl _) _
  have k4 : w2.cell? ⟨w.heap.size, 4, none⟩ = some (.slice A ms.length cap) := by rw [e2]; exact (Blk.new w _ _).cell 4
  clear e2
  go_loop [3, 4] (fun v i => ∃ k : Nat, k ≤ ms.length ∧ i = .int .i64 k ∧ v = .bool false) (fun _ i => ms.length - (intOf i).toNat)
  case atStart => exact ⟨0, by omega, rfl, rfl⟩
  case round =>
    obtain ⟨k, hk, rfl, rfl⟩ := hrel
    by_cases hlt : k < ms.length
    · go_wp2_with fail
      go_round
      case rel => exact ⟨k + 1, by omega, by go_num, rfl⟩
      case measure => simp [intOf]; omega
    · go_wp2_with fail
      go_ret
      exact ⟨rfl, HB2.out⟩
theorem recR_o (hl : ms.length ≤ 9223372036854775807) (ht : t.size ≤ 9223372036854775807) (h1 : ¬ 40 < ms.length) (h2 : ¬ 1000 < t.size) (hc : inB c 0 255 = true) (ho : ¬ o = 0) (hp : inB o 400 599 = false) (hR : Reads w B 1 A ms.length (ms.map (Value.int .i64))) (hB : B ≤ w.heap.size) :
    Calls Try.prog 14 #[recV c o b s A ms.length cap t] w fun e w' => e = .returned (.int .i64 1) ∧ Below w.heap.size w w' := by
  have ho1 : (o != 0) = true := by rw [bne_iff_ne]; exact ho
  have ho2 : (o == 0) = false := by rw [beq_eq_false_iff_ne]; exact ho
  clear ho
  have HR := Lib.hid hR
  clear hR
  go_enter Try.func14, Try.ntmps14
  go_wp2_with (go_at_call 54; refine (inR_any _ _ _ _).mono ?_; rintro e w' ⟨rfl, rfl⟩)
  obtain ⟨w2, e2⟩ : ∃ w2, w2 = w.alloc (.cells #[.int .i64 c, .int .i64 o, .int .i64 b, .int .i64 s, .slice A ms.length cap, .string t] 32) := ⟨_, rfl⟩
  rw [← e2]
  have HR2 : Hid (Reads w2 B 1 A ms.length (ms.map (Value.int .i64))) := by rw [e2]; exact HR.out.alloc hB _
  have HB2 : Hid (Below w.heap.size w w2) := by rw [e2]; exact (Below.refl _ _).alloc (Nat.le_refl _) _
  have k4 : w2.cell? ⟨w.heap.size, 4, none⟩ = some (.slice A ms.length cap) := by rw [e2]; exact (Blk.new w _ _).cell 4
  clear e2
  go_loop [3, 4] (fun v i => ∃ k : Nat, k ≤ ms.length ∧ i = .int .i64 k ∧ v = .bool false) (fun _ i => ms.length - (intOf i).toNat)
  case atStart => exact ⟨0, by omega, rfl, rfl⟩
  case round =>
    obtain ⟨k, hk, rfl, rfl⟩ := hrel
    by_cases hlt : k < ms.length
    · go_wp2_with fail
      go_round
      case rel => exact ⟨k + 1, by omega, by go_num, rfl⟩
      case measure => simp [intOf]; omega
    · go_wp2_with fail
      go_ret
      exact ⟨rfl, HB2.out⟩
theorem recR_b0 (hl : ms.length ≤ 9223372036854775807) (ht : t.size ≤ 9223372036854775807) (h1 : ¬ 40 < ms.length) (h2 : ¬ 1000 < t.size) (hc : inB c 0 255 = true) (ho : o = 0) (hb : inB b 0 9999 = false) (hR : Reads w B 1 A ms.length (ms.map (Value.int .i64))) (hB : B ≤ w.heap.size) :
    Calls Try.prog 14 #[recV c o b s A ms.length cap t] w fun e w' => e = .returned (.int .i64 1) ∧ Below w.heap.size w w' := by
  subst ho
  have HR := Lib.hid hR
  clear hR
  go_enter Try.func14, Try.ntmps14
  go_wp2_with (go_at_call 54; refine (inR_any _ _ _ _).mono ?_; rintro e w' ⟨rfl, rfl⟩)
  obtain ⟨w2, e2⟩ : ∃ w2, w2 = w.alloc (.cells #[.int .i64 c, .int .i64 0, .int .i64 b, .int .i64 s, .slice A ms.length cap, .string t] 32) := ⟨_, rfl⟩
  rw [← e2]
  have HR2 : Hid (Reads w2 B 1 A ms.length (ms.map (Value.int .i64))) := by rw [e2]; exact HR.out.alloc hB _
  have HB2 : Hid (Below w.heap.size w w2) := by rw [e2]; exact (Below.refl _ _).alloc (Nat.le_refl _) _
  have k4 : w2.cell? ⟨w.heap.size, 4, none⟩ = some (.slice A ms.length cap) := by rw [e2]; exact (Blk.new w _ _).cell 4
  clear e2
  go_loop [3, 4] (fun v i => ∃ k : Nat, k ≤ ms.length ∧ i = .int .i64 k ∧ v = .bool false) (fun _ i => ms.length - (intOf i).toNat)
  case atStart => exact ⟨0, by omega, rfl, rfl⟩
  case round =>
    obtain ⟨k, hk, rfl, rfl⟩ := hrel
    by_cases hlt : k < ms.length
    · go_wp2_with fail
      go_round
      case rel => exact ⟨k + 1, by omega, by go_num, rfl⟩
      case measure => simp [intOf]; omega
    · go_wp2_with fail
      go_ret
      exact ⟨rfl, HB2.out⟩
theorem recR_s0 (hl : ms.length ≤ 9223372036854775807) (ht : t.size ≤ 9223372036854775807) (h1 : ¬ 40 < ms.length) (h2 : ¬ 1000 < t.size) (hc : inB c 0 255 = true) (ho : o = 0) (hb : inB b 0 9999 = true) (hs : inB s 0 1000000 = false) (hR : Reads w B 1 A ms.length (ms.map (Value.int .i64))) (hB : B ≤ w.heap.size) :
    Calls Try.prog 14 #[recV c o b s A ms.length cap t] w fun e w' => e = .returned (.int .i64 1) ∧ Below w.heap.size w w' := by
  subst ho
  have HR := Lib.hid hR
  clear hR
  go_enter Try.func14, Try.ntmps14
  go_wp2_with (go_at_call 54; refine (inR_any _ _ _ _).mono ?_; rintro e w' ⟨rfl, rfl⟩)
  obtain ⟨w2, e2⟩ : ∃ w2, w2 = w.alloc (.cells #[.int .i64 c, .int .i64 0, .int .i64 b, .int .i64 s, .slice A ms.length cap, .string t] 32) := ⟨_, rfl⟩
  rw [← e2]
  have HR2 : Hid (Reads w2 B 1 A ms.length (ms.map (Value.int .i64))) := by rw [e2]; exact HR.out.alloc hB _
  have HB2 : Hid (Below w.heap.size w w2) := by rw [e2]; exact (Below.refl _ _).alloc (Nat.le_refl _) _
  have k4 : w2.cell? ⟨w.heap.size, 4, none⟩ = some (.slice A ms.length cap) := by rw [e2]; exact (Blk.new w _ _).cell 4
  clear e2
  go_loop [3, 4] (fun v i => ∃ k : Nat, k ≤ ms.length ∧ i = .int .i64 k ∧ v = .bool false) (fun _ i => ms.length - (intOf i).toNat)
  case atStart => exact ⟨0, by omega, rfl, rfl⟩
  case round =>
    obtain ⟨k, hk, rfl, rfl⟩ := hrel
    by_cases hlt : k < ms.length
    · go_wp2_with fail
      go_round
      case rel => exact ⟨k + 1, by omega, by go_num, rfl⟩
      case measure => simp [intOf]; omega
    · go_wp2_with fail
      go_ret
      exact ⟨rfl, HB2.out⟩
theorem recR_g0 (hl : ms.length ≤ 9223372036854775807) (ht : t.size ≤ 9223372036854775807) (h1 : ¬ 40 < ms.length) (h2 : ¬ 1000 < t.size) (hc : inB c 0 255 = true) (ho : o = 0) (hb : inB b 0 9999 = true) (hs : inB s 0 1000000 = true) (hR : Reads w B 1 A ms.length (ms.map (Value.int .i64))) (hB : B ≤ w.heap.size) :
    Calls Try.prog 14 #[recV c o b s A ms.length cap t] w fun e w' => e = .returned (.int .i64 (if badL ms then 1 else 0)) ∧ Below w.heap.size w w' := by
  subst ho
  have HR := Lib.hid hR
  clear hR
  go_enter Try.func14, Try.ntmps14
  go_wp2_with (go_at_call 54; refine (inR_any _ _ _ _).mono ?_; rintro e w' ⟨rfl, rfl⟩)
  obtain ⟨w2, e2⟩ : ∃ w2, w2 = w.alloc (.cells #[.int .i64 c, .int .i64 0, .int .i64 b, .int .i64 s, .slice A ms.length cap, .string t] 32) := ⟨_, rfl⟩
  rw [← e2]
  have HR2 : Hid (Reads w2 B 1 A ms.length (ms.map (Value.int .i64))) := by rw [e2]; exact HR.out.alloc hB _
  have HB2 : Hid (Below w.heap.size w w2) := by rw [e2]; exact (Below.refl _ _).alloc (Nat.le_refl _) _
  have k4 : w2.cell? ⟨w.heap.size, 4, none⟩ = some (.slice A ms.length cap) := by rw [e2]; exact (Blk.new w _ _).cell 4
  clear e2
  go_loop [3, 4] (fun v i => ∃ k : Nat, k ≤ ms.length ∧ i = .int .i64 k ∧ v = .bool (!badL (ms.take k))) (fun _ i => ms.length - (intOf i).toNat)
  case atStart => exact ⟨0, by omega, rfl, rfl⟩
  case round =>
    obtain ⟨k, hk, rfl, rfl⟩ := hrel
    by_cases hlt : k < ms.length
    · have hs2 : badL (ms.take (k + 1)) = (badL (ms.take k) || !inB ms[k] 1 9999) := by rw [List.take_succ_eq_append_getElem hlt, badL_snoc]
      have HS2 := Lib.hid hs2
      clear hs2
      obtain ⟨ad, hA, _, hcell⟩ := HR2.out.int_at hlt
      cases hbk : badL (ms.take k) with
      | true =>
        go_wp2_with fail
        go_round
        case rel => exact ⟨k + 1, by omega, by go_num, by rw [HS2.out, hbk]; rfl⟩
        case measure => simp [intOf]; omega
      | false =>
        subst hA
        go_wp2_with fail
        refine (inR_any _ _ _ _).mono ?_
        rintro e w' ⟨rfl, rfl⟩
        go_wp2_with fail
        go_round
        case rel => exact ⟨k + 1, by omega, by go_num, by rw [HS2.out, hbk]; simp⟩
        case measure => simp [intOf]; omega
    · obtain rfl : k = ms.length := by omega
      rw [List.take_length]
      cases hbk : badL ms with
      | true =>
        go_wp2_with fail
        go_ret
        exact ⟨rfl, HB2.out⟩
      | false =>
        go_wp2_with fail
        go_ret
        exact ⟨rfl, HB2.out⟩
theorem recR_b1 (hl : ms.length ≤ 9223372036854775807) (ht : t.size ≤ 9223372036854775807) (h1 : ¬ 40 < ms.length) (h2 : ¬ 1000 < t.size) (hc : inB c 0 255 = true) (ho : ¬ o = 0) (hp : inB o 400 599 = true) (hb : inB b 0 9999 = false) (hR : Reads w B 1 A ms.length (ms.map (Value.int .i64))) (hB : B ≤ w.heap.size) :
    Calls Try.prog 14 #[recV c o b s A ms.length cap t] w fun e w' => e = .returned (.int .i64 1) ∧ Below w.heap.size w w' := by
  have ho1 : (o != 0) = true := by rw [bne_iff_ne]; exact ho
  have ho2 : (o == 0) = false := by rw [beq_eq_false_iff_ne]; exact ho
  clear ho
  have HR := Lib.hid hR
  clear hR
  go_enter Try.func14, Try.ntmps14
  go_wp2_with (go_at_call 54; refine (inR_any _ _ _ _).mono ?_; rintro e w' ⟨rfl, rfl⟩)
  obtain ⟨w2, e2⟩ : ∃ w2, w2 = w.alloc (.cells #[.int .i64 c, .int .i64 o, .int .i64 b, .int .i64 s, .slice A ms.length cap, .string t] 32) := ⟨_, rfl⟩
  rw [← e2]
  have HR2 : Hid (Reads w2 B 1 A ms.length (ms.map (Value.int .i64))) := by rw [e2]; exact HR.out.alloc hB _
  have HB2 : Hid (Below w.heap.size w w2) := by rw [e2]; exact (Below.refl _ _).alloc (Nat.le_refl _) _
  have k4 : w2.cell? ⟨w.heap.size, 4, none⟩ = some (.slice A ms.length cap) := by rw [e2]; exact (Blk.new w _ _).cell 4
  clear e2
  go_loop [3, 4] (fun v i => ∃ k : Nat, k ≤ ms.length ∧ i = .int .i64 k ∧ v = .bool false) (fun _ i => ms.length - (intOf i).toNat)
  case atStart => exact ⟨0, by omega, rfl, rfl⟩
  case round =>
    obtain ⟨k, hk, rfl, rfl⟩ := hrel
    by_cases hlt : k < ms.length
    · go_wp2_with fail
      go_round
      case rel => exact ⟨k + 1, by omega, by go_num, rfl⟩
      case measure => simp [intOf]; omega
    · go_wp2_with fail
      go_ret
      exact ⟨rfl, HB2.out⟩
theorem recR_s1 (hl : ms.length ≤ 9223372036854775807) (ht : t.size ≤ 9223372036854775807) (h1 : ¬ 40 < ms.length) (h2 : ¬ 1000 < t.size) (hc : inB c 0 255 = true) (ho : ¬ o = 0) (hp : inB o 400 599 = true) (hb : inB b 0 9999 = true) (hs : inB s 0 1000000 = false) (hR : Reads w B 1 A ms.length (ms.map (Value.int .i64))) (hB : B ≤ w.heap.size) :
    Calls Try.prog 14 #[recV c o b s A ms.length cap t] w fun e w' => e = .returned (.int .i64 1) ∧ Below w.heap.size w w' := by
  have ho1 : (o != 0) = true := by rw [bne_iff_ne]; exact ho
  have ho2 : (o == 0) = false := by rw [beq_eq_false_iff_ne]; exact ho
  clear ho
  have HR := Lib.hid hR
  clear hR
  go_enter Try.func14, Try.ntmps14
  go_wp2_with (go_at_call 54; refine (inR_any _ _ _ _).mono ?_; rintro e w' ⟨rfl, rfl⟩)
  obtain ⟨w2, e2⟩ : ∃ w2, w2 = w.alloc (.cells #[.int .i64 c, .int .i64 o, .int .i64 b, .int .i64 s, .slice A ms.length cap, .string t] 32) := ⟨_, rfl⟩
  rw [← e2]
  have HR2 : Hid (Reads w2 B 1 A ms.length (ms.map (Value.int .i64))) := by rw [e2]; exact HR.out.alloc hB _
  have HB2 : Hid (Below w.heap.size w w2) := by rw [e2]; exact (Below.refl _ _).alloc (Nat.le_refl _) _
  have k4 : w2.cell? ⟨w.heap.size, 4, none⟩ = some (.slice A ms.length cap) := by rw [e2]; exact (Blk.new w _ _).cell 4
  clear e2
  go_loop [3, 4] (fun v i => ∃ k : Nat, k ≤ ms.length ∧ i = .int .i64 k ∧ v = .bool false) (fun _ i => ms.length - (intOf i).toNat)
  case atStart => exact ⟨0, by omega, rfl, rfl⟩
  case round =>
    obtain ⟨k, hk, rfl, rfl⟩ := hrel
    by_cases hlt : k < ms.length
    · go_wp2_with fail
      go_round
      case rel => exact ⟨k + 1, by omega, by go_num, rfl⟩
      case measure => simp [intOf]; omega
    · go_wp2_with fail
      go_ret
      exact ⟨rfl, HB2.out⟩
theorem recR_g1 (hl : ms.length ≤ 9223372036854775807) (ht : t.size ≤ 9223372036854775807) (h1 : ¬ 40 < ms.length) (h2 : ¬ 1000 < t.size) (hc : inB c 0 255 = true) (ho : ¬ o = 0) (hp : inB o 400 599 = true) (hb : inB b 0 9999 = true) (hs : inB s 0 1000000 = true) (hR : Reads w B 1 A ms.length (ms.map (Value.int .i64))) (hB : B ≤ w.heap.size) :
    Calls Try.prog 14 #[recV c o b s A ms.length cap t] w fun e w' => e = .returned (.int .i64 (if badL ms then 1 else 0)) ∧ Below w.heap.size w w' := by
  have ho1 : (o != 0) = true := by rw [bne_iff_ne]; exact ho
  have ho2 : (o == 0) = false := by rw [beq_eq_false_iff_ne]; exact ho
  clear ho
  have HR := Lib.hid hR
  clear hR
  go_enter Try.func14, Try.ntmps14
  go_wp2_with (go_at_call 54; refine (inR_any _ _ _ _).mono ?_; rintro e w' ⟨rfl, rfl⟩)
  obtain ⟨w2, e2⟩ : ∃ w2, w2 = w.alloc (.cells #[.int .i64 c, .int .i64 o, .int .i64 b, .int .i64 s, .slice A ms.length cap, .string t] 32) := ⟨_, rfl⟩
  rw [← e2]
  have HR2 : Hid (Reads w2 B 1 A ms.length (ms.map (Value.int .i64))) := by rw [e2]; exact HR.out.alloc hB _
  have HB2 : Hid (Below w.heap.size w w2) := by rw [e2]; exact (Below.refl _ _).alloc (Nat.le_refl _) _
  have k4 : w2.cell? ⟨w.heap.size, 4, none⟩ = some (.slice A ms.length cap) := by rw [e2]; exact (Blk.new w _ _).cell 4
  clear e2
  go_loop [3, 4] (fun v i => ∃ k : Nat, k ≤ ms.length ∧ i = .int .i64 k ∧ v = .bool (!badL (ms.take k))) (fun _ i => ms.length - (intOf i).toNat)
  case atStart => exact ⟨0, by omega, rfl, rfl⟩
  case round =>
    obtain ⟨k, hk, rfl, rfl⟩ := hrel
    by_cases hlt : k < ms.length
    · have hs2 : badL (ms.take (k + 1)) = (badL (ms.take k) || !inB ms[k] 1 9999) := by rw [List.take_succ_eq_append_getElem hlt, badL_snoc]
      have HS2 := Lib.hid hs2
      clear hs2
      obtain ⟨ad, hA, _, hcell⟩ := HR2.out.int_at hlt
      cases hbk : badL (ms.take k) with
      | true =>
        go_wp2_with fail
        go_round
        case rel => exact ⟨k + 1, by omega, by go_num, by rw [HS2.out, hbk]; rfl⟩
        case measure => simp [intOf]; omega
      | false =>
        subst hA
        go_wp2_with fail
        refine (inR_any _ _ _ _).mono ?_
        rintro e w' ⟨rfl, rfl⟩
        go_wp2_with fail
        go_round
        case rel => exact ⟨k + 1, by omega, by go_num, by rw [HS2.out, hbk]; simp⟩
        case measure => simp [intOf]; omega
    · obtain rfl : k = ms.length := by omega
      rw [List.take_length]
      cases hbk : badL ms with
      | true =>
        go_wp2_with fail
        go_ret
        exact ⟨rfl, HB2.out⟩
      | false =>
        go_wp2_with fail
        go_ret
        exact ⟨rfl, HB2.out⟩

theorem recR_any (hl : ms.length ≤ 9223372036854775807) (ht : t.size ≤ 9223372036854775807) (hR : Reads w B 1 A ms.length (ms.map (Value.int .i64))) (hB : B ≤ w.heap.size) :
    Calls Try.prog 14 #[recV c o b s A ms.length cap t] w fun e w' => e = .returned (.int .i64 (recE c o b s ms t.size)) ∧ Below w.heap.size w w' := by
  unfold recE
  by_cases h1 : 40 < ms.length
  · rw [if_pos (.inl h1)]; exact recR_1 c o b s A cap ms t B w hl ht h1 hR hB
  by_cases h2 : 1000 < t.size
  · rw [if_pos (.inr h2)]; exact recR_2 c o b s A cap ms t B w hl ht h1 h2 hR hB
  rw [if_neg (by omega)]
  cases hc : inB c 0 255 with
  | false => rw [if_neg (by unfold numsB; rw [hc]; simp)]; exact recR_c c o b s A cap ms t B w hl ht h1 h2 hc hR hB
  | true =>
  by_cases ho : o = 0
  · cases hb : inB b 0 9999 with
    | false => rw [if_neg (by unfold numsB; rw [hb]; simp)]; exact recR_b0 c o b s A cap ms t B w hl ht h1 h2 hc ho hb hR hB
    | true =>
    cases hs : inB s 0 1000000 with
    | false => rw [if_neg (by unfold numsB; rw [hs]; simp)]; exact recR_s0 c o b s A cap ms t B w hl ht h1 h2 hc ho hb hs hR hB
    | true =>
    have hg := recR_g0 c o b s A cap ms t B w hl ht h1 h2 hc ho hb hs hR hB
    cases hm : badL ms with
    | false => rw [hm] at hg; rw [if_pos (by unfold numsB; rw [hc, ho]; rw [hb, hs]; simp)]; exact hg
    | true => rw [hm] at hg; rw [if_neg (by simp)]; exact hg
  · cases hp : inB o 400 599 with
    | false => rw [if_neg (by unfold numsB; rw [hp, show (o == 0) = false by rw [beq_eq_false_iff_ne]; exact ho]; simp)]; exact recR_o c o b s A cap ms t B w hl ht h1 h2 hc ho hp hR hB
    | true =>
    cases hb : inB b 0 9999 with
    | false => rw [if_neg (by unfold numsB; rw [hb]; simp)]; exact recR_b1 c o b s A cap ms t B w hl ht h1 h2 hc ho hp hb hR hB
    | true =>
    cases hs : inB s 0 1000000 with
    | false => rw [if_neg (by unfold numsB; rw [hs]; simp)]; exact recR_s1 c o b s A cap ms t B w hl ht h1 h2 hc ho hp hb hs hR hB
    | true =>
    have hg := recR_g1 c o b s A cap ms t B w hl ht h1 h2 hc ho hp hb hs hR hB
    cases hm : badL ms with
    | false => rw [hm] at hg; rw [if_pos (by unfold numsB; rw [hc, hp]; rw [hb, hs]; simp)]; exact hg
    | true => rw [hm] at hg; rw [if_neg (by simp)]; exact hg
end
end Go.Proofs.Ytahcgajipnkojaa
